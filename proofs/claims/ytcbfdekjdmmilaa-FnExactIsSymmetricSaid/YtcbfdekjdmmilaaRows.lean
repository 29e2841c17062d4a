/-
  No cell of these rows narrows 'for every input' (looked for: loops, veiled, ifaces, maps, wideKeys, modest, calm, conditions, laid).
  DERIVED. THE GIVEN ROWS OF THIS SEAT. 8 by the template 'for every input the law returns true; each argument reads behind the call as it read before'; 0 by the template 'total and deterministic' (their statements: YtcbfdekjdmmilaaTotals.lean).
  GIVEN WITH THE SEED: the statements are not yours to turn. If you find one false, say at which input.
  Laid BY PROGRAM, IN A SANDBOX (cutbox-rows.mjs): the forced cells as the released guide's own fill.sh prints them over the translation 0fff33510b7f8afa… (all of the seat's roots in one cut). By AI agents, Wed Nov 11 2026. No macro, syntax, notation, axiom, sorry.
-/
import Derived.Test.YtcbfdekjdmmilaaChecked
import GoSem.Claim
import GoSem.ClaimJoined
import GoSem.ClaimMapViews
import Derived.JoinedTies
import Derived.KernelRfl
namespace Go.Proofs.Ytcbfdekjdmmilaa
/- THE CELL 'sum', in the pinned program and in every row, IS THE sha256 OF THE DUMP (.gsa) THAT YtcbfdekjdmmilaaProg.lean LOADS. Nothing in Lean hashes anything: it is a label: what it is worth is what the hold of that sum in a sandbox is worth. -/
noncomputable def Try.pinned : Pinned := { name := "ytcbfdekjdmmilaa", sum := "0fff33510b7f8afab81e5de9474599fc1e6242d04f169c32e126dcb8d8233a30", checked := Try.checked }
namespace Rows
def none {H : Type} : Left H := { results := [], args := [] }

/-- 'laws.FnExactHighestOf': WHATEVER THE INPUT: true; the input reads as it did. -/
def fnExactHighestOfSpec : ChangeSpec := { name := "fnExactHighestOf", fn := fun _ => fun
  | [d] => { results := [.lit (.bool true)], args := [d] }
  | _ => none }
def fnExactHighestOfRow : OpenClaim := { program := "ytcbfdekjdmmilaa", sum := "0fff33510b7f8afab81e5de9474599fc1e6242d04f169c32e126dcb8d8233a30", func := "loop.example/g00598/laws.FnExactHighestOf", spec := "fnExactHighestOf", unfollowed := true, recurses := true, apart := false }
def FnExactHighestOfSaid : Prop := fnExactHighestOfRow.holds Try.pinned (OpenSpec.ofChange fnExactHighestOfSpec)

/-- ITS FALSE NEIGHBOUR: 'it returns false'. Refute it at one input. -/
def fnExactHighestOfWrong : ChangeSpec := { name := "fnExactHighestOf", fn := fun _ => fun
  | [d] => { results := [.lit (.bool false)], args := [d] }
  | _ => none }
def FnExactHighestOfWrongFalsely : Prop := fnExactHighestOfRow.holds Try.pinned (OpenSpec.ofChange fnExactHighestOfWrong)

/-- 'laws.FnExactMajorIndexCounts': WHATEVER THE INPUT: true; the input reads as it did. -/
def fnExactMajorIndexCountsSpec : ChangeSpec := { name := "fnExactMajorIndexCounts", fn := fun _ => fun
  | [d] => { results := [.lit (.bool true)], args := [d] }
  | _ => none }
def fnExactMajorIndexCountsRow : OpenClaim := { program := "ytcbfdekjdmmilaa", sum := "0fff33510b7f8afab81e5de9474599fc1e6242d04f169c32e126dcb8d8233a30", func := "loop.example/g00598/laws.FnExactMajorIndexCounts", spec := "fnExactMajorIndexCounts", unfollowed := true, recurses := true, apart := false }
def FnExactMajorIndexCountsSaid : Prop := fnExactMajorIndexCountsRow.holds Try.pinned (OpenSpec.ofChange fnExactMajorIndexCountsSpec)

/-- ITS FALSE NEIGHBOUR: 'it returns false'. Refute it at one input. -/
def fnExactMajorIndexCountsWrong : ChangeSpec := { name := "fnExactMajorIndexCounts", fn := fun _ => fun
  | [d] => { results := [.lit (.bool false)], args := [d] }
  | _ => none }
def FnExactMajorIndexCountsWrongFalsely : Prop := fnExactMajorIndexCountsRow.holds Try.pinned (OpenSpec.ofChange fnExactMajorIndexCountsWrong)

/-- 'laws.FnExactInversionCounts': WHATEVER THE INPUT: true; the input reads as it did. -/
def fnExactInversionCountsSpec : ChangeSpec := { name := "fnExactInversionCounts", fn := fun _ => fun
  | [d] => { results := [.lit (.bool true)], args := [d] }
  | _ => none }
def fnExactInversionCountsRow : OpenClaim := { program := "ytcbfdekjdmmilaa", sum := "0fff33510b7f8afab81e5de9474599fc1e6242d04f169c32e126dcb8d8233a30", func := "loop.example/g00598/laws.FnExactInversionCounts", spec := "fnExactInversionCounts", unfollowed := true, recurses := true, apart := false }
def FnExactInversionCountsSaid : Prop := fnExactInversionCountsRow.holds Try.pinned (OpenSpec.ofChange fnExactInversionCountsSpec)

/-- ITS FALSE NEIGHBOUR: 'it returns false'. Refute it at one input. -/
def fnExactInversionCountsWrong : ChangeSpec := { name := "fnExactInversionCounts", fn := fun _ => fun
  | [d] => { results := [.lit (.bool false)], args := [d] }
  | _ => none }
def FnExactInversionCountsWrongFalsely : Prop := fnExactInversionCountsRow.holds Try.pinned (OpenSpec.ofChange fnExactInversionCountsWrong)

/-- 'laws.FnExactIsPoly': WHATEVER THE INPUT: true; the input reads as it did. -/
def fnExactIsPolySpec : ChangeSpec := { name := "fnExactIsPoly", fn := fun _ => fun
  | [d] => { results := [.lit (.bool true)], args := [d] }
  | _ => none }
def fnExactIsPolyRow : OpenClaim := { program := "ytcbfdekjdmmilaa", sum := "0fff33510b7f8afab81e5de9474599fc1e6242d04f169c32e126dcb8d8233a30", func := "loop.example/g00598/laws.FnExactIsPoly", spec := "fnExactIsPoly", unfollowed := true, recurses := true, apart := false }
def FnExactIsPolySaid : Prop := fnExactIsPolyRow.holds Try.pinned (OpenSpec.ofChange fnExactIsPolySpec)

/-- ITS FALSE NEIGHBOUR: 'it returns false'. Refute it at one input. -/
def fnExactIsPolyWrong : ChangeSpec := { name := "fnExactIsPoly", fn := fun _ => fun
  | [d] => { results := [.lit (.bool false)], args := [d] }
  | _ => none }
def FnExactIsPolyWrongFalsely : Prop := fnExactIsPolyRow.holds Try.pinned (OpenSpec.ofChange fnExactIsPolyWrong)

/-- 'laws.FnExactPolyTotal': WHATEVER THE INPUT: true; the input reads as it did. -/
def fnExactPolyTotalSpec : ChangeSpec := { name := "fnExactPolyTotal", fn := fun _ => fun
  | [d] => { results := [.lit (.bool true)], args := [d] }
  | _ => none }
def fnExactPolyTotalRow : OpenClaim := { program := "ytcbfdekjdmmilaa", sum := "0fff33510b7f8afab81e5de9474599fc1e6242d04f169c32e126dcb8d8233a30", func := "loop.example/g00598/laws.FnExactPolyTotal", spec := "fnExactPolyTotal", unfollowed := true, recurses := true, apart := false }
def FnExactPolyTotalSaid : Prop := fnExactPolyTotalRow.holds Try.pinned (OpenSpec.ofChange fnExactPolyTotalSpec)

/-- ITS FALSE NEIGHBOUR: 'it returns false'. Refute it at one input. -/
def fnExactPolyTotalWrong : ChangeSpec := { name := "fnExactPolyTotal", fn := fun _ => fun
  | [d] => { results := [.lit (.bool false)], args := [d] }
  | _ => none }
def FnExactPolyTotalWrongFalsely : Prop := fnExactPolyTotalRow.holds Try.pinned (OpenSpec.ofChange fnExactPolyTotalWrong)

/-- 'laws.FnExactFactorAt': WHATEVER THE INPUT: true; the input reads as it did. -/
def fnExactFactorAtSpec : ChangeSpec := { name := "fnExactFactorAt", fn := fun _ => fun
  | [d1, d2] => { results := [.lit (.bool true)], args := [d1, d2] }
  | _ => none }
def fnExactFactorAtRow : OpenClaim := { program := "ytcbfdekjdmmilaa", sum := "0fff33510b7f8afab81e5de9474599fc1e6242d04f169c32e126dcb8d8233a30", func := "loop.example/g00598/laws.FnExactFactorAt", spec := "fnExactFactorAt", unfollowed := true, recurses := true, apart := false }
def FnExactFactorAtSaid : Prop := fnExactFactorAtRow.holds Try.pinned (OpenSpec.ofChange fnExactFactorAtSpec)

/-- ITS FALSE NEIGHBOUR: 'it returns false'. Refute it at one input. -/
def fnExactFactorAtWrong : ChangeSpec := { name := "fnExactFactorAt", fn := fun _ => fun
  | [d1, d2] => { results := [.lit (.bool false)], args := [d1, d2] }
  | _ => none }
def FnExactFactorAtWrongFalsely : Prop := fnExactFactorAtRow.holds Try.pinned (OpenSpec.ofChange fnExactFactorAtWrong)

/-- 'laws.FnExactIsSymmetric': WHATEVER THE INPUT: true; the input reads as it did. -/
def fnExactIsSymmetricSpec : ChangeSpec := { name := "fnExactIsSymmetric", fn := fun _ => fun
  | [d] => { results := [.lit (.bool true)], args := [d] }
  | _ => none }
def fnExactIsSymmetricRow : OpenClaim := { program := "ytcbfdekjdmmilaa", sum := "0fff33510b7f8afab81e5de9474599fc1e6242d04f169c32e126dcb8d8233a30", func := "loop.example/g00598/laws.FnExactIsSymmetric", spec := "fnExactIsSymmetric", unfollowed := true, recurses := true, apart := false }
def FnExactIsSymmetricSaid : Prop := fnExactIsSymmetricRow.holds Try.pinned (OpenSpec.ofChange fnExactIsSymmetricSpec)

/-- ITS FALSE NEIGHBOUR: 'it returns false'. Refute it at one input. -/
def fnExactIsSymmetricWrong : ChangeSpec := { name := "fnExactIsSymmetric", fn := fun _ => fun
  | [d] => { results := [.lit (.bool false)], args := [d] }
  | _ => none }
def FnExactIsSymmetricWrongFalsely : Prop := fnExactIsSymmetricRow.holds Try.pinned (OpenSpec.ofChange fnExactIsSymmetricWrong)

/-- 'laws.FnExactHookWeight': WHATEVER THE INPUT: true; the input reads as it did. -/
def fnExactHookWeightSpec : ChangeSpec := { name := "fnExactHookWeight", fn := fun _ => fun
  | [d1, d2] => { results := [.lit (.bool true)], args := [d1, d2] }
  | _ => none }
def fnExactHookWeightRow : OpenClaim := { program := "ytcbfdekjdmmilaa", sum := "0fff33510b7f8afab81e5de9474599fc1e6242d04f169c32e126dcb8d8233a30", func := "loop.example/g00598/laws.FnExactHookWeight", spec := "fnExactHookWeight", unfollowed := true, recurses := true, apart := false }
def FnExactHookWeightSaid : Prop := fnExactHookWeightRow.holds Try.pinned (OpenSpec.ofChange fnExactHookWeightSpec)

/-- ITS FALSE NEIGHBOUR: 'it returns false'. Refute it at one input. -/
def fnExactHookWeightWrong : ChangeSpec := { name := "fnExactHookWeight", fn := fun _ => fun
  | [d1, d2] => { results := [.lit (.bool false)], args := [d1, d2] }
  | _ => none }
def FnExactHookWeightWrongFalsely : Prop := fnExactHookWeightRow.holds Try.pinned (OpenSpec.ofChange fnExactHookWeightWrong)

/- THE SECOND FORM. 'bulk': how many values and letters a reading holds, each counted each time it is reached (what is shared counts as often as it is met; a slice's spare places count too). A statement '..UptoSaid' is the law's where the arguments, and the package variables that the reading takes, are together of bulk at most 1048576: NARROWER than '..Said'. Prove '..Said' where nothing that the law and all that it calls make is longer than what came in: it says more and counts as full. Else prove '..UptoSaid'. A law counts once. -/
mutual
def uptoBulk {H : Type} : DataW H → Nat
  | .lit (.string bytes) => bytes.length + 1
  | .lit _ => 1
  | .nil => 1
  | .ptr d => uptoBulk d + 1
  | .slice elems spare => uptoBulkAll elems + uptoBulkAll spare + 1
  | .agg parts => uptoBulkAll parts + 1
  | .iface _ d => uptoBulk d + 1
  | .map entries => uptoBulkEntries entries + 1
  | .held _ => 1
def uptoBulkAll {H : Type} : List (DataW H) → Nat
  | [] => 0
  | d :: r => uptoBulk d + uptoBulkAll r
def uptoBulkEntries {H : Type} : List (Lit × DataW H) → Nat
  | [] => 0
  | x :: r => uptoBulkEntry x + uptoBulkEntries r
def uptoBulkEntry {H : Type} : Lit × DataW H → Nat
  | (.string bytes, d) => bytes.length + uptoBulk d + 1
  | (_, d) => uptoBulk d + 1
 end
def uptoSmall : (H : Type) → List (DataW H) → Bool := fun _ ds => decide (uptoBulkAll ds ≤ 1048576)
def OpenSpec.upto (s : _root_.Go.ChangeSpec) : _root_.Go.OpenSpec := { _root_.Go.OpenSpec.ofChange s with cond := some uptoSmall }

/-- 'laws.FnExactHighestOf', WHERE WHAT IT READS IS OF BULK AT MOST 1048576: true; the input reads as it did. -/
def fnExactHighestOfUptoRow : OpenClaim := { program := "ytcbfdekjdmmilaa", sum := "0fff33510b7f8afab81e5de9474599fc1e6242d04f169c32e126dcb8d8233a30", func := "loop.example/g00598/laws.FnExactHighestOf", spec := "fnExactHighestOf", unfollowed := true, recurses := true, apart := false, narrowed := true }
def FnExactHighestOfUptoSaid : Prop := fnExactHighestOfUptoRow.holds Try.pinned (OpenSpec.upto fnExactHighestOfSpec)

/-- 'laws.FnExactMajorIndexCounts', WHERE WHAT IT READS IS OF BULK AT MOST 1048576: true; the input reads as it did. -/
def fnExactMajorIndexCountsUptoRow : OpenClaim := { program := "ytcbfdekjdmmilaa", sum := "0fff33510b7f8afab81e5de9474599fc1e6242d04f169c32e126dcb8d8233a30", func := "loop.example/g00598/laws.FnExactMajorIndexCounts", spec := "fnExactMajorIndexCounts", unfollowed := true, recurses := true, apart := false, narrowed := true }
def FnExactMajorIndexCountsUptoSaid : Prop := fnExactMajorIndexCountsUptoRow.holds Try.pinned (OpenSpec.upto fnExactMajorIndexCountsSpec)

/-- 'laws.FnExactInversionCounts', WHERE WHAT IT READS IS OF BULK AT MOST 1048576: true; the input reads as it did. -/
def fnExactInversionCountsUptoRow : OpenClaim := { program := "ytcbfdekjdmmilaa", sum := "0fff33510b7f8afab81e5de9474599fc1e6242d04f169c32e126dcb8d8233a30", func := "loop.example/g00598/laws.FnExactInversionCounts", spec := "fnExactInversionCounts", unfollowed := true, recurses := true, apart := false, narrowed := true }
def FnExactInversionCountsUptoSaid : Prop := fnExactInversionCountsUptoRow.holds Try.pinned (OpenSpec.upto fnExactInversionCountsSpec)

/-- 'laws.FnExactIsPoly', WHERE WHAT IT READS IS OF BULK AT MOST 1048576: true; the input reads as it did. -/
def fnExactIsPolyUptoRow : OpenClaim := { program := "ytcbfdekjdmmilaa", sum := "0fff33510b7f8afab81e5de9474599fc1e6242d04f169c32e126dcb8d8233a30", func := "loop.example/g00598/laws.FnExactIsPoly", spec := "fnExactIsPoly", unfollowed := true, recurses := true, apart := false, narrowed := true }
def FnExactIsPolyUptoSaid : Prop := fnExactIsPolyUptoRow.holds Try.pinned (OpenSpec.upto fnExactIsPolySpec)

/-- 'laws.FnExactPolyTotal', WHERE WHAT IT READS IS OF BULK AT MOST 1048576: true; the input reads as it did. -/
def fnExactPolyTotalUptoRow : OpenClaim := { program := "ytcbfdekjdmmilaa", sum := "0fff33510b7f8afab81e5de9474599fc1e6242d04f169c32e126dcb8d8233a30", func := "loop.example/g00598/laws.FnExactPolyTotal", spec := "fnExactPolyTotal", unfollowed := true, recurses := true, apart := false, narrowed := true }
def FnExactPolyTotalUptoSaid : Prop := fnExactPolyTotalUptoRow.holds Try.pinned (OpenSpec.upto fnExactPolyTotalSpec)

/-- 'laws.FnExactFactorAt', WHERE WHAT IT READS IS OF BULK AT MOST 1048576: true; the input reads as it did. -/
def fnExactFactorAtUptoRow : OpenClaim := { program := "ytcbfdekjdmmilaa", sum := "0fff33510b7f8afab81e5de9474599fc1e6242d04f169c32e126dcb8d8233a30", func := "loop.example/g00598/laws.FnExactFactorAt", spec := "fnExactFactorAt", unfollowed := true, recurses := true, apart := false, narrowed := true }
def FnExactFactorAtUptoSaid : Prop := fnExactFactorAtUptoRow.holds Try.pinned (OpenSpec.upto fnExactFactorAtSpec)

/-- 'laws.FnExactIsSymmetric', WHERE WHAT IT READS IS OF BULK AT MOST 1048576: true; the input reads as it did. -/
def fnExactIsSymmetricUptoRow : OpenClaim := { program := "ytcbfdekjdmmilaa", sum := "0fff33510b7f8afab81e5de9474599fc1e6242d04f169c32e126dcb8d8233a30", func := "loop.example/g00598/laws.FnExactIsSymmetric", spec := "fnExactIsSymmetric", unfollowed := true, recurses := true, apart := false, narrowed := true }
def FnExactIsSymmetricUptoSaid : Prop := fnExactIsSymmetricUptoRow.holds Try.pinned (OpenSpec.upto fnExactIsSymmetricSpec)

/-- 'laws.FnExactHookWeight', WHERE WHAT IT READS IS OF BULK AT MOST 1048576: true; the input reads as it did. -/
def fnExactHookWeightUptoRow : OpenClaim := { program := "ytcbfdekjdmmilaa", sum := "0fff33510b7f8afab81e5de9474599fc1e6242d04f169c32e126dcb8d8233a30", func := "loop.example/g00598/laws.FnExactHookWeight", spec := "fnExactHookWeight", unfollowed := true, recurses := true, apart := false, narrowed := true }
def FnExactHookWeightUptoSaid : Prop := fnExactHookWeightUptoRow.holds Try.pinned (OpenSpec.upto fnExactHookWeightSpec)

end Rows
end Go.Proofs.Ytcbfdekjdmmilaa
