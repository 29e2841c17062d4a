/-
  No cell of these rows narrows 'for every input' (looked for: loops, veiled, ifaces, maps, wideKeys, modest, calm, conditions, laid).
  DERIVED. THE GIVEN ROWS OF THIS SEAT. 16 by the template 'for every input the law returns true; each argument reads behind the call as it read before'; 0 by the template 'total and deterministic' (their statements: YtcmoghgiddpibaaTotals.lean).
  GIVEN WITH THE SEED: the statements are not yours to turn. If you find one false, say at which input.
  Laid BY PROGRAM, IN A SANDBOX (cutbox-rows.mjs): the forced cells as the released guide's own fill.sh prints them over the translation 9a7668e7c22fbbef… (all of the seat's roots in one cut). By AI agents, Wed Nov 11 2026. No macro, syntax, notation, axiom, sorry.
-/
import Derived.Test.YtcmoghgiddpibaaChecked
import GoSem.Claim
import GoSem.ClaimJoined
import GoSem.ClaimMapViews
import Derived.JoinedTies
import Derived.KernelRfl
namespace Go.Proofs.Ytcmoghgiddpibaa
/- THE CELL 'sum', in the pinned program and in every row, IS THE sha256 OF THE DUMP (.gsa) THAT YtcmoghgiddpibaaProg.lean LOADS. Nothing in Lean hashes anything: it is a label: what it is worth is what the hold of that sum in a sandbox is worth. -/
noncomputable def Try.pinned : Pinned := { name := "ytcmoghgiddpibaa", sum := "9a7668e7c22fbbefdab7a087a32b06a79b5811f8d99555a53ab792bfa573d491", checked := Try.checked }
namespace Rows
def none {H : Type} : Left H := { results := [], args := [] }

/-- 'laws.FnExactCountOscillating': WHATEVER THE INPUT: true; the input reads as it did. -/
def fnExactCountOscillatingSpec : ChangeSpec := { name := "fnExactCountOscillating", fn := fun _ => fun
  | [d] => { results := [.lit (.bool true)], args := [d] }
  | _ => none }
def fnExactCountOscillatingRow : OpenClaim := { program := "ytcmoghgiddpibaa", sum := "9a7668e7c22fbbefdab7a087a32b06a79b5811f8d99555a53ab792bfa573d491", func := "loop.example/g00598/laws.FnExactCountOscillating", spec := "fnExactCountOscillating", apart := false }
def FnExactCountOscillatingSaid : Prop := fnExactCountOscillatingRow.holds Try.pinned (OpenSpec.ofChange fnExactCountOscillatingSpec)

/-- ITS FALSE NEIGHBOUR: 'it returns false'. Refute it at one input. -/
def fnExactCountOscillatingWrong : ChangeSpec := { name := "fnExactCountOscillating", fn := fun _ => fun
  | [d] => { results := [.lit (.bool false)], args := [d] }
  | _ => none }
def FnExactCountOscillatingWrongFalsely : Prop := fnExactCountOscillatingRow.holds Try.pinned (OpenSpec.ofChange fnExactCountOscillatingWrong)

/-- 'laws.FnExactFromBeta': WHATEVER THE INPUT: true; the input reads as it did. -/
def fnExactFromBetaSpec : ChangeSpec := { name := "fnExactFromBeta", fn := fun _ => fun
  | [d] => { results := [.lit (.bool true)], args := [d] }
  | _ => none }
def fnExactFromBetaRow : OpenClaim := { program := "ytcmoghgiddpibaa", sum := "9a7668e7c22fbbefdab7a087a32b06a79b5811f8d99555a53ab792bfa573d491", func := "loop.example/g00598/laws.FnExactFromBeta", spec := "fnExactFromBeta", apart := false }
def FnExactFromBetaSaid : Prop := fnExactFromBetaRow.holds Try.pinned (OpenSpec.ofChange fnExactFromBetaSpec)

/-- ITS FALSE NEIGHBOUR: 'it returns false'. Refute it at one input. -/
def fnExactFromBetaWrong : ChangeSpec := { name := "fnExactFromBeta", fn := fun _ => fun
  | [d] => { results := [.lit (.bool false)], args := [d] }
  | _ => none }
def FnExactFromBetaWrongFalsely : Prop := fnExactFromBetaRow.holds Try.pinned (OpenSpec.ofChange fnExactFromBetaWrong)

/-- 'laws.FnExactQuotientOf': WHATEVER THE INPUT: true; the input reads as it did. -/
def fnExactQuotientOfSpec : ChangeSpec := { name := "fnExactQuotientOf", fn := fun _ => fun
  | [d1, d2] => { results := [.lit (.bool true)], args := [d1, d2] }
  | _ => none }
def fnExactQuotientOfRow : OpenClaim := { program := "ytcmoghgiddpibaa", sum := "9a7668e7c22fbbefdab7a087a32b06a79b5811f8d99555a53ab792bfa573d491", func := "loop.example/g00598/laws.FnExactQuotientOf", spec := "fnExactQuotientOf", apart := false }
def FnExactQuotientOfSaid : Prop := fnExactQuotientOfRow.holds Try.pinned (OpenSpec.ofChange fnExactQuotientOfSpec)

/-- ITS FALSE NEIGHBOUR: 'it returns false'. Refute it at one input. -/
def fnExactQuotientOfWrong : ChangeSpec := { name := "fnExactQuotientOf", fn := fun _ => fun
  | [d1, d2] => { results := [.lit (.bool false)], args := [d1, d2] }
  | _ => none }
def FnExactQuotientOfWrongFalsely : Prop := fnExactQuotientOfRow.holds Try.pinned (OpenSpec.ofChange fnExactQuotientOfWrong)

/-- 'laws.FnExactTurnVector': WHATEVER THE INPUT: true; the input reads as it did. -/
def fnExactTurnVectorSpec : ChangeSpec := { name := "fnExactTurnVector", fn := fun _ => fun
  | [d1, d2] => { results := [.lit (.bool true)], args := [d1, d2] }
  | _ => none }
def fnExactTurnVectorRow : OpenClaim := { program := "ytcmoghgiddpibaa", sum := "9a7668e7c22fbbefdab7a087a32b06a79b5811f8d99555a53ab792bfa573d491", func := "loop.example/g00598/laws.FnExactTurnVector", spec := "fnExactTurnVector", unfollowed := true, recurses := true, apart := false }
def FnExactTurnVectorSaid : Prop := fnExactTurnVectorRow.holds Try.pinned (OpenSpec.ofChange fnExactTurnVectorSpec)

/-- ITS FALSE NEIGHBOUR: 'it returns false'. Refute it at one input. -/
def fnExactTurnVectorWrong : ChangeSpec := { name := "fnExactTurnVector", fn := fun _ => fun
  | [d1, d2] => { results := [.lit (.bool false)], args := [d1, d2] }
  | _ => none }
def FnExactTurnVectorWrongFalsely : Prop := fnExactTurnVectorRow.holds Try.pinned (OpenSpec.ofChange fnExactTurnVectorWrong)

/-- 'laws.FnExactHookCounts': WHATEVER THE INPUT: true; the input reads as it did. -/
def fnExactHookCountsSpec : ChangeSpec := { name := "fnExactHookCounts", fn := fun _ => fun
  | [d] => { results := [.lit (.bool true)], args := [d] }
  | _ => none }
def fnExactHookCountsRow : OpenClaim := { program := "ytcmoghgiddpibaa", sum := "9a7668e7c22fbbefdab7a087a32b06a79b5811f8d99555a53ab792bfa573d491", func := "loop.example/g00598/laws.FnExactHookCounts", spec := "fnExactHookCounts", apart := false }
def FnExactHookCountsSaid : Prop := fnExactHookCountsRow.holds Try.pinned (OpenSpec.ofChange fnExactHookCountsSpec)

/-- ITS FALSE NEIGHBOUR: 'it returns false'. Refute it at one input. -/
def fnExactHookCountsWrong : ChangeSpec := { name := "fnExactHookCounts", fn := fun _ => fun
  | [d] => { results := [.lit (.bool false)], args := [d] }
  | _ => none }
def FnExactHookCountsWrongFalsely : Prop := fnExactHookCountsRow.holds Try.pinned (OpenSpec.ofChange fnExactHookCountsWrong)

/-- 'laws.FnExactCoreWeight': WHATEVER THE INPUT: true; the input reads as it did. -/
def fnExactCoreWeightSpec : ChangeSpec := { name := "fnExactCoreWeight", fn := fun _ => fun
  | [d1, d2] => { results := [.lit (.bool true)], args := [d1, d2] }
  | _ => none }
def fnExactCoreWeightRow : OpenClaim := { program := "ytcmoghgiddpibaa", sum := "9a7668e7c22fbbefdab7a087a32b06a79b5811f8d99555a53ab792bfa573d491", func := "loop.example/g00598/laws.FnExactCoreWeight", spec := "fnExactCoreWeight", unfollowed := true, recurses := true, apart := false }
def FnExactCoreWeightSaid : Prop := fnExactCoreWeightRow.holds Try.pinned (OpenSpec.ofChange fnExactCoreWeightSpec)

/-- ITS FALSE NEIGHBOUR: 'it returns false'. Refute it at one input. -/
def fnExactCoreWeightWrong : ChangeSpec := { name := "fnExactCoreWeight", fn := fun _ => fun
  | [d1, d2] => { results := [.lit (.bool false)], args := [d1, d2] }
  | _ => none }
def FnExactCoreWeightWrongFalsely : Prop := fnExactCoreWeightRow.holds Try.pinned (OpenSpec.ofChange fnExactCoreWeightWrong)

/-- 'laws.FnExactIsCore': WHATEVER THE INPUT: true; the input reads as it did. -/
def fnExactIsCoreSpec : ChangeSpec := { name := "fnExactIsCore", fn := fun _ => fun
  | [d1, d2] => { results := [.lit (.bool true)], args := [d1, d2] }
  | _ => none }
def fnExactIsCoreRow : OpenClaim := { program := "ytcmoghgiddpibaa", sum := "9a7668e7c22fbbefdab7a087a32b06a79b5811f8d99555a53ab792bfa573d491", func := "loop.example/g00598/laws.FnExactIsCore", spec := "fnExactIsCore", unfollowed := true, recurses := true, apart := false }
def FnExactIsCoreSaid : Prop := fnExactIsCoreRow.holds Try.pinned (OpenSpec.ofChange fnExactIsCoreSpec)

/-- ITS FALSE NEIGHBOUR: 'it returns false'. Refute it at one input. -/
def fnExactIsCoreWrong : ChangeSpec := { name := "fnExactIsCore", fn := fun _ => fun
  | [d1, d2] => { results := [.lit (.bool false)], args := [d1, d2] }
  | _ => none }
def FnExactIsCoreWrongFalsely : Prop := fnExactIsCoreRow.holds Try.pinned (OpenSpec.ofChange fnExactIsCoreWrong)

/-- 'laws.FnExactCoreOf': WHATEVER THE INPUT: true; the input reads as it did. -/
def fnExactCoreOfSpec : ChangeSpec := { name := "fnExactCoreOf", fn := fun _ => fun
  | [d1, d2] => { results := [.lit (.bool true)], args := [d1, d2] }
  | _ => none }
def fnExactCoreOfRow : OpenClaim := { program := "ytcmoghgiddpibaa", sum := "9a7668e7c22fbbefdab7a087a32b06a79b5811f8d99555a53ab792bfa573d491", func := "loop.example/g00598/laws.FnExactCoreOf", spec := "fnExactCoreOf", unfollowed := true, recurses := true, apart := false }
def FnExactCoreOfSaid : Prop := fnExactCoreOfRow.holds Try.pinned (OpenSpec.ofChange fnExactCoreOfSpec)

/-- ITS FALSE NEIGHBOUR: 'it returns false'. Refute it at one input. -/
def fnExactCoreOfWrong : ChangeSpec := { name := "fnExactCoreOf", fn := fun _ => fun
  | [d1, d2] => { results := [.lit (.bool false)], args := [d1, d2] }
  | _ => none }
def FnExactCoreOfWrongFalsely : Prop := fnExactCoreOfRow.holds Try.pinned (OpenSpec.ofChange fnExactCoreOfWrong)

/-- 'laws.FnExactCharacterOf': WHATEVER THE INPUT: true; the input reads as it did. -/
def fnExactCharacterOfSpec : ChangeSpec := { name := "fnExactCharacterOf", fn := fun _ => fun
  | [d1, d2] => { results := [.lit (.bool true)], args := [d1, d2] }
  | _ => none }
def fnExactCharacterOfRow : OpenClaim := { program := "ytcmoghgiddpibaa", sum := "9a7668e7c22fbbefdab7a087a32b06a79b5811f8d99555a53ab792bfa573d491", func := "loop.example/g00598/laws.FnExactCharacterOf", spec := "fnExactCharacterOf", unfollowed := true, recurses := true, apart := false }
def FnExactCharacterOfSaid : Prop := fnExactCharacterOfRow.holds Try.pinned (OpenSpec.ofChange fnExactCharacterOfSpec)

/-- ITS FALSE NEIGHBOUR: 'it returns false'. Refute it at one input. -/
def fnExactCharacterOfWrong : ChangeSpec := { name := "fnExactCharacterOf", fn := fun _ => fun
  | [d1, d2] => { results := [.lit (.bool false)], args := [d1, d2] }
  | _ => none }
def FnExactCharacterOfWrongFalsely : Prop := fnExactCharacterOfRow.holds Try.pinned (OpenSpec.ofChange fnExactCharacterOfWrong)

/-- 'laws.FnExactSchurOfPower': WHATEVER THE INPUT: true; the input reads as it did. -/
def fnExactSchurOfPowerSpec : ChangeSpec := { name := "fnExactSchurOfPower", fn := fun _ => fun
  | [d] => { results := [.lit (.bool true)], args := [d] }
  | _ => none }
def fnExactSchurOfPowerRow : OpenClaim := { program := "ytcmoghgiddpibaa", sum := "9a7668e7c22fbbefdab7a087a32b06a79b5811f8d99555a53ab792bfa573d491", func := "loop.example/g00598/laws.FnExactSchurOfPower", spec := "fnExactSchurOfPower", unfollowed := true, recurses := true, apart := false }
def FnExactSchurOfPowerSaid : Prop := fnExactSchurOfPowerRow.holds Try.pinned (OpenSpec.ofChange fnExactSchurOfPowerSpec)

/-- ITS FALSE NEIGHBOUR: 'it returns false'. Refute it at one input. -/
def fnExactSchurOfPowerWrong : ChangeSpec := { name := "fnExactSchurOfPower", fn := fun _ => fun
  | [d] => { results := [.lit (.bool false)], args := [d] }
  | _ => none }
def FnExactSchurOfPowerWrongFalsely : Prop := fnExactSchurOfPowerRow.holds Try.pinned (OpenSpec.ofChange fnExactSchurOfPowerWrong)

/-- 'laws.FnExactCharacterTable': WHATEVER THE INPUT: true; the input reads as it did. -/
def fnExactCharacterTableSpec : ChangeSpec := { name := "fnExactCharacterTable", fn := fun _ => fun
  | [d] => { results := [.lit (.bool true)], args := [d] }
  | _ => none }
def fnExactCharacterTableRow : OpenClaim := { program := "ytcmoghgiddpibaa", sum := "9a7668e7c22fbbefdab7a087a32b06a79b5811f8d99555a53ab792bfa573d491", func := "loop.example/g00598/laws.FnExactCharacterTable", spec := "fnExactCharacterTable", unfollowed := true, recurses := true, apart := false }
def FnExactCharacterTableSaid : Prop := fnExactCharacterTableRow.holds Try.pinned (OpenSpec.ofChange fnExactCharacterTableSpec)

/-- ITS FALSE NEIGHBOUR: 'it returns false'. Refute it at one input. -/
def fnExactCharacterTableWrong : ChangeSpec := { name := "fnExactCharacterTable", fn := fun _ => fun
  | [d] => { results := [.lit (.bool false)], args := [d] }
  | _ => none }
def FnExactCharacterTableWrongFalsely : Prop := fnExactCharacterTableRow.holds Try.pinned (OpenSpec.ofChange fnExactCharacterTableWrong)

/-- 'laws.FnExactKroneckerOf': WHATEVER THE INPUT: true; the input reads as it did. -/
def fnExactKroneckerOfSpec : ChangeSpec := { name := "fnExactKroneckerOf", fn := fun _ => fun
  | [d1, d2, d3] => { results := [.lit (.bool true)], args := [d1, d2, d3] }
  | _ => none }
def fnExactKroneckerOfRow : OpenClaim := { program := "ytcmoghgiddpibaa", sum := "9a7668e7c22fbbefdab7a087a32b06a79b5811f8d99555a53ab792bfa573d491", func := "loop.example/g00598/laws.FnExactKroneckerOf", spec := "fnExactKroneckerOf", unfollowed := true, recurses := true, apart := false }
def FnExactKroneckerOfSaid : Prop := fnExactKroneckerOfRow.holds Try.pinned (OpenSpec.ofChange fnExactKroneckerOfSpec)

/-- ITS FALSE NEIGHBOUR: 'it returns false'. Refute it at one input. -/
def fnExactKroneckerOfWrong : ChangeSpec := { name := "fnExactKroneckerOf", fn := fun _ => fun
  | [d1, d2, d3] => { results := [.lit (.bool false)], args := [d1, d2, d3] }
  | _ => none }
def FnExactKroneckerOfWrongFalsely : Prop := fnExactKroneckerOfRow.holds Try.pinned (OpenSpec.ofChange fnExactKroneckerOfWrong)

/-- 'laws.FnExactPairingOf': WHATEVER THE INPUT: true; the input reads as it did. -/
def fnExactPairingOfSpec : ChangeSpec := { name := "fnExactPairingOf", fn := fun _ => fun
  | [d1, d2] => { results := [.lit (.bool true)], args := [d1, d2] }
  | _ => none }
def fnExactPairingOfRow : OpenClaim := { program := "ytcmoghgiddpibaa", sum := "9a7668e7c22fbbefdab7a087a32b06a79b5811f8d99555a53ab792bfa573d491", func := "loop.example/g00598/laws.FnExactPairingOf", spec := "fnExactPairingOf", unfollowed := true, recurses := true, apart := false }
def FnExactPairingOfSaid : Prop := fnExactPairingOfRow.holds Try.pinned (OpenSpec.ofChange fnExactPairingOfSpec)

/-- ITS FALSE NEIGHBOUR: 'it returns false'. Refute it at one input. -/
def fnExactPairingOfWrong : ChangeSpec := { name := "fnExactPairingOf", fn := fun _ => fun
  | [d1, d2] => { results := [.lit (.bool false)], args := [d1, d2] }
  | _ => none }
def FnExactPairingOfWrongFalsely : Prop := fnExactPairingOfRow.holds Try.pinned (OpenSpec.ofChange fnExactPairingOfWrong)

/-- 'laws.FnExactCycleType': WHATEVER THE INPUT: true; the input reads as it did. -/
def fnExactCycleTypeSpec : ChangeSpec := { name := "fnExactCycleType", fn := fun _ => fun
  | [d] => { results := [.lit (.bool true)], args := [d] }
  | _ => none }
def fnExactCycleTypeRow : OpenClaim := { program := "ytcmoghgiddpibaa", sum := "9a7668e7c22fbbefdab7a087a32b06a79b5811f8d99555a53ab792bfa573d491", func := "loop.example/g00598/laws.FnExactCycleType", spec := "fnExactCycleType", unfollowed := true, recurses := true, apart := false }
def FnExactCycleTypeSaid : Prop := fnExactCycleTypeRow.holds Try.pinned (OpenSpec.ofChange fnExactCycleTypeSpec)

/-- ITS FALSE NEIGHBOUR: 'it returns false'. Refute it at one input. -/
def fnExactCycleTypeWrong : ChangeSpec := { name := "fnExactCycleType", fn := fun _ => fun
  | [d] => { results := [.lit (.bool false)], args := [d] }
  | _ => none }
def FnExactCycleTypeWrongFalsely : Prop := fnExactCycleTypeRow.holds Try.pinned (OpenSpec.ofChange fnExactCycleTypeWrong)

/-- 'laws.FnCharacters': WHATEVER THE INPUT: true; the input reads as it did. -/
def fnCharactersSpec : ChangeSpec := { name := "fnCharacters", fn := fun _ => fun
  | [d] => { results := [.lit (.bool true)], args := [d] }
  | _ => none }
def fnCharactersRow : OpenClaim := { program := "ytcmoghgiddpibaa", sum := "9a7668e7c22fbbefdab7a087a32b06a79b5811f8d99555a53ab792bfa573d491", func := "loop.example/g00598/laws.FnCharacters", spec := "fnCharacters", unfollowed := true, recurses := true, apart := false }
def FnCharactersSaid : Prop := fnCharactersRow.holds Try.pinned (OpenSpec.ofChange fnCharactersSpec)

/-- ITS FALSE NEIGHBOUR: 'it returns false'. Refute it at one input. -/
def fnCharactersWrong : ChangeSpec := { name := "fnCharacters", fn := fun _ => fun
  | [d] => { results := [.lit (.bool false)], args := [d] }
  | _ => none }
def FnCharactersWrongFalsely : Prop := fnCharactersRow.holds Try.pinned (OpenSpec.ofChange fnCharactersWrong)

/-- 'laws.FnCores': WHATEVER THE INPUT: true; the input reads as it did. -/
def fnCoresSpec : ChangeSpec := { name := "fnCores", fn := fun _ => fun
  | [d] => { results := [.lit (.bool true)], args := [d] }
  | _ => none }
def fnCoresRow : OpenClaim := { program := "ytcmoghgiddpibaa", sum := "9a7668e7c22fbbefdab7a087a32b06a79b5811f8d99555a53ab792bfa573d491", func := "loop.example/g00598/laws.FnCores", spec := "fnCores", unfollowed := true, recurses := true, apart := false }
def FnCoresSaid : Prop := fnCoresRow.holds Try.pinned (OpenSpec.ofChange fnCoresSpec)

/-- ITS FALSE NEIGHBOUR: 'it returns false'. Refute it at one input. -/
def fnCoresWrong : ChangeSpec := { name := "fnCores", fn := fun _ => fun
  | [d] => { results := [.lit (.bool false)], args := [d] }
  | _ => none }
def FnCoresWrongFalsely : Prop := fnCoresRow.holds Try.pinned (OpenSpec.ofChange fnCoresWrong)

/- THE SECOND FORM. 'bulk': how many values and letters a reading holds, each counted each time it is reached (what is shared counts as often as it is met; a slice's spare places count too). A statement '..UptoSaid' is the law's where the arguments, and the package variables that the reading takes, are together of bulk at most 1048576: NARROWER than '..Said'. Prove '..Said' where nothing that the law and all that it calls make is longer than what came in: it says more and counts as full. Else prove '..UptoSaid'. A law counts once. -/
mutual
def uptoBulk {H : Type} : DataW H → Nat
  | .lit (.string bytes) => bytes.length + 1
  | .lit _ => 1
  | .nil => 1
  | .ptr d => uptoBulk d + 1
  | .slice elems spare => uptoBulkAll elems + uptoBulkAll spare + 1
  | .agg parts => uptoBulkAll parts + 1
  | .iface _ d => uptoBulk d + 1
  | .map entries => uptoBulkEntries entries + 1
  | .held _ => 1
def uptoBulkAll {H : Type} : List (DataW H) → Nat
  | [] => 0
  | d :: r => uptoBulk d + uptoBulkAll r
def uptoBulkEntries {H : Type} : List (Lit × DataW H) → Nat
  | [] => 0
  | x :: r => uptoBulkEntry x + uptoBulkEntries r
def uptoBulkEntry {H : Type} : Lit × DataW H → Nat
  | (.string bytes, d) => bytes.length + uptoBulk d + 1
  | (_, d) => uptoBulk d + 1
 end
def uptoSmall : (H : Type) → List (DataW H) → Bool := fun _ ds => decide (uptoBulkAll ds ≤ 1048576)
def OpenSpec.upto (s : _root_.Go.ChangeSpec) : _root_.Go.OpenSpec := { _root_.Go.OpenSpec.ofChange s with cond := some uptoSmall }

/-- 'laws.FnExactCountOscillating', WHERE WHAT IT READS IS OF BULK AT MOST 1048576: true; the input reads as it did. -/
def fnExactCountOscillatingUptoRow : OpenClaim := { program := "ytcmoghgiddpibaa", sum := "9a7668e7c22fbbefdab7a087a32b06a79b5811f8d99555a53ab792bfa573d491", func := "loop.example/g00598/laws.FnExactCountOscillating", spec := "fnExactCountOscillating", apart := false, narrowed := true }
def FnExactCountOscillatingUptoSaid : Prop := fnExactCountOscillatingUptoRow.holds Try.pinned (OpenSpec.upto fnExactCountOscillatingSpec)

/-- 'laws.FnExactFromBeta', WHERE WHAT IT READS IS OF BULK AT MOST 1048576: true; the input reads as it did. -/
def fnExactFromBetaUptoRow : OpenClaim := { program := "ytcmoghgiddpibaa", sum := "9a7668e7c22fbbefdab7a087a32b06a79b5811f8d99555a53ab792bfa573d491", func := "loop.example/g00598/laws.FnExactFromBeta", spec := "fnExactFromBeta", apart := false, narrowed := true }
def FnExactFromBetaUptoSaid : Prop := fnExactFromBetaUptoRow.holds Try.pinned (OpenSpec.upto fnExactFromBetaSpec)

/-- 'laws.FnExactQuotientOf', WHERE WHAT IT READS IS OF BULK AT MOST 1048576: true; the input reads as it did. -/
def fnExactQuotientOfUptoRow : OpenClaim := { program := "ytcmoghgiddpibaa", sum := "9a7668e7c22fbbefdab7a087a32b06a79b5811f8d99555a53ab792bfa573d491", func := "loop.example/g00598/laws.FnExactQuotientOf", spec := "fnExactQuotientOf", apart := false, narrowed := true }
def FnExactQuotientOfUptoSaid : Prop := fnExactQuotientOfUptoRow.holds Try.pinned (OpenSpec.upto fnExactQuotientOfSpec)

/-- 'laws.FnExactTurnVector', WHERE WHAT IT READS IS OF BULK AT MOST 1048576: true; the input reads as it did. -/
def fnExactTurnVectorUptoRow : OpenClaim := { program := "ytcmoghgiddpibaa", sum := "9a7668e7c22fbbefdab7a087a32b06a79b5811f8d99555a53ab792bfa573d491", func := "loop.example/g00598/laws.FnExactTurnVector", spec := "fnExactTurnVector", unfollowed := true, recurses := true, apart := false, narrowed := true }
def FnExactTurnVectorUptoSaid : Prop := fnExactTurnVectorUptoRow.holds Try.pinned (OpenSpec.upto fnExactTurnVectorSpec)

/-- 'laws.FnExactHookCounts', WHERE WHAT IT READS IS OF BULK AT MOST 1048576: true; the input reads as it did. -/
def fnExactHookCountsUptoRow : OpenClaim := { program := "ytcmoghgiddpibaa", sum := "9a7668e7c22fbbefdab7a087a32b06a79b5811f8d99555a53ab792bfa573d491", func := "loop.example/g00598/laws.FnExactHookCounts", spec := "fnExactHookCounts", apart := false, narrowed := true }
def FnExactHookCountsUptoSaid : Prop := fnExactHookCountsUptoRow.holds Try.pinned (OpenSpec.upto fnExactHookCountsSpec)

/-- 'laws.FnExactCoreWeight', WHERE WHAT IT READS IS OF BULK AT MOST 1048576: true; the input reads as it did. -/
def fnExactCoreWeightUptoRow : OpenClaim := { program := "ytcmoghgiddpibaa", sum := "9a7668e7c22fbbefdab7a087a32b06a79b5811f8d99555a53ab792bfa573d491", func := "loop.example/g00598/laws.FnExactCoreWeight", spec := "fnExactCoreWeight", unfollowed := true, recurses := true, apart := false, narrowed := true }
def FnExactCoreWeightUptoSaid : Prop := fnExactCoreWeightUptoRow.holds Try.pinned (OpenSpec.upto fnExactCoreWeightSpec)

/-- 'laws.FnExactIsCore', WHERE WHAT IT READS IS OF BULK AT MOST 1048576: true; the input reads as it did. -/
def fnExactIsCoreUptoRow : OpenClaim := { program := "ytcmoghgiddpibaa", sum := "9a7668e7c22fbbefdab7a087a32b06a79b5811f8d99555a53ab792bfa573d491", func := "loop.example/g00598/laws.FnExactIsCore", spec := "fnExactIsCore", unfollowed := true, recurses := true, apart := false, narrowed := true }
def FnExactIsCoreUptoSaid : Prop := fnExactIsCoreUptoRow.holds Try.pinned (OpenSpec.upto fnExactIsCoreSpec)

/-- 'laws.FnExactCoreOf', WHERE WHAT IT READS IS OF BULK AT MOST 1048576: true; the input reads as it did. -/
def fnExactCoreOfUptoRow : OpenClaim := { program := "ytcmoghgiddpibaa", sum := "9a7668e7c22fbbefdab7a087a32b06a79b5811f8d99555a53ab792bfa573d491", func := "loop.example/g00598/laws.FnExactCoreOf", spec := "fnExactCoreOf", unfollowed := true, recurses := true, apart := false, narrowed := true }
def FnExactCoreOfUptoSaid : Prop := fnExactCoreOfUptoRow.holds Try.pinned (OpenSpec.upto fnExactCoreOfSpec)

/-- 'laws.FnExactCharacterOf', WHERE WHAT IT READS IS OF BULK AT MOST 1048576: true; the input reads as it did. -/
def fnExactCharacterOfUptoRow : OpenClaim := { program := "ytcmoghgiddpibaa", sum := "9a7668e7c22fbbefdab7a087a32b06a79b5811f8d99555a53ab792bfa573d491", func := "loop.example/g00598/laws.FnExactCharacterOf", spec := "fnExactCharacterOf", unfollowed := true, recurses := true, apart := false, narrowed := true }
def FnExactCharacterOfUptoSaid : Prop := fnExactCharacterOfUptoRow.holds Try.pinned (OpenSpec.upto fnExactCharacterOfSpec)

/-- 'laws.FnExactSchurOfPower', WHERE WHAT IT READS IS OF BULK AT MOST 1048576: true; the input reads as it did. -/
def fnExactSchurOfPowerUptoRow : OpenClaim := { program := "ytcmoghgiddpibaa", sum := "9a7668e7c22fbbefdab7a087a32b06a79b5811f8d99555a53ab792bfa573d491", func := "loop.example/g00598/laws.FnExactSchurOfPower", spec := "fnExactSchurOfPower", unfollowed := true, recurses := true, apart := false, narrowed := true }
def FnExactSchurOfPowerUptoSaid : Prop := fnExactSchurOfPowerUptoRow.holds Try.pinned (OpenSpec.upto fnExactSchurOfPowerSpec)

/-- 'laws.FnExactCharacterTable', WHERE WHAT IT READS IS OF BULK AT MOST 1048576: true; the input reads as it did. -/
def fnExactCharacterTableUptoRow : OpenClaim := { program := "ytcmoghgiddpibaa", sum := "9a7668e7c22fbbefdab7a087a32b06a79b5811f8d99555a53ab792bfa573d491", func := "loop.example/g00598/laws.FnExactCharacterTable", spec := "fnExactCharacterTable", unfollowed := true, recurses := true, apart := false, narrowed := true }
def FnExactCharacterTableUptoSaid : Prop := fnExactCharacterTableUptoRow.holds Try.pinned (OpenSpec.upto fnExactCharacterTableSpec)

/-- 'laws.FnExactKroneckerOf', WHERE WHAT IT READS IS OF BULK AT MOST 1048576: true; the input reads as it did. -/
def fnExactKroneckerOfUptoRow : OpenClaim := { program := "ytcmoghgiddpibaa", sum := "9a7668e7c22fbbefdab7a087a32b06a79b5811f8d99555a53ab792bfa573d491", func := "loop.example/g00598/laws.FnExactKroneckerOf", spec := "fnExactKroneckerOf", unfollowed := true, recurses := true, apart := false, narrowed := true }
def FnExactKroneckerOfUptoSaid : Prop := fnExactKroneckerOfUptoRow.holds Try.pinned (OpenSpec.upto fnExactKroneckerOfSpec)

/-- 'laws.FnExactPairingOf', WHERE WHAT IT READS IS OF BULK AT MOST 1048576: true; the input reads as it did. -/
def fnExactPairingOfUptoRow : OpenClaim := { program := "ytcmoghgiddpibaa", sum := "9a7668e7c22fbbefdab7a087a32b06a79b5811f8d99555a53ab792bfa573d491", func := "loop.example/g00598/laws.FnExactPairingOf", spec := "fnExactPairingOf", unfollowed := true, recurses := true, apart := false, narrowed := true }
def FnExactPairingOfUptoSaid : Prop := fnExactPairingOfUptoRow.holds Try.pinned (OpenSpec.upto fnExactPairingOfSpec)

/-- 'laws.FnExactCycleType', WHERE WHAT IT READS IS OF BULK AT MOST 1048576: true; the input reads as it did. -/
def fnExactCycleTypeUptoRow : OpenClaim := { program := "ytcmoghgiddpibaa", sum := "9a7668e7c22fbbefdab7a087a32b06a79b5811f8d99555a53ab792bfa573d491", func := "loop.example/g00598/laws.FnExactCycleType", spec := "fnExactCycleType", unfollowed := true, recurses := true, apart := false, narrowed := true }
def FnExactCycleTypeUptoSaid : Prop := fnExactCycleTypeUptoRow.holds Try.pinned (OpenSpec.upto fnExactCycleTypeSpec)

/-- 'laws.FnCharacters', WHERE WHAT IT READS IS OF BULK AT MOST 1048576: true; the input reads as it did. -/
def fnCharactersUptoRow : OpenClaim := { program := "ytcmoghgiddpibaa", sum := "9a7668e7c22fbbefdab7a087a32b06a79b5811f8d99555a53ab792bfa573d491", func := "loop.example/g00598/laws.FnCharacters", spec := "fnCharacters", unfollowed := true, recurses := true, apart := false, narrowed := true }
def FnCharactersUptoSaid : Prop := fnCharactersUptoRow.holds Try.pinned (OpenSpec.upto fnCharactersSpec)

/-- 'laws.FnCores', WHERE WHAT IT READS IS OF BULK AT MOST 1048576: true; the input reads as it did. -/
def fnCoresUptoRow : OpenClaim := { program := "ytcmoghgiddpibaa", sum := "9a7668e7c22fbbefdab7a087a32b06a79b5811f8d99555a53ab792bfa573d491", func := "loop.example/g00598/laws.FnCores", spec := "fnCores", unfollowed := true, recurses := true, apart := false, narrowed := true }
def FnCoresUptoSaid : Prop := fnCoresUptoRow.holds Try.pinned (OpenSpec.upto fnCoresSpec)

end Rows
end Go.Proofs.Ytcmoghgiddpibaa
