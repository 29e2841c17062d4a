/-
  No cell of these rows narrows 'for every input' (looked for: loops, veiled, ifaces, maps, wideKeys, modest, calm, conditions, laid).
  DERIVED. THE GIVEN ROWS OF THIS SEAT. 7 by the template 'for every input the law returns true; each argument reads behind the call as it read before'; 0 by the template 'total and deterministic' (their statements: YtojjokhfmgomcaaTotals.lean).
  GIVEN WITH THE SEED: the statements are not yours to turn. If you find one false, say at which input.
  Laid BY PROGRAM, IN A SANDBOX (cutbox-rows.mjs): the forced cells as the released guide's own fill.sh prints them over the translation 71949dac95abd64b… (all of the seat's roots in one cut). By AI agents, Wed Nov 11 2026. No macro, syntax, notation, axiom, sorry.
-/
import Derived.Test.YtojjokhfmgomcaaChecked
import GoSem.Claim
import GoSem.ClaimJoined
import GoSem.ClaimMapViews
import Derived.JoinedTies
import Derived.KernelRfl
namespace Go.Proofs.Ytojjokhfmgomcaa
/- THE CELL 'sum', in the pinned program and in every row, IS THE sha256 OF THE DUMP (.gsa) THAT YtojjokhfmgomcaaProg.lean LOADS. Nothing in Lean hashes anything: it is a label: what it is worth is what the hold of that sum in a sandbox is worth. -/
noncomputable def Try.pinned : Pinned := { name := "ytojjokhfmgomcaa", sum := "71949dac95abd64b14e68fa3ee315061b376518ef5e0df8e5007bd6b19998402", checked := Try.checked }
namespace Rows
def none {H : Type} : Left H := { results := [], args := [] }

/-- 'laws.FnExactCoreWeight': WHATEVER THE INPUT: true; the input reads as it did. -/
def fnExactCoreWeightSpec : ChangeSpec := { name := "fnExactCoreWeight", fn := fun _ => fun
  | [d1, d2] => { results := [.lit (.bool true)], args := [d1, d2] }
  | _ => none }
def fnExactCoreWeightRow : OpenClaim := { program := "ytojjokhfmgomcaa", sum := "71949dac95abd64b14e68fa3ee315061b376518ef5e0df8e5007bd6b19998402", func := "loop.example/g00598/laws.FnExactCoreWeight", spec := "fnExactCoreWeight", unfollowed := true, recurses := true, apart := false }
def FnExactCoreWeightSaid : Prop := fnExactCoreWeightRow.holds Try.pinned (OpenSpec.ofChange fnExactCoreWeightSpec)

/-- ITS FALSE NEIGHBOUR: 'it returns false'. Refute it at one input. -/
def fnExactCoreWeightWrong : ChangeSpec := { name := "fnExactCoreWeight", fn := fun _ => fun
  | [d1, d2] => { results := [.lit (.bool false)], args := [d1, d2] }
  | _ => none }
def FnExactCoreWeightWrongFalsely : Prop := fnExactCoreWeightRow.holds Try.pinned (OpenSpec.ofChange fnExactCoreWeightWrong)

/-- 'laws.FnExactIsCore': WHATEVER THE INPUT: true; the input reads as it did. -/
def fnExactIsCoreSpec : ChangeSpec := { name := "fnExactIsCore", fn := fun _ => fun
  | [d1, d2] => { results := [.lit (.bool true)], args := [d1, d2] }
  | _ => none }
def fnExactIsCoreRow : OpenClaim := { program := "ytojjokhfmgomcaa", sum := "71949dac95abd64b14e68fa3ee315061b376518ef5e0df8e5007bd6b19998402", func := "loop.example/g00598/laws.FnExactIsCore", spec := "fnExactIsCore", unfollowed := true, recurses := true, apart := false }
def FnExactIsCoreSaid : Prop := fnExactIsCoreRow.holds Try.pinned (OpenSpec.ofChange fnExactIsCoreSpec)

/-- ITS FALSE NEIGHBOUR: 'it returns false'. Refute it at one input. -/
def fnExactIsCoreWrong : ChangeSpec := { name := "fnExactIsCore", fn := fun _ => fun
  | [d1, d2] => { results := [.lit (.bool false)], args := [d1, d2] }
  | _ => none }
def FnExactIsCoreWrongFalsely : Prop := fnExactIsCoreRow.holds Try.pinned (OpenSpec.ofChange fnExactIsCoreWrong)

/-- 'laws.FnExactCoreOf': WHATEVER THE INPUT: true; the input reads as it did. -/
def fnExactCoreOfSpec : ChangeSpec := { name := "fnExactCoreOf", fn := fun _ => fun
  | [d1, d2] => { results := [.lit (.bool true)], args := [d1, d2] }
  | _ => none }
def fnExactCoreOfRow : OpenClaim := { program := "ytojjokhfmgomcaa", sum := "71949dac95abd64b14e68fa3ee315061b376518ef5e0df8e5007bd6b19998402", func := "loop.example/g00598/laws.FnExactCoreOf", spec := "fnExactCoreOf", unfollowed := true, recurses := true, apart := false }
def FnExactCoreOfSaid : Prop := fnExactCoreOfRow.holds Try.pinned (OpenSpec.ofChange fnExactCoreOfSpec)

/-- ITS FALSE NEIGHBOUR: 'it returns false'. Refute it at one input. -/
def fnExactCoreOfWrong : ChangeSpec := { name := "fnExactCoreOf", fn := fun _ => fun
  | [d1, d2] => { results := [.lit (.bool false)], args := [d1, d2] }
  | _ => none }
def FnExactCoreOfWrongFalsely : Prop := fnExactCoreOfRow.holds Try.pinned (OpenSpec.ofChange fnExactCoreOfWrong)

/-- 'laws.FnExactCharacterOf': WHATEVER THE INPUT: true; the input reads as it did. -/
def fnExactCharacterOfSpec : ChangeSpec := { name := "fnExactCharacterOf", fn := fun _ => fun
  | [d1, d2] => { results := [.lit (.bool true)], args := [d1, d2] }
  | _ => none }
def fnExactCharacterOfRow : OpenClaim := { program := "ytojjokhfmgomcaa", sum := "71949dac95abd64b14e68fa3ee315061b376518ef5e0df8e5007bd6b19998402", func := "loop.example/g00598/laws.FnExactCharacterOf", spec := "fnExactCharacterOf", unfollowed := true, recurses := true, apart := false }
def FnExactCharacterOfSaid : Prop := fnExactCharacterOfRow.holds Try.pinned (OpenSpec.ofChange fnExactCharacterOfSpec)

/-- ITS FALSE NEIGHBOUR: 'it returns false'. Refute it at one input. -/
def fnExactCharacterOfWrong : ChangeSpec := { name := "fnExactCharacterOf", fn := fun _ => fun
  | [d1, d2] => { results := [.lit (.bool false)], args := [d1, d2] }
  | _ => none }
def FnExactCharacterOfWrongFalsely : Prop := fnExactCharacterOfRow.holds Try.pinned (OpenSpec.ofChange fnExactCharacterOfWrong)

/-- 'laws.FnExactSchurOfPower': WHATEVER THE INPUT: true; the input reads as it did. -/
def fnExactSchurOfPowerSpec : ChangeSpec := { name := "fnExactSchurOfPower", fn := fun _ => fun
  | [d] => { results := [.lit (.bool true)], args := [d] }
  | _ => none }
def fnExactSchurOfPowerRow : OpenClaim := { program := "ytojjokhfmgomcaa", sum := "71949dac95abd64b14e68fa3ee315061b376518ef5e0df8e5007bd6b19998402", func := "loop.example/g00598/laws.FnExactSchurOfPower", spec := "fnExactSchurOfPower", unfollowed := true, recurses := true, apart := false }
def FnExactSchurOfPowerSaid : Prop := fnExactSchurOfPowerRow.holds Try.pinned (OpenSpec.ofChange fnExactSchurOfPowerSpec)

/-- ITS FALSE NEIGHBOUR: 'it returns false'. Refute it at one input. -/
def fnExactSchurOfPowerWrong : ChangeSpec := { name := "fnExactSchurOfPower", fn := fun _ => fun
  | [d] => { results := [.lit (.bool false)], args := [d] }
  | _ => none }
def FnExactSchurOfPowerWrongFalsely : Prop := fnExactSchurOfPowerRow.holds Try.pinned (OpenSpec.ofChange fnExactSchurOfPowerWrong)

/-- 'laws.FnExactPairingOf': WHATEVER THE INPUT: true; the input reads as it did. -/
def fnExactPairingOfSpec : ChangeSpec := { name := "fnExactPairingOf", fn := fun _ => fun
  | [d1, d2] => { results := [.lit (.bool true)], args := [d1, d2] }
  | _ => none }
def fnExactPairingOfRow : OpenClaim := { program := "ytojjokhfmgomcaa", sum := "71949dac95abd64b14e68fa3ee315061b376518ef5e0df8e5007bd6b19998402", func := "loop.example/g00598/laws.FnExactPairingOf", spec := "fnExactPairingOf", unfollowed := true, recurses := true, apart := false }
def FnExactPairingOfSaid : Prop := fnExactPairingOfRow.holds Try.pinned (OpenSpec.ofChange fnExactPairingOfSpec)

/-- ITS FALSE NEIGHBOUR: 'it returns false'. Refute it at one input. -/
def fnExactPairingOfWrong : ChangeSpec := { name := "fnExactPairingOf", fn := fun _ => fun
  | [d1, d2] => { results := [.lit (.bool false)], args := [d1, d2] }
  | _ => none }
def FnExactPairingOfWrongFalsely : Prop := fnExactPairingOfRow.holds Try.pinned (OpenSpec.ofChange fnExactPairingOfWrong)

/-- 'laws.FnExactKroneckerOf': WHATEVER THE INPUT: true; the input reads as it did. -/
def fnExactKroneckerOfSpec : ChangeSpec := { name := "fnExactKroneckerOf", fn := fun _ => fun
  | [d1, d2, d3] => { results := [.lit (.bool true)], args := [d1, d2, d3] }
  | _ => none }
def fnExactKroneckerOfRow : OpenClaim := { program := "ytojjokhfmgomcaa", sum := "71949dac95abd64b14e68fa3ee315061b376518ef5e0df8e5007bd6b19998402", func := "loop.example/g00598/laws.FnExactKroneckerOf", spec := "fnExactKroneckerOf", unfollowed := true, recurses := true, apart := false }
def FnExactKroneckerOfSaid : Prop := fnExactKroneckerOfRow.holds Try.pinned (OpenSpec.ofChange fnExactKroneckerOfSpec)

/-- ITS FALSE NEIGHBOUR: 'it returns false'. Refute it at one input. -/
def fnExactKroneckerOfWrong : ChangeSpec := { name := "fnExactKroneckerOf", fn := fun _ => fun
  | [d1, d2, d3] => { results := [.lit (.bool false)], args := [d1, d2, d3] }
  | _ => none }
def FnExactKroneckerOfWrongFalsely : Prop := fnExactKroneckerOfRow.holds Try.pinned (OpenSpec.ofChange fnExactKroneckerOfWrong)

/- THE SECOND FORM. 'bulk': how many values and letters a reading holds, each counted each time it is reached (what is shared counts as often as it is met; a slice's spare places count too). A statement '..UptoSaid' is the law's where the arguments, and the package variables that the reading takes, are together of bulk at most 1048576: NARROWER than '..Said'. Prove '..Said' where nothing that the law and all that it calls make is longer than what came in: it says more and counts as full. Else prove '..UptoSaid'. A law counts once. -/
mutual
def uptoBulk {H : Type} : DataW H → Nat
  | .lit (.string bytes) => bytes.length + 1
  | .lit _ => 1
  | .nil => 1
  | .ptr d => uptoBulk d + 1
  | .slice elems spare => uptoBulkAll elems + uptoBulkAll spare + 1
  | .agg parts => uptoBulkAll parts + 1
  | .iface _ d => uptoBulk d + 1
  | .map entries => uptoBulkEntries entries + 1
  | .held _ => 1
def uptoBulkAll {H : Type} : List (DataW H) → Nat
  | [] => 0
  | d :: r => uptoBulk d + uptoBulkAll r
def uptoBulkEntries {H : Type} : List (Lit × DataW H) → Nat
  | [] => 0
  | x :: r => uptoBulkEntry x + uptoBulkEntries r
def uptoBulkEntry {H : Type} : Lit × DataW H → Nat
  | (.string bytes, d) => bytes.length + uptoBulk d + 1
  | (_, d) => uptoBulk d + 1
 end
def uptoSmall : (H : Type) → List (DataW H) → Bool := fun _ ds => decide (uptoBulkAll ds ≤ 1048576)
def OpenSpec.upto (s : _root_.Go.ChangeSpec) : _root_.Go.OpenSpec := { _root_.Go.OpenSpec.ofChange s with cond := some uptoSmall }

/-- 'laws.FnExactCoreWeight', WHERE WHAT IT READS IS OF BULK AT MOST 1048576: true; the input reads as it did. -/
def fnExactCoreWeightUptoRow : OpenClaim := { program := "ytojjokhfmgomcaa", sum := "71949dac95abd64b14e68fa3ee315061b376518ef5e0df8e5007bd6b19998402", func := "loop.example/g00598/laws.FnExactCoreWeight", spec := "fnExactCoreWeight", unfollowed := true, recurses := true, apart := false, narrowed := true }
def FnExactCoreWeightUptoSaid : Prop := fnExactCoreWeightUptoRow.holds Try.pinned (OpenSpec.upto fnExactCoreWeightSpec)

/-- 'laws.FnExactIsCore', WHERE WHAT IT READS IS OF BULK AT MOST 1048576: true; the input reads as it did. -/
def fnExactIsCoreUptoRow : OpenClaim := { program := "ytojjokhfmgomcaa", sum := "71949dac95abd64b14e68fa3ee315061b376518ef5e0df8e5007bd6b19998402", func := "loop.example/g00598/laws.FnExactIsCore", spec := "fnExactIsCore", unfollowed := true, recurses := true, apart := false, narrowed := true }
def FnExactIsCoreUptoSaid : Prop := fnExactIsCoreUptoRow.holds Try.pinned (OpenSpec.upto fnExactIsCoreSpec)

/-- 'laws.FnExactCoreOf', WHERE WHAT IT READS IS OF BULK AT MOST 1048576: true; the input reads as it did. -/
def fnExactCoreOfUptoRow : OpenClaim := { program := "ytojjokhfmgomcaa", sum := "71949dac95abd64b14e68fa3ee315061b376518ef5e0df8e5007bd6b19998402", func := "loop.example/g00598/laws.FnExactCoreOf", spec := "fnExactCoreOf", unfollowed := true, recurses := true, apart := false, narrowed := true }
def FnExactCoreOfUptoSaid : Prop := fnExactCoreOfUptoRow.holds Try.pinned (OpenSpec.upto fnExactCoreOfSpec)

/-- 'laws.FnExactCharacterOf', WHERE WHAT IT READS IS OF BULK AT MOST 1048576: true; the input reads as it did. -/
def fnExactCharacterOfUptoRow : OpenClaim := { program := "ytojjokhfmgomcaa", sum := "71949dac95abd64b14e68fa3ee315061b376518ef5e0df8e5007bd6b19998402", func := "loop.example/g00598/laws.FnExactCharacterOf", spec := "fnExactCharacterOf", unfollowed := true, recurses := true, apart := false, narrowed := true }
def FnExactCharacterOfUptoSaid : Prop := fnExactCharacterOfUptoRow.holds Try.pinned (OpenSpec.upto fnExactCharacterOfSpec)

/-- 'laws.FnExactSchurOfPower', WHERE WHAT IT READS IS OF BULK AT MOST 1048576: true; the input reads as it did. -/
def fnExactSchurOfPowerUptoRow : OpenClaim := { program := "ytojjokhfmgomcaa", sum := "71949dac95abd64b14e68fa3ee315061b376518ef5e0df8e5007bd6b19998402", func := "loop.example/g00598/laws.FnExactSchurOfPower", spec := "fnExactSchurOfPower", unfollowed := true, recurses := true, apart := false, narrowed := true }
def FnExactSchurOfPowerUptoSaid : Prop := fnExactSchurOfPowerUptoRow.holds Try.pinned (OpenSpec.upto fnExactSchurOfPowerSpec)

/-- 'laws.FnExactPairingOf', WHERE WHAT IT READS IS OF BULK AT MOST 1048576: true; the input reads as it did. -/
def fnExactPairingOfUptoRow : OpenClaim := { program := "ytojjokhfmgomcaa", sum := "71949dac95abd64b14e68fa3ee315061b376518ef5e0df8e5007bd6b19998402", func := "loop.example/g00598/laws.FnExactPairingOf", spec := "fnExactPairingOf", unfollowed := true, recurses := true, apart := false, narrowed := true }
def FnExactPairingOfUptoSaid : Prop := fnExactPairingOfUptoRow.holds Try.pinned (OpenSpec.upto fnExactPairingOfSpec)

/-- 'laws.FnExactKroneckerOf', WHERE WHAT IT READS IS OF BULK AT MOST 1048576: true; the input reads as it did. -/
def fnExactKroneckerOfUptoRow : OpenClaim := { program := "ytojjokhfmgomcaa", sum := "71949dac95abd64b14e68fa3ee315061b376518ef5e0df8e5007bd6b19998402", func := "loop.example/g00598/laws.FnExactKroneckerOf", spec := "fnExactKroneckerOf", unfollowed := true, recurses := true, apart := false, narrowed := true }
def FnExactKroneckerOfUptoSaid : Prop := fnExactKroneckerOfUptoRow.holds Try.pinned (OpenSpec.upto fnExactKroneckerOfSpec)

end Rows
end Go.Proofs.Ytojjokhfmgomcaa
