/-
  No cell of these rows narrows 'for every input' (looked for: loops, veiled, ifaces, maps, wideKeys, modest, calm, conditions, laid).
  DERIVED. THE GIVEN ROWS OF THIS SEAT. 7 by the template 'for every input the law returns true; each argument reads behind the call as it read before'; 0 by the template 'total and deterministic' (their statements: YtdjohgfelmkooaaTotals.lean).
  GIVEN WITH THE SEED: the statements are not yours to turn. If you find one false, say at which input.
  Laid BY PROGRAM, IN A SANDBOX (cutbox-rows.mjs): the forced cells as the released guide's own fill.sh prints them over the translation 3b21f9953d5f2f94… (all of the seat's roots in one cut). By AI agents, Wed Nov 11 2026. No macro, syntax, notation, axiom, sorry.
-/
import Derived.Test.YtdjohgfelmkooaaChecked
import GoSem.Claim
import GoSem.ClaimJoined
import GoSem.ClaimMapViews
import Derived.JoinedTies
import Derived.KernelRfl
namespace Go.Proofs.Ytdjohgfelmkooaa
/- THE CELL 'sum', in the pinned program and in every row, IS THE sha256 OF THE DUMP (.gsa) THAT YtdjohgfelmkooaaProg.lean LOADS. Nothing in Lean hashes anything: it is a label: what it is worth is what the hold of that sum in a sandbox is worth. -/
noncomputable def Try.pinned : Pinned := { name := "ytdjohgfelmkooaa", sum := "3b21f9953d5f2f94a3b6fbb66c67e56d1a6d32500ee84a0e26711b80aa765133", checked := Try.checked }
namespace Rows
def none {H : Type} : Left H := { results := [], args := [] }

/-- 'laws.FnExactFromBeta': WHATEVER THE INPUT: true; the input reads as it did. -/
def fnExactFromBetaSpec : ChangeSpec := { name := "fnExactFromBeta", fn := fun _ => fun
  | [d] => { results := [.lit (.bool true)], args := [d] }
  | _ => none }
def fnExactFromBetaRow : OpenClaim := { program := "ytdjohgfelmkooaa", sum := "3b21f9953d5f2f94a3b6fbb66c67e56d1a6d32500ee84a0e26711b80aa765133", func := "loop.example/g00598/laws.FnExactFromBeta", spec := "fnExactFromBeta", apart := false }
def FnExactFromBetaSaid : Prop := fnExactFromBetaRow.holds Try.pinned (OpenSpec.ofChange fnExactFromBetaSpec)

/-- ITS FALSE NEIGHBOUR: 'it returns false'. Refute it at one input. -/
def fnExactFromBetaWrong : ChangeSpec := { name := "fnExactFromBeta", fn := fun _ => fun
  | [d] => { results := [.lit (.bool false)], args := [d] }
  | _ => none }
def FnExactFromBetaWrongFalsely : Prop := fnExactFromBetaRow.holds Try.pinned (OpenSpec.ofChange fnExactFromBetaWrong)

/-- 'laws.FnExactQuotientOf': WHATEVER THE INPUT: true; the input reads as it did. -/
def fnExactQuotientOfSpec : ChangeSpec := { name := "fnExactQuotientOf", fn := fun _ => fun
  | [d1, d2] => { results := [.lit (.bool true)], args := [d1, d2] }
  | _ => none }
def fnExactQuotientOfRow : OpenClaim := { program := "ytdjohgfelmkooaa", sum := "3b21f9953d5f2f94a3b6fbb66c67e56d1a6d32500ee84a0e26711b80aa765133", func := "loop.example/g00598/laws.FnExactQuotientOf", spec := "fnExactQuotientOf", apart := false }
def FnExactQuotientOfSaid : Prop := fnExactQuotientOfRow.holds Try.pinned (OpenSpec.ofChange fnExactQuotientOfSpec)

/-- ITS FALSE NEIGHBOUR: 'it returns false'. Refute it at one input. -/
def fnExactQuotientOfWrong : ChangeSpec := { name := "fnExactQuotientOf", fn := fun _ => fun
  | [d1, d2] => { results := [.lit (.bool false)], args := [d1, d2] }
  | _ => none }
def FnExactQuotientOfWrongFalsely : Prop := fnExactQuotientOfRow.holds Try.pinned (OpenSpec.ofChange fnExactQuotientOfWrong)

/-- 'laws.FnExactCharacterTable': WHATEVER THE INPUT: true; the input reads as it did. -/
def fnExactCharacterTableSpec : ChangeSpec := { name := "fnExactCharacterTable", fn := fun _ => fun
  | [d] => { results := [.lit (.bool true)], args := [d] }
  | _ => none }
def fnExactCharacterTableRow : OpenClaim := { program := "ytdjohgfelmkooaa", sum := "3b21f9953d5f2f94a3b6fbb66c67e56d1a6d32500ee84a0e26711b80aa765133", func := "loop.example/g00598/laws.FnExactCharacterTable", spec := "fnExactCharacterTable", unfollowed := true, recurses := true, apart := false }
def FnExactCharacterTableSaid : Prop := fnExactCharacterTableRow.holds Try.pinned (OpenSpec.ofChange fnExactCharacterTableSpec)

/-- ITS FALSE NEIGHBOUR: 'it returns false'. Refute it at one input. -/
def fnExactCharacterTableWrong : ChangeSpec := { name := "fnExactCharacterTable", fn := fun _ => fun
  | [d] => { results := [.lit (.bool false)], args := [d] }
  | _ => none }
def FnExactCharacterTableWrongFalsely : Prop := fnExactCharacterTableRow.holds Try.pinned (OpenSpec.ofChange fnExactCharacterTableWrong)

/-- 'laws.FnExactCombineVectors': WHATEVER THE INPUT: true; the input reads as it did. -/
def fnExactCombineVectorsSpec : ChangeSpec := { name := "fnExactCombineVectors", fn := fun _ => fun
  | [d1, d2] => { results := [.lit (.bool true)], args := [d1, d2] }
  | _ => none }
def fnExactCombineVectorsRow : OpenClaim := { program := "ytdjohgfelmkooaa", sum := "3b21f9953d5f2f94a3b6fbb66c67e56d1a6d32500ee84a0e26711b80aa765133", func := "loop.example/g00598/laws.FnExactCombineVectors", spec := "fnExactCombineVectors", apart := false }
def FnExactCombineVectorsSaid : Prop := fnExactCombineVectorsRow.holds Try.pinned (OpenSpec.ofChange fnExactCombineVectorsSpec)

/-- ITS FALSE NEIGHBOUR: 'it returns false'. Refute it at one input. -/
def fnExactCombineVectorsWrong : ChangeSpec := { name := "fnExactCombineVectors", fn := fun _ => fun
  | [d1, d2] => { results := [.lit (.bool false)], args := [d1, d2] }
  | _ => none }
def FnExactCombineVectorsWrongFalsely : Prop := fnExactCombineVectorsRow.holds Try.pinned (OpenSpec.ofChange fnExactCombineVectorsWrong)

/-- 'laws.FnExactCycleType': WHATEVER THE INPUT: true; the input reads as it did. -/
def fnExactCycleTypeSpec : ChangeSpec := { name := "fnExactCycleType", fn := fun _ => fun
  | [d] => { results := [.lit (.bool true)], args := [d] }
  | _ => none }
def fnExactCycleTypeRow : OpenClaim := { program := "ytdjohgfelmkooaa", sum := "3b21f9953d5f2f94a3b6fbb66c67e56d1a6d32500ee84a0e26711b80aa765133", func := "loop.example/g00598/laws.FnExactCycleType", spec := "fnExactCycleType", unfollowed := true, recurses := true, apart := false }
def FnExactCycleTypeSaid : Prop := fnExactCycleTypeRow.holds Try.pinned (OpenSpec.ofChange fnExactCycleTypeSpec)

/-- ITS FALSE NEIGHBOUR: 'it returns false'. Refute it at one input. -/
def fnExactCycleTypeWrong : ChangeSpec := { name := "fnExactCycleType", fn := fun _ => fun
  | [d] => { results := [.lit (.bool false)], args := [d] }
  | _ => none }
def FnExactCycleTypeWrongFalsely : Prop := fnExactCycleTypeRow.holds Try.pinned (OpenSpec.ofChange fnExactCycleTypeWrong)

/-- 'laws.FnExactCountOscillating': WHATEVER THE INPUT: true; the input reads as it did. -/
def fnExactCountOscillatingSpec : ChangeSpec := { name := "fnExactCountOscillating", fn := fun _ => fun
  | [d] => { results := [.lit (.bool true)], args := [d] }
  | _ => none }
def fnExactCountOscillatingRow : OpenClaim := { program := "ytdjohgfelmkooaa", sum := "3b21f9953d5f2f94a3b6fbb66c67e56d1a6d32500ee84a0e26711b80aa765133", func := "loop.example/g00598/laws.FnExactCountOscillating", spec := "fnExactCountOscillating", apart := false }
def FnExactCountOscillatingSaid : Prop := fnExactCountOscillatingRow.holds Try.pinned (OpenSpec.ofChange fnExactCountOscillatingSpec)

/-- ITS FALSE NEIGHBOUR: 'it returns false'. Refute it at one input. -/
def fnExactCountOscillatingWrong : ChangeSpec := { name := "fnExactCountOscillating", fn := fun _ => fun
  | [d] => { results := [.lit (.bool false)], args := [d] }
  | _ => none }
def FnExactCountOscillatingWrongFalsely : Prop := fnExactCountOscillatingRow.holds Try.pinned (OpenSpec.ofChange fnExactCountOscillatingWrong)

/-- 'laws.FnExactMajorOfTableau': WHATEVER THE INPUT: true; the input reads as it did. -/
def fnExactMajorOfTableauSpec : ChangeSpec := { name := "fnExactMajorOfTableau", fn := fun _ => fun
  | [d] => { results := [.lit (.bool true)], args := [d] }
  | _ => none }
def fnExactMajorOfTableauRow : OpenClaim := { program := "ytdjohgfelmkooaa", sum := "3b21f9953d5f2f94a3b6fbb66c67e56d1a6d32500ee84a0e26711b80aa765133", func := "loop.example/g00598/laws.FnExactMajorOfTableau", spec := "fnExactMajorOfTableau", unfollowed := true, recurses := true, apart := false }
def FnExactMajorOfTableauSaid : Prop := fnExactMajorOfTableauRow.holds Try.pinned (OpenSpec.ofChange fnExactMajorOfTableauSpec)

/-- ITS FALSE NEIGHBOUR: 'it returns false'. Refute it at one input. -/
def fnExactMajorOfTableauWrong : ChangeSpec := { name := "fnExactMajorOfTableau", fn := fun _ => fun
  | [d] => { results := [.lit (.bool false)], args := [d] }
  | _ => none }
def FnExactMajorOfTableauWrongFalsely : Prop := fnExactMajorOfTableauRow.holds Try.pinned (OpenSpec.ofChange fnExactMajorOfTableauWrong)

/- THE SECOND FORM. 'bulk': how many values and letters a reading holds, each counted each time it is reached (what is shared counts as often as it is met; a slice's spare places count too). A statement '..UptoSaid' is the law's where the arguments, and the package variables that the reading takes, are together of bulk at most 1048576: NARROWER than '..Said'. Prove '..Said' where nothing that the law and all that it calls make is longer than what came in: it says more and counts as full. Else prove '..UptoSaid'. A law counts once. -/
mutual
def uptoBulk {H : Type} : DataW H → Nat
  | .lit (.string bytes) => bytes.length + 1
  | .lit _ => 1
  | .nil => 1
  | .ptr d => uptoBulk d + 1
  | .slice elems spare => uptoBulkAll elems + uptoBulkAll spare + 1
  | .agg parts => uptoBulkAll parts + 1
  | .iface _ d => uptoBulk d + 1
  | .map entries => uptoBulkEntries entries + 1
  | .held _ => 1
def uptoBulkAll {H : Type} : List (DataW H) → Nat
  | [] => 0
  | d :: r => uptoBulk d + uptoBulkAll r
def uptoBulkEntries {H : Type} : List (Lit × DataW H) → Nat
  | [] => 0
  | x :: r => uptoBulkEntry x + uptoBulkEntries r
def uptoBulkEntry {H : Type} : Lit × DataW H → Nat
  | (.string bytes, d) => bytes.length + uptoBulk d + 1
  | (_, d) => uptoBulk d + 1
 end
def uptoSmall : (H : Type) → List (DataW H) → Bool := fun _ ds => decide (uptoBulkAll ds ≤ 1048576)
def OpenSpec.upto (s : _root_.Go.ChangeSpec) : _root_.Go.OpenSpec := { _root_.Go.OpenSpec.ofChange s with cond := some uptoSmall }

/-- 'laws.FnExactFromBeta', WHERE WHAT IT READS IS OF BULK AT MOST 1048576: true; the input reads as it did. -/
def fnExactFromBetaUptoRow : OpenClaim := { program := "ytdjohgfelmkooaa", sum := "3b21f9953d5f2f94a3b6fbb66c67e56d1a6d32500ee84a0e26711b80aa765133", func := "loop.example/g00598/laws.FnExactFromBeta", spec := "fnExactFromBeta", apart := false, narrowed := true }
def FnExactFromBetaUptoSaid : Prop := fnExactFromBetaUptoRow.holds Try.pinned (OpenSpec.upto fnExactFromBetaSpec)

/-- 'laws.FnExactQuotientOf', WHERE WHAT IT READS IS OF BULK AT MOST 1048576: true; the input reads as it did. -/
def fnExactQuotientOfUptoRow : OpenClaim := { program := "ytdjohgfelmkooaa", sum := "3b21f9953d5f2f94a3b6fbb66c67e56d1a6d32500ee84a0e26711b80aa765133", func := "loop.example/g00598/laws.FnExactQuotientOf", spec := "fnExactQuotientOf", apart := false, narrowed := true }
def FnExactQuotientOfUptoSaid : Prop := fnExactQuotientOfUptoRow.holds Try.pinned (OpenSpec.upto fnExactQuotientOfSpec)

/-- 'laws.FnExactCharacterTable', WHERE WHAT IT READS IS OF BULK AT MOST 1048576: true; the input reads as it did. -/
def fnExactCharacterTableUptoRow : OpenClaim := { program := "ytdjohgfelmkooaa", sum := "3b21f9953d5f2f94a3b6fbb66c67e56d1a6d32500ee84a0e26711b80aa765133", func := "loop.example/g00598/laws.FnExactCharacterTable", spec := "fnExactCharacterTable", unfollowed := true, recurses := true, apart := false, narrowed := true }
def FnExactCharacterTableUptoSaid : Prop := fnExactCharacterTableUptoRow.holds Try.pinned (OpenSpec.upto fnExactCharacterTableSpec)

/-- 'laws.FnExactCombineVectors', WHERE WHAT IT READS IS OF BULK AT MOST 1048576: true; the input reads as it did. -/
def fnExactCombineVectorsUptoRow : OpenClaim := { program := "ytdjohgfelmkooaa", sum := "3b21f9953d5f2f94a3b6fbb66c67e56d1a6d32500ee84a0e26711b80aa765133", func := "loop.example/g00598/laws.FnExactCombineVectors", spec := "fnExactCombineVectors", apart := false, narrowed := true }
def FnExactCombineVectorsUptoSaid : Prop := fnExactCombineVectorsUptoRow.holds Try.pinned (OpenSpec.upto fnExactCombineVectorsSpec)

/-- 'laws.FnExactCycleType', WHERE WHAT IT READS IS OF BULK AT MOST 1048576: true; the input reads as it did. -/
def fnExactCycleTypeUptoRow : OpenClaim := { program := "ytdjohgfelmkooaa", sum := "3b21f9953d5f2f94a3b6fbb66c67e56d1a6d32500ee84a0e26711b80aa765133", func := "loop.example/g00598/laws.FnExactCycleType", spec := "fnExactCycleType", unfollowed := true, recurses := true, apart := false, narrowed := true }
def FnExactCycleTypeUptoSaid : Prop := fnExactCycleTypeUptoRow.holds Try.pinned (OpenSpec.upto fnExactCycleTypeSpec)

/-- 'laws.FnExactCountOscillating', WHERE WHAT IT READS IS OF BULK AT MOST 1048576: true; the input reads as it did. -/
def fnExactCountOscillatingUptoRow : OpenClaim := { program := "ytdjohgfelmkooaa", sum := "3b21f9953d5f2f94a3b6fbb66c67e56d1a6d32500ee84a0e26711b80aa765133", func := "loop.example/g00598/laws.FnExactCountOscillating", spec := "fnExactCountOscillating", apart := false, narrowed := true }
def FnExactCountOscillatingUptoSaid : Prop := fnExactCountOscillatingUptoRow.holds Try.pinned (OpenSpec.upto fnExactCountOscillatingSpec)

/-- 'laws.FnExactMajorOfTableau', WHERE WHAT IT READS IS OF BULK AT MOST 1048576: true; the input reads as it did. -/
def fnExactMajorOfTableauUptoRow : OpenClaim := { program := "ytdjohgfelmkooaa", sum := "3b21f9953d5f2f94a3b6fbb66c67e56d1a6d32500ee84a0e26711b80aa765133", func := "loop.example/g00598/laws.FnExactMajorOfTableau", spec := "fnExactMajorOfTableau", unfollowed := true, recurses := true, apart := false, narrowed := true }
def FnExactMajorOfTableauUptoSaid : Prop := fnExactMajorOfTableauUptoRow.holds Try.pinned (OpenSpec.upto fnExactMajorOfTableauSpec)

end Rows
end Go.Proofs.Ytdjohgfelmkooaa
