/-
  No cell of these rows narrows 'for every input' (looked for: loops, veiled, ifaces, maps, wideKeys, modest, calm, conditions, laid).
  DERIVED. THE GIVEN ROWS OF THIS SEAT. 4 by the template 'for every input the law returns true; each argument reads behind the call as it read before'; 0 by the template 'total and deterministic' (their statements: YtneipehcmmigeaaTotals.lean).
  GIVEN WITH THE SEED: the statements are not yours to turn. If you find one false, say at which input.
  Laid BY PROGRAM, IN A SANDBOX (cutbox-rows.mjs): the forced cells as the released guide's own fill.sh prints them over the translation 3ee38671c1d0b2f8… (all of the seat's roots in one cut). By AI agents, Wed Nov 11 2026. No macro, syntax, notation, axiom, sorry.
-/
import Derived.Test.YtneipehcmmigeaaChecked
import GoSem.Claim
import GoSem.ClaimJoined
import GoSem.ClaimMapViews
import Derived.JoinedTies
import Derived.KernelRfl
namespace Go.Proofs.Ytneipehcmmigeaa
/- THE CELL 'sum', in the pinned program and in every row, IS THE sha256 OF THE DUMP (.gsa) THAT YtneipehcmmigeaaProg.lean LOADS. Nothing in Lean hashes anything: it is a label: what it is worth is what the hold of that sum in a sandbox is worth. -/
noncomputable def Try.pinned : Pinned := { name := "ytneipehcmmigeaa", sum := "3ee38671c1d0b2f8535721faefb79e7ebabdd7ae410a1ec1d1b4cb0e4557cd06", checked := Try.checked }
namespace Rows
def none {H : Type} : Left H := { results := [], args := [] }

/-- 'laws.FnExactTimesPolys': WHATEVER THE INPUT: true; the input reads as it did. -/
def fnExactTimesPolysSpec : ChangeSpec := { name := "fnExactTimesPolys", fn := fun _ => fun
  | [d1, d2] => { results := [.lit (.bool true)], args := [d1, d2] }
  | _ => none }
def fnExactTimesPolysRow : OpenClaim := { program := "ytneipehcmmigeaa", sum := "3ee38671c1d0b2f8535721faefb79e7ebabdd7ae410a1ec1d1b4cb0e4557cd06", func := "loop.example/g00598/laws.FnExactTimesPolys", spec := "fnExactTimesPolys", unfollowed := true, recurses := true, apart := false }
def FnExactTimesPolysSaid : Prop := fnExactTimesPolysRow.holds Try.pinned (OpenSpec.ofChange fnExactTimesPolysSpec)

/-- ITS FALSE NEIGHBOUR: 'it returns false'. Refute it at one input. -/
def fnExactTimesPolysWrong : ChangeSpec := { name := "fnExactTimesPolys", fn := fun _ => fun
  | [d1, d2] => { results := [.lit (.bool false)], args := [d1, d2] }
  | _ => none }
def FnExactTimesPolysWrongFalsely : Prop := fnExactTimesPolysRow.holds Try.pinned (OpenSpec.ofChange fnExactTimesPolysWrong)

/-- 'laws.FnExactCountTableaux': WHATEVER THE INPUT: true; the input reads as it did. -/
def fnExactCountTableauxSpec : ChangeSpec := { name := "fnExactCountTableaux", fn := fun _ => fun
  | [d1, d2] => { results := [.lit (.bool true)], args := [d1, d2] }
  | _ => none }
def fnExactCountTableauxRow : OpenClaim := { program := "ytneipehcmmigeaa", sum := "3ee38671c1d0b2f8535721faefb79e7ebabdd7ae410a1ec1d1b4cb0e4557cd06", func := "loop.example/g00598/laws.FnExactCountTableaux", spec := "fnExactCountTableaux", unfollowed := true, recurses := true, apart := false }
def FnExactCountTableauxSaid : Prop := fnExactCountTableauxRow.holds Try.pinned (OpenSpec.ofChange fnExactCountTableauxSpec)

/-- ITS FALSE NEIGHBOUR: 'it returns false'. Refute it at one input. -/
def fnExactCountTableauxWrong : ChangeSpec := { name := "fnExactCountTableaux", fn := fun _ => fun
  | [d1, d2] => { results := [.lit (.bool false)], args := [d1, d2] }
  | _ => none }
def FnExactCountTableauxWrongFalsely : Prop := fnExactCountTableauxRow.holds Try.pinned (OpenSpec.ofChange fnExactCountTableauxWrong)

/-- 'laws.FnExactAddPolys': WHATEVER THE INPUT: true; the input reads as it did. -/
def fnExactAddPolysSpec : ChangeSpec := { name := "fnExactAddPolys", fn := fun _ => fun
  | [d1, d2] => { results := [.lit (.bool true)], args := [d1, d2] }
  | _ => none }
def fnExactAddPolysRow : OpenClaim := { program := "ytneipehcmmigeaa", sum := "3ee38671c1d0b2f8535721faefb79e7ebabdd7ae410a1ec1d1b4cb0e4557cd06", func := "loop.example/g00598/laws.FnExactAddPolys", spec := "fnExactAddPolys", unfollowed := true, recurses := true, apart := false }
def FnExactAddPolysSaid : Prop := fnExactAddPolysRow.holds Try.pinned (OpenSpec.ofChange fnExactAddPolysSpec)

/-- ITS FALSE NEIGHBOUR: 'it returns false'. Refute it at one input. -/
def fnExactAddPolysWrong : ChangeSpec := { name := "fnExactAddPolys", fn := fun _ => fun
  | [d1, d2] => { results := [.lit (.bool false)], args := [d1, d2] }
  | _ => none }
def FnExactAddPolysWrongFalsely : Prop := fnExactAddPolysRow.holds Try.pinned (OpenSpec.ofChange fnExactAddPolysWrong)

/-- 'laws.FnExactSchurPoly': WHATEVER THE INPUT: true; the input reads as it did. -/
def fnExactSchurPolySpec : ChangeSpec := { name := "fnExactSchurPoly", fn := fun _ => fun
  | [d1, d2] => { results := [.lit (.bool true)], args := [d1, d2] }
  | _ => none }
def fnExactSchurPolyRow : OpenClaim := { program := "ytneipehcmmigeaa", sum := "3ee38671c1d0b2f8535721faefb79e7ebabdd7ae410a1ec1d1b4cb0e4557cd06", func := "loop.example/g00598/laws.FnExactSchurPoly", spec := "fnExactSchurPoly", unfollowed := true, recurses := true, apart := false }
def FnExactSchurPolySaid : Prop := fnExactSchurPolyRow.holds Try.pinned (OpenSpec.ofChange fnExactSchurPolySpec)

/-- ITS FALSE NEIGHBOUR: 'it returns false'. Refute it at one input. -/
def fnExactSchurPolyWrong : ChangeSpec := { name := "fnExactSchurPoly", fn := fun _ => fun
  | [d1, d2] => { results := [.lit (.bool false)], args := [d1, d2] }
  | _ => none }
def FnExactSchurPolyWrongFalsely : Prop := fnExactSchurPolyRow.holds Try.pinned (OpenSpec.ofChange fnExactSchurPolyWrong)

/- THE SECOND FORM. 'bulk': how many values and letters a reading holds, each counted each time it is reached (what is shared counts as often as it is met; a slice's spare places count too). A statement '..UptoSaid' is the law's where the arguments, and the package variables that the reading takes, are together of bulk at most 1048576: NARROWER than '..Said'. Prove '..Said' where nothing that the law and all that it calls make is longer than what came in: it says more and counts as full. Else prove '..UptoSaid'. A law counts once. -/
mutual
def uptoBulk {H : Type} : DataW H → Nat
  | .lit (.string bytes) => bytes.length + 1
  | .lit _ => 1
  | .nil => 1
  | .ptr d => uptoBulk d + 1
  | .slice elems spare => uptoBulkAll elems + uptoBulkAll spare + 1
  | .agg parts => uptoBulkAll parts + 1
  | .iface _ d => uptoBulk d + 1
  | .map entries => uptoBulkEntries entries + 1
  | .held _ => 1
def uptoBulkAll {H : Type} : List (DataW H) → Nat
  | [] => 0
  | d :: r => uptoBulk d + uptoBulkAll r
def uptoBulkEntries {H : Type} : List (Lit × DataW H) → Nat
  | [] => 0
  | x :: r => uptoBulkEntry x + uptoBulkEntries r
def uptoBulkEntry {H : Type} : Lit × DataW H → Nat
  | (.string bytes, d) => bytes.length + uptoBulk d + 1
  | (_, d) => uptoBulk d + 1
 end
def uptoSmall : (H : Type) → List (DataW H) → Bool := fun _ ds => decide (uptoBulkAll ds ≤ 1048576)
def OpenSpec.upto (s : _root_.Go.ChangeSpec) : _root_.Go.OpenSpec := { _root_.Go.OpenSpec.ofChange s with cond := some uptoSmall }

/-- 'laws.FnExactTimesPolys', WHERE WHAT IT READS IS OF BULK AT MOST 1048576: true; the input reads as it did. -/
def fnExactTimesPolysUptoRow : OpenClaim := { program := "ytneipehcmmigeaa", sum := "3ee38671c1d0b2f8535721faefb79e7ebabdd7ae410a1ec1d1b4cb0e4557cd06", func := "loop.example/g00598/laws.FnExactTimesPolys", spec := "fnExactTimesPolys", unfollowed := true, recurses := true, apart := false, narrowed := true }
def FnExactTimesPolysUptoSaid : Prop := fnExactTimesPolysUptoRow.holds Try.pinned (OpenSpec.upto fnExactTimesPolysSpec)

/-- 'laws.FnExactCountTableaux', WHERE WHAT IT READS IS OF BULK AT MOST 1048576: true; the input reads as it did. -/
def fnExactCountTableauxUptoRow : OpenClaim := { program := "ytneipehcmmigeaa", sum := "3ee38671c1d0b2f8535721faefb79e7ebabdd7ae410a1ec1d1b4cb0e4557cd06", func := "loop.example/g00598/laws.FnExactCountTableaux", spec := "fnExactCountTableaux", unfollowed := true, recurses := true, apart := false, narrowed := true }
def FnExactCountTableauxUptoSaid : Prop := fnExactCountTableauxUptoRow.holds Try.pinned (OpenSpec.upto fnExactCountTableauxSpec)

/-- 'laws.FnExactAddPolys', WHERE WHAT IT READS IS OF BULK AT MOST 1048576: true; the input reads as it did. -/
def fnExactAddPolysUptoRow : OpenClaim := { program := "ytneipehcmmigeaa", sum := "3ee38671c1d0b2f8535721faefb79e7ebabdd7ae410a1ec1d1b4cb0e4557cd06", func := "loop.example/g00598/laws.FnExactAddPolys", spec := "fnExactAddPolys", unfollowed := true, recurses := true, apart := false, narrowed := true }
def FnExactAddPolysUptoSaid : Prop := fnExactAddPolysUptoRow.holds Try.pinned (OpenSpec.upto fnExactAddPolysSpec)

/-- 'laws.FnExactSchurPoly', WHERE WHAT IT READS IS OF BULK AT MOST 1048576: true; the input reads as it did. -/
def fnExactSchurPolyUptoRow : OpenClaim := { program := "ytneipehcmmigeaa", sum := "3ee38671c1d0b2f8535721faefb79e7ebabdd7ae410a1ec1d1b4cb0e4557cd06", func := "loop.example/g00598/laws.FnExactSchurPoly", spec := "fnExactSchurPoly", unfollowed := true, recurses := true, apart := false, narrowed := true }
def FnExactSchurPolyUptoSaid : Prop := fnExactSchurPolyUptoRow.holds Try.pinned (OpenSpec.upto fnExactSchurPolySpec)

end Rows
end Go.Proofs.Ytneipehcmmigeaa
