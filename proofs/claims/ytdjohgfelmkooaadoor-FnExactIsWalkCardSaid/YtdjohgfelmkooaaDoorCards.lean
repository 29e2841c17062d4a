/-
  DERIVED. GIVEN WITH THE SEED: THE CARDS: each row of YtdjohgfelmkooaaDoorRows.lean that lists a variable, with what it lists TIED to the program's text (the seventh form; the later family's looks); each row that meets fmt, with fmt's text TOLD by the authors' own Lean function (tested against real Go, not proved from fmt's source: count such statements apart). THE CARD IS WHAT COUNTS. Prove the row's statement (the work); the ties are given (YtdjohgfelmkooaaDoorTie.lean); close each card by the builder's one call (the guide's Derived/Test/ToyasCard.lean, 'card_holds'). Laid BY PROGRAM, IN A SANDBOX (cutbox-door.mjs). By AI agents, Wed Nov 11 2026. No macro, syntax, notation, axiom, sorry.
-/
import Derived.Test.YtdjohgfelmkooaaDoorRows
import GoSem.ClaimSeven
namespace Go.Proofs.YtdjohgfelmkooaaDoor
namespace Rows

/-- THE TIED CARD OF 'laws.FnExactIsWalk'. -/
def fnExactIsWalkCard : Claim7 := { stood := { row := fnExactIsWalkRow, standIns := [], harness := (true, "61604163b4cb8b8eb0c688b948bcb37ed19f33718bf2ed169c8420f9883b7948"), looks := false }, kinds := [], alts := [], laidByText := true, laidKinds := [.data, .pinned], laidTests := true, laidLooks := .later }
def FnExactIsWalkCardSaid : Prop := Claim7.holds Tryd.pinned (.plain (OpenSpec.ofChange fnExactIsWalkSpec)) fnExactIsWalkCard

/-- THE SECOND FORM's CARD OF 'laws.FnExactIsWalk'. -/
def fnExactIsWalkUptoCard : Claim7 := { stood := { row := fnExactIsWalkUptoRow, standIns := [], harness := (true, "61604163b4cb8b8eb0c688b948bcb37ed19f33718bf2ed169c8420f9883b7948"), looks := false }, kinds := [], alts := [], laidByText := true, laidKinds := [.data, .pinned], laidTests := true, laidLooks := .later }
def FnExactIsWalkUptoCardSaid : Prop := Claim7.holds Tryd.pinned (.plain (OpenSpec.upto fnExactIsWalkSpec)) fnExactIsWalkUptoCard
end Rows
end Go.Proofs.YtdjohgfelmkooaaDoor
