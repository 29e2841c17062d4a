/-
  DERIVED. GIVEN WITH THE SEED: THE CARDS: each row of YtneipehcmmigeaaDoorRows.lean that lists a variable, with what it lists TIED to the program's text (the seventh form; the later family's looks); each row that meets fmt, with fmt's text TOLD by the authors' own Lean function (tested against real Go, not proved from fmt's source: count such statements apart). THE CARD IS WHAT COUNTS. Prove the row's statement (the work); the ties are given (YtneipehcmmigeaaDoorTie.lean); close each card by the builder's one call (the guide's Derived/Test/ToyasCard.lean, 'card_holds'). Laid BY PROGRAM, IN A SANDBOX (cutbox-door.mjs). By AI agents, Wed Nov 11 2026. No macro, syntax, notation, axiom, sorry.
-/
import Derived.Test.YtneipehcmmigeaaDoorRows
import GoSem.ClaimSeven
namespace Go.Proofs.YtneipehcmmigeaaDoor
namespace Rows

/-- THE TIED CARD OF 'laws.FnExactCountWalks'. -/
def fnExactCountWalksCard : Claim7 := { stood := { row := fnExactCountWalksRow, standIns := [], harness := (true, "8347595b15ba2bbbd2ef60c4499600045489311de401bb7168a92458e2f3b5d1"), looks := false }, kinds := [], alts := [], laidByText := true, laidKinds := [.data, .data, .data, .data, .pinned], laidTests := true, laidLooks := .later }
def FnExactCountWalksCardSaid : Prop := Claim7.holds Tryd.pinned (.plain (OpenSpec.ofChange fnExactCountWalksSpec)) fnExactCountWalksCard

/-- THE TIED CARD OF 'laws.FnExactCompleteOfSchur'. -/
def fnExactCompleteOfSchurCard : Claim7 := { stood := { row := fnExactCompleteOfSchurRow, standIns := [], harness := (true, "8347595b15ba2bbbd2ef60c4499600045489311de401bb7168a92458e2f3b5d1"), looks := false }, kinds := [], alts := [], laidByText := true, laidKinds := [.data, .data, .data], laidTests := true, laidLooks := .later }
def FnExactCompleteOfSchurCardSaid : Prop := Claim7.holds Tryd.pinned (.plain (OpenSpec.ofChange fnExactCompleteOfSchurSpec)) fnExactCompleteOfSchurCard

/-- THE SECOND FORM's CARD OF 'laws.FnExactCountWalks'. -/
def fnExactCountWalksUptoCard : Claim7 := { stood := { row := fnExactCountWalksUptoRow, standIns := [], harness := (true, "8347595b15ba2bbbd2ef60c4499600045489311de401bb7168a92458e2f3b5d1"), looks := false }, kinds := [], alts := [], laidByText := true, laidKinds := [.data, .data, .data, .data, .pinned], laidTests := true, laidLooks := .later }
def FnExactCountWalksUptoCardSaid : Prop := Claim7.holds Tryd.pinned (.plain (OpenSpec.upto fnExactCountWalksSpec)) fnExactCountWalksUptoCard

/-- THE SECOND FORM's CARD OF 'laws.FnExactCompleteOfSchur'. -/
def fnExactCompleteOfSchurUptoCard : Claim7 := { stood := { row := fnExactCompleteOfSchurUptoRow, standIns := [], harness := (true, "8347595b15ba2bbbd2ef60c4499600045489311de401bb7168a92458e2f3b5d1"), looks := false }, kinds := [], alts := [], laidByText := true, laidKinds := [.data, .data, .data], laidTests := true, laidLooks := .later }
def FnExactCompleteOfSchurUptoCardSaid : Prop := Claim7.holds Tryd.pinned (.plain (OpenSpec.upto fnExactCompleteOfSchurSpec)) fnExactCompleteOfSchurUptoCard
end Rows
end Go.Proofs.YtneipehcmmigeaaDoor
