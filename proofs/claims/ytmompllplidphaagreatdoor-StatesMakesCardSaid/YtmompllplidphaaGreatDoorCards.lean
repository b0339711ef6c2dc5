/-
  DERIVED. GIVEN WITH THE SEED: THE CARDS: each row of YtmompllplidphaaGreatDoorRows.lean that lists a variable, with what it lists TIED to the program's text (the seventh form; the later family's looks); each row that meets fmt, with fmt's text TOLD by the authors' own Lean function (tested against real Go, not proved from fmt's source: count such statements apart). THE CARD IS WHAT COUNTS. Prove the row's statement (the work); the ties are given (YtmompllplidphaaGreatDoorTie.lean); close each card by the builder's one call (the guide's Derived/Test/ToyasCard.lean, 'card_holds'). Laid BY PROGRAM, IN A SANDBOX (cutbox-door.mjs). By AI agents, Wed Nov 11 2026. No macro, syntax, notation, axiom, sorry.
-/
import Derived.Test.YtmompllplidphaaGreatDoorRows
import GoSem.ClaimSeven
namespace Go.Proofs.YtmompllplidphaaGreatDoor
namespace Rows

/-- THE TIED CARD OF 'galleylaw09.StatesMakes'. -/
def statesMakesCard : Claim7 := { stood := { row := statesMakesRow, standIns := [], harness := (true, "66d80a5834bd52db63885eb6a0c54e96d28f8fdbbefc0dd5b33dbc8a3daa3a9a"), looks := false }, kinds := [], alts := [], laidByText := true, laidKinds := [.data, .data, .data], laidTests := true, laidLooks := .later }
def StatesMakesCardSaid : Prop := Claim7.holds Tryz.pinned (.plain (OpenSpec.ofChange statesMakesSpec)) statesMakesCard

/-- THE TIED CARD OF 'galleylaw09.StatesUnlike'. -/
def statesUnlikeCard : Claim7 := { stood := { row := statesUnlikeRow, standIns := [], harness := (true, "66d80a5834bd52db63885eb6a0c54e96d28f8fdbbefc0dd5b33dbc8a3daa3a9a"), looks := false }, kinds := [], alts := [], laidByText := true, laidKinds := [.data, .data, .data], laidTests := true, laidLooks := .later }
def StatesUnlikeCardSaid : Prop := Claim7.holds Tryz.pinned (.plain (OpenSpec.ofChange statesUnlikeSpec)) statesUnlikeCard

/-- THE SECOND FORM's CARD OF 'galleylaw09.StatesMakes'. -/
def statesMakesUptoCard : Claim7 := { stood := { row := statesMakesUptoRow, standIns := [], harness := (true, "66d80a5834bd52db63885eb6a0c54e96d28f8fdbbefc0dd5b33dbc8a3daa3a9a"), looks := false }, kinds := [], alts := [], laidByText := true, laidKinds := [.data, .data, .data], laidTests := true, laidLooks := .later }
def StatesMakesUptoCardSaid : Prop := Claim7.holds Tryz.pinned (.plain (OpenSpec.upto statesMakesSpec)) statesMakesUptoCard

/-- THE SECOND FORM's CARD OF 'galleylaw09.StatesUnlike'. -/
def statesUnlikeUptoCard : Claim7 := { stood := { row := statesUnlikeUptoRow, standIns := [], harness := (true, "66d80a5834bd52db63885eb6a0c54e96d28f8fdbbefc0dd5b33dbc8a3daa3a9a"), looks := false }, kinds := [], alts := [], laidByText := true, laidKinds := [.data, .data, .data], laidTests := true, laidLooks := .later }
def StatesUnlikeUptoCardSaid : Prop := Claim7.holds Tryz.pinned (.plain (OpenSpec.upto statesUnlikeSpec)) statesUnlikeUptoCard
end Rows
end Go.Proofs.YtmompllplidphaaGreatDoor
