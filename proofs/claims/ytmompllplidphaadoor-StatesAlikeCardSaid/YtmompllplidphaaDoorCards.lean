/-
  DERIVED. GIVEN WITH THE SEED: THE CARDS: each row of YtmompllplidphaaDoorRows.lean that lists a variable, with what it lists TIED to the program's text (the seventh form; the later family's looks); each row that meets fmt, with fmt's text TOLD by the authors' own Lean function (tested against real Go, not proved from fmt's source: count such statements apart). THE CARD IS WHAT COUNTS. Prove the row's statement (the work); the ties are given (YtmompllplidphaaDoorTie.lean); close each card by the builder's one call (the guide's Derived/Test/ToyasCard.lean, 'card_holds'). Laid BY PROGRAM, IN A SANDBOX (cutbox-door.mjs). By AI agents, Wed Nov 11 2026. No macro, syntax, notation, axiom, sorry.
-/
import Derived.Test.YtmompllplidphaaDoorRows
import GoSem.ClaimSeven
namespace Go.Proofs.YtmompllplidphaaDoor
namespace Rows

/-- THE TIED CARD OF 'galleylaw09.StatesTakes'. -/
def statesTakesCard : Claim7 := { stood := { row := statesTakesRow, standIns := [], harness := (true, "786c7c662a98de1fdd7f6bf2b7eb235d62ba7d76e814eafc53e2baa74c5ab156"), looks := false }, kinds := [], alts := [], laidByText := true, laidKinds := [.data], laidTests := true, laidLooks := .later }
def StatesTakesCardSaid : Prop := Claim7.holds Tryd.pinned (.plain (OpenSpec.ofChange statesTakesSpec)) statesTakesCard

/-- THE TIED CARD OF 'galleylaw09.StatesMeans'. -/
def statesMeansCard : Claim7 := { stood := { row := statesMeansRow, standIns := [], harness := (true, "786c7c662a98de1fdd7f6bf2b7eb235d62ba7d76e814eafc53e2baa74c5ab156"), looks := false }, kinds := [], alts := [], laidByText := true, laidKinds := [.data], laidTests := true, laidLooks := .later }
def StatesMeansCardSaid : Prop := Claim7.holds Tryd.pinned (.plain (OpenSpec.ofChange statesMeansSpec)) statesMeansCard

/-- THE TIED CARD OF 'galleylaw09.StatesLeast'. -/
def statesLeastCard : Claim7 := { stood := { row := statesLeastRow, standIns := [], harness := (true, "786c7c662a98de1fdd7f6bf2b7eb235d62ba7d76e814eafc53e2baa74c5ab156"), looks := false }, kinds := [], alts := [], laidByText := true, laidKinds := [.data], laidTests := true, laidLooks := .later }
def StatesLeastCardSaid : Prop := Claim7.holds Tryd.pinned (.plain (OpenSpec.ofChange statesLeastSpec)) statesLeastCard

/-- THE TIED CARD OF 'galleylaw09.StatesAlike'. -/
def statesAlikeCard : Claim7 := { stood := { row := statesAlikeRow, standIns := [], harness := (true, "786c7c662a98de1fdd7f6bf2b7eb235d62ba7d76e814eafc53e2baa74c5ab156"), looks := false }, kinds := [], alts := [], laidByText := true, laidKinds := [.data], laidTests := true, laidLooks := .later }
def StatesAlikeCardSaid : Prop := Claim7.holds Tryd.pinned (.plain (OpenSpec.ofChange statesAlikeSpec)) statesAlikeCard

/-- THE SECOND FORM's CARD OF 'galleylaw09.StatesTakes'. -/
def statesTakesUptoCard : Claim7 := { stood := { row := statesTakesUptoRow, standIns := [], harness := (true, "786c7c662a98de1fdd7f6bf2b7eb235d62ba7d76e814eafc53e2baa74c5ab156"), looks := false }, kinds := [], alts := [], laidByText := true, laidKinds := [.data], laidTests := true, laidLooks := .later }
def StatesTakesUptoCardSaid : Prop := Claim7.holds Tryd.pinned (.plain (OpenSpec.upto statesTakesSpec)) statesTakesUptoCard

/-- THE SECOND FORM's CARD OF 'galleylaw09.StatesMeans'. -/
def statesMeansUptoCard : Claim7 := { stood := { row := statesMeansUptoRow, standIns := [], harness := (true, "786c7c662a98de1fdd7f6bf2b7eb235d62ba7d76e814eafc53e2baa74c5ab156"), looks := false }, kinds := [], alts := [], laidByText := true, laidKinds := [.data], laidTests := true, laidLooks := .later }
def StatesMeansUptoCardSaid : Prop := Claim7.holds Tryd.pinned (.plain (OpenSpec.upto statesMeansSpec)) statesMeansUptoCard

/-- THE SECOND FORM's CARD OF 'galleylaw09.StatesLeast'. -/
def statesLeastUptoCard : Claim7 := { stood := { row := statesLeastUptoRow, standIns := [], harness := (true, "786c7c662a98de1fdd7f6bf2b7eb235d62ba7d76e814eafc53e2baa74c5ab156"), looks := false }, kinds := [], alts := [], laidByText := true, laidKinds := [.data], laidTests := true, laidLooks := .later }
def StatesLeastUptoCardSaid : Prop := Claim7.holds Tryd.pinned (.plain (OpenSpec.upto statesLeastSpec)) statesLeastUptoCard

/-- THE SECOND FORM's CARD OF 'galleylaw09.StatesAlike'. -/
def statesAlikeUptoCard : Claim7 := { stood := { row := statesAlikeUptoRow, standIns := [], harness := (true, "786c7c662a98de1fdd7f6bf2b7eb235d62ba7d76e814eafc53e2baa74c5ab156"), looks := false }, kinds := [], alts := [], laidByText := true, laidKinds := [.data], laidTests := true, laidLooks := .later }
def StatesAlikeUptoCardSaid : Prop := Claim7.holds Tryd.pinned (.plain (OpenSpec.upto statesAlikeSpec)) statesAlikeUptoCard
end Rows
end Go.Proofs.YtmompllplidphaaDoor
