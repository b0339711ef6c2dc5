/-
  DERIVED. GIVEN WITH THE SEED: THE CARDS: each row of YtafbigmneipkiaaDoorRows.lean that lists a variable, with what it lists TIED to the program's text (the seventh form; the later family's looks); each row that meets fmt, with fmt's text TOLD by the authors' own Lean function (tested against real Go, not proved from fmt's source: count such statements apart). THE CARD IS WHAT COUNTS. Prove the row's statement (the work); the ties are given (YtafbigmneipkiaaDoorTie.lean); close each card by the builder's one call (the guide's Derived/Test/ToyasCard.lean, 'card_holds'). Laid BY PROGRAM, IN A SANDBOX (cutbox-door.mjs). By AI agents, Wed Nov 11 2026. No macro, syntax, notation, axiom, sorry.
-/
import Derived.Test.YtafbigmneipkiaaDoorRows
import GoSem.ClaimSeven
namespace Go.Proofs.YtafbigmneipkiaaDoor
namespace Rows

/-- THE TIED CARD OF 'galleylaw04.BracketParses'. -/
def bracketParsesCard : Claim7 := { stood := { row := bracketParsesRow, standIns := [], harness := (true, "2d1bebb94b694cfc48b991733db72e6a591403dc9dc90274d78baf21201f01a3"), looks := false }, kinds := [], alts := [], laidByText := true, laidKinds := [.data, .data], laidTests := true, laidLooks := .later }
def BracketParsesCardSaid : Prop := Claim7.holds Tryd.pinned (.plain (OpenSpec.ofChange bracketParsesSpec)) bracketParsesCard

/-- THE TIED CARD OF 'galleylaw04.BracketBack'. -/
def bracketBackCard : Claim7 := { stood := { row := bracketBackRow, standIns := [], harness := (true, "2d1bebb94b694cfc48b991733db72e6a591403dc9dc90274d78baf21201f01a3"), looks := false }, kinds := [], alts := [], laidByText := true, laidKinds := [.data, .data], laidTests := true, laidLooks := .later }
def BracketBackCardSaid : Prop := Claim7.holds Tryd.pinned (.plain (OpenSpec.ofChange bracketBackSpec)) bracketBackCard

/-- THE TIED CARD OF 'galleylaw04.BracketItems'. -/
def bracketItemsCard : Claim7 := { stood := { row := bracketItemsRow, standIns := [], harness := (true, "2d1bebb94b694cfc48b991733db72e6a591403dc9dc90274d78baf21201f01a3"), looks := false }, kinds := [], alts := [], laidByText := true, laidKinds := [.data, .data], laidTests := true, laidLooks := .later }
def BracketItemsCardSaid : Prop := Claim7.holds Tryd.pinned (.plain (OpenSpec.ofChange bracketItemsSpec)) bracketItemsCard

/-- THE TIED CARD OF 'galleylaw04.BracketCut'. -/
def bracketCutCard : Claim7 := { stood := { row := bracketCutRow, standIns := [], harness := (true, "2d1bebb94b694cfc48b991733db72e6a591403dc9dc90274d78baf21201f01a3"), looks := false }, kinds := [], alts := [], laidByText := true, laidKinds := [.data, .data], laidTests := true, laidLooks := .later }
def BracketCutCardSaid : Prop := Claim7.holds Tryd.pinned (.plain (OpenSpec.ofChange bracketCutSpec)) bracketCutCard

/-- THE TIED CARD OF 'galleylaw04.BracketPrints'. -/
def bracketPrintsCard : Claim7 := { stood := { row := bracketPrintsRow, standIns := [], harness := (true, "2d1bebb94b694cfc48b991733db72e6a591403dc9dc90274d78baf21201f01a3"), looks := false }, kinds := [], alts := [], laidByText := true, laidKinds := [.data, .data, .data, .data], laidTests := true, laidLooks := .later }
def BracketPrintsCardSaid : Prop := Claim7.holds Tryd.pinned (.plain (OpenSpec.ofChange bracketPrintsSpec)) bracketPrintsCard

/-- THE SECOND FORM's CARD OF 'galleylaw04.BracketParses'. -/
def bracketParsesUptoCard : Claim7 := { stood := { row := bracketParsesUptoRow, standIns := [], harness := (true, "2d1bebb94b694cfc48b991733db72e6a591403dc9dc90274d78baf21201f01a3"), looks := false }, kinds := [], alts := [], laidByText := true, laidKinds := [.data, .data], laidTests := true, laidLooks := .later }
def BracketParsesUptoCardSaid : Prop := Claim7.holds Tryd.pinned (.plain (OpenSpec.upto bracketParsesSpec)) bracketParsesUptoCard

/-- THE SECOND FORM's CARD OF 'galleylaw04.BracketBack'. -/
def bracketBackUptoCard : Claim7 := { stood := { row := bracketBackUptoRow, standIns := [], harness := (true, "2d1bebb94b694cfc48b991733db72e6a591403dc9dc90274d78baf21201f01a3"), looks := false }, kinds := [], alts := [], laidByText := true, laidKinds := [.data, .data], laidTests := true, laidLooks := .later }
def BracketBackUptoCardSaid : Prop := Claim7.holds Tryd.pinned (.plain (OpenSpec.upto bracketBackSpec)) bracketBackUptoCard

/-- THE SECOND FORM's CARD OF 'galleylaw04.BracketItems'. -/
def bracketItemsUptoCard : Claim7 := { stood := { row := bracketItemsUptoRow, standIns := [], harness := (true, "2d1bebb94b694cfc48b991733db72e6a591403dc9dc90274d78baf21201f01a3"), looks := false }, kinds := [], alts := [], laidByText := true, laidKinds := [.data, .data], laidTests := true, laidLooks := .later }
def BracketItemsUptoCardSaid : Prop := Claim7.holds Tryd.pinned (.plain (OpenSpec.upto bracketItemsSpec)) bracketItemsUptoCard

/-- THE SECOND FORM's CARD OF 'galleylaw04.BracketCut'. -/
def bracketCutUptoCard : Claim7 := { stood := { row := bracketCutUptoRow, standIns := [], harness := (true, "2d1bebb94b694cfc48b991733db72e6a591403dc9dc90274d78baf21201f01a3"), looks := false }, kinds := [], alts := [], laidByText := true, laidKinds := [.data, .data], laidTests := true, laidLooks := .later }
def BracketCutUptoCardSaid : Prop := Claim7.holds Tryd.pinned (.plain (OpenSpec.upto bracketCutSpec)) bracketCutUptoCard

/-- THE SECOND FORM's CARD OF 'galleylaw04.BracketPrints'. -/
def bracketPrintsUptoCard : Claim7 := { stood := { row := bracketPrintsUptoRow, standIns := [], harness := (true, "2d1bebb94b694cfc48b991733db72e6a591403dc9dc90274d78baf21201f01a3"), looks := false }, kinds := [], alts := [], laidByText := true, laidKinds := [.data, .data, .data, .data], laidTests := true, laidLooks := .later }
def BracketPrintsUptoCardSaid : Prop := Claim7.holds Tryd.pinned (.plain (OpenSpec.upto bracketPrintsSpec)) bracketPrintsUptoCard
end Rows
end Go.Proofs.YtafbigmneipkiaaDoor
