/-
  DERIVED. GIVEN WITH THE SEED: THE CARDS: each row of YtopmnmigpbdddaaGreatDoorRows.lean that lists a variable, with what it lists TIED to the program's text (the seventh form; the later family's looks); each row that meets fmt, with fmt's text TOLD by the authors' own Lean function (tested against real Go, not proved from fmt's source: count such statements apart). THE CARD IS WHAT COUNTS. Prove the row's statement (the work); the ties are given (YtopmnmigpbdddaaGreatDoorTie.lean); close each card by the builder's one call (the guide's Derived/Test/ToyasCard.lean, 'card_holds'). Laid BY PROGRAM, IN A SANDBOX (cutbox-door.mjs). By AI agents, Wed Nov 11 2026. No macro, syntax, notation, axiom, sorry.
-/
import Derived.Test.YtopmnmigpbdddaaGreatDoorRows
import GoSem.ClaimSeven
namespace Go.Proofs.YtopmnmigpbdddaaGreatDoor
namespace Rows

/-- THE TIED CARD OF 'galleylaw12.RegexMeans'. -/
def regexMeansCard : Claim7 := { stood := { row := regexMeansRow, standIns := [], harness := (true, "fcad763f301aaccd16b9b05756bcc185cb78841db85c5ae1c1d52a09590c4fcc"), looks := true }, kinds := [], alts := [], laidByText := true, laidKinds := [.data], laidTests := true, laidLooks := .later }
def RegexMeansCardSaid : Prop := Claim7.holds Tryz.pinned (.plain (OpenSpec.ofChange regexMeansSpec)) regexMeansCard

/-- THE TIED CARD OF 'galleylaw12.RegexTower'. -/
def regexTowerCard : Claim7 := { stood := { row := regexTowerRow, standIns := [], harness := (true, "fcad763f301aaccd16b9b05756bcc185cb78841db85c5ae1c1d52a09590c4fcc"), looks := true }, kinds := [], alts := [], laidByText := true, laidKinds := [.data], laidTests := true, laidLooks := .later }
def RegexTowerCardSaid : Prop := Claim7.holds Tryz.pinned (.plain (OpenSpec.ofChange regexTowerSpec)) regexTowerCard

/-- THE TIED CARD OF 'galleylaw12.RegexRow'. -/
def regexRowCard : Claim7 := { stood := { row := regexRowRow, standIns := [], harness := (true, "fcad763f301aaccd16b9b05756bcc185cb78841db85c5ae1c1d52a09590c4fcc"), looks := true }, kinds := [], alts := [], laidByText := true, laidKinds := [.data], laidTests := true, laidLooks := .later }
def RegexRowCardSaid : Prop := Claim7.holds Tryz.pinned (.plain (OpenSpec.ofChange regexRowSpec)) regexRowCard

/-- THE TIED CARD OF 'galleylaw12.RegexFinds'. -/
def regexFindsCard : Claim7 := { stood := { row := regexFindsRow, standIns := [], harness := (true, "fcad763f301aaccd16b9b05756bcc185cb78841db85c5ae1c1d52a09590c4fcc"), looks := true }, kinds := [], alts := [], laidByText := true, laidKinds := [.data, .data, .data, .data], laidTests := true, laidLooks := .later }
def RegexFindsCardSaid : Prop := Claim7.holds Tryz.pinned (.plain (OpenSpec.ofChange regexFindsSpec)) regexFindsCard

/-- THE TIED CARD OF 'galleylaw12.RegexMakes'. -/
def regexMakesCard : Claim7 := { stood := { row := regexMakesRow, standIns := [], harness := (true, "fcad763f301aaccd16b9b05756bcc185cb78841db85c5ae1c1d52a09590c4fcc"), looks := true }, kinds := [], alts := [], laidByText := true, laidKinds := [.data, .data, .data, .data], laidTests := true, laidLooks := .later }
def RegexMakesCardSaid : Prop := Claim7.holds Tryz.pinned (.plain (OpenSpec.ofChange regexMakesSpec)) regexMakesCard

/-- THE TIED CARD OF 'galleylaw12.RegexAlls'. -/
def regexAllsCard : Claim7 := { stood := { row := regexAllsRow, standIns := [], harness := (true, "fcad763f301aaccd16b9b05756bcc185cb78841db85c5ae1c1d52a09590c4fcc"), looks := true }, kinds := [], alts := [], laidByText := true, laidKinds := [.data, .data, .data, .data], laidTests := true, laidLooks := .later }
def RegexAllsCardSaid : Prop := Claim7.holds Tryz.pinned (.plain (OpenSpec.ofChange regexAllsSpec)) regexAllsCard

/-- THE SECOND FORM's CARD OF 'galleylaw12.RegexMeans'. -/
def regexMeansUptoCard : Claim7 := { stood := { row := regexMeansUptoRow, standIns := [], harness := (true, "fcad763f301aaccd16b9b05756bcc185cb78841db85c5ae1c1d52a09590c4fcc"), looks := true }, kinds := [], alts := [], laidByText := true, laidKinds := [.data], laidTests := true, laidLooks := .later }
def RegexMeansUptoCardSaid : Prop := Claim7.holds Tryz.pinned (.plain (OpenSpec.upto regexMeansSpec)) regexMeansUptoCard

/-- THE SECOND FORM's CARD OF 'galleylaw12.RegexTower'. -/
def regexTowerUptoCard : Claim7 := { stood := { row := regexTowerUptoRow, standIns := [], harness := (true, "fcad763f301aaccd16b9b05756bcc185cb78841db85c5ae1c1d52a09590c4fcc"), looks := true }, kinds := [], alts := [], laidByText := true, laidKinds := [.data], laidTests := true, laidLooks := .later }
def RegexTowerUptoCardSaid : Prop := Claim7.holds Tryz.pinned (.plain (OpenSpec.upto regexTowerSpec)) regexTowerUptoCard

/-- THE SECOND FORM's CARD OF 'galleylaw12.RegexRow'. -/
def regexRowUptoCard : Claim7 := { stood := { row := regexRowUptoRow, standIns := [], harness := (true, "fcad763f301aaccd16b9b05756bcc185cb78841db85c5ae1c1d52a09590c4fcc"), looks := true }, kinds := [], alts := [], laidByText := true, laidKinds := [.data], laidTests := true, laidLooks := .later }
def RegexRowUptoCardSaid : Prop := Claim7.holds Tryz.pinned (.plain (OpenSpec.upto regexRowSpec)) regexRowUptoCard

/-- THE SECOND FORM's CARD OF 'galleylaw12.RegexFinds'. -/
def regexFindsUptoCard : Claim7 := { stood := { row := regexFindsUptoRow, standIns := [], harness := (true, "fcad763f301aaccd16b9b05756bcc185cb78841db85c5ae1c1d52a09590c4fcc"), looks := true }, kinds := [], alts := [], laidByText := true, laidKinds := [.data, .data, .data, .data], laidTests := true, laidLooks := .later }
def RegexFindsUptoCardSaid : Prop := Claim7.holds Tryz.pinned (.plain (OpenSpec.upto regexFindsSpec)) regexFindsUptoCard

/-- THE SECOND FORM's CARD OF 'galleylaw12.RegexMakes'. -/
def regexMakesUptoCard : Claim7 := { stood := { row := regexMakesUptoRow, standIns := [], harness := (true, "fcad763f301aaccd16b9b05756bcc185cb78841db85c5ae1c1d52a09590c4fcc"), looks := true }, kinds := [], alts := [], laidByText := true, laidKinds := [.data, .data, .data, .data], laidTests := true, laidLooks := .later }
def RegexMakesUptoCardSaid : Prop := Claim7.holds Tryz.pinned (.plain (OpenSpec.upto regexMakesSpec)) regexMakesUptoCard

/-- THE SECOND FORM's CARD OF 'galleylaw12.RegexAlls'. -/
def regexAllsUptoCard : Claim7 := { stood := { row := regexAllsUptoRow, standIns := [], harness := (true, "fcad763f301aaccd16b9b05756bcc185cb78841db85c5ae1c1d52a09590c4fcc"), looks := true }, kinds := [], alts := [], laidByText := true, laidKinds := [.data, .data, .data, .data], laidTests := true, laidLooks := .later }
def RegexAllsUptoCardSaid : Prop := Claim7.holds Tryz.pinned (.plain (OpenSpec.upto regexAllsSpec)) regexAllsUptoCard
end Rows
end Go.Proofs.YtopmnmigpbdddaaGreatDoor
