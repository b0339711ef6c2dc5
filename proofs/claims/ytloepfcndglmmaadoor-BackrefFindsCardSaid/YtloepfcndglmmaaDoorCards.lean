/-
  DERIVED. GIVEN WITH THE SEED: THE CARDS: each row of YtloepfcndglmmaaDoorRows.lean that lists a variable, with what it lists TIED to the program's text (the seventh form; the later family's looks); each row that meets fmt, with fmt's text TOLD by the authors' own Lean function (tested against real Go, not proved from fmt's source: count such statements apart). THE CARD IS WHAT COUNTS. Prove the row's statement (the work); the ties are given (YtloepfcndglmmaaDoorTie.lean); close each card by the builder's one call (the guide's Derived/Test/ToyasCard.lean, 'card_holds'). Laid BY PROGRAM, IN A SANDBOX (cutbox-door.mjs). By AI agents, Wed Nov 11 2026. No macro, syntax, notation, axiom, sorry.
-/
import Derived.Test.YtloepfcndglmmaaDoorRows
import GoSem.ClaimSeven
namespace Go.Proofs.YtloepfcndglmmaaDoor
namespace Rows

/-- THE TIED CARD OF 'galleylaw11.BackrefFuel'. -/
def backrefFuelCard : Claim7 := { stood := { row := backrefFuelRow, standIns := [], harness := (true, "3768190bd71132db5f74489e02add42a51937876367a4c14ffccea4bb3a58f88"), looks := false }, kinds := [], alts := [], laidByText := true, laidKinds := [.data], laidTests := true, laidLooks := .later }
def BackrefFuelCardSaid : Prop := Claim7.holds Tryd.pinned (.plain (OpenSpec.ofChange backrefFuelSpec)) backrefFuelCard

/-- THE TIED CARD OF 'galleylaw11.BackrefWithin'. -/
def backrefWithinCard : Claim7 := { stood := { row := backrefWithinRow, standIns := [], harness := (true, "3768190bd71132db5f74489e02add42a51937876367a4c14ffccea4bb3a58f88"), looks := false }, kinds := [], alts := [], laidByText := true, laidKinds := [.data], laidTests := true, laidLooks := .later }
def BackrefWithinCardSaid : Prop := Claim7.holds Tryd.pinned (.plain (OpenSpec.ofChange backrefWithinSpec)) backrefWithinCard

/-- THE TIED CARD OF 'galleylaw11.BackrefPlain'. -/
def backrefPlainCard : Claim7 := { stood := { row := backrefPlainRow, standIns := [], harness := (true, "3768190bd71132db5f74489e02add42a51937876367a4c14ffccea4bb3a58f88"), looks := false }, kinds := [], alts := [], laidByText := true, laidKinds := [.data], laidTests := true, laidLooks := .later }
def BackrefPlainCardSaid : Prop := Claim7.holds Tryd.pinned (.plain (OpenSpec.ofChange backrefPlainSpec)) backrefPlainCard

/-- THE TIED CARD OF 'galleylaw11.BackrefFinds'. -/
def backrefFindsCard : Claim7 := { stood := { row := backrefFindsRow, standIns := [], harness := (true, "3768190bd71132db5f74489e02add42a51937876367a4c14ffccea4bb3a58f88"), looks := false }, kinds := [], alts := [], laidByText := true, laidKinds := [.data, .data, .data, .data], laidTests := true, laidLooks := .later }
def BackrefFindsCardSaid : Prop := Claim7.holds Tryd.pinned (.plain (OpenSpec.ofChange backrefFindsSpec)) backrefFindsCard

/-- THE TIED CARD OF 'galleylaw11.BackrefTwice'. -/
def backrefTwiceCard : Claim7 := { stood := { row := backrefTwiceRow, standIns := [], harness := (true, "3768190bd71132db5f74489e02add42a51937876367a4c14ffccea4bb3a58f88"), looks := false }, kinds := [], alts := [], laidByText := true, laidKinds := [.data], laidTests := true, laidLooks := .later }
def BackrefTwiceCardSaid : Prop := Claim7.holds Tryd.pinned (.plain (OpenSpec.ofChange backrefTwiceSpec)) backrefTwiceCard

/-- THE SECOND FORM's CARD OF 'galleylaw11.BackrefFuel'. -/
def backrefFuelUptoCard : Claim7 := { stood := { row := backrefFuelUptoRow, standIns := [], harness := (true, "3768190bd71132db5f74489e02add42a51937876367a4c14ffccea4bb3a58f88"), looks := false }, kinds := [], alts := [], laidByText := true, laidKinds := [.data], laidTests := true, laidLooks := .later }
def BackrefFuelUptoCardSaid : Prop := Claim7.holds Tryd.pinned (.plain (OpenSpec.upto backrefFuelSpec)) backrefFuelUptoCard

/-- THE SECOND FORM's CARD OF 'galleylaw11.BackrefWithin'. -/
def backrefWithinUptoCard : Claim7 := { stood := { row := backrefWithinUptoRow, standIns := [], harness := (true, "3768190bd71132db5f74489e02add42a51937876367a4c14ffccea4bb3a58f88"), looks := false }, kinds := [], alts := [], laidByText := true, laidKinds := [.data], laidTests := true, laidLooks := .later }
def BackrefWithinUptoCardSaid : Prop := Claim7.holds Tryd.pinned (.plain (OpenSpec.upto backrefWithinSpec)) backrefWithinUptoCard

/-- THE SECOND FORM's CARD OF 'galleylaw11.BackrefPlain'. -/
def backrefPlainUptoCard : Claim7 := { stood := { row := backrefPlainUptoRow, standIns := [], harness := (true, "3768190bd71132db5f74489e02add42a51937876367a4c14ffccea4bb3a58f88"), looks := false }, kinds := [], alts := [], laidByText := true, laidKinds := [.data], laidTests := true, laidLooks := .later }
def BackrefPlainUptoCardSaid : Prop := Claim7.holds Tryd.pinned (.plain (OpenSpec.upto backrefPlainSpec)) backrefPlainUptoCard

/-- THE SECOND FORM's CARD OF 'galleylaw11.BackrefFinds'. -/
def backrefFindsUptoCard : Claim7 := { stood := { row := backrefFindsUptoRow, standIns := [], harness := (true, "3768190bd71132db5f74489e02add42a51937876367a4c14ffccea4bb3a58f88"), looks := false }, kinds := [], alts := [], laidByText := true, laidKinds := [.data, .data, .data, .data], laidTests := true, laidLooks := .later }
def BackrefFindsUptoCardSaid : Prop := Claim7.holds Tryd.pinned (.plain (OpenSpec.upto backrefFindsSpec)) backrefFindsUptoCard

/-- THE SECOND FORM's CARD OF 'galleylaw11.BackrefTwice'. -/
def backrefTwiceUptoCard : Claim7 := { stood := { row := backrefTwiceUptoRow, standIns := [], harness := (true, "3768190bd71132db5f74489e02add42a51937876367a4c14ffccea4bb3a58f88"), looks := false }, kinds := [], alts := [], laidByText := true, laidKinds := [.data], laidTests := true, laidLooks := .later }
def BackrefTwiceUptoCardSaid : Prop := Claim7.holds Tryd.pinned (.plain (OpenSpec.upto backrefTwiceSpec)) backrefTwiceUptoCard
end Rows
end Go.Proofs.YtloepfcndglmmaaDoor
