/-
  DERIVED. GIVEN WITH THE SEED: THE CARDS: each row of YtnjjkkncoijmmaaDoorRows.lean that lists a variable, with what it lists TIED to the program's text (the seventh form; the later family's looks); each row that meets fmt, with fmt's text TOLD by the authors' own Lean function (tested against real Go, not proved from fmt's source: count such statements apart). THE CARD IS WHAT COUNTS. Prove the row's statement (the work); the ties are given (YtnjjkkncoijmmaaDoorTie.lean); close each card by the builder's one call (the guide's Derived/Test/ToyasCard.lean, 'card_holds'). Laid BY PROGRAM, IN A SANDBOX (cutbox-door.mjs). By AI agents, Wed Nov 11 2026. No macro, syntax, notation, axiom, sorry.
-/
import Derived.Test.YtnjjkkncoijmmaaDoorRows
import GoSem.ClaimSeven
namespace Go.Proofs.YtnjjkkncoijmmaaDoor
namespace Rows

/-- THE TIED CARD OF 'galleylaw01.ClassAll'. -/
def classAllCard : Claim7 := { stood := { row := classAllRow, standIns := [], harness := (true, "fc80b0e862b0db07990f2ad8fa0286fce0e461478a25f31d9881fa7434a38892"), looks := false }, kinds := [], alts := [], laidByText := true, laidKinds := [.data], laidTests := true, laidLooks := .later }
def ClassAllCardSaid : Prop := Claim7.holds Tryd.pinned (.plain (OpenSpec.ofChange classAllSpec)) classAllCard

/-- THE TIED CARD OF 'galleylaw01.ClassRuns'. -/
def classRunsCard : Claim7 := { stood := { row := classRunsRow, standIns := [], harness := (true, "fc80b0e862b0db07990f2ad8fa0286fce0e461478a25f31d9881fa7434a38892"), looks := false }, kinds := [], alts := [], laidByText := true, laidKinds := [.data], laidTests := true, laidLooks := .later }
def ClassRunsCardSaid : Prop := Claim7.holds Tryd.pinned (.plain (OpenSpec.ofChange classRunsSpec)) classRunsCard

/-- THE TIED CARD OF 'galleylaw01.ClassAtoms'. -/
def classAtomsCard : Claim7 := { stood := { row := classAtomsRow, standIns := [], harness := (true, "fc80b0e862b0db07990f2ad8fa0286fce0e461478a25f31d9881fa7434a38892"), looks := false }, kinds := [], alts := [], laidByText := true, laidKinds := [.data], laidTests := true, laidLooks := .later }
def ClassAtomsCardSaid : Prop := Claim7.holds Tryd.pinned (.plain (OpenSpec.ofChange classAtomsSpec)) classAtomsCard

/-- THE TIED CARD OF 'galleylaw01.ClassSets'. -/
def classSetsCard : Claim7 := { stood := { row := classSetsRow, standIns := [], harness := (true, "fc80b0e862b0db07990f2ad8fa0286fce0e461478a25f31d9881fa7434a38892"), looks := false }, kinds := [], alts := [], laidByText := true, laidKinds := [.data], laidTests := true, laidLooks := .later }
def ClassSetsCardSaid : Prop := Claim7.holds Tryd.pinned (.plain (OpenSpec.ofChange classSetsSpec)) classSetsCard

/-- THE TIED CARD OF 'galleylaw01.ClassAlgebra'. -/
def classAlgebraCard : Claim7 := { stood := { row := classAlgebraRow, standIns := [], harness := (true, "fc80b0e862b0db07990f2ad8fa0286fce0e461478a25f31d9881fa7434a38892"), looks := false }, kinds := [], alts := [], laidByText := true, laidKinds := [.data], laidTests := true, laidLooks := .later }
def ClassAlgebraCardSaid : Prop := Claim7.holds Tryd.pinned (.plain (OpenSpec.ofChange classAlgebraSpec)) classAlgebraCard

/-- THE TIED CARD OF 'galleylaw01.ClassJoins'. -/
def classJoinsCard : Claim7 := { stood := { row := classJoinsRow, standIns := [], harness := (true, "fc80b0e862b0db07990f2ad8fa0286fce0e461478a25f31d9881fa7434a38892"), looks := false }, kinds := [], alts := [], laidByText := true, laidKinds := [.data], laidTests := true, laidLooks := .later }
def ClassJoinsCardSaid : Prop := Claim7.holds Tryd.pinned (.plain (OpenSpec.ofChange classJoinsSpec)) classJoinsCard

/-- THE TIED CARD OF 'galleylaw01.ClassParts'. -/
def classPartsCard : Claim7 := { stood := { row := classPartsRow, standIns := [], harness := (true, "fc80b0e862b0db07990f2ad8fa0286fce0e461478a25f31d9881fa7434a38892"), looks := false }, kinds := [], alts := [], laidByText := true, laidKinds := [.data], laidTests := true, laidLooks := .later }
def ClassPartsCardSaid : Prop := Claim7.holds Tryd.pinned (.plain (OpenSpec.ofChange classPartsSpec)) classPartsCard

/-- THE TIED CARD OF 'galleylaw01.ClassMakes'. -/
def classMakesCard : Claim7 := { stood := { row := classMakesRow, standIns := [], harness := (true, "fc80b0e862b0db07990f2ad8fa0286fce0e461478a25f31d9881fa7434a38892"), looks := false }, kinds := [], alts := [], laidByText := true, laidKinds := [.data], laidTests := true, laidLooks := .later }
def ClassMakesCardSaid : Prop := Claim7.holds Tryd.pinned (.plain (OpenSpec.ofChange classMakesSpec)) classMakesCard

/-- THE TIED CARD OF 'galleylaw01.ClassNames'. -/
def classNamesCard : Claim7 := { stood := { row := classNamesRow, standIns := [], harness := (true, "fc80b0e862b0db07990f2ad8fa0286fce0e461478a25f31d9881fa7434a38892"), looks := false }, kinds := [], alts := [], laidByText := true, laidKinds := [.data], laidTests := true, laidLooks := .later }
def ClassNamesCardSaid : Prop := Claim7.holds Tryd.pinned (.plain (OpenSpec.ofChange classNamesSpec)) classNamesCard

/-- THE SECOND FORM's CARD OF 'galleylaw01.ClassAll'. -/
def classAllUptoCard : Claim7 := { stood := { row := classAllUptoRow, standIns := [], harness := (true, "fc80b0e862b0db07990f2ad8fa0286fce0e461478a25f31d9881fa7434a38892"), looks := false }, kinds := [], alts := [], laidByText := true, laidKinds := [.data], laidTests := true, laidLooks := .later }
def ClassAllUptoCardSaid : Prop := Claim7.holds Tryd.pinned (.plain (OpenSpec.upto classAllSpec)) classAllUptoCard

/-- THE SECOND FORM's CARD OF 'galleylaw01.ClassRuns'. -/
def classRunsUptoCard : Claim7 := { stood := { row := classRunsUptoRow, standIns := [], harness := (true, "fc80b0e862b0db07990f2ad8fa0286fce0e461478a25f31d9881fa7434a38892"), looks := false }, kinds := [], alts := [], laidByText := true, laidKinds := [.data], laidTests := true, laidLooks := .later }
def ClassRunsUptoCardSaid : Prop := Claim7.holds Tryd.pinned (.plain (OpenSpec.upto classRunsSpec)) classRunsUptoCard

/-- THE SECOND FORM's CARD OF 'galleylaw01.ClassAtoms'. -/
def classAtomsUptoCard : Claim7 := { stood := { row := classAtomsUptoRow, standIns := [], harness := (true, "fc80b0e862b0db07990f2ad8fa0286fce0e461478a25f31d9881fa7434a38892"), looks := false }, kinds := [], alts := [], laidByText := true, laidKinds := [.data], laidTests := true, laidLooks := .later }
def ClassAtomsUptoCardSaid : Prop := Claim7.holds Tryd.pinned (.plain (OpenSpec.upto classAtomsSpec)) classAtomsUptoCard

/-- THE SECOND FORM's CARD OF 'galleylaw01.ClassSets'. -/
def classSetsUptoCard : Claim7 := { stood := { row := classSetsUptoRow, standIns := [], harness := (true, "fc80b0e862b0db07990f2ad8fa0286fce0e461478a25f31d9881fa7434a38892"), looks := false }, kinds := [], alts := [], laidByText := true, laidKinds := [.data], laidTests := true, laidLooks := .later }
def ClassSetsUptoCardSaid : Prop := Claim7.holds Tryd.pinned (.plain (OpenSpec.upto classSetsSpec)) classSetsUptoCard

/-- THE SECOND FORM's CARD OF 'galleylaw01.ClassAlgebra'. -/
def classAlgebraUptoCard : Claim7 := { stood := { row := classAlgebraUptoRow, standIns := [], harness := (true, "fc80b0e862b0db07990f2ad8fa0286fce0e461478a25f31d9881fa7434a38892"), looks := false }, kinds := [], alts := [], laidByText := true, laidKinds := [.data], laidTests := true, laidLooks := .later }
def ClassAlgebraUptoCardSaid : Prop := Claim7.holds Tryd.pinned (.plain (OpenSpec.upto classAlgebraSpec)) classAlgebraUptoCard

/-- THE SECOND FORM's CARD OF 'galleylaw01.ClassJoins'. -/
def classJoinsUptoCard : Claim7 := { stood := { row := classJoinsUptoRow, standIns := [], harness := (true, "fc80b0e862b0db07990f2ad8fa0286fce0e461478a25f31d9881fa7434a38892"), looks := false }, kinds := [], alts := [], laidByText := true, laidKinds := [.data], laidTests := true, laidLooks := .later }
def ClassJoinsUptoCardSaid : Prop := Claim7.holds Tryd.pinned (.plain (OpenSpec.upto classJoinsSpec)) classJoinsUptoCard

/-- THE SECOND FORM's CARD OF 'galleylaw01.ClassParts'. -/
def classPartsUptoCard : Claim7 := { stood := { row := classPartsUptoRow, standIns := [], harness := (true, "fc80b0e862b0db07990f2ad8fa0286fce0e461478a25f31d9881fa7434a38892"), looks := false }, kinds := [], alts := [], laidByText := true, laidKinds := [.data], laidTests := true, laidLooks := .later }
def ClassPartsUptoCardSaid : Prop := Claim7.holds Tryd.pinned (.plain (OpenSpec.upto classPartsSpec)) classPartsUptoCard

/-- THE SECOND FORM's CARD OF 'galleylaw01.ClassMakes'. -/
def classMakesUptoCard : Claim7 := { stood := { row := classMakesUptoRow, standIns := [], harness := (true, "fc80b0e862b0db07990f2ad8fa0286fce0e461478a25f31d9881fa7434a38892"), looks := false }, kinds := [], alts := [], laidByText := true, laidKinds := [.data], laidTests := true, laidLooks := .later }
def ClassMakesUptoCardSaid : Prop := Claim7.holds Tryd.pinned (.plain (OpenSpec.upto classMakesSpec)) classMakesUptoCard

/-- THE SECOND FORM's CARD OF 'galleylaw01.ClassNames'. -/
def classNamesUptoCard : Claim7 := { stood := { row := classNamesUptoRow, standIns := [], harness := (true, "fc80b0e862b0db07990f2ad8fa0286fce0e461478a25f31d9881fa7434a38892"), looks := false }, kinds := [], alts := [], laidByText := true, laidKinds := [.data], laidTests := true, laidLooks := .later }
def ClassNamesUptoCardSaid : Prop := Claim7.holds Tryd.pinned (.plain (OpenSpec.upto classNamesSpec)) classNamesUptoCard
end Rows
end Go.Proofs.YtnjjkkncoijmmaaDoor
