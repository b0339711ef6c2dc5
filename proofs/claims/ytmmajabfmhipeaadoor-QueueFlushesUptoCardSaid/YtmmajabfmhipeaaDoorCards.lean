/-
  DERIVED. GIVEN WITH THE SEED: THE CARDS: each row of YtmmajabfmhipeaaDoorRows.lean that lists a variable, with what it lists TIED to the program's text (the seventh form; the later family's looks); each row that meets fmt, with fmt's text TOLD by the authors' own Lean function (tested against real Go, not proved from fmt's source: count such statements apart). THE CARD IS WHAT COUNTS. Prove the row's statement (the work); the ties are given (YtmmajabfmhipeaaDoorTie.lean); close each card by the builder's one call (the guide's Derived/Test/ToyasCard.lean, 'card_holds'). Laid BY PROGRAM, IN A SANDBOX (cutbox-door.mjs). By AI agents, Wed Nov 11 2026. No macro, syntax, notation, axiom, sorry.
-/
import Derived.Test.YtmmajabfmhipeaaDoorRows
import GoSem.ClaimSeven
namespace Go.Proofs.YtmmajabfmhipeaaDoor
namespace Rows

/-- THE TIED CARD OF 'galleylaw24.QueueFlushes'. -/
def queueFlushesCard : Claim7 := { stood := { row := queueFlushesRow, standIns := [], harness := (true, "a1e9cc4ff49264685d1c086b7a48f077db6c24a826a16b98b2d990d39b6102d4"), looks := true }, kinds := [], alts := [], laidByText := true, laidKinds := [.data, .data, .data], laidTests := true, laidLooks := .later }
def QueueFlushesCardSaid : Prop := Claim7.holds Tryd.pinned (.plain (OpenSpec.ofChange queueFlushesSpec)) queueFlushesCard

/-- THE TIED CARD OF 'galleylaw14.OutsPlays'. -/
def outsPlaysCard : Claim7 := { stood := { row := outsPlaysRow, standIns := [], harness := (true, "a1e9cc4ff49264685d1c086b7a48f077db6c24a826a16b98b2d990d39b6102d4"), looks := true }, kinds := [], alts := [], laidByText := true, laidKinds := [.data, .data, .data], laidTests := true, laidLooks := .later }
def OutsPlaysCardSaid : Prop := Claim7.holds Tryd.pinned (.plain (OpenSpec.ofChange outsPlaysSpec)) outsPlaysCard

/-- THE TIED CARD OF 'galleylaw15.TableApplies'. -/
def tableAppliesCard : Claim7 := { stood := { row := tableAppliesRow, standIns := [], harness := (true, "a1e9cc4ff49264685d1c086b7a48f077db6c24a826a16b98b2d990d39b6102d4"), looks := true }, kinds := [], alts := [], laidByText := true, laidKinds := [.data, .data, .data], laidTests := true, laidLooks := .later }
def TableAppliesCardSaid : Prop := Claim7.holds Tryd.pinned (.plain (OpenSpec.ofChange tableAppliesSpec)) tableAppliesCard

/-- THE SECOND FORM's CARD OF 'galleylaw24.QueueFlushes'. -/
def queueFlushesUptoCard : Claim7 := { stood := { row := queueFlushesUptoRow, standIns := [], harness := (true, "a1e9cc4ff49264685d1c086b7a48f077db6c24a826a16b98b2d990d39b6102d4"), looks := true }, kinds := [], alts := [], laidByText := true, laidKinds := [.data, .data, .data], laidTests := true, laidLooks := .later }
def QueueFlushesUptoCardSaid : Prop := Claim7.holds Tryd.pinned (.plain (OpenSpec.upto queueFlushesSpec)) queueFlushesUptoCard

/-- THE SECOND FORM's CARD OF 'galleylaw14.OutsPlays'. -/
def outsPlaysUptoCard : Claim7 := { stood := { row := outsPlaysUptoRow, standIns := [], harness := (true, "a1e9cc4ff49264685d1c086b7a48f077db6c24a826a16b98b2d990d39b6102d4"), looks := true }, kinds := [], alts := [], laidByText := true, laidKinds := [.data, .data, .data], laidTests := true, laidLooks := .later }
def OutsPlaysUptoCardSaid : Prop := Claim7.holds Tryd.pinned (.plain (OpenSpec.upto outsPlaysSpec)) outsPlaysUptoCard

/-- THE SECOND FORM's CARD OF 'galleylaw15.TableApplies'. -/
def tableAppliesUptoCard : Claim7 := { stood := { row := tableAppliesUptoRow, standIns := [], harness := (true, "a1e9cc4ff49264685d1c086b7a48f077db6c24a826a16b98b2d990d39b6102d4"), looks := true }, kinds := [], alts := [], laidByText := true, laidKinds := [.data, .data, .data], laidTests := true, laidLooks := .later }
def TableAppliesUptoCardSaid : Prop := Claim7.holds Tryd.pinned (.plain (OpenSpec.upto tableAppliesSpec)) tableAppliesUptoCard
end Rows
end Go.Proofs.YtmmajabfmhipeaaDoor
