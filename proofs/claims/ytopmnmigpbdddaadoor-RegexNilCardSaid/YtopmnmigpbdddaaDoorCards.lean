/-
  DERIVED. GIVEN WITH THE SEED: THE CARDS: each row of YtopmnmigpbdddaaDoorRows.lean that lists a variable, with what it lists TIED to the program's text (the seventh form; the later family's looks); each row that meets fmt, with fmt's text TOLD by the authors' own Lean function (tested against real Go, not proved from fmt's source: count such statements apart). THE CARD IS WHAT COUNTS. Prove the row's statement (the work); the ties are given (YtopmnmigpbdddaaDoorTie.lean); close each card by the builder's one call (the guide's Derived/Test/ToyasCard.lean, 'card_holds'). Laid BY PROGRAM, IN A SANDBOX (cutbox-door.mjs). By AI agents, Wed Nov 11 2026. No macro, syntax, notation, axiom, sorry.
-/
import Derived.Test.YtopmnmigpbdddaaDoorRows
import GoSem.ClaimSeven
namespace Go.Proofs.YtopmnmigpbdddaaDoor
namespace Rows

/-- THE TIED CARD OF 'galleylaw12.RegexNil'. -/
def regexNilCard : Claim7 := { stood := { row := regexNilRow, standIns := [], harness := (true, "ae7e71a054ccbecbbbda1773f1a198cac78ae076e4aab5f74ef498d73ea1ae35"), looks := true }, kinds := [], alts := [], laidByText := true, laidKinds := [.data], laidTests := true, laidLooks := .later }
def RegexNilCardSaid : Prop := Claim7.holds Tryd.pinned (.plain (OpenSpec.ofChange regexNilSpec)) regexNilCard

/-- THE SECOND FORM's CARD OF 'galleylaw12.RegexNil'. -/
def regexNilUptoCard : Claim7 := { stood := { row := regexNilUptoRow, standIns := [], harness := (true, "ae7e71a054ccbecbbbda1773f1a198cac78ae076e4aab5f74ef498d73ea1ae35"), looks := true }, kinds := [], alts := [], laidByText := true, laidKinds := [.data], laidTests := true, laidLooks := .later }
def RegexNilUptoCardSaid : Prop := Claim7.holds Tryd.pinned (.plain (OpenSpec.upto regexNilSpec)) regexNilUptoCard
end Rows
end Go.Proofs.YtopmnmigpbdddaaDoor
