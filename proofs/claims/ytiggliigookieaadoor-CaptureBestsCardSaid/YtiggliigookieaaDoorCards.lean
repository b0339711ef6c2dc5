/-
  DERIVED. GIVEN WITH THE SEED: THE CARDS: each row of YtiggliigookieaaDoorRows.lean that lists a variable, with what it lists TIED to the program's text (the seventh form; the later family's looks); each row that meets fmt, with fmt's text TOLD by the authors' own Lean function (tested against real Go, not proved from fmt's source: count such statements apart). THE CARD IS WHAT COUNTS. Prove the row's statement (the work); the ties are given (YtiggliigookieaaDoorTie.lean); close each card by the builder's one call (the guide's Derived/Test/ToyasCard.lean, 'card_holds'). Laid BY PROGRAM, IN A SANDBOX (cutbox-door.mjs). By AI agents, Wed Nov 11 2026. No macro, syntax, notation, axiom, sorry.
-/
import Derived.Test.YtiggliigookieaaDoorRows
import GoSem.ClaimSeven
namespace Go.Proofs.YtiggliigookieaaDoor
namespace Rows

/-- THE TIED CARD OF 'galleylaw10.CaptureFinds'. -/
def captureFindsCard : Claim7 := { stood := { row := captureFindsRow, standIns := [], harness := (true, "3734b47331c7f166cb76b4971c081e14052541cfa9e5e1c3694e52d854683266"), looks := false }, kinds := [], alts := [], laidByText := true, laidKinds := [.data, .data, .data], laidTests := true, laidLooks := .later }
def CaptureFindsCardSaid : Prop := Claim7.holds Tryd.pinned (.plain (OpenSpec.ofChange captureFindsSpec)) captureFindsCard

/-- THE TIED CARD OF 'galleylaw10.CaptureBests'. -/
def captureBestsCard : Claim7 := { stood := { row := captureBestsRow, standIns := [], harness := (true, "3734b47331c7f166cb76b4971c081e14052541cfa9e5e1c3694e52d854683266"), looks := false }, kinds := [], alts := [], laidByText := true, laidKinds := [.data, .data, .data], laidTests := true, laidLooks := .later }
def CaptureBestsCardSaid : Prop := Claim7.holds Tryd.pinned (.plain (OpenSpec.ofChange captureBestsSpec)) captureBestsCard

/-- THE SECOND FORM's CARD OF 'galleylaw10.CaptureFinds'. -/
def captureFindsUptoCard : Claim7 := { stood := { row := captureFindsUptoRow, standIns := [], harness := (true, "3734b47331c7f166cb76b4971c081e14052541cfa9e5e1c3694e52d854683266"), looks := false }, kinds := [], alts := [], laidByText := true, laidKinds := [.data, .data, .data], laidTests := true, laidLooks := .later }
def CaptureFindsUptoCardSaid : Prop := Claim7.holds Tryd.pinned (.plain (OpenSpec.upto captureFindsSpec)) captureFindsUptoCard

/-- THE SECOND FORM's CARD OF 'galleylaw10.CaptureBests'. -/
def captureBestsUptoCard : Claim7 := { stood := { row := captureBestsUptoRow, standIns := [], harness := (true, "3734b47331c7f166cb76b4971c081e14052541cfa9e5e1c3694e52d854683266"), looks := false }, kinds := [], alts := [], laidByText := true, laidKinds := [.data, .data, .data], laidTests := true, laidLooks := .later }
def CaptureBestsUptoCardSaid : Prop := Claim7.holds Tryd.pinned (.plain (OpenSpec.upto captureBestsSpec)) captureBestsUptoCard
end Rows
end Go.Proofs.YtiggliigookieaaDoor
