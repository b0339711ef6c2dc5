/-
  DERIVED. GIVEN WITH THE SEED: THE CARDS: each row of YtihbhlgognpmmaaDoorRows.lean that lists a variable, with what it lists TIED to the program's text (the seventh form; the later family's looks); each row that meets fmt, with fmt's text TOLD by the authors' own Lean function (tested against real Go, not proved from fmt's source: count such statements apart). THE CARD IS WHAT COUNTS. Prove the row's statement (the work); the ties are given (YtihbhlgognpmmaaDoorTie.lean); close each card by the builder's one call (the guide's Derived/Test/ToyasCard.lean, 'card_holds'). Laid BY PROGRAM, IN A SANDBOX (cutbox-door.mjs). By AI agents, Wed Nov 11 2026. No macro, syntax, notation, axiom, sorry.
-/
import Derived.Test.YtihbhlgognpmmaaDoorRows
import GoSem.ClaimSeven
namespace Go.Proofs.YtihbhlgognpmmaaDoor
namespace Rows

/-- THE TIED CARD OF 'galleylaw07.MachineCompiles'. -/
def machineCompilesCard : Claim7 := { stood := { row := machineCompilesRow, standIns := [], harness := (true, "0cbffd39ea9c29d45b0091773a988344d740a0d9cefb1bfeae0681f96bd27f80"), looks := false }, kinds := [], alts := [], laidByText := true, laidKinds := [.data, .data, .data], laidTests := true, laidLooks := .later }
def MachineCompilesCardSaid : Prop := Claim7.holds Tryd.pinned (.plain (OpenSpec.ofChange machineCompilesSpec)) machineCompilesCard

/-- THE SECOND FORM's CARD OF 'galleylaw07.MachineCompiles'. -/
def machineCompilesUptoCard : Claim7 := { stood := { row := machineCompilesUptoRow, standIns := [], harness := (true, "0cbffd39ea9c29d45b0091773a988344d740a0d9cefb1bfeae0681f96bd27f80"), looks := false }, kinds := [], alts := [], laidByText := true, laidKinds := [.data, .data, .data], laidTests := true, laidLooks := .later }
def MachineCompilesUptoCardSaid : Prop := Claim7.holds Tryd.pinned (.plain (OpenSpec.upto machineCompilesSpec)) machineCompilesUptoCard
end Rows
end Go.Proofs.YtihbhlgognpmmaaDoor
