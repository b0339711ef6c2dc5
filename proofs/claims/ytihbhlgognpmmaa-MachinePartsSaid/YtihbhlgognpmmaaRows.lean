/-
  No cell of these rows narrows 'for every input' (looked for: loops, veiled, ifaces, maps, wideKeys, modest, calm, conditions, laid).
  DERIVED. THE GIVEN ROWS OF THIS SEAT. 4 by the template 'for every input the law returns true; each argument reads behind the call as it read before'; 0 by the template 'total and deterministic' (their statements: YtihbhlgognpmmaaTotals.lean).
  GIVEN WITH THE SEED: the statements are not yours to turn. If you find one false, say at which input.
  Laid BY PROGRAM, IN A SANDBOX (cutbox-rows.mjs): the forced cells as the released guide's own fill.sh prints them over the translation 930fce822881f128… (all of the seat's roots in one cut). By AI agents, Wed Nov 11 2026. No macro, syntax, notation, axiom, sorry.
-/
import Derived.Test.YtihbhlgognpmmaaChecked
import GoSem.Claim
import GoSem.ClaimJoined
import GoSem.ClaimMapViews
import Derived.JoinedTies
import Derived.KernelRfl
namespace Go.Proofs.Ytihbhlgognpmmaa
/- THE CELL 'sum', in the pinned program and in every row, IS THE sha256 OF THE DUMP (.gsa) THAT YtihbhlgognpmmaaProg.lean LOADS. Nothing in Lean hashes anything: it is a label: what it is worth is what the hold of that sum in a sandbox is worth. -/
noncomputable def Try.pinned : Pinned := { name := "ytihbhlgognpmmaa", sum := "930fce822881f1283283af64f474df244f5d6fc5194ce82d624f37588eedb56f", checked := Try.checked }
namespace Rows
def none {H : Type} : Left H := { results := [], args := [] }

/-- 'galleylaw07.MachineMeans': WHATEVER THE INPUT: true; the input reads as it did. -/
def machineMeansSpec : ChangeSpec := { name := "machineMeans", fn := fun _ => fun
  | [d1, d2] => { results := [.lit (.bool true)], args := [d1, d2] }
  | _ => none }
def machineMeansRow : OpenClaim := { program := "ytihbhlgognpmmaa", sum := "930fce822881f1283283af64f474df244f5d6fc5194ce82d624f37588eedb56f", func := "galley/galleylaw07.MachineMeans", spec := "machineMeans", unfollowed := true, recurses := true, apart := false }
def MachineMeansSaid : Prop := machineMeansRow.holds Try.pinned (OpenSpec.ofChange machineMeansSpec)

/-- ITS FALSE NEIGHBOUR: 'it returns false'. Refute it at one input. -/
def machineMeansWrong : ChangeSpec := { name := "machineMeans", fn := fun _ => fun
  | [d1, d2] => { results := [.lit (.bool false)], args := [d1, d2] }
  | _ => none }
def MachineMeansWrongFalsely : Prop := machineMeansRow.holds Try.pinned (OpenSpec.ofChange machineMeansWrong)

/-- 'galleylaw07.MachineShapes': WHATEVER THE INPUT: true; the input reads as it did. -/
def machineShapesSpec : ChangeSpec := { name := "machineShapes", fn := fun _ => fun
  | [d] => { results := [.lit (.bool true)], args := [d] }
  | _ => none }
def machineShapesRow : OpenClaim := { program := "ytihbhlgognpmmaa", sum := "930fce822881f1283283af64f474df244f5d6fc5194ce82d624f37588eedb56f", func := "galley/galleylaw07.MachineShapes", spec := "machineShapes", unfollowed := true, recurses := true, apart := false }
def MachineShapesSaid : Prop := machineShapesRow.holds Try.pinned (OpenSpec.ofChange machineShapesSpec)

/-- ITS FALSE NEIGHBOUR: 'it returns false'. Refute it at one input. -/
def machineShapesWrong : ChangeSpec := { name := "machineShapes", fn := fun _ => fun
  | [d] => { results := [.lit (.bool false)], args := [d] }
  | _ => none }
def MachineShapesWrongFalsely : Prop := machineShapesRow.holds Try.pinned (OpenSpec.ofChange machineShapesWrong)

/-- 'galleylaw07.MachineParts': WHATEVER THE INPUT: true; the input reads as it did. -/
def machinePartsSpec : ChangeSpec := { name := "machineParts", fn := fun _ => fun
  | [d1, d2, d3] => { results := [.lit (.bool true)], args := [d1, d2, d3] }
  | _ => none }
def machinePartsRow : OpenClaim := { program := "ytihbhlgognpmmaa", sum := "930fce822881f1283283af64f474df244f5d6fc5194ce82d624f37588eedb56f", func := "galley/galleylaw07.MachineParts", spec := "machineParts", unfollowed := true, recurses := true, apart := false }
def MachinePartsSaid : Prop := machinePartsRow.holds Try.pinned (OpenSpec.ofChange machinePartsSpec)

/-- ITS FALSE NEIGHBOUR: 'it returns false'. Refute it at one input. -/
def machinePartsWrong : ChangeSpec := { name := "machineParts", fn := fun _ => fun
  | [d1, d2, d3] => { results := [.lit (.bool false)], args := [d1, d2, d3] }
  | _ => none }
def MachinePartsWrongFalsely : Prop := machinePartsRow.holds Try.pinned (OpenSpec.ofChange machinePartsWrong)

/-- 'galleylaw07.MachineRows': WHATEVER THE INPUT: true; the input reads as it did. -/
def machineRowsSpec : ChangeSpec := { name := "machineRows", fn := fun _ => fun
  | [d1, d2, d3, d4] => { results := [.lit (.bool true)], args := [d1, d2, d3, d4] }
  | _ => none }
def machineRowsRow : OpenClaim := { program := "ytihbhlgognpmmaa", sum := "930fce822881f1283283af64f474df244f5d6fc5194ce82d624f37588eedb56f", func := "galley/galleylaw07.MachineRows", spec := "machineRows", unfollowed := true, recurses := true, apart := false }
def MachineRowsSaid : Prop := machineRowsRow.holds Try.pinned (OpenSpec.ofChange machineRowsSpec)

/-- ITS FALSE NEIGHBOUR: 'it returns false'. Refute it at one input. -/
def machineRowsWrong : ChangeSpec := { name := "machineRows", fn := fun _ => fun
  | [d1, d2, d3, d4] => { results := [.lit (.bool false)], args := [d1, d2, d3, d4] }
  | _ => none }
def MachineRowsWrongFalsely : Prop := machineRowsRow.holds Try.pinned (OpenSpec.ofChange machineRowsWrong)

/- THE SECOND FORM. 'bulk': how many values and letters a reading holds, each counted each time it is reached (what is shared counts as often as it is met; a slice's spare places count too). A statement '..UptoSaid' is the law's where the arguments, and the package variables that the reading takes, are together of bulk at most 1048576: NARROWER than '..Said'. Prove '..Said' where nothing that the law and all that it calls make is longer than what came in: it says more and counts as full. Else prove '..UptoSaid'. A law counts once. -/
mutual
def uptoBulk {H : Type} : DataW H → Nat
  | .lit (.string bytes) => bytes.length + 1
  | .lit _ => 1
  | .nil => 1
  | .ptr d => uptoBulk d + 1
  | .slice elems spare => uptoBulkAll elems + uptoBulkAll spare + 1
  | .agg parts => uptoBulkAll parts + 1
  | .iface _ d => uptoBulk d + 1
  | .map entries => uptoBulkEntries entries + 1
  | .held _ => 1
def uptoBulkAll {H : Type} : List (DataW H) → Nat
  | [] => 0
  | d :: r => uptoBulk d + uptoBulkAll r
def uptoBulkEntries {H : Type} : List (Lit × DataW H) → Nat
  | [] => 0
  | x :: r => uptoBulkEntry x + uptoBulkEntries r
def uptoBulkEntry {H : Type} : Lit × DataW H → Nat
  | (.string bytes, d) => bytes.length + uptoBulk d + 1
  | (_, d) => uptoBulk d + 1
 end
def uptoSmall : (H : Type) → List (DataW H) → Bool := fun _ ds => decide (uptoBulkAll ds ≤ 1048576)
def OpenSpec.upto (s : _root_.Go.ChangeSpec) : _root_.Go.OpenSpec := { _root_.Go.OpenSpec.ofChange s with cond := some uptoSmall }

/-- 'galleylaw07.MachineMeans', WHERE WHAT IT READS IS OF BULK AT MOST 1048576: true; the input reads as it did. -/
def machineMeansUptoRow : OpenClaim := { program := "ytihbhlgognpmmaa", sum := "930fce822881f1283283af64f474df244f5d6fc5194ce82d624f37588eedb56f", func := "galley/galleylaw07.MachineMeans", spec := "machineMeans", unfollowed := true, recurses := true, apart := false, narrowed := true }
def MachineMeansUptoSaid : Prop := machineMeansUptoRow.holds Try.pinned (OpenSpec.upto machineMeansSpec)

/-- 'galleylaw07.MachineShapes', WHERE WHAT IT READS IS OF BULK AT MOST 1048576: true; the input reads as it did. -/
def machineShapesUptoRow : OpenClaim := { program := "ytihbhlgognpmmaa", sum := "930fce822881f1283283af64f474df244f5d6fc5194ce82d624f37588eedb56f", func := "galley/galleylaw07.MachineShapes", spec := "machineShapes", unfollowed := true, recurses := true, apart := false, narrowed := true }
def MachineShapesUptoSaid : Prop := machineShapesUptoRow.holds Try.pinned (OpenSpec.upto machineShapesSpec)

/-- 'galleylaw07.MachineParts', WHERE WHAT IT READS IS OF BULK AT MOST 1048576: true; the input reads as it did. -/
def machinePartsUptoRow : OpenClaim := { program := "ytihbhlgognpmmaa", sum := "930fce822881f1283283af64f474df244f5d6fc5194ce82d624f37588eedb56f", func := "galley/galleylaw07.MachineParts", spec := "machineParts", unfollowed := true, recurses := true, apart := false, narrowed := true }
def MachinePartsUptoSaid : Prop := machinePartsUptoRow.holds Try.pinned (OpenSpec.upto machinePartsSpec)

/-- 'galleylaw07.MachineRows', WHERE WHAT IT READS IS OF BULK AT MOST 1048576: true; the input reads as it did. -/
def machineRowsUptoRow : OpenClaim := { program := "ytihbhlgognpmmaa", sum := "930fce822881f1283283af64f474df244f5d6fc5194ce82d624f37588eedb56f", func := "galley/galleylaw07.MachineRows", spec := "machineRows", unfollowed := true, recurses := true, apart := false, narrowed := true }
def MachineRowsUptoSaid : Prop := machineRowsUptoRow.holds Try.pinned (OpenSpec.upto machineRowsSpec)

end Rows
end Go.Proofs.Ytihbhlgognpmmaa
