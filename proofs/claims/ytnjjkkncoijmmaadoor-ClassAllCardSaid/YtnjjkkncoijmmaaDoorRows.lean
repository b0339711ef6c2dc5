/-
  NARROWER THAN 'FOR EVERY INPUT', by the rows' own cells (each row's printed sentence says how): ClassAll: laid · ClassRuns: laid · ClassAtoms: laid · ClassSets: laid · ClassAlgebra: laid · ClassJoins: laid · ClassParts: laid · ClassMakes: laid · ClassNames: laid.
  DERIVED. THE GIVEN ROWS OF THIS SEAT. 9 by the template 'for every input the law returns true; each argument reads behind the call as it read before'; 0 by the template 'total and deterministic' (their statements: YtnjjkkncoijmmaaDoorTotals.lean).
  GIVEN WITH THE SEED: the statements are not yours to turn. If you find one false, say at which input.
  Laid BY PROGRAM, IN A SANDBOX (cutbox-rows.mjs): the forced cells as the released guide's own fill.sh prints them over the translation a1680e8d361ca29d… (all of the seat's roots in one cut). By AI agents, Wed Nov 11 2026. No macro, syntax, notation, axiom, sorry.
-/
import Derived.Test.YtnjjkkncoijmmaaDoorChecked
import GoSem.Claim
import GoSem.ClaimJoined
import GoSem.ClaimMapViews
import Derived.JoinedTies
import Derived.KernelRfl
namespace Go.Proofs.YtnjjkkncoijmmaaDoor
/- THE CELL 'sum', in the pinned program and in every row, IS THE sha256 OF THE DUMP (.gsa) THAT YtnjjkkncoijmmaaDoorProg.lean LOADS. Nothing in Lean hashes anything: it is a label: what it is worth is what the hold of that sum in a sandbox is worth. -/
noncomputable def Tryd.pinned : Pinned := { name := "ytnjjkkncoijmmaadoor", sum := "a1680e8d361ca29df106aad6e1c4859d0f4c66e3d0a6f4f08d7f792ade2e0998", checked := Tryd.checked }
namespace Rows
def none {H : Type} : Left H := { results := [], args := [] }

/- WHAT THE LISTED PACKAGE-LEVEL VARIABLES READ AS WHEN THE CALL BEGINS. Each datum BY PROGRAM (the guide's laid-datum.mjs) off the statement by which the dump's own 'gosem.cut.vars' lays the variable. In a bare row this is a premise. The card (YtnjjkkncoijmmaaDoorCards.lean) ties it to the program's text. -/
def laid_math_bits_deBruijn64tab {H : Type} : DataW H := .agg [.lit (.int .u8 0), .lit (.int .u8 1), .lit (.int .u8 56), .lit (.int .u8 2), .lit (.int .u8 57), .lit (.int .u8 49), .lit (.int .u8 28), .lit (.int .u8 3), .lit (.int .u8 61), .lit (.int .u8 58), .lit (.int .u8 42), .lit (.int .u8 50), .lit (.int .u8 38), .lit (.int .u8 29), .lit (.int .u8 17), .lit (.int .u8 4), .lit (.int .u8 62), .lit (.int .u8 47), .lit (.int .u8 59), .lit (.int .u8 36), .lit (.int .u8 45), .lit (.int .u8 43), .lit (.int .u8 51), .lit (.int .u8 22), .lit (.int .u8 53), .lit (.int .u8 39), .lit (.int .u8 33), .lit (.int .u8 30), .lit (.int .u8 24), .lit (.int .u8 18), .lit (.int .u8 12), .lit (.int .u8 5), .lit (.int .u8 63), .lit (.int .u8 55), .lit (.int .u8 48), .lit (.int .u8 27), .lit (.int .u8 60), .lit (.int .u8 41), .lit (.int .u8 37), .lit (.int .u8 16), .lit (.int .u8 46), .lit (.int .u8 35), .lit (.int .u8 44), .lit (.int .u8 21), .lit (.int .u8 52), .lit (.int .u8 32), .lit (.int .u8 23), .lit (.int .u8 11), .lit (.int .u8 54), .lit (.int .u8 26), .lit (.int .u8 40), .lit (.int .u8 15), .lit (.int .u8 34), .lit (.int .u8 20), .lit (.int .u8 31), .lit (.int .u8 10), .lit (.int .u8 25), .lit (.int .u8 14), .lit (.int .u8 19), .lit (.int .u8 9), .lit (.int .u8 13), .lit (.int .u8 8), .lit (.int .u8 7), .lit (.int .u8 6)]

/-- 'galleylaw01.ClassAll': WHATEVER THE INPUT: true; the input reads as it did. -/
def classAllSpec : ChangeSpec := { name := "classAll", fn := fun _ => fun
  | [d1, d2, d3] => { results := [.lit (.bool true)], args := [d1, d2, d3] }
  | _ => none }
def classAllRow : OpenClaim := { program := "ytnjjkkncoijmmaadoor", sum := "a1680e8d361ca29df106aad6e1c4859d0f4c66e3d0a6f4f08d7f792ade2e0998", func := "galley/galleylaw01.ClassAll", spec := "classAll", unfollowed := true, recurses := true, named := ["math/bits.deBruijn64tab"], apart := false, laid := [("math/bits.deBruijn64tab", laid_math_bits_deBruijn64tab)] }
def ClassAllSaid : Prop := classAllRow.holds Tryd.pinned (OpenSpec.ofChange classAllSpec)

/-- ITS FALSE NEIGHBOUR: 'it returns false'. Refute it at one input. -/
def classAllWrong : ChangeSpec := { name := "classAll", fn := fun _ => fun
  | [d1, d2, d3] => { results := [.lit (.bool false)], args := [d1, d2, d3] }
  | _ => none }
def ClassAllWrongFalsely : Prop := classAllRow.holds Tryd.pinned (OpenSpec.ofChange classAllWrong)

/-- 'galleylaw01.ClassRuns': WHATEVER THE INPUT: true; the input reads as it did. -/
def classRunsSpec : ChangeSpec := { name := "classRuns", fn := fun _ => fun
  | [d1, d2] => { results := [.lit (.bool true)], args := [d1, d2] }
  | _ => none }
def classRunsRow : OpenClaim := { program := "ytnjjkkncoijmmaadoor", sum := "a1680e8d361ca29df106aad6e1c4859d0f4c66e3d0a6f4f08d7f792ade2e0998", func := "galley/galleylaw01.ClassRuns", spec := "classRuns", unfollowed := true, recurses := true, named := ["math/bits.deBruijn64tab"], apart := false, laid := [("math/bits.deBruijn64tab", laid_math_bits_deBruijn64tab)] }
def ClassRunsSaid : Prop := classRunsRow.holds Tryd.pinned (OpenSpec.ofChange classRunsSpec)

/-- ITS FALSE NEIGHBOUR: 'it returns false'. Refute it at one input. -/
def classRunsWrong : ChangeSpec := { name := "classRuns", fn := fun _ => fun
  | [d1, d2] => { results := [.lit (.bool false)], args := [d1, d2] }
  | _ => none }
def ClassRunsWrongFalsely : Prop := classRunsRow.holds Tryd.pinned (OpenSpec.ofChange classRunsWrong)

/-- 'galleylaw01.ClassAtoms': WHATEVER THE INPUT: true; the input reads as it did. -/
def classAtomsSpec : ChangeSpec := { name := "classAtoms", fn := fun _ => fun
  | [d] => { results := [.lit (.bool true)], args := [d] }
  | _ => none }
def classAtomsRow : OpenClaim := { program := "ytnjjkkncoijmmaadoor", sum := "a1680e8d361ca29df106aad6e1c4859d0f4c66e3d0a6f4f08d7f792ade2e0998", func := "galley/galleylaw01.ClassAtoms", spec := "classAtoms", unfollowed := true, recurses := true, named := ["math/bits.deBruijn64tab"], apart := false, laid := [("math/bits.deBruijn64tab", laid_math_bits_deBruijn64tab)] }
def ClassAtomsSaid : Prop := classAtomsRow.holds Tryd.pinned (OpenSpec.ofChange classAtomsSpec)

/-- ITS FALSE NEIGHBOUR: 'it returns false'. Refute it at one input. -/
def classAtomsWrong : ChangeSpec := { name := "classAtoms", fn := fun _ => fun
  | [d] => { results := [.lit (.bool false)], args := [d] }
  | _ => none }
def ClassAtomsWrongFalsely : Prop := classAtomsRow.holds Tryd.pinned (OpenSpec.ofChange classAtomsWrong)

/-- 'galleylaw01.ClassSets': WHATEVER THE INPUT: true; the input reads as it did. -/
def classSetsSpec : ChangeSpec := { name := "classSets", fn := fun _ => fun
  | [d1, d2, d3] => { results := [.lit (.bool true)], args := [d1, d2, d3] }
  | _ => none }
def classSetsRow : OpenClaim := { program := "ytnjjkkncoijmmaadoor", sum := "a1680e8d361ca29df106aad6e1c4859d0f4c66e3d0a6f4f08d7f792ade2e0998", func := "galley/galleylaw01.ClassSets", spec := "classSets", unfollowed := true, recurses := true, named := ["math/bits.deBruijn64tab"], apart := false, laid := [("math/bits.deBruijn64tab", laid_math_bits_deBruijn64tab)] }
def ClassSetsSaid : Prop := classSetsRow.holds Tryd.pinned (OpenSpec.ofChange classSetsSpec)

/-- ITS FALSE NEIGHBOUR: 'it returns false'. Refute it at one input. -/
def classSetsWrong : ChangeSpec := { name := "classSets", fn := fun _ => fun
  | [d1, d2, d3] => { results := [.lit (.bool false)], args := [d1, d2, d3] }
  | _ => none }
def ClassSetsWrongFalsely : Prop := classSetsRow.holds Tryd.pinned (OpenSpec.ofChange classSetsWrong)

/-- 'galleylaw01.ClassAlgebra': WHATEVER THE INPUT: true; the input reads as it did. -/
def classAlgebraSpec : ChangeSpec := { name := "classAlgebra", fn := fun _ => fun
  | [d1, d2, d3] => { results := [.lit (.bool true)], args := [d1, d2, d3] }
  | _ => none }
def classAlgebraRow : OpenClaim := { program := "ytnjjkkncoijmmaadoor", sum := "a1680e8d361ca29df106aad6e1c4859d0f4c66e3d0a6f4f08d7f792ade2e0998", func := "galley/galleylaw01.ClassAlgebra", spec := "classAlgebra", unfollowed := true, recurses := true, named := ["math/bits.deBruijn64tab"], apart := false, laid := [("math/bits.deBruijn64tab", laid_math_bits_deBruijn64tab)] }
def ClassAlgebraSaid : Prop := classAlgebraRow.holds Tryd.pinned (OpenSpec.ofChange classAlgebraSpec)

/-- ITS FALSE NEIGHBOUR: 'it returns false'. Refute it at one input. -/
def classAlgebraWrong : ChangeSpec := { name := "classAlgebra", fn := fun _ => fun
  | [d1, d2, d3] => { results := [.lit (.bool false)], args := [d1, d2, d3] }
  | _ => none }
def ClassAlgebraWrongFalsely : Prop := classAlgebraRow.holds Tryd.pinned (OpenSpec.ofChange classAlgebraWrong)

/-- 'galleylaw01.ClassJoins': WHATEVER THE INPUT: true; the input reads as it did. -/
def classJoinsSpec : ChangeSpec := { name := "classJoins", fn := fun _ => fun
  | [d] => { results := [.lit (.bool true)], args := [d] }
  | _ => none }
def classJoinsRow : OpenClaim := { program := "ytnjjkkncoijmmaadoor", sum := "a1680e8d361ca29df106aad6e1c4859d0f4c66e3d0a6f4f08d7f792ade2e0998", func := "galley/galleylaw01.ClassJoins", spec := "classJoins", unfollowed := true, recurses := true, named := ["math/bits.deBruijn64tab"], apart := false, laid := [("math/bits.deBruijn64tab", laid_math_bits_deBruijn64tab)] }
def ClassJoinsSaid : Prop := classJoinsRow.holds Tryd.pinned (OpenSpec.ofChange classJoinsSpec)

/-- ITS FALSE NEIGHBOUR: 'it returns false'. Refute it at one input. -/
def classJoinsWrong : ChangeSpec := { name := "classJoins", fn := fun _ => fun
  | [d] => { results := [.lit (.bool false)], args := [d] }
  | _ => none }
def ClassJoinsWrongFalsely : Prop := classJoinsRow.holds Tryd.pinned (OpenSpec.ofChange classJoinsWrong)

/-- 'galleylaw01.ClassParts': WHATEVER THE INPUT: true; the input reads as it did. -/
def classPartsSpec : ChangeSpec := { name := "classParts", fn := fun _ => fun
  | [d] => { results := [.lit (.bool true)], args := [d] }
  | _ => none }
def classPartsRow : OpenClaim := { program := "ytnjjkkncoijmmaadoor", sum := "a1680e8d361ca29df106aad6e1c4859d0f4c66e3d0a6f4f08d7f792ade2e0998", func := "galley/galleylaw01.ClassParts", spec := "classParts", unfollowed := true, recurses := true, named := ["math/bits.deBruijn64tab"], apart := false, laid := [("math/bits.deBruijn64tab", laid_math_bits_deBruijn64tab)] }
def ClassPartsSaid : Prop := classPartsRow.holds Tryd.pinned (OpenSpec.ofChange classPartsSpec)

/-- ITS FALSE NEIGHBOUR: 'it returns false'. Refute it at one input. -/
def classPartsWrong : ChangeSpec := { name := "classParts", fn := fun _ => fun
  | [d] => { results := [.lit (.bool false)], args := [d] }
  | _ => none }
def ClassPartsWrongFalsely : Prop := classPartsRow.holds Tryd.pinned (OpenSpec.ofChange classPartsWrong)

/-- 'galleylaw01.ClassMakes': WHATEVER THE INPUT: true; the input reads as it did. -/
def classMakesSpec : ChangeSpec := { name := "classMakes", fn := fun _ => fun
  | [d1, d2, d3, d4] => { results := [.lit (.bool true)], args := [d1, d2, d3, d4] }
  | _ => none }
def classMakesRow : OpenClaim := { program := "ytnjjkkncoijmmaadoor", sum := "a1680e8d361ca29df106aad6e1c4859d0f4c66e3d0a6f4f08d7f792ade2e0998", func := "galley/galleylaw01.ClassMakes", spec := "classMakes", unfollowed := true, recurses := true, named := ["math/bits.deBruijn64tab"], apart := false, laid := [("math/bits.deBruijn64tab", laid_math_bits_deBruijn64tab)] }
def ClassMakesSaid : Prop := classMakesRow.holds Tryd.pinned (OpenSpec.ofChange classMakesSpec)

/-- ITS FALSE NEIGHBOUR: 'it returns false'. Refute it at one input. -/
def classMakesWrong : ChangeSpec := { name := "classMakes", fn := fun _ => fun
  | [d1, d2, d3, d4] => { results := [.lit (.bool false)], args := [d1, d2, d3, d4] }
  | _ => none }
def ClassMakesWrongFalsely : Prop := classMakesRow.holds Tryd.pinned (OpenSpec.ofChange classMakesWrong)

/-- 'galleylaw01.ClassNames': WHATEVER THE INPUT: true; the input reads as it did. -/
def classNamesSpec : ChangeSpec := { name := "classNames", fn := fun _ => fun
  | [d] => { results := [.lit (.bool true)], args := [d] }
  | _ => none }
def classNamesRow : OpenClaim := { program := "ytnjjkkncoijmmaadoor", sum := "a1680e8d361ca29df106aad6e1c4859d0f4c66e3d0a6f4f08d7f792ade2e0998", func := "galley/galleylaw01.ClassNames", spec := "classNames", unfollowed := true, recurses := true, named := ["math/bits.deBruijn64tab"], apart := false, laid := [("math/bits.deBruijn64tab", laid_math_bits_deBruijn64tab)] }
def ClassNamesSaid : Prop := classNamesRow.holds Tryd.pinned (OpenSpec.ofChange classNamesSpec)

/-- ITS FALSE NEIGHBOUR: 'it returns false'. Refute it at one input. -/
def classNamesWrong : ChangeSpec := { name := "classNames", fn := fun _ => fun
  | [d] => { results := [.lit (.bool false)], args := [d] }
  | _ => none }
def ClassNamesWrongFalsely : Prop := classNamesRow.holds Tryd.pinned (OpenSpec.ofChange classNamesWrong)

/- THE SECOND FORM. 'bulk': how many values and letters a reading holds, each counted each time it is reached (what is shared counts as often as it is met; a slice's spare places count too). A statement '..UptoSaid' is the law's where the arguments, and the package variables that the reading takes, are together of bulk at most 1048576: NARROWER than '..Said'. Prove '..Said' where nothing that the law and all that it calls make is longer than what came in: it says more and counts as full. Else prove '..UptoSaid'. A law counts once. -/
mutual
def uptoBulk {H : Type} : DataW H → Nat
  | .lit (.string bytes) => bytes.length + 1
  | .lit _ => 1
  | .nil => 1
  | .ptr d => uptoBulk d + 1
  | .slice elems spare => uptoBulkAll elems + uptoBulkAll spare + 1
  | .agg parts => uptoBulkAll parts + 1
  | .iface _ d => uptoBulk d + 1
  | .map entries => uptoBulkEntries entries + 1
  | .held _ => 1
def uptoBulkAll {H : Type} : List (DataW H) → Nat
  | [] => 0
  | d :: r => uptoBulk d + uptoBulkAll r
def uptoBulkEntries {H : Type} : List (Lit × DataW H) → Nat
  | [] => 0
  | x :: r => uptoBulkEntry x + uptoBulkEntries r
def uptoBulkEntry {H : Type} : Lit × DataW H → Nat
  | (.string bytes, d) => bytes.length + uptoBulk d + 1
  | (_, d) => uptoBulk d + 1
 end
def uptoSmall : (H : Type) → List (DataW H) → Bool := fun _ ds => decide (uptoBulkAll ds ≤ 1048576)
def OpenSpec.upto (s : _root_.Go.ChangeSpec) : _root_.Go.OpenSpec := { _root_.Go.OpenSpec.ofChange s with cond := some uptoSmall }

/-- 'galleylaw01.ClassAll', WHERE WHAT IT READS IS OF BULK AT MOST 1048576: true; the input reads as it did. -/
def classAllUptoRow : OpenClaim := { program := "ytnjjkkncoijmmaadoor", sum := "a1680e8d361ca29df106aad6e1c4859d0f4c66e3d0a6f4f08d7f792ade2e0998", func := "galley/galleylaw01.ClassAll", spec := "classAll", unfollowed := true, recurses := true, named := ["math/bits.deBruijn64tab"], apart := false, laid := [("math/bits.deBruijn64tab", laid_math_bits_deBruijn64tab)], narrowed := true }
def ClassAllUptoSaid : Prop := classAllUptoRow.holds Tryd.pinned (OpenSpec.upto classAllSpec)

/-- 'galleylaw01.ClassRuns', WHERE WHAT IT READS IS OF BULK AT MOST 1048576: true; the input reads as it did. -/
def classRunsUptoRow : OpenClaim := { program := "ytnjjkkncoijmmaadoor", sum := "a1680e8d361ca29df106aad6e1c4859d0f4c66e3d0a6f4f08d7f792ade2e0998", func := "galley/galleylaw01.ClassRuns", spec := "classRuns", unfollowed := true, recurses := true, named := ["math/bits.deBruijn64tab"], apart := false, laid := [("math/bits.deBruijn64tab", laid_math_bits_deBruijn64tab)], narrowed := true }
def ClassRunsUptoSaid : Prop := classRunsUptoRow.holds Tryd.pinned (OpenSpec.upto classRunsSpec)

/-- 'galleylaw01.ClassAtoms', WHERE WHAT IT READS IS OF BULK AT MOST 1048576: true; the input reads as it did. -/
def classAtomsUptoRow : OpenClaim := { program := "ytnjjkkncoijmmaadoor", sum := "a1680e8d361ca29df106aad6e1c4859d0f4c66e3d0a6f4f08d7f792ade2e0998", func := "galley/galleylaw01.ClassAtoms", spec := "classAtoms", unfollowed := true, recurses := true, named := ["math/bits.deBruijn64tab"], apart := false, laid := [("math/bits.deBruijn64tab", laid_math_bits_deBruijn64tab)], narrowed := true }
def ClassAtomsUptoSaid : Prop := classAtomsUptoRow.holds Tryd.pinned (OpenSpec.upto classAtomsSpec)

/-- 'galleylaw01.ClassSets', WHERE WHAT IT READS IS OF BULK AT MOST 1048576: true; the input reads as it did. -/
def classSetsUptoRow : OpenClaim := { program := "ytnjjkkncoijmmaadoor", sum := "a1680e8d361ca29df106aad6e1c4859d0f4c66e3d0a6f4f08d7f792ade2e0998", func := "galley/galleylaw01.ClassSets", spec := "classSets", unfollowed := true, recurses := true, named := ["math/bits.deBruijn64tab"], apart := false, laid := [("math/bits.deBruijn64tab", laid_math_bits_deBruijn64tab)], narrowed := true }
def ClassSetsUptoSaid : Prop := classSetsUptoRow.holds Tryd.pinned (OpenSpec.upto classSetsSpec)

/-- 'galleylaw01.ClassAlgebra', WHERE WHAT IT READS IS OF BULK AT MOST 1048576: true; the input reads as it did. -/
def classAlgebraUptoRow : OpenClaim := { program := "ytnjjkkncoijmmaadoor", sum := "a1680e8d361ca29df106aad6e1c4859d0f4c66e3d0a6f4f08d7f792ade2e0998", func := "galley/galleylaw01.ClassAlgebra", spec := "classAlgebra", unfollowed := true, recurses := true, named := ["math/bits.deBruijn64tab"], apart := false, laid := [("math/bits.deBruijn64tab", laid_math_bits_deBruijn64tab)], narrowed := true }
def ClassAlgebraUptoSaid : Prop := classAlgebraUptoRow.holds Tryd.pinned (OpenSpec.upto classAlgebraSpec)

/-- 'galleylaw01.ClassJoins', WHERE WHAT IT READS IS OF BULK AT MOST 1048576: true; the input reads as it did. -/
def classJoinsUptoRow : OpenClaim := { program := "ytnjjkkncoijmmaadoor", sum := "a1680e8d361ca29df106aad6e1c4859d0f4c66e3d0a6f4f08d7f792ade2e0998", func := "galley/galleylaw01.ClassJoins", spec := "classJoins", unfollowed := true, recurses := true, named := ["math/bits.deBruijn64tab"], apart := false, laid := [("math/bits.deBruijn64tab", laid_math_bits_deBruijn64tab)], narrowed := true }
def ClassJoinsUptoSaid : Prop := classJoinsUptoRow.holds Tryd.pinned (OpenSpec.upto classJoinsSpec)

/-- 'galleylaw01.ClassParts', WHERE WHAT IT READS IS OF BULK AT MOST 1048576: true; the input reads as it did. -/
def classPartsUptoRow : OpenClaim := { program := "ytnjjkkncoijmmaadoor", sum := "a1680e8d361ca29df106aad6e1c4859d0f4c66e3d0a6f4f08d7f792ade2e0998", func := "galley/galleylaw01.ClassParts", spec := "classParts", unfollowed := true, recurses := true, named := ["math/bits.deBruijn64tab"], apart := false, laid := [("math/bits.deBruijn64tab", laid_math_bits_deBruijn64tab)], narrowed := true }
def ClassPartsUptoSaid : Prop := classPartsUptoRow.holds Tryd.pinned (OpenSpec.upto classPartsSpec)

/-- 'galleylaw01.ClassMakes', WHERE WHAT IT READS IS OF BULK AT MOST 1048576: true; the input reads as it did. -/
def classMakesUptoRow : OpenClaim := { program := "ytnjjkkncoijmmaadoor", sum := "a1680e8d361ca29df106aad6e1c4859d0f4c66e3d0a6f4f08d7f792ade2e0998", func := "galley/galleylaw01.ClassMakes", spec := "classMakes", unfollowed := true, recurses := true, named := ["math/bits.deBruijn64tab"], apart := false, laid := [("math/bits.deBruijn64tab", laid_math_bits_deBruijn64tab)], narrowed := true }
def ClassMakesUptoSaid : Prop := classMakesUptoRow.holds Tryd.pinned (OpenSpec.upto classMakesSpec)

/-- 'galleylaw01.ClassNames', WHERE WHAT IT READS IS OF BULK AT MOST 1048576: true; the input reads as it did. -/
def classNamesUptoRow : OpenClaim := { program := "ytnjjkkncoijmmaadoor", sum := "a1680e8d361ca29df106aad6e1c4859d0f4c66e3d0a6f4f08d7f792ade2e0998", func := "galley/galleylaw01.ClassNames", spec := "classNames", unfollowed := true, recurses := true, named := ["math/bits.deBruijn64tab"], apart := false, laid := [("math/bits.deBruijn64tab", laid_math_bits_deBruijn64tab)], narrowed := true }
def ClassNamesUptoSaid : Prop := classNamesUptoRow.holds Tryd.pinned (OpenSpec.upto classNamesSpec)

end Rows
end Go.Proofs.YtnjjkkncoijmmaaDoor
