/-
  NARROWER THAN 'FOR EVERY INPUT', by the rows' own cells (each row's printed sentence says how): RegexMeans: laid · RegexTower: laid · RegexRow: laid · RegexFinds: laid · RegexMakes: laid · RegexAlls: laid.
  DERIVED. THE GIVEN ROWS OF THIS SEAT. 6 by the template 'for every input the law returns true; each argument reads behind the call as it read before'; 0 by the template 'total and deterministic' (their statements: YtopmnmigpbdddaaGreatDoorTotals.lean).
  GIVEN WITH THE SEED: the statements are not yours to turn. If you find one false, say at which input.
  Laid BY PROGRAM, IN A SANDBOX (cutbox-rows.mjs): the forced cells as the released guide's own fill.sh prints them over the translation 6cbf6166dbd66399… (all of the seat's roots in one cut). By AI agents, Wed Nov 11 2026. No macro, syntax, notation, axiom, sorry.
-/
import Derived.Test.YtopmnmigpbdddaaGreatDoorChecked
import GoSem.Claim
import GoSem.ClaimJoined
import GoSem.ClaimMapViews
import Derived.JoinedTies
import Derived.KernelRfl
namespace Go.Proofs.YtopmnmigpbdddaaGreatDoor
/- THE CELL 'sum', in the pinned program and in every row, IS THE sha256 OF THE DUMP (.gsa) THAT YtopmnmigpbdddaaGreatDoorProg.lean LOADS. Nothing in Lean hashes anything: it is a label: what it is worth is what the hold of that sum in a sandbox is worth. -/
noncomputable def Tryz.pinned : Pinned := { name := "ytopmnmigpbdddaagreatdoor", sum := "6cbf6166dbd663995bd35604ffc5f1cf32f813f4bc14e67114f5a891ac2c0a52", checked := Tryz.checked }
namespace Rows
def none {H : Type} : Left H := { results := [], args := [] }

/- WHAT THE LISTED PACKAGE-LEVEL VARIABLES READ AS WHEN THE CALL BEGINS. Each datum BY PROGRAM (the guide's laid-datum.mjs) off the statement by which the dump's own 'gosem.cut.vars' lays the variable. In a bare row this is a premise. The card (YtopmnmigpbdddaaGreatDoorCards.lean) ties it to the program's text. -/
def laid_galley_backref_none {H : Type} : DataW H := .agg [.lit (.int .i64 (-1)), .lit (.int .i64 (-1))]
def laid_math_bits_deBruijn32tab {H : Type} : DataW H := .agg [.lit (.int .u8 0), .lit (.int .u8 1), .lit (.int .u8 28), .lit (.int .u8 2), .lit (.int .u8 29), .lit (.int .u8 14), .lit (.int .u8 24), .lit (.int .u8 3), .lit (.int .u8 30), .lit (.int .u8 22), .lit (.int .u8 20), .lit (.int .u8 15), .lit (.int .u8 25), .lit (.int .u8 17), .lit (.int .u8 4), .lit (.int .u8 8), .lit (.int .u8 31), .lit (.int .u8 27), .lit (.int .u8 13), .lit (.int .u8 23), .lit (.int .u8 21), .lit (.int .u8 19), .lit (.int .u8 16), .lit (.int .u8 7), .lit (.int .u8 26), .lit (.int .u8 12), .lit (.int .u8 18), .lit (.int .u8 6), .lit (.int .u8 11), .lit (.int .u8 5), .lit (.int .u8 10), .lit (.int .u8 9)]
def laid_math_bits_deBruijn64tab {H : Type} : DataW H := .agg [.lit (.int .u8 0), .lit (.int .u8 1), .lit (.int .u8 56), .lit (.int .u8 2), .lit (.int .u8 57), .lit (.int .u8 49), .lit (.int .u8 28), .lit (.int .u8 3), .lit (.int .u8 61), .lit (.int .u8 58), .lit (.int .u8 42), .lit (.int .u8 50), .lit (.int .u8 38), .lit (.int .u8 29), .lit (.int .u8 17), .lit (.int .u8 4), .lit (.int .u8 62), .lit (.int .u8 47), .lit (.int .u8 59), .lit (.int .u8 36), .lit (.int .u8 45), .lit (.int .u8 43), .lit (.int .u8 51), .lit (.int .u8 22), .lit (.int .u8 53), .lit (.int .u8 39), .lit (.int .u8 33), .lit (.int .u8 30), .lit (.int .u8 24), .lit (.int .u8 18), .lit (.int .u8 12), .lit (.int .u8 5), .lit (.int .u8 63), .lit (.int .u8 55), .lit (.int .u8 48), .lit (.int .u8 27), .lit (.int .u8 60), .lit (.int .u8 41), .lit (.int .u8 37), .lit (.int .u8 16), .lit (.int .u8 46), .lit (.int .u8 35), .lit (.int .u8 44), .lit (.int .u8 21), .lit (.int .u8 52), .lit (.int .u8 32), .lit (.int .u8 23), .lit (.int .u8 11), .lit (.int .u8 54), .lit (.int .u8 26), .lit (.int .u8 40), .lit (.int .u8 15), .lit (.int .u8 34), .lit (.int .u8 20), .lit (.int .u8 31), .lit (.int .u8 10), .lit (.int .u8 25), .lit (.int .u8 14), .lit (.int .u8 19), .lit (.int .u8 9), .lit (.int .u8 13), .lit (.int .u8 8), .lit (.int .u8 7), .lit (.int .u8 6)]
def laid_internal_strconv_uint64pow10 {H : Type} : DataW H := .agg [.lit (.int .u64 1), .lit (.int .u64 10), .lit (.int .u64 100), .lit (.int .u64 1000), .lit (.int .u64 10000), .lit (.int .u64 100000), .lit (.int .u64 1000000), .lit (.int .u64 10000000), .lit (.int .u64 100000000), .lit (.int .u64 1000000000), .lit (.int .u64 10000000000), .lit (.int .u64 100000000000), .lit (.int .u64 1000000000000), .lit (.int .u64 10000000000000), .lit (.int .u64 100000000000000), .lit (.int .u64 1000000000000000), .lit (.int .u64 10000000000000000), .lit (.int .u64 100000000000000000), .lit (.int .u64 1000000000000000000), .lit (.int .u64 10000000000000000000)]

/-- 'galleylaw12.RegexMeans': WHATEVER THE INPUT: true; the input reads as it did. -/
def regexMeansSpec : ChangeSpec := { name := "regexMeans", fn := fun _ => fun
  | [d1, d2, d3] => { results := [.lit (.bool true)], args := [d1, d2, d3] }
  | _ => none }
def regexMeansRow : OpenClaim := { program := "ytopmnmigpbdddaagreatdoor", sum := "6cbf6166dbd663995bd35604ffc5f1cf32f813f4bc14e67114f5a891ac2c0a52", func := "galley/galleylaw12.RegexMeans", spec := "regexMeans", inPlace := ["internal/bytealg.IndexByteString"], unfollowed := true, recurses := true, named := ["galley/backref.none"], plainKeys := false, apart := false, laid := [("galley/backref.none", laid_galley_backref_none)] }
def RegexMeansSaid : Prop := regexMeansRow.holds Tryz.pinned (OpenSpec.ofChange regexMeansSpec)

/-- ITS FALSE NEIGHBOUR: 'it returns false'. Refute it at one input. -/
def regexMeansWrong : ChangeSpec := { name := "regexMeans", fn := fun _ => fun
  | [d1, d2, d3] => { results := [.lit (.bool false)], args := [d1, d2, d3] }
  | _ => none }
def RegexMeansWrongFalsely : Prop := regexMeansRow.holds Tryz.pinned (OpenSpec.ofChange regexMeansWrong)

/-- 'galleylaw12.RegexTower': WHATEVER THE INPUT: true; the input reads as it did. -/
def regexTowerSpec : ChangeSpec := { name := "regexTower", fn := fun _ => fun
  | [d1, d2, d3] => { results := [.lit (.bool true)], args := [d1, d2, d3] }
  | _ => none }
def regexTowerRow : OpenClaim := { program := "ytopmnmigpbdddaagreatdoor", sum := "6cbf6166dbd663995bd35604ffc5f1cf32f813f4bc14e67114f5a891ac2c0a52", func := "galley/galleylaw12.RegexTower", spec := "regexTower", inPlace := ["internal/bytealg.IndexByteString"], unfollowed := true, recurses := true, named := ["galley/backref.none"], plainKeys := false, apart := false, laid := [("galley/backref.none", laid_galley_backref_none)] }
def RegexTowerSaid : Prop := regexTowerRow.holds Tryz.pinned (OpenSpec.ofChange regexTowerSpec)

/-- ITS FALSE NEIGHBOUR: 'it returns false'. Refute it at one input. -/
def regexTowerWrong : ChangeSpec := { name := "regexTower", fn := fun _ => fun
  | [d1, d2, d3] => { results := [.lit (.bool false)], args := [d1, d2, d3] }
  | _ => none }
def RegexTowerWrongFalsely : Prop := regexTowerRow.holds Tryz.pinned (OpenSpec.ofChange regexTowerWrong)

/-- 'galleylaw12.RegexRow': WHATEVER THE INPUT: true; the input reads as it did. -/
def regexRowSpec : ChangeSpec := { name := "regexRow", fn := fun _ => fun
  | [d1, d2] => { results := [.lit (.bool true)], args := [d1, d2] }
  | _ => none }
def regexRowRow : OpenClaim := { program := "ytopmnmigpbdddaagreatdoor", sum := "6cbf6166dbd663995bd35604ffc5f1cf32f813f4bc14e67114f5a891ac2c0a52", func := "galley/galleylaw12.RegexRow", spec := "regexRow", inPlace := ["internal/bytealg.IndexByteString"], unfollowed := true, recurses := true, named := ["galley/backref.none"], plainKeys := false, apart := false, laid := [("galley/backref.none", laid_galley_backref_none)] }
def RegexRowSaid : Prop := regexRowRow.holds Tryz.pinned (OpenSpec.ofChange regexRowSpec)

/-- ITS FALSE NEIGHBOUR: 'it returns false'. Refute it at one input. -/
def regexRowWrong : ChangeSpec := { name := "regexRow", fn := fun _ => fun
  | [d1, d2] => { results := [.lit (.bool false)], args := [d1, d2] }
  | _ => none }
def RegexRowWrongFalsely : Prop := regexRowRow.holds Tryz.pinned (OpenSpec.ofChange regexRowWrong)

/-- 'galleylaw12.RegexFinds': WHATEVER THE INPUT: true; the input reads as it did. -/
def regexFindsSpec : ChangeSpec := { name := "regexFinds", fn := fun _ => fun
  | [d1, d2, d3] => { results := [.lit (.bool true)], args := [d1, d2, d3] }
  | _ => none }
def regexFindsRow : OpenClaim := { program := "ytopmnmigpbdddaagreatdoor", sum := "6cbf6166dbd663995bd35604ffc5f1cf32f813f4bc14e67114f5a891ac2c0a52", func := "galley/galleylaw12.RegexFinds", spec := "regexFinds", inPlace := ["internal/bytealg.IndexByteString"], unfollowed := true, recurses := true, named := ["galley/backref.none", "internal/strconv.uint64pow10", "math/bits.deBruijn32tab", "math/bits.deBruijn64tab"], plainKeys := false, apart := false, laid := [("math/bits.deBruijn32tab", laid_math_bits_deBruijn32tab), ("math/bits.deBruijn64tab", laid_math_bits_deBruijn64tab), ("internal/strconv.uint64pow10", laid_internal_strconv_uint64pow10), ("galley/backref.none", laid_galley_backref_none)] }
def RegexFindsSaid : Prop := regexFindsRow.holds Tryz.pinned (OpenSpec.ofChange regexFindsSpec)

/-- ITS FALSE NEIGHBOUR: 'it returns false'. Refute it at one input. -/
def regexFindsWrong : ChangeSpec := { name := "regexFinds", fn := fun _ => fun
  | [d1, d2, d3] => { results := [.lit (.bool false)], args := [d1, d2, d3] }
  | _ => none }
def RegexFindsWrongFalsely : Prop := regexFindsRow.holds Tryz.pinned (OpenSpec.ofChange regexFindsWrong)

/-- 'galleylaw12.RegexMakes': WHATEVER THE INPUT: true; the input reads as it did. -/
def regexMakesSpec : ChangeSpec := { name := "regexMakes", fn := fun _ => fun
  | [d1, d2, d3] => { results := [.lit (.bool true)], args := [d1, d2, d3] }
  | _ => none }
def regexMakesRow : OpenClaim := { program := "ytopmnmigpbdddaagreatdoor", sum := "6cbf6166dbd663995bd35604ffc5f1cf32f813f4bc14e67114f5a891ac2c0a52", func := "galley/galleylaw12.RegexMakes", spec := "regexMakes", inPlace := ["internal/bytealg.IndexByteString"], unfollowed := true, recurses := true, named := ["galley/backref.none", "internal/strconv.uint64pow10", "math/bits.deBruijn32tab", "math/bits.deBruijn64tab"], plainKeys := false, apart := false, laid := [("math/bits.deBruijn32tab", laid_math_bits_deBruijn32tab), ("math/bits.deBruijn64tab", laid_math_bits_deBruijn64tab), ("internal/strconv.uint64pow10", laid_internal_strconv_uint64pow10), ("galley/backref.none", laid_galley_backref_none)] }
def RegexMakesSaid : Prop := regexMakesRow.holds Tryz.pinned (OpenSpec.ofChange regexMakesSpec)

/-- ITS FALSE NEIGHBOUR: 'it returns false'. Refute it at one input. -/
def regexMakesWrong : ChangeSpec := { name := "regexMakes", fn := fun _ => fun
  | [d1, d2, d3] => { results := [.lit (.bool false)], args := [d1, d2, d3] }
  | _ => none }
def RegexMakesWrongFalsely : Prop := regexMakesRow.holds Tryz.pinned (OpenSpec.ofChange regexMakesWrong)

/-- 'galleylaw12.RegexAlls': WHATEVER THE INPUT: true; the input reads as it did. -/
def regexAllsSpec : ChangeSpec := { name := "regexAlls", fn := fun _ => fun
  | [d1, d2, d3] => { results := [.lit (.bool true)], args := [d1, d2, d3] }
  | _ => none }
def regexAllsRow : OpenClaim := { program := "ytopmnmigpbdddaagreatdoor", sum := "6cbf6166dbd663995bd35604ffc5f1cf32f813f4bc14e67114f5a891ac2c0a52", func := "galley/galleylaw12.RegexAlls", spec := "regexAlls", inPlace := ["internal/bytealg.IndexByteString"], unfollowed := true, recurses := true, named := ["galley/backref.none", "internal/strconv.uint64pow10", "math/bits.deBruijn32tab", "math/bits.deBruijn64tab"], plainKeys := false, apart := false, laid := [("math/bits.deBruijn32tab", laid_math_bits_deBruijn32tab), ("math/bits.deBruijn64tab", laid_math_bits_deBruijn64tab), ("internal/strconv.uint64pow10", laid_internal_strconv_uint64pow10), ("galley/backref.none", laid_galley_backref_none)] }
def RegexAllsSaid : Prop := regexAllsRow.holds Tryz.pinned (OpenSpec.ofChange regexAllsSpec)

/-- ITS FALSE NEIGHBOUR: 'it returns false'. Refute it at one input. -/
def regexAllsWrong : ChangeSpec := { name := "regexAlls", fn := fun _ => fun
  | [d1, d2, d3] => { results := [.lit (.bool false)], args := [d1, d2, d3] }
  | _ => none }
def RegexAllsWrongFalsely : Prop := regexAllsRow.holds Tryz.pinned (OpenSpec.ofChange regexAllsWrong)

/- THE SECOND FORM. 'bulk': how many values and letters a reading holds, each counted each time it is reached (what is shared counts as often as it is met; a slice's spare places count too). A statement '..UptoSaid' is the law's where the arguments, and the package variables that the reading takes, are together of bulk at most 1048576: NARROWER than '..Said'. Prove '..Said' where nothing that the law and all that it calls make is longer than what came in: it says more and counts as full. Else prove '..UptoSaid'. A law counts once. -/
mutual
def uptoBulk {H : Type} : DataW H → Nat
  | .lit (.string bytes) => bytes.length + 1
  | .lit _ => 1
  | .nil => 1
  | .ptr d => uptoBulk d + 1
  | .slice elems spare => uptoBulkAll elems + uptoBulkAll spare + 1
  | .agg parts => uptoBulkAll parts + 1
  | .iface _ d => uptoBulk d + 1
  | .map entries => uptoBulkEntries entries + 1
  | .held _ => 1
def uptoBulkAll {H : Type} : List (DataW H) → Nat
  | [] => 0
  | d :: r => uptoBulk d + uptoBulkAll r
def uptoBulkEntries {H : Type} : List (Lit × DataW H) → Nat
  | [] => 0
  | x :: r => uptoBulkEntry x + uptoBulkEntries r
def uptoBulkEntry {H : Type} : Lit × DataW H → Nat
  | (.string bytes, d) => bytes.length + uptoBulk d + 1
  | (_, d) => uptoBulk d + 1
 end
def uptoSmall : (H : Type) → List (DataW H) → Bool := fun _ ds => decide (uptoBulkAll ds ≤ 1048576)
def OpenSpec.upto (s : _root_.Go.ChangeSpec) : _root_.Go.OpenSpec := { _root_.Go.OpenSpec.ofChange s with cond := some uptoSmall }

/-- 'galleylaw12.RegexMeans', WHERE WHAT IT READS IS OF BULK AT MOST 1048576: true; the input reads as it did. -/
def regexMeansUptoRow : OpenClaim := { program := "ytopmnmigpbdddaagreatdoor", sum := "6cbf6166dbd663995bd35604ffc5f1cf32f813f4bc14e67114f5a891ac2c0a52", func := "galley/galleylaw12.RegexMeans", spec := "regexMeans", inPlace := ["internal/bytealg.IndexByteString"], unfollowed := true, recurses := true, named := ["galley/backref.none"], plainKeys := false, apart := false, laid := [("galley/backref.none", laid_galley_backref_none)], narrowed := true }
def RegexMeansUptoSaid : Prop := regexMeansUptoRow.holds Tryz.pinned (OpenSpec.upto regexMeansSpec)

/-- 'galleylaw12.RegexTower', WHERE WHAT IT READS IS OF BULK AT MOST 1048576: true; the input reads as it did. -/
def regexTowerUptoRow : OpenClaim := { program := "ytopmnmigpbdddaagreatdoor", sum := "6cbf6166dbd663995bd35604ffc5f1cf32f813f4bc14e67114f5a891ac2c0a52", func := "galley/galleylaw12.RegexTower", spec := "regexTower", inPlace := ["internal/bytealg.IndexByteString"], unfollowed := true, recurses := true, named := ["galley/backref.none"], plainKeys := false, apart := false, laid := [("galley/backref.none", laid_galley_backref_none)], narrowed := true }
def RegexTowerUptoSaid : Prop := regexTowerUptoRow.holds Tryz.pinned (OpenSpec.upto regexTowerSpec)

/-- 'galleylaw12.RegexRow', WHERE WHAT IT READS IS OF BULK AT MOST 1048576: true; the input reads as it did. -/
def regexRowUptoRow : OpenClaim := { program := "ytopmnmigpbdddaagreatdoor", sum := "6cbf6166dbd663995bd35604ffc5f1cf32f813f4bc14e67114f5a891ac2c0a52", func := "galley/galleylaw12.RegexRow", spec := "regexRow", inPlace := ["internal/bytealg.IndexByteString"], unfollowed := true, recurses := true, named := ["galley/backref.none"], plainKeys := false, apart := false, laid := [("galley/backref.none", laid_galley_backref_none)], narrowed := true }
def RegexRowUptoSaid : Prop := regexRowUptoRow.holds Tryz.pinned (OpenSpec.upto regexRowSpec)

/-- 'galleylaw12.RegexFinds', WHERE WHAT IT READS IS OF BULK AT MOST 1048576: true; the input reads as it did. -/
def regexFindsUptoRow : OpenClaim := { program := "ytopmnmigpbdddaagreatdoor", sum := "6cbf6166dbd663995bd35604ffc5f1cf32f813f4bc14e67114f5a891ac2c0a52", func := "galley/galleylaw12.RegexFinds", spec := "regexFinds", inPlace := ["internal/bytealg.IndexByteString"], unfollowed := true, recurses := true, named := ["galley/backref.none", "internal/strconv.uint64pow10", "math/bits.deBruijn32tab", "math/bits.deBruijn64tab"], plainKeys := false, apart := false, laid := [("math/bits.deBruijn32tab", laid_math_bits_deBruijn32tab), ("math/bits.deBruijn64tab", laid_math_bits_deBruijn64tab), ("internal/strconv.uint64pow10", laid_internal_strconv_uint64pow10), ("galley/backref.none", laid_galley_backref_none)], narrowed := true }
def RegexFindsUptoSaid : Prop := regexFindsUptoRow.holds Tryz.pinned (OpenSpec.upto regexFindsSpec)

/-- 'galleylaw12.RegexMakes', WHERE WHAT IT READS IS OF BULK AT MOST 1048576: true; the input reads as it did. -/
def regexMakesUptoRow : OpenClaim := { program := "ytopmnmigpbdddaagreatdoor", sum := "6cbf6166dbd663995bd35604ffc5f1cf32f813f4bc14e67114f5a891ac2c0a52", func := "galley/galleylaw12.RegexMakes", spec := "regexMakes", inPlace := ["internal/bytealg.IndexByteString"], unfollowed := true, recurses := true, named := ["galley/backref.none", "internal/strconv.uint64pow10", "math/bits.deBruijn32tab", "math/bits.deBruijn64tab"], plainKeys := false, apart := false, laid := [("math/bits.deBruijn32tab", laid_math_bits_deBruijn32tab), ("math/bits.deBruijn64tab", laid_math_bits_deBruijn64tab), ("internal/strconv.uint64pow10", laid_internal_strconv_uint64pow10), ("galley/backref.none", laid_galley_backref_none)], narrowed := true }
def RegexMakesUptoSaid : Prop := regexMakesUptoRow.holds Tryz.pinned (OpenSpec.upto regexMakesSpec)

/-- 'galleylaw12.RegexAlls', WHERE WHAT IT READS IS OF BULK AT MOST 1048576: true; the input reads as it did. -/
def regexAllsUptoRow : OpenClaim := { program := "ytopmnmigpbdddaagreatdoor", sum := "6cbf6166dbd663995bd35604ffc5f1cf32f813f4bc14e67114f5a891ac2c0a52", func := "galley/galleylaw12.RegexAlls", spec := "regexAlls", inPlace := ["internal/bytealg.IndexByteString"], unfollowed := true, recurses := true, named := ["galley/backref.none", "internal/strconv.uint64pow10", "math/bits.deBruijn32tab", "math/bits.deBruijn64tab"], plainKeys := false, apart := false, laid := [("math/bits.deBruijn32tab", laid_math_bits_deBruijn32tab), ("math/bits.deBruijn64tab", laid_math_bits_deBruijn64tab), ("internal/strconv.uint64pow10", laid_internal_strconv_uint64pow10), ("galley/backref.none", laid_galley_backref_none)], narrowed := true }
def RegexAllsUptoSaid : Prop := regexAllsUptoRow.holds Tryz.pinned (OpenSpec.upto regexAllsSpec)

end Rows
end Go.Proofs.YtopmnmigpbdddaaGreatDoor
