/-
  No cell of these rows narrows 'for every input' (looked for: loops, veiled, ifaces, maps, wideKeys, modest, calm, conditions, laid).
  DERIVED. THE GIVEN ROWS OF THIS SEAT. 3 by the template 'for every input the law returns true; each argument reads behind the call as it read before'; 0 by the template 'total and deterministic' (their statements: YtmpeokbongnniaaTotals.lean).
  GIVEN WITH THE SEED: the statements are not yours to turn. If you find one false, say at which input.
  Laid BY PROGRAM, IN A SANDBOX (cutbox-rows.mjs): the forced cells as the released guide's own fill.sh prints them over the translation 3e386b66eb5b8e84… (all of the seat's roots in one cut). By AI agents, Wed Nov 11 2026. No macro, syntax, notation, axiom, sorry.
-/
import Derived.Test.YtmpeokbongnniaaChecked
import GoSem.Claim
import GoSem.ClaimJoined
import GoSem.ClaimMapViews
import Derived.JoinedTies
import Derived.KernelRfl
namespace Go.Proofs.Ytmpeokbongnniaa
/- THE CELL 'sum', in the pinned program and in every row, IS THE sha256 OF THE DUMP (.gsa) THAT YtmpeokbongnniaaProg.lean LOADS. Nothing in Lean hashes anything: it is a label: what it is worth is what the hold of that sum in a sandbox is worth. -/
noncomputable def Try.pinned : Pinned := { name := "ytmpeokbongnniaa", sum := "3e386b66eb5b8e841dd5ff51492baf176a0fbd78adbcf7aa75a1de57cbdab63f", checked := Try.checked }
namespace Rows
def none {H : Type} : Left H := { results := [], args := [] }

/-- 'galleylaw17.ChangeSame': WHATEVER THE INPUT: true; the input reads as it did. -/
def changeSameSpec : ChangeSpec := { name := "changeSame", fn := fun _ => fun
  | [d1, d2, d3] => { results := [.lit (.bool true)], args := [d1, d2, d3] }
  | _ => none }
def changeSameRow : OpenClaim := { program := "ytmpeokbongnniaa", sum := "3e386b66eb5b8e841dd5ff51492baf176a0fbd78adbcf7aa75a1de57cbdab63f", func := "galley/galleylaw17.ChangeSame", spec := "changeSame", unfollowed := true, recurses := true, plainKeys := false, apart := false }
def ChangeSameSaid : Prop := changeSameRow.holds Try.pinned (OpenSpec.ofChange changeSameSpec)

/-- ITS FALSE NEIGHBOUR: 'it returns false'. Refute it at one input. -/
def changeSameWrong : ChangeSpec := { name := "changeSame", fn := fun _ => fun
  | [d1, d2, d3] => { results := [.lit (.bool false)], args := [d1, d2, d3] }
  | _ => none }
def ChangeSameWrongFalsely : Prop := changeSameRow.holds Try.pinned (OpenSpec.ofChange changeSameWrong)

/-- 'galleylaw17.ChangeMost': WHATEVER THE INPUT: true; the input reads as it did. -/
def changeMostSpec : ChangeSpec := { name := "changeMost", fn := fun _ => fun
  | [d1, d2] => { results := [.lit (.bool true)], args := [d1, d2] }
  | _ => none }
def changeMostRow : OpenClaim := { program := "ytmpeokbongnniaa", sum := "3e386b66eb5b8e841dd5ff51492baf176a0fbd78adbcf7aa75a1de57cbdab63f", func := "galley/galleylaw17.ChangeMost", spec := "changeMost", unfollowed := true, recurses := true, plainKeys := false, apart := false }
def ChangeMostSaid : Prop := changeMostRow.holds Try.pinned (OpenSpec.ofChange changeMostSpec)

/-- ITS FALSE NEIGHBOUR: 'it returns false'. Refute it at one input. -/
def changeMostWrong : ChangeSpec := { name := "changeMost", fn := fun _ => fun
  | [d1, d2] => { results := [.lit (.bool false)], args := [d1, d2] }
  | _ => none }
def ChangeMostWrongFalsely : Prop := changeMostRow.holds Try.pinned (OpenSpec.ofChange changeMostWrong)

/-- 'galleylaw17.ChangeAll': WHATEVER THE INPUT: true; the input reads as it did. -/
def changeAllSpec : ChangeSpec := { name := "changeAll", fn := fun _ => fun
  | [d1, d2] => { results := [.lit (.bool true)], args := [d1, d2] }
  | _ => none }
def changeAllRow : OpenClaim := { program := "ytmpeokbongnniaa", sum := "3e386b66eb5b8e841dd5ff51492baf176a0fbd78adbcf7aa75a1de57cbdab63f", func := "galley/galleylaw17.ChangeAll", spec := "changeAll", unfollowed := true, recurses := true, plainKeys := false, apart := false }
def ChangeAllSaid : Prop := changeAllRow.holds Try.pinned (OpenSpec.ofChange changeAllSpec)

/-- ITS FALSE NEIGHBOUR: 'it returns false'. Refute it at one input. -/
def changeAllWrong : ChangeSpec := { name := "changeAll", fn := fun _ => fun
  | [d1, d2] => { results := [.lit (.bool false)], args := [d1, d2] }
  | _ => none }
def ChangeAllWrongFalsely : Prop := changeAllRow.holds Try.pinned (OpenSpec.ofChange changeAllWrong)

/- THE SECOND FORM. 'bulk': how many values and letters a reading holds, each counted each time it is reached (what is shared counts as often as it is met; a slice's spare places count too). A statement '..UptoSaid' is the law's where the arguments, and the package variables that the reading takes, are together of bulk at most 1048576: NARROWER than '..Said'. Prove '..Said' where nothing that the law and all that it calls make is longer than what came in: it says more and counts as full. Else prove '..UptoSaid'. A law counts once. -/
mutual
def uptoBulk {H : Type} : DataW H → Nat
  | .lit (.string bytes) => bytes.length + 1
  | .lit _ => 1
  | .nil => 1
  | .ptr d => uptoBulk d + 1
  | .slice elems spare => uptoBulkAll elems + uptoBulkAll spare + 1
  | .agg parts => uptoBulkAll parts + 1
  | .iface _ d => uptoBulk d + 1
  | .map entries => uptoBulkEntries entries + 1
  | .held _ => 1
def uptoBulkAll {H : Type} : List (DataW H) → Nat
  | [] => 0
  | d :: r => uptoBulk d + uptoBulkAll r
def uptoBulkEntries {H : Type} : List (Lit × DataW H) → Nat
  | [] => 0
  | x :: r => uptoBulkEntry x + uptoBulkEntries r
def uptoBulkEntry {H : Type} : Lit × DataW H → Nat
  | (.string bytes, d) => bytes.length + uptoBulk d + 1
  | (_, d) => uptoBulk d + 1
 end
def uptoSmall : (H : Type) → List (DataW H) → Bool := fun _ ds => decide (uptoBulkAll ds ≤ 1048576)
def OpenSpec.upto (s : _root_.Go.ChangeSpec) : _root_.Go.OpenSpec := { _root_.Go.OpenSpec.ofChange s with cond := some uptoSmall }

/-- 'galleylaw17.ChangeSame', WHERE WHAT IT READS IS OF BULK AT MOST 1048576: true; the input reads as it did. -/
def changeSameUptoRow : OpenClaim := { program := "ytmpeokbongnniaa", sum := "3e386b66eb5b8e841dd5ff51492baf176a0fbd78adbcf7aa75a1de57cbdab63f", func := "galley/galleylaw17.ChangeSame", spec := "changeSame", unfollowed := true, recurses := true, plainKeys := false, apart := false, narrowed := true }
def ChangeSameUptoSaid : Prop := changeSameUptoRow.holds Try.pinned (OpenSpec.upto changeSameSpec)

/-- 'galleylaw17.ChangeMost', WHERE WHAT IT READS IS OF BULK AT MOST 1048576: true; the input reads as it did. -/
def changeMostUptoRow : OpenClaim := { program := "ytmpeokbongnniaa", sum := "3e386b66eb5b8e841dd5ff51492baf176a0fbd78adbcf7aa75a1de57cbdab63f", func := "galley/galleylaw17.ChangeMost", spec := "changeMost", unfollowed := true, recurses := true, plainKeys := false, apart := false, narrowed := true }
def ChangeMostUptoSaid : Prop := changeMostUptoRow.holds Try.pinned (OpenSpec.upto changeMostSpec)

/-- 'galleylaw17.ChangeAll', WHERE WHAT IT READS IS OF BULK AT MOST 1048576: true; the input reads as it did. -/
def changeAllUptoRow : OpenClaim := { program := "ytmpeokbongnniaa", sum := "3e386b66eb5b8e841dd5ff51492baf176a0fbd78adbcf7aa75a1de57cbdab63f", func := "galley/galleylaw17.ChangeAll", spec := "changeAll", unfollowed := true, recurses := true, plainKeys := false, apart := false, narrowed := true }
def ChangeAllUptoSaid : Prop := changeAllUptoRow.holds Try.pinned (OpenSpec.upto changeAllSpec)

end Rows
end Go.Proofs.Ytmpeokbongnniaa
