/-
  No cell of these rows narrows 'for every input' (looked for: loops, veiled, ifaces, maps, wideKeys, modest, calm, conditions, laid).
  DERIVED. THE GIVEN ROWS OF THIS SEAT. 3 by the template 'for every input the law returns true; each argument reads behind the call as it read before'; 0 by the template 'total and deterministic' (their statements: YtiggliigookieaaTotals.lean).
  GIVEN WITH THE SEED: the statements are not yours to turn. If you find one false, say at which input.
  Laid BY PROGRAM, IN A SANDBOX (cutbox-rows.mjs): the forced cells as the released guide's own fill.sh prints them over the translation 9c21b98fc90c8730… (all of the seat's roots in one cut). By AI agents, Wed Nov 11 2026. No macro, syntax, notation, axiom, sorry.
-/
import Derived.Test.YtiggliigookieaaChecked
import GoSem.Claim
import GoSem.ClaimJoined
import GoSem.ClaimMapViews
import Derived.JoinedTies
import Derived.KernelRfl
namespace Go.Proofs.Ytiggliigookieaa
/- THE CELL 'sum', in the pinned program and in every row, IS THE sha256 OF THE DUMP (.gsa) THAT YtiggliigookieaaProg.lean LOADS. Nothing in Lean hashes anything: it is a label: what it is worth is what the hold of that sum in a sandbox is worth. -/
noncomputable def Try.pinned : Pinned := { name := "ytiggliigookieaa", sum := "9c21b98fc90c87306a871f4482daca0a0a7994cd82d1d3da974175d61ddfbbb9", checked := Try.checked }
namespace Rows
def none {H : Type} : Left H := { results := [], args := [] }

/-- 'galleylaw10.CaptureBest': WHATEVER THE INPUT: true; the input reads as it did. -/
def captureBestSpec : ChangeSpec := { name := "captureBest", fn := fun _ => fun
  | [d1, d2, d3] => { results := [.lit (.bool true)], args := [d1, d2, d3] }
  | _ => none }
def captureBestRow : OpenClaim := { program := "ytiggliigookieaa", sum := "9c21b98fc90c87306a871f4482daca0a0a7994cd82d1d3da974175d61ddfbbb9", func := "galley/galleylaw10.CaptureBest", spec := "captureBest", unfollowed := true, recurses := true, plainKeys := false, apart := false }
def CaptureBestSaid : Prop := captureBestRow.holds Try.pinned (OpenSpec.ofChange captureBestSpec)

/-- ITS FALSE NEIGHBOUR: 'it returns false'. Refute it at one input. -/
def captureBestWrong : ChangeSpec := { name := "captureBest", fn := fun _ => fun
  | [d1, d2, d3] => { results := [.lit (.bool false)], args := [d1, d2, d3] }
  | _ => none }
def CaptureBestWrongFalsely : Prop := captureBestRow.holds Try.pinned (OpenSpec.ofChange captureBestWrong)

/-- 'galleylaw10.CaptureLongest': WHATEVER THE INPUT: true; the input reads as it did. -/
def captureLongestSpec : ChangeSpec := { name := "captureLongest", fn := fun _ => fun
  | [d1, d2, d3] => { results := [.lit (.bool true)], args := [d1, d2, d3] }
  | _ => none }
def captureLongestRow : OpenClaim := { program := "ytiggliigookieaa", sum := "9c21b98fc90c87306a871f4482daca0a0a7994cd82d1d3da974175d61ddfbbb9", func := "galley/galleylaw10.CaptureLongest", spec := "captureLongest", unfollowed := true, recurses := true, plainKeys := false, apart := false }
def CaptureLongestSaid : Prop := captureLongestRow.holds Try.pinned (OpenSpec.ofChange captureLongestSpec)

/-- ITS FALSE NEIGHBOUR: 'it returns false'. Refute it at one input. -/
def captureLongestWrong : ChangeSpec := { name := "captureLongest", fn := fun _ => fun
  | [d1, d2, d3] => { results := [.lit (.bool false)], args := [d1, d2, d3] }
  | _ => none }
def CaptureLongestWrongFalsely : Prop := captureLongestRow.holds Try.pinned (OpenSpec.ofChange captureLongestWrong)

/-- 'galleylaw10.CaptureNests': WHATEVER THE INPUT: true; the input reads as it did. -/
def captureNestsSpec : ChangeSpec := { name := "captureNests", fn := fun _ => fun
  | [d1, d2, d3] => { results := [.lit (.bool true)], args := [d1, d2, d3] }
  | _ => none }
def captureNestsRow : OpenClaim := { program := "ytiggliigookieaa", sum := "9c21b98fc90c87306a871f4482daca0a0a7994cd82d1d3da974175d61ddfbbb9", func := "galley/galleylaw10.CaptureNests", spec := "captureNests", unfollowed := true, recurses := true, plainKeys := false, apart := false }
def CaptureNestsSaid : Prop := captureNestsRow.holds Try.pinned (OpenSpec.ofChange captureNestsSpec)

/-- ITS FALSE NEIGHBOUR: 'it returns false'. Refute it at one input. -/
def captureNestsWrong : ChangeSpec := { name := "captureNests", fn := fun _ => fun
  | [d1, d2, d3] => { results := [.lit (.bool false)], args := [d1, d2, d3] }
  | _ => none }
def CaptureNestsWrongFalsely : Prop := captureNestsRow.holds Try.pinned (OpenSpec.ofChange captureNestsWrong)

/- THE SECOND FORM. 'bulk': how many values and letters a reading holds, each counted each time it is reached (what is shared counts as often as it is met; a slice's spare places count too). A statement '..UptoSaid' is the law's where the arguments, and the package variables that the reading takes, are together of bulk at most 1048576: NARROWER than '..Said'. Prove '..Said' where nothing that the law and all that it calls make is longer than what came in: it says more and counts as full. Else prove '..UptoSaid'. A law counts once. -/
mutual
def uptoBulk {H : Type} : DataW H → Nat
  | .lit (.string bytes) => bytes.length + 1
  | .lit _ => 1
  | .nil => 1
  | .ptr d => uptoBulk d + 1
  | .slice elems spare => uptoBulkAll elems + uptoBulkAll spare + 1
  | .agg parts => uptoBulkAll parts + 1
  | .iface _ d => uptoBulk d + 1
  | .map entries => uptoBulkEntries entries + 1
  | .held _ => 1
def uptoBulkAll {H : Type} : List (DataW H) → Nat
  | [] => 0
  | d :: r => uptoBulk d + uptoBulkAll r
def uptoBulkEntries {H : Type} : List (Lit × DataW H) → Nat
  | [] => 0
  | x :: r => uptoBulkEntry x + uptoBulkEntries r
def uptoBulkEntry {H : Type} : Lit × DataW H → Nat
  | (.string bytes, d) => bytes.length + uptoBulk d + 1
  | (_, d) => uptoBulk d + 1
 end
def uptoSmall : (H : Type) → List (DataW H) → Bool := fun _ ds => decide (uptoBulkAll ds ≤ 1048576)
def OpenSpec.upto (s : _root_.Go.ChangeSpec) : _root_.Go.OpenSpec := { _root_.Go.OpenSpec.ofChange s with cond := some uptoSmall }

/-- 'galleylaw10.CaptureBest', WHERE WHAT IT READS IS OF BULK AT MOST 1048576: true; the input reads as it did. -/
def captureBestUptoRow : OpenClaim := { program := "ytiggliigookieaa", sum := "9c21b98fc90c87306a871f4482daca0a0a7994cd82d1d3da974175d61ddfbbb9", func := "galley/galleylaw10.CaptureBest", spec := "captureBest", unfollowed := true, recurses := true, plainKeys := false, apart := false, narrowed := true }
def CaptureBestUptoSaid : Prop := captureBestUptoRow.holds Try.pinned (OpenSpec.upto captureBestSpec)

/-- 'galleylaw10.CaptureLongest', WHERE WHAT IT READS IS OF BULK AT MOST 1048576: true; the input reads as it did. -/
def captureLongestUptoRow : OpenClaim := { program := "ytiggliigookieaa", sum := "9c21b98fc90c87306a871f4482daca0a0a7994cd82d1d3da974175d61ddfbbb9", func := "galley/galleylaw10.CaptureLongest", spec := "captureLongest", unfollowed := true, recurses := true, plainKeys := false, apart := false, narrowed := true }
def CaptureLongestUptoSaid : Prop := captureLongestUptoRow.holds Try.pinned (OpenSpec.upto captureLongestSpec)

/-- 'galleylaw10.CaptureNests', WHERE WHAT IT READS IS OF BULK AT MOST 1048576: true; the input reads as it did. -/
def captureNestsUptoRow : OpenClaim := { program := "ytiggliigookieaa", sum := "9c21b98fc90c87306a871f4482daca0a0a7994cd82d1d3da974175d61ddfbbb9", func := "galley/galleylaw10.CaptureNests", spec := "captureNests", unfollowed := true, recurses := true, plainKeys := false, apart := false, narrowed := true }
def CaptureNestsUptoSaid : Prop := captureNestsUptoRow.holds Try.pinned (OpenSpec.upto captureNestsSpec)

end Rows
end Go.Proofs.Ytiggliigookieaa
