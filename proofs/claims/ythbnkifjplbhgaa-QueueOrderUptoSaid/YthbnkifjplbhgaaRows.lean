/-
  No cell of these rows narrows 'for every input' (looked for: loops, veiled, ifaces, maps, wideKeys, modest, calm, conditions, laid).
  DERIVED. THE GIVEN ROWS OF THIS SEAT. 11 by the template 'for every input the law returns true; each argument reads behind the call as it read before'; 0 by the template 'total and deterministic' (their statements: YthbnkifjplbhgaaTotals.lean).
  GIVEN WITH THE SEED: the statements are not yours to turn. If you find one false, say at which input.
  Laid BY PROGRAM, IN A SANDBOX (cutbox-rows.mjs): the forced cells as the released guide's own fill.sh prints them over the translation 2191272054e621ea… (all of the seat's roots in one cut). By AI agents, Wed Nov 11 2026. No macro, syntax, notation, axiom, sorry.
-/
import Derived.Test.YthbnkifjplbhgaaChecked
import GoSem.Claim
import GoSem.ClaimJoined
import GoSem.ClaimMapViews
import Derived.JoinedTies
import Derived.KernelRfl
namespace Go.Proofs.Ythbnkifjplbhgaa
/- THE CELL 'sum', in the pinned program and in every row, IS THE sha256 OF THE DUMP (.gsa) THAT YthbnkifjplbhgaaProg.lean LOADS. Nothing in Lean hashes anything: it is a label: what it is worth is what the hold of that sum in a sandbox is worth. -/
noncomputable def Try.pinned : Pinned := { name := "ythbnkifjplbhgaa", sum := "2191272054e621eaee3bd333150f0b59efb1ec72fe084c1ef3563023f7b13124", checked := Try.checked }
namespace Rows
def none {H : Type} : Left H := { results := [], args := [] }

/-- 'galleylaw24.QueueOrder': WHATEVER THE INPUT: true; the input reads as it did. -/
def queueOrderSpec : ChangeSpec := { name := "queueOrder", fn := fun _ => fun
  | [d1, d2] => { results := [.lit (.bool true)], args := [d1, d2] }
  | _ => none }
def queueOrderRow : OpenClaim := { program := "ythbnkifjplbhgaa", sum := "2191272054e621eaee3bd333150f0b59efb1ec72fe084c1ef3563023f7b13124", func := "galley/galleylaw24.QueueOrder", spec := "queueOrder", unfollowed := true, recurses := true, apart := false }
def QueueOrderSaid : Prop := queueOrderRow.holds Try.pinned (OpenSpec.ofChange queueOrderSpec)

/-- ITS FALSE NEIGHBOUR: 'it returns false'. Refute it at one input. -/
def queueOrderWrong : ChangeSpec := { name := "queueOrder", fn := fun _ => fun
  | [d1, d2] => { results := [.lit (.bool false)], args := [d1, d2] }
  | _ => none }
def QueueOrderWrongFalsely : Prop := queueOrderRow.holds Try.pinned (OpenSpec.ofChange queueOrderWrong)

/-- 'galleylaw24.QueueNil': WHATEVER THE INPUT: true; the input reads as it did. -/
def queueNilSpec : ChangeSpec := { name := "queueNil", fn := fun _ => fun
  | [d1, d2] => { results := [.lit (.bool true)], args := [d1, d2] }
  | _ => none }
def queueNilRow : OpenClaim := { program := "ythbnkifjplbhgaa", sum := "2191272054e621eaee3bd333150f0b59efb1ec72fe084c1ef3563023f7b13124", func := "galley/galleylaw24.QueueNil", spec := "queueNil", unfollowed := true, recurses := true, apart := false }
def QueueNilSaid : Prop := queueNilRow.holds Try.pinned (OpenSpec.ofChange queueNilSpec)

/-- ITS FALSE NEIGHBOUR: 'it returns false'. Refute it at one input. -/
def queueNilWrong : ChangeSpec := { name := "queueNil", fn := fun _ => fun
  | [d1, d2] => { results := [.lit (.bool false)], args := [d1, d2] }
  | _ => none }
def QueueNilWrongFalsely : Prop := queueNilRow.holds Try.pinned (OpenSpec.ofChange queueNilWrong)

/-- 'galleylaw15.TableNews': WHATEVER THE INPUT: true; the input reads as it did. -/
def tableNewsSpec : ChangeSpec := { name := "tableNews", fn := fun _ => fun
  | [d1, d2] => { results := [.lit (.bool true)], args := [d1, d2] }
  | _ => none }
def tableNewsRow : OpenClaim := { program := "ythbnkifjplbhgaa", sum := "2191272054e621eaee3bd333150f0b59efb1ec72fe084c1ef3563023f7b13124", func := "galley/galleylaw15.TableNews", spec := "tableNews", apart := false }
def TableNewsSaid : Prop := tableNewsRow.holds Try.pinned (OpenSpec.ofChange tableNewsSpec)

/-- ITS FALSE NEIGHBOUR: 'it returns false'. Refute it at one input. -/
def tableNewsWrong : ChangeSpec := { name := "tableNews", fn := fun _ => fun
  | [d1, d2] => { results := [.lit (.bool false)], args := [d1, d2] }
  | _ => none }
def TableNewsWrongFalsely : Prop := tableNewsRow.holds Try.pinned (OpenSpec.ofChange tableNewsWrong)

/-- 'galleylaw15.TableThen': WHATEVER THE INPUT: true; the input reads as it did. -/
def tableThenSpec : ChangeSpec := { name := "tableThen", fn := fun _ => fun
  | [d1, d2, d3] => { results := [.lit (.bool true)], args := [d1, d2, d3] }
  | _ => none }
def tableThenRow : OpenClaim := { program := "ythbnkifjplbhgaa", sum := "2191272054e621eaee3bd333150f0b59efb1ec72fe084c1ef3563023f7b13124", func := "galley/galleylaw15.TableThen", spec := "tableThen", apart := false }
def TableThenSaid : Prop := tableThenRow.holds Try.pinned (OpenSpec.ofChange tableThenSpec)

/-- ITS FALSE NEIGHBOUR: 'it returns false'. Refute it at one input. -/
def tableThenWrong : ChangeSpec := { name := "tableThen", fn := fun _ => fun
  | [d1, d2, d3] => { results := [.lit (.bool false)], args := [d1, d2, d3] }
  | _ => none }
def TableThenWrongFalsely : Prop := tableThenRow.holds Try.pinned (OpenSpec.ofChange tableThenWrong)

/-- 'galleylaw15.TableBack': WHATEVER THE INPUT: true; the input reads as it did. -/
def tableBackSpec : ChangeSpec := { name := "tableBack", fn := fun _ => fun
  | [d1, d2] => { results := [.lit (.bool true)], args := [d1, d2] }
  | _ => none }
def tableBackRow : OpenClaim := { program := "ythbnkifjplbhgaa", sum := "2191272054e621eaee3bd333150f0b59efb1ec72fe084c1ef3563023f7b13124", func := "galley/galleylaw15.TableBack", spec := "tableBack", apart := false }
def TableBackSaid : Prop := tableBackRow.holds Try.pinned (OpenSpec.ofChange tableBackSpec)

/-- ITS FALSE NEIGHBOUR: 'it returns false'. Refute it at one input. -/
def tableBackWrong : ChangeSpec := { name := "tableBack", fn := fun _ => fun
  | [d1, d2] => { results := [.lit (.bool false)], args := [d1, d2] }
  | _ => none }
def TableBackWrongFalsely : Prop := tableBackRow.holds Try.pinned (OpenSpec.ofChange tableBackWrong)

/-- 'galleylaw14.OutsNone': WHATEVER THE INPUT: true; the input reads as it did. -/
def outsNoneSpec : ChangeSpec := { name := "outsNone", fn := fun _ => fun
  | [d] => { results := [.lit (.bool true)], args := [d] }
  | _ => none }
def outsNoneRow : OpenClaim := { program := "ythbnkifjplbhgaa", sum := "2191272054e621eaee3bd333150f0b59efb1ec72fe084c1ef3563023f7b13124", func := "galley/galleylaw14.OutsNone", spec := "outsNone", unfollowed := true, recurses := true, apart := false }
def OutsNoneSaid : Prop := outsNoneRow.holds Try.pinned (OpenSpec.ofChange outsNoneSpec)

/-- ITS FALSE NEIGHBOUR: 'it returns false'. Refute it at one input. -/
def outsNoneWrong : ChangeSpec := { name := "outsNone", fn := fun _ => fun
  | [d] => { results := [.lit (.bool false)], args := [d] }
  | _ => none }
def OutsNoneWrongFalsely : Prop := outsNoneRow.holds Try.pinned (OpenSpec.ofChange outsNoneWrong)

/-- 'galleylaw14.OutsGathers': WHATEVER THE INPUT: true; the input reads as it did. -/
def outsGathersSpec : ChangeSpec := { name := "outsGathers", fn := fun _ => fun
  | [d1, d2] => { results := [.lit (.bool true)], args := [d1, d2] }
  | _ => none }
def outsGathersRow : OpenClaim := { program := "ythbnkifjplbhgaa", sum := "2191272054e621eaee3bd333150f0b59efb1ec72fe084c1ef3563023f7b13124", func := "galley/galleylaw14.OutsGathers", spec := "outsGathers", unfollowed := true, recurses := true, apart := false }
def OutsGathersSaid : Prop := outsGathersRow.holds Try.pinned (OpenSpec.ofChange outsGathersSpec)

/-- ITS FALSE NEIGHBOUR: 'it returns false'. Refute it at one input. -/
def outsGathersWrong : ChangeSpec := { name := "outsGathers", fn := fun _ => fun
  | [d1, d2] => { results := [.lit (.bool false)], args := [d1, d2] }
  | _ => none }
def OutsGathersWrongFalsely : Prop := outsGathersRow.holds Try.pinned (OpenSpec.ofChange outsGathersWrong)

/-- 'galleylaw14.OutsSticks': WHATEVER THE INPUT: true; the input reads as it did. -/
def outsSticksSpec : ChangeSpec := { name := "outsSticks", fn := fun _ => fun
  | [d] => { results := [.lit (.bool true)], args := [d] }
  | _ => none }
def outsSticksRow : OpenClaim := { program := "ythbnkifjplbhgaa", sum := "2191272054e621eaee3bd333150f0b59efb1ec72fe084c1ef3563023f7b13124", func := "galley/galleylaw14.OutsSticks", spec := "outsSticks", unfollowed := true, recurses := true, apart := false }
def OutsSticksSaid : Prop := outsSticksRow.holds Try.pinned (OpenSpec.ofChange outsSticksSpec)

/-- ITS FALSE NEIGHBOUR: 'it returns false'. Refute it at one input. -/
def outsSticksWrong : ChangeSpec := { name := "outsSticks", fn := fun _ => fun
  | [d] => { results := [.lit (.bool false)], args := [d] }
  | _ => none }
def OutsSticksWrongFalsely : Prop := outsSticksRow.holds Try.pinned (OpenSpec.ofChange outsSticksWrong)

/-- 'galleylaw14.OutsTwo': WHATEVER THE INPUT: true; the input reads as it did. -/
def outsTwoSpec : ChangeSpec := { name := "outsTwo", fn := fun _ => fun
  | [d1, d2, d3] => { results := [.lit (.bool true)], args := [d1, d2, d3] }
  | _ => none }
def outsTwoRow : OpenClaim := { program := "ythbnkifjplbhgaa", sum := "2191272054e621eaee3bd333150f0b59efb1ec72fe084c1ef3563023f7b13124", func := "galley/galleylaw14.OutsTwo", spec := "outsTwo", unfollowed := true, recurses := true, apart := false }
def OutsTwoSaid : Prop := outsTwoRow.holds Try.pinned (OpenSpec.ofChange outsTwoSpec)

/-- ITS FALSE NEIGHBOUR: 'it returns false'. Refute it at one input. -/
def outsTwoWrong : ChangeSpec := { name := "outsTwo", fn := fun _ => fun
  | [d1, d2, d3] => { results := [.lit (.bool false)], args := [d1, d2, d3] }
  | _ => none }
def OutsTwoWrongFalsely : Prop := outsTwoRow.holds Try.pinned (OpenSpec.ofChange outsTwoWrong)

/-- 'galleylaw15.TableNil': WHATEVER THE INPUT: true; the input reads as it did. -/
def tableNilSpec : ChangeSpec := { name := "tableNil", fn := fun _ => fun
  | [d1, d2] => { results := [.lit (.bool true)], args := [d1, d2] }
  | _ => none }
def tableNilRow : OpenClaim := { program := "ythbnkifjplbhgaa", sum := "2191272054e621eaee3bd333150f0b59efb1ec72fe084c1ef3563023f7b13124", func := "galley/galleylaw15.TableNil", spec := "tableNil", apart := false }
def TableNilSaid : Prop := tableNilRow.holds Try.pinned (OpenSpec.ofChange tableNilSpec)

/-- ITS FALSE NEIGHBOUR: 'it returns false'. Refute it at one input. -/
def tableNilWrong : ChangeSpec := { name := "tableNil", fn := fun _ => fun
  | [d1, d2] => { results := [.lit (.bool false)], args := [d1, d2] }
  | _ => none }
def TableNilWrongFalsely : Prop := tableNilRow.holds Try.pinned (OpenSpec.ofChange tableNilWrong)

/-- 'galleylaw15.TableParses': WHATEVER THE INPUT: true; the input reads as it did. -/
def tableParsesSpec : ChangeSpec := { name := "tableParses", fn := fun _ => fun
  | [d1, d2] => { results := [.lit (.bool true)], args := [d1, d2] }
  | _ => none }
def tableParsesRow : OpenClaim := { program := "ythbnkifjplbhgaa", sum := "2191272054e621eaee3bd333150f0b59efb1ec72fe084c1ef3563023f7b13124", func := "galley/galleylaw15.TableParses", spec := "tableParses", apart := false }
def TableParsesSaid : Prop := tableParsesRow.holds Try.pinned (OpenSpec.ofChange tableParsesSpec)

/-- ITS FALSE NEIGHBOUR: 'it returns false'. Refute it at one input. -/
def tableParsesWrong : ChangeSpec := { name := "tableParses", fn := fun _ => fun
  | [d1, d2] => { results := [.lit (.bool false)], args := [d1, d2] }
  | _ => none }
def TableParsesWrongFalsely : Prop := tableParsesRow.holds Try.pinned (OpenSpec.ofChange tableParsesWrong)

/- THE SECOND FORM. 'bulk': how many values and letters a reading holds, each counted each time it is reached (what is shared counts as often as it is met; a slice's spare places count too). A statement '..UptoSaid' is the law's where the arguments, and the package variables that the reading takes, are together of bulk at most 1048576: NARROWER than '..Said'. Prove '..Said' where nothing that the law and all that it calls make is longer than what came in: it says more and counts as full. Else prove '..UptoSaid'. A law counts once. -/
mutual
def uptoBulk {H : Type} : DataW H → Nat
  | .lit (.string bytes) => bytes.length + 1
  | .lit _ => 1
  | .nil => 1
  | .ptr d => uptoBulk d + 1
  | .slice elems spare => uptoBulkAll elems + uptoBulkAll spare + 1
  | .agg parts => uptoBulkAll parts + 1
  | .iface _ d => uptoBulk d + 1
  | .map entries => uptoBulkEntries entries + 1
  | .held _ => 1
def uptoBulkAll {H : Type} : List (DataW H) → Nat
  | [] => 0
  | d :: r => uptoBulk d + uptoBulkAll r
def uptoBulkEntries {H : Type} : List (Lit × DataW H) → Nat
  | [] => 0
  | x :: r => uptoBulkEntry x + uptoBulkEntries r
def uptoBulkEntry {H : Type} : Lit × DataW H → Nat
  | (.string bytes, d) => bytes.length + uptoBulk d + 1
  | (_, d) => uptoBulk d + 1
 end
def uptoSmall : (H : Type) → List (DataW H) → Bool := fun _ ds => decide (uptoBulkAll ds ≤ 1048576)
def OpenSpec.upto (s : _root_.Go.ChangeSpec) : _root_.Go.OpenSpec := { _root_.Go.OpenSpec.ofChange s with cond := some uptoSmall }

/-- 'galleylaw24.QueueOrder', WHERE WHAT IT READS IS OF BULK AT MOST 1048576: true; the input reads as it did. -/
def queueOrderUptoRow : OpenClaim := { program := "ythbnkifjplbhgaa", sum := "2191272054e621eaee3bd333150f0b59efb1ec72fe084c1ef3563023f7b13124", func := "galley/galleylaw24.QueueOrder", spec := "queueOrder", unfollowed := true, recurses := true, apart := false, narrowed := true }
def QueueOrderUptoSaid : Prop := queueOrderUptoRow.holds Try.pinned (OpenSpec.upto queueOrderSpec)

/-- 'galleylaw24.QueueNil', WHERE WHAT IT READS IS OF BULK AT MOST 1048576: true; the input reads as it did. -/
def queueNilUptoRow : OpenClaim := { program := "ythbnkifjplbhgaa", sum := "2191272054e621eaee3bd333150f0b59efb1ec72fe084c1ef3563023f7b13124", func := "galley/galleylaw24.QueueNil", spec := "queueNil", unfollowed := true, recurses := true, apart := false, narrowed := true }
def QueueNilUptoSaid : Prop := queueNilUptoRow.holds Try.pinned (OpenSpec.upto queueNilSpec)

/-- 'galleylaw15.TableNews', WHERE WHAT IT READS IS OF BULK AT MOST 1048576: true; the input reads as it did. -/
def tableNewsUptoRow : OpenClaim := { program := "ythbnkifjplbhgaa", sum := "2191272054e621eaee3bd333150f0b59efb1ec72fe084c1ef3563023f7b13124", func := "galley/galleylaw15.TableNews", spec := "tableNews", apart := false, narrowed := true }
def TableNewsUptoSaid : Prop := tableNewsUptoRow.holds Try.pinned (OpenSpec.upto tableNewsSpec)

/-- 'galleylaw15.TableThen', WHERE WHAT IT READS IS OF BULK AT MOST 1048576: true; the input reads as it did. -/
def tableThenUptoRow : OpenClaim := { program := "ythbnkifjplbhgaa", sum := "2191272054e621eaee3bd333150f0b59efb1ec72fe084c1ef3563023f7b13124", func := "galley/galleylaw15.TableThen", spec := "tableThen", apart := false, narrowed := true }
def TableThenUptoSaid : Prop := tableThenUptoRow.holds Try.pinned (OpenSpec.upto tableThenSpec)

/-- 'galleylaw15.TableBack', WHERE WHAT IT READS IS OF BULK AT MOST 1048576: true; the input reads as it did. -/
def tableBackUptoRow : OpenClaim := { program := "ythbnkifjplbhgaa", sum := "2191272054e621eaee3bd333150f0b59efb1ec72fe084c1ef3563023f7b13124", func := "galley/galleylaw15.TableBack", spec := "tableBack", apart := false, narrowed := true }
def TableBackUptoSaid : Prop := tableBackUptoRow.holds Try.pinned (OpenSpec.upto tableBackSpec)

/-- 'galleylaw14.OutsNone', WHERE WHAT IT READS IS OF BULK AT MOST 1048576: true; the input reads as it did. -/
def outsNoneUptoRow : OpenClaim := { program := "ythbnkifjplbhgaa", sum := "2191272054e621eaee3bd333150f0b59efb1ec72fe084c1ef3563023f7b13124", func := "galley/galleylaw14.OutsNone", spec := "outsNone", unfollowed := true, recurses := true, apart := false, narrowed := true }
def OutsNoneUptoSaid : Prop := outsNoneUptoRow.holds Try.pinned (OpenSpec.upto outsNoneSpec)

/-- 'galleylaw14.OutsGathers', WHERE WHAT IT READS IS OF BULK AT MOST 1048576: true; the input reads as it did. -/
def outsGathersUptoRow : OpenClaim := { program := "ythbnkifjplbhgaa", sum := "2191272054e621eaee3bd333150f0b59efb1ec72fe084c1ef3563023f7b13124", func := "galley/galleylaw14.OutsGathers", spec := "outsGathers", unfollowed := true, recurses := true, apart := false, narrowed := true }
def OutsGathersUptoSaid : Prop := outsGathersUptoRow.holds Try.pinned (OpenSpec.upto outsGathersSpec)

/-- 'galleylaw14.OutsSticks', WHERE WHAT IT READS IS OF BULK AT MOST 1048576: true; the input reads as it did. -/
def outsSticksUptoRow : OpenClaim := { program := "ythbnkifjplbhgaa", sum := "2191272054e621eaee3bd333150f0b59efb1ec72fe084c1ef3563023f7b13124", func := "galley/galleylaw14.OutsSticks", spec := "outsSticks", unfollowed := true, recurses := true, apart := false, narrowed := true }
def OutsSticksUptoSaid : Prop := outsSticksUptoRow.holds Try.pinned (OpenSpec.upto outsSticksSpec)

/-- 'galleylaw14.OutsTwo', WHERE WHAT IT READS IS OF BULK AT MOST 1048576: true; the input reads as it did. -/
def outsTwoUptoRow : OpenClaim := { program := "ythbnkifjplbhgaa", sum := "2191272054e621eaee3bd333150f0b59efb1ec72fe084c1ef3563023f7b13124", func := "galley/galleylaw14.OutsTwo", spec := "outsTwo", unfollowed := true, recurses := true, apart := false, narrowed := true }
def OutsTwoUptoSaid : Prop := outsTwoUptoRow.holds Try.pinned (OpenSpec.upto outsTwoSpec)

/-- 'galleylaw15.TableNil', WHERE WHAT IT READS IS OF BULK AT MOST 1048576: true; the input reads as it did. -/
def tableNilUptoRow : OpenClaim := { program := "ythbnkifjplbhgaa", sum := "2191272054e621eaee3bd333150f0b59efb1ec72fe084c1ef3563023f7b13124", func := "galley/galleylaw15.TableNil", spec := "tableNil", apart := false, narrowed := true }
def TableNilUptoSaid : Prop := tableNilUptoRow.holds Try.pinned (OpenSpec.upto tableNilSpec)

/-- 'galleylaw15.TableParses', WHERE WHAT IT READS IS OF BULK AT MOST 1048576: true; the input reads as it did. -/
def tableParsesUptoRow : OpenClaim := { program := "ythbnkifjplbhgaa", sum := "2191272054e621eaee3bd333150f0b59efb1ec72fe084c1ef3563023f7b13124", func := "galley/galleylaw15.TableParses", spec := "tableParses", apart := false, narrowed := true }
def TableParsesUptoSaid : Prop := tableParsesUptoRow.holds Try.pinned (OpenSpec.upto tableParsesSpec)

end Rows
end Go.Proofs.Ythbnkifjplbhgaa
