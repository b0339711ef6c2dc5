/- Part of the proofs over this seat: see the text that holds the theorem. Conditions: each theorem bears its own. -/
import Derived.Test.YthbnkifjplbhgaaF2
import Derived.Test.YthbnkifjplbhgaaHlB
namespace Go.Proofs.Ythbnkifjplbhgaa
open Go Go.HL Go.Proofs
instance m103 : TM Try.prog 103 "galley/queue.says" 97 := tm_of (by kernel_rfl) (by kernel_rfl)
instance m104 : TM Try.prog 104 "galley/queue.says" 100 := tm_of (by kernel_rfl) (by kernel_rfl)
theorem ta103 : ((Try.prog.underlying 109).bind fun d => (Try.prog.info? 103).map fun i => match d with | .interface want => (want.toList.filter fun p => !i.methods.any fun m => m.name == p.1 && m.sig == p.2).isEmpty | _ => true) = some false := by kernel_rfl
theorem ta104 : ((Try.prog.underlying 109).bind fun d => (Try.prog.info? 104).map fun i => match d with | .interface want => (Instr.missingMethod want i.methods).isNone | _ => false) = some true := by kernel_rfl
end Go.Proofs.Ythbnkifjplbhgaa
