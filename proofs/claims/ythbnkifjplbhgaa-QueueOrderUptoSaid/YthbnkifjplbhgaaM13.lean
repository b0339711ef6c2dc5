/- Part of the proofs over this seat: see the text that holds the theorem. Conditions: each theorem bears its own. -/
import Derived.Test.YthbnkifjplbhgaaM12
import Derived.Test.YthbnkifjplbhgaaHlB
namespace Go.Proofs.Ythbnkifjplbhgaa
open Go Go.HL Go.Proofs

/-- what waits in a queue, as it lies there -/
structure IV where
  t : TypeId
  v : Value
def Eiv (x : IV) : List Value := [.iface x.t x.v]
instance : Enc Eiv 1 := ⟨fun _ => rfl, fun _ _ h => by simp [Eiv] at h; subst h; rfl⟩
end Go.Proofs.Ythbnkifjplbhgaa
