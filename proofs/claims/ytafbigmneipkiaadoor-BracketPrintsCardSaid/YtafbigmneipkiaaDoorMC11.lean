/- Part of the proofs over this seat: see the text that holds the theorem. Conditions: each theorem bears its own. -/
import Derived.Test.YtafbigmneipkiaaDoorMC10
namespace Go.HL.Kl
open Go Go.HL
/-- the class of works -/
def wK : Cl := ofL [97, 99]
theorem wK97 : wK.getLsbD 97 = true := by decide +kernel
theorem wK98 : wK.getLsbD 98 = false := by decide +kernel
theorem wKsize : size wK = 2 := by decide +kernel
theorem wKruns : runs wK = [(97, 97), (99, 99)] := by decide +kernel
theorem wKatoms : atoms [wK] = [~~~wK, wK] := by decide +kernel
end Go.HL.Kl
