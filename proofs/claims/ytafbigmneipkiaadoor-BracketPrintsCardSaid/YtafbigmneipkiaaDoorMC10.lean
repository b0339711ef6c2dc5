/- Part of the proofs over this seat: see the text that holds the theorem. Conditions: each theorem bears its own. -/
import Derived.Test.YtafbigmneipkiaaDoorMC9
namespace Go.HL.Kl
open Go Go.HL
theorem getD_get {l : List Cl} {k : Nat} (h : k < l.length) : l[k]? = some (l.getD k 0) := by
  rw [List.getD_eq_getElem?_getD, List.getElem?_eq_getElem h]; rfl
theorem sink_yes {l : List Cl} {q : Nat} (h : least (l.getD (q + 1) 0) < least (l.getD q 0)) : sink l (q + 1) = sink (swap l q) q := by
  rw [sink, if_pos h]
theorem sink_no {l : List Cl} {q : Nat} (h : ¬ least (l.getD (q + 1) 0) < least (l.getD q 0)) : sink l (q + 1) = l := by
  rw [sink, if_neg h]
theorem atoms_length (l : List Cl) : (atoms l).length = (parts l).length := sortTo_len _ _
end Go.HL.Kl
