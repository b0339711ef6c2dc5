/- Part of the proofs over this seat: see the text that holds the theorem. Conditions: each theorem bears its own. -/
import Derived.Test.YthbnkifjplbhgaaM4
import Derived.Test.YthbnkifjplbhgaaHlB
namespace Go.Proofs.Ythbnkifjplbhgaa
open Go Go.HL Go.Proofs

def row0 (sls : List (Sl UInt8)) (j : Nat) : Sl UInt8 := sls.getD j ⟨none, 0, []⟩
theorem row0_get {sls : List (Sl UInt8)} {j : Nat} (h : j < sls.length) : sls[j]? = some (row0 sls j) := by simp [row0, List.getD, List.getElem?_eq_getElem h]
theorem row0_mem {sls : List (Sl UInt8)} {j : Nat} (h : j < sls.length) : row0 sls j ∈ sls := List.mem_of_getElem? (row0_get h)
theorem rowcp {sls acc : List (Sl UInt8)} {j : Nat} (hj : j < sls.length) (h : acc.map Sl.xs = (sls.take j).map Sl.xs) {a : Option Addr} {c : Nat} : (acc ++ [(⟨a, c, (row0 sls j).xs⟩ : Sl UInt8)]).map Sl.xs = (sls.take (j + 1)).map Sl.xs := by
  rw [List.map_append, h, List.take_add_one, row0_get hj, List.map_append]
  rfl
theorem rows_snoc {acc : List (Sl UInt8)} {Si S : Hp} {a : Option Addr} {c : Nat} {xs : List UInt8} {k T : Nat} (h : ∀ s ∈ acc, RdS Eb s.v s.xs Si) (ho : OwnS Eb k T (.slice a xs.length c) xs S) : ∀ s ∈ acc ++ [(⟨a, c, xs⟩ : Sl UInt8)], RdS Eb s.v s.xs (S ++ Si) := by
  intro s hs
  rcases List.mem_append.1 hs with hs | hs
  · exact (h s hs).mono HIn.appR
  · obtain rfl : s = ⟨a, c, xs⟩ := by simpa using hs
    exact ho.rds.mono HIn.appL
end Go.Proofs.Ythbnkifjplbhgaa
