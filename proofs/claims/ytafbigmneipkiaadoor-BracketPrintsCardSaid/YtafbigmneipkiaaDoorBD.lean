/- Part of the proofs over this seat: see the text that holds the theorem. Conditions: each theorem bears its own. -/
import Derived.Test.YtafbigmneipkiaaDoorBF1
import Derived.Test.YtafbigmneipkiaaDoorMBT
import Derived.Test.YtafbigmneipkiaaDoorMC12
import Derived.Test.YtafbigmneipkiaaDoorM4
import Derived.Test.YtafbigmneipkiaaDoorHlB
import Derived.Test.YtafbigmneipkiaaDoorRows
import Derived.ProofKit
import Derived.LaidMore
import Derived.Stop.Joined
import Derived.Lib.LaidTab
namespace Go.Proofs.YtafbigmneipkiaaDoor
open Go Go.HL Go.Proofs Go.HL.Kl
theorem own : ownKnob Tryd.prog.godebug = none := by kernel_rfl
theorem laidOut : laidOutB Tryd.prog = true := by kernel_rfl
/-- the two listed variables -/
def laidL : List (String × DataW Unit) := [("math/bits.deBruijn64tab", Rows.laid_math_bits_deBruijn64tab), ("galley/bracket.apart", Rows.laid_galley_bracket_apart)]
/-- the door's own heap meets the condition -/
theorem door_met (os : Os) (args : Array Value) : laidMetH Tryd.prog [("math/bits.deBruijn64tab", Rows.laid_math_bits_deBruijn64tab), ("galley/bracket.apart", Rows.laid_galley_bracket_apart)] ((World.doorLaid Tryd.prog 400 os).forCall (fun _ _ => 0) ⟨#[], args, []⟩).memory :=
  laidMetH_of_parts3 (fuel := 8) (laidMet_of_run' 8 (by kernel_rfl) (by kernel_rfl)) (by kernel_rfl) (by kernel_rfl)
theorem tab_eq : Rows.laid_math_bits_deBruijn64tab = Lib.tabData (H := Unit) .u8 (Lib.deBruijn64tab.map fun n : Nat => (n : Int)) := rfl
theorem ap_eq : Rows.laid_galley_bracket_apart = Lib.tabData (H := Unit) .u8 [91, 93, 45, 94] := rfl
theorem vars_head {P : Program} {W : World} {name : String} {k : IntKind} {zs : List Int} {rest : List (String × DataW Unit)} {ps : List MemPlace} {g : Nat} {t e : TypeId} {n : Nat}
    (hg : P.globalNamed name = some g) (hty : (P.globals[g]?).map (·.type) = some t) (ht : P.underlying t = some (.array n e)) (he : P.underlying e = some (.int k)) (hce : P.cellsOf e = 1) (hct : P.cellsOf t = n)
    (h : DataW.LaidVars P W ((name, Lib.tabData k zs) :: rest) ps) : Lib.TabIs P W name k zs ∧ ∃ q, DataW.LaidVars P W rest q := by
  obtain ⟨g', t', cs, fuel, p, q, hg', ht', hvar, hd, hr, _⟩ := h
  obtain rfl := Option.some.inj (hg.symm.trans hg')
  obtain rfl := Option.some.inj (hty.symm.trans ht')
  refine ⟨?_, q, hr⟩
  unfold Lib.TabIs
  rw [hvar, ← Lib.cells_of_tab ht he hce hct hd]
theorem tb_laid {W : World} (h : laidMetH Tryd.prog [("math/bits.deBruijn64tab", Rows.laid_math_bits_deBruijn64tab), ("galley/bracket.apart", Rows.laid_galley_bracket_apart)] W) : TbB [] W := by
  rw [MakeChecks.laidMetH_plain _ _ _ (by kernel_rfl)] at h
  rw [tab_eq, ap_eq] at h
  obtain ⟨ps, hv, _⟩ := h
  obtain ⟨ht, q, hr⟩ := vars_head (g := 1) (t := 156) (e := 5) (n := 64) (by kernel_rfl) (by kernel_rfl) (by kernel_rfl) (by kernel_rfl) (by kernel_rfl) (by kernel_rfl) hv
  obtain ⟨ha, _⟩ := vars_head (g := 0) (t := 110) (e := 5) (n := 4) (by kernel_rfl) (by kernel_rfl) (by kernel_rfl) (by kernel_rfl) (by kernel_rfl) (by kernel_rfl) hr
  have h1 := rdp_of_tab (g := 1) (by kernel_rfl) ht
  have h2 := rdp_of_tab (g := 0) (by kernel_rfl) ha
  rw [List.map_map] at h1
  exact ⟨⟨h1, fun hm => by cases hm⟩, ⟨h2, fun hm => by cases hm⟩⟩
open Go.Tab in
theorem open_mark : Opens Tryd.prog 35 Em (fun _ _ => True) :=
  open_struct2 Tryd.underlying35 rfl (by kernel_rfl) (by kernel_rfl) (open_u8 Tryd.underlying5) (open_bool' Tryd.underlying4) fun _ b p _ _ => ⟨⟨b, p⟩, rfl, trivial⟩
end Go.Proofs.YtafbigmneipkiaaDoor
