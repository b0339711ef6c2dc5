/- Part of the proofs over this seat: see the text that holds the theorem. Conditions: each theorem bears its own. -/
import Derived.Test.YtafbigmneipkiaaDoorBD
namespace Go.Proofs.YtafbigmneipkiaaDoor
open Go Go.HL Go.Proofs Go.HL.Kl
/-- likewise, of BracketPrints: four listed variables -/
theorem door_met4 (os : Os) (args : Array Value) : laidMetH Tryd.prog Rows.bracketPrintsRow.laid ((World.doorLaid Tryd.prog 400 os).forCall (fun _ _ => 0) ⟨#[], args, []⟩).memory :=
  laidMetH_of_parts3 (fuel := 8) (laidMet_of_run' 8 (by kernel_rfl) (by kernel_rfl)) (by kernel_rfl) (by kernel_rfl)
theorem vars_tail {P : Program} {W : World} {x : String × DataW Unit} {rest : List (String × DataW Unit)} {ps : List MemPlace} (h : DataW.LaidVars P W (x :: rest) ps) : ∃ q, DataW.LaidVars P W rest q := by
  obtain ⟨g', t', cs, fuel, p, q, hg', ht', hvar, hd, hr, _⟩ := h
  exact ⟨q, hr⟩
theorem tb_laid4 {W : World} (h : laidMetH Tryd.prog Rows.bracketPrintsRow.laid W) : TbB [] W := by
  rw [MakeChecks.laidMetH_plain _ _ _ (by kernel_rfl)] at h
  obtain ⟨ps, hv, _⟩ := h
  obtain ⟨q0, hv⟩ := vars_tail (x := ("math/bits.deBruijn32tab", Rows.laid_math_bits_deBruijn32tab)) (rest := [("math/bits.deBruijn64tab", Rows.laid_math_bits_deBruijn64tab), ("galley/bracket.apart", Rows.laid_galley_bracket_apart), ("internal/strconv.uint64pow10", Rows.laid_internal_strconv_uint64pow10)]) hv
  rw [tab_eq, ap_eq] at hv
  obtain ⟨ht, q, hr⟩ := vars_head (g := 1) (t := 156) (e := 5) (n := 64) (by kernel_rfl) (by kernel_rfl) (by kernel_rfl) (by kernel_rfl) (by kernel_rfl) (by kernel_rfl) hv
  obtain ⟨ha, _⟩ := vars_head (g := 0) (t := 110) (e := 5) (n := 4) (by kernel_rfl) (by kernel_rfl) (by kernel_rfl) (by kernel_rfl) (by kernel_rfl) (by kernel_rfl) hr
  have h1 := rdp_of_tab (g := 1) (by kernel_rfl) ht
  have h2 := rdp_of_tab (g := 0) (by kernel_rfl) ha
  rw [List.map_map] at h1
  exact ⟨⟨h1, fun hm => by cases hm⟩, ⟨h2, fun hm => by cases hm⟩⟩
end Go.Proofs.YtafbigmneipkiaaDoor
