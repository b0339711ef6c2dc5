/- Part of the proofs over this seat: see the text that holds the theorem. Conditions: each theorem bears its own. -/
import Derived.Test.YtnjjkkncoijmmaaDoorCF1
import Derived.Test.YtnjjkkncoijmmaaDoorMC12
import Derived.Test.YtnjjkkncoijmmaaDoorHl
import Derived.Test.YtnjjkkncoijmmaaDoorRows
import Derived.ProofKit
import Derived.LaidMore
import Derived.Stop.Joined
import Derived.Lib.LaidTab
namespace Go.Proofs.YtnjjkkncoijmmaaDoor
open Go Go.HL Go.Proofs Go.HL.Kl
theorem own : ownKnob Tryd.prog.godebug = none := by kernel_rfl
theorem laidOut : laidOutB Tryd.prog = true := by kernel_rfl
/-- the door's own heap meets the condition -/
theorem door_met (os : Os) (args : Array Value) : laidMetH Tryd.prog [("math/bits.deBruijn64tab", Rows.laid_math_bits_deBruijn64tab)] ((World.doorLaid Tryd.prog 400 os).forCall (fun _ _ => 0) ⟨#[], args, []⟩).memory :=
  laidMetH_of_parts3 (fuel := 8) (laidMet_of_run' 8 (by kernel_rfl) (by kernel_rfl)) (by kernel_rfl) (by kernel_rfl)
theorem tab_eq : Rows.laid_math_bits_deBruijn64tab = Lib.tabData (H := Unit) .u8 (Lib.deBruijn64tab.map fun n : Nat => (n : Int)) := rfl
theorem tb_laid {W : World} (h : laidMetH Tryd.prog [("math/bits.deBruijn64tab", Rows.laid_math_bits_deBruijn64tab)] W) : Tb [] W := by
  rw [MakeChecks.laidMetH_plain _ _ _ (by kernel_rfl)] at h
  rw [tab_eq] at h
  have ht := Lib.tabIs_of_head (g := 0) (t := 63) (e := 5) (n := 64) (by kernel_rfl) (by kernel_rfl) (by kernel_rfl) (by kernel_rfl) (by kernel_rfl) (by kernel_rfl) h
  have h1 := rdp_of_tab (g := 0) (by kernel_rfl) ht
  rw [List.map_map] at h1
  exact ⟨h1, fun hm => by cases hm⟩
end Go.Proofs.YtnjjkkncoijmmaaDoor
