/- Part of the proofs over this seat: see the text that holds the theorem. Conditions: each theorem bears its own. -/
import Derived.Test.YtmompllplidphaaGreatDoorMC9Z
import Derived.Test.YtmompllplidphaaGreatDoorHlB
import Derived.Test.YtmompllplidphaaGreatDoorGSW20Z
import Derived.Test.YtmompllplidphaaGreatDoorGSW10Z
import Derived.Test.YtmompllplidphaaGreatDoorRows
import Derived.ProofKit
import Derived.LaidMore
import Derived.Stop.Joined
import Derived.Lib.LaidTab
namespace Go.Proofs.YtmompllplidphaaGreatDoor
open Go Go.HL Go.Proofs Go.HL.Kl Go.HL.Kl.Mc Go.HL.Sts
theorem own : ownKnob Tryz.prog.godebug = none := by kernel_rfl
theorem laidOut : laidOutB Tryz.prog = true := by kernel_rfl
theorem door_met (os : Os) (args : Array Value) : laidMetH Tryz.prog Rows.statesUnlikeRow.laid ((World.doorLaid Tryz.prog 400 os).forCall (fun _ _ => 0) ⟨#[], args, []⟩).memory :=
  laidMetH_of_parts3 (fuel := 8) (laidMet_of_run' 8 (by kernel_rfl) (by kernel_rfl)) (by kernel_rfl) (by kernel_rfl)
theorem tab_eq : Rows.laid_math_bits_deBruijn64tab = Lib.tabData (H := Unit) .u8 (Lib.deBruijn64tab.map fun n : Nat => (n : Int)) := rfl
theorem vars_head {P : Program} {W : World} {name : String} {k : IntKind} {zs : List Int} {rest : List (String × DataW Unit)} {ps : List MemPlace} {g : Nat} {t e : TypeId} {n : Nat}
    (hg : P.globalNamed name = some g) (hty : (P.globals[g]?).map (·.type) = some t) (ht : P.underlying t = some (.array n e)) (he : P.underlying e = some (.int k)) (hce : P.cellsOf e = 1) (hct : P.cellsOf t = n)
    (h : DataW.LaidVars P W ((name, Lib.tabData k zs) :: rest) ps) : Lib.TabIs P W name k zs := by
  obtain ⟨g', t', cs, fuel, p, q, hg', ht', hvar, hd, hr, _⟩ := h
  obtain rfl := Option.some.inj (hg.symm.trans hg')
  obtain rfl := Option.some.inj (hty.symm.trans ht')
  unfold Lib.TabIs
  rw [hvar, ← Lib.cells_of_tab ht he hce hct hd]
theorem vars_tail {P : Program} {W : World} {x : String × DataW Unit} {rest : List (String × DataW Unit)} {ps : List MemPlace} (h : DataW.LaidVars P W (x :: rest) ps) : ∃ q, DataW.LaidVars P W rest q := by
  obtain ⟨g', t', cs, fuel, p, q, hg', ht', hvar, hd, hr, _⟩ := h
  exact ⟨q, hr⟩
theorem tb_laid {W : World} (h : laidMetH Tryz.prog [("math/bits.deBruijn32tab", Rows.laid_math_bits_deBruijn32tab), ("math/bits.deBruijn64tab", Rows.laid_math_bits_deBruijn64tab), ("internal/strconv.uint64pow10", Rows.laid_internal_strconv_uint64pow10)] W) : Tb [] W := by
  rw [MakeChecks.laidMetH_plain _ _ _ (by kernel_rfl)] at h
  rw [tab_eq] at h
  obtain ⟨ps, hv, _⟩ := h
  obtain ⟨q, hr⟩ := vars_tail hv
  have ht := vars_head (g := 0) (t := 226) (e := 5) (n := 64) (by kernel_rfl) (by kernel_rfl) (by kernel_rfl) (by kernel_rfl) (by kernel_rfl) (by kernel_rfl) hr
  have h1 := rdp_of_tab (g := 0) (by kernel_rfl) ht
  rw [List.map_map] at h1
  exact ⟨h1, fun hm => by cases hm⟩
structure DfV where
  a : Sl Kl.Cl
  n : Sl (Sl Int)
  e : Sl Bool
def EDf (x : DfV) : List Value := [x.a.v, x.n.v, x.e.v]
def DfV.d (x : DfV) : Df := ⟨x.n.xs.map Sl.xs, x.e.xs, x.a.xs⟩
def DfV.ok (w : World) (x : DfV) : Prop := RdD x.d x.a.a x.a.c x.n.a x.n.c x.n.xs x.e.a x.e.c w
theorem open_df : Opens Tryz.prog 30 EDf DfV.ok :=
  open_struct3 Tryz.underlying30 rfl (by kernel_rfl) (by kernel_rfl) (by kernel_rfl) (open_slice' (E := Ec) Tryz.underlying26 (by kernel_rfl) (by decide) (of_decide_eq_true (by kernel_rfl)) (Mc.open_cl Tryz.underlying39 Tryz.underlying37 (by kernel_rfl) (by kernel_rfl)))
    (open_slice' (E := Esl) Tryz.underlying27 (by kernel_rfl) (by decide) (of_decide_eq_true (by kernel_rfl)) (open_slice' (E := Ei) Tryz.underlying36 (by kernel_rfl) (by decide) (of_decide_eq_true (by kernel_rfl)) (open_i64 Tryz.underlying3)))
    (open_slice' (E := Ebo) Tryz.underlying28 (by kernel_rfl) (by decide) (of_decide_eq_true (by kernel_rfl)) (open_bool' Tryz.underlying4)) fun w a n e ha hn he => ⟨⟨a, n, e⟩, rfl, ⟨ha.1, hn.1, fun s hs => (hn.2.1 s hs).1, he.1⟩⟩
end Go.Proofs.YtmompllplidphaaGreatDoor
