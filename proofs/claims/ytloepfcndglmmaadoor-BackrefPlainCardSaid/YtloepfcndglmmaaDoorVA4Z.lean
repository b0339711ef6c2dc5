/- Part of the proofs over this seat: see the text that holds the theorem. Conditions: each theorem bears its own. -/
import Derived.Test.YtloepfcndglmmaaDoorHTZ
import Derived.Test.YtloepfcndglmmaaDoorMK10Z
import Derived.Test.YtloepfcndglmmaaDoorVZH1Z
import Derived.Test.YtloepfcndglmmaaDoorHlB
import Derived.Test.YtloepfcndglmmaaDoorMT25Z
import Derived.Test.YtloepfcndglmmaaDoorMK3Z
import Derived.Test.YtloepfcndglmmaaDoorRows
import Derived.ProofKit
import Derived.LaidMore
import Derived.Stop.Joined
import Derived.Lib.LaidTab
import Derived.ChangeSame
namespace Go.Proofs.YtloepfcndglmmaaDoor
open Go Go.HL Go.Proofs Go.HL.Kl Go.HL.Kl.Mc Go.HL.Kl.Mc.AskE
set_option maxHeartbeats 4000000 in
theorem backrefPlain_fn (ra : Option Addr) (rc : Nat) (re : List Nd) (hre : ∀ x ∈ re, -128 ≤ x.op ∧ x.op < 128) (ta : Option Addr) (tc : Nat) (w : List UInt8) (p : Int) : HL.Fn Tryd.prog 5 [.slice ra re.length rc, .slice ta w.length tc, .int .i64 p] (fun W => Rd En W (.slice ra re.length rc) re ∧ Rd Eb W (.slice ta w.length tc) w ∧ RdP W 0 0 (Esp noS)) [] (fun v _ => v = .bool true) := by
  refine fn_of Tryd.func5 rfl rfl rfl fun w0 hw => ?_
  have hsl := hw.1.sl
  have htl := hw.2.1.sl
  refine cR fun _ hK1 => ?_; refine oA (oZ hK1 (c_seq fun _ hK2 => ?_)); refine cR fun _ hK3 => ?_; refine oM ?_; refine o_callP (beyond_fn ra rc re hre) rfl rfl rfl (fun _ st => (RdK.old0 hw.1).out _ st) (fun v13 hv13 => ?_)
  obtain ⟨c13, rfl⟩ := hv13
  cases c13
  ·refine oM ?_; refine oY (oM ?_); refine oY ?_; refine oS sC ?_; refine oY ?_; refine o_callP (longN_fn re.length) rfl rfl rfl (fun _ _ => trivial) (fun v17 hv17 => ?_); subst hv17
   cases hl17 : decide ((re.length : Int) > 2147483647)
   ·have hl17 := of_decide_eq_false hl17
    refine oS sP (oM ?_); refine oY (oM ?_); refine oY ?_; refine oS sC ?_; refine oY ?_; refine o_callP (longN_fn w.length) rfl rfl rfl (fun _ _ => trivial) (fun v22 hv22 => ?_); subst hv22
    cases hl22 : decide ((w.length : Int) > 2147483647)
    ·have hl22 := of_decide_eq_false hl22
     refine oS sP (oZ hK3 ?_); refine cFZ hK2 (c_seq fun _ hK4 => ?_); refine cR fun _ hK5 => ?_; refine oM (oM ?_); refine oS sC ?_; refine o_callP (costlyV_fn ra rc re hre w.length) rfl rfl rfl (fun _ st => (RdK.old0 hw.1).out _ st) (fun v27 ⟨cb, hv27, hF⟩ => ?_); subst hv27
     cases cb
     ·have hfit : shapedB re = true → Fits re w.length := fun h => hF rfl h (by omega)
      refine oZ hK5 ?_; refine cFZ hK4 (cR fun _ hK6 => ?_); refine oM (oM (oM ?_)); refine o_call (found_fn ra rc re hre ta tc w (by omega) (by omega) p hfit) rfl rfl rfl (by exact .nil) (fun _ st => ⟨(RdK.old0 hw.1).out _ st, (RdK.old0 hw.2.1).out _ st, (RdPK.old0 hw.2.2).out _ st⟩) (fun v33 S33 hv33 => ?_)
      rcases hv33.two with ⟨e, rfl, rfl, hE0, hE49⟩ | ⟨hsb, m, x, ks, i, j, c, a33, c33, rfl, hmw, hS, hB, rfl, hO33⟩
      ·refine oM ?_; refine oS sE ?_; refine oS sE ?_; refine oS sE (oA (oA (oA (oZ hK6 (c_seq fun _ hK7 => ?_))))); refine cR fun _ hK8 => ?_; refine oM ?_
       by_cases he0 : e ≠ 0
       ·refine oS (nqT (h := he0)) ?_; refine oZ hK8 ?_; refine cT (cR fun _ hK9 => ?_); refine oM ?_; refine oS (step_cast (v' := .bool true) (s_not rfl) rfl) ?_; refine oM ?_; refine oY (oM ?_); refine oY ?_; refine oS sC ?_; refine oY ?_; refine oS (step_cast (v' := .bool true) (s_eql rfl rfl) rfl) ?_; refine oS sT (oM ?_); refine oY (oM ?_); refine oY ?_; refine oS (s_eql rfl rfl) ?_; refine oY (oM ?_); refine oY ?_; refine o_call (copyNodes_fn ra rc re (by omega)) rfl rfl rfl (by exact .nil) (fun _ st => (RdK.old0 hw.1).out _ st) (fun v50 S50 ⟨a50, c50, hv50, hS50⟩ => ?_)
        subst hv50; refine oY ?_; refine o_callP (shaped_fn a50 c50 re hre) rfl rfl rfl (fun _ st => (hS50.rdk hiA).out _ st) (fun v51 hv51 => ?_); subst hv51
        refine oY ?_; refine oS (s_not rfl) ?_; refine oY ?_; refine oS (step_cast (v' := .bool true) (s_eql_bool rfl rfl) (by have h := hE49; cases hsb : shapedB re <;> simp_all)) ?_; refine oS sT (oM ?_); refine oY ?_; refine o_callP (works_fn) rfl rfl rfl (fun _ st => (RdPK.old0 hw.2.2).out _ st) (fun v56 hv56 => ?_); subst hv56
        refine oS sT (oA (oZ hK9 (c_ret ?_))); refine x_then_ret (?_); exact xR rfl rfl (rfl)
       ·obtain ⟨hsb, h0, hBk⟩ := hE0 (Decidable.not_not.1 he0)
        refine oS (nqF (h := he0)) ?_; refine oZ hK8 ?_; refine cFZ hK7 (c_seq fun _ hK10 => ?_); refine cR fun _ hK11 => ?_; refine oM ?_; refine o_call (copyNodes_fn ra rc re (by omega)) rfl rfl rfl (by exact .nil) (fun _ st => (RdK.old0 hw.1).out _ st) (fun v59 S59 ⟨a59, c59, hv59, hS59⟩ => ?_); subst hv59
        refine o_callP (refs_fn a59 c59 re hre) rfl rfl rfl (fun _ st => (hS59.rdk hiA).out _ st) (fun v60 hv60 => ?_); subst hv60
        cases hrf : refsB re
        ·refine oZ hK11 ?_; refine cFZ hK10 (cR fun _ hK12 => ?_); refine oM ?_; refine o_call (copyNodes_fn ra rc re (by omega)) rfl rfl rfl (by exact .nil) (fun _ st => (RdK.old0 hw.1).out _ st) (fun v64 S64 ⟨a64, c64, hv64, hS64⟩ => ?_); subst hv64
         refine oM ?_; refine o_call (copyBytes_fn ta tc w (by omega)) rfl rfl rfl (by exact .nil) (fun _ st => (RdK.old0 hw.2.1).out _ st) (fun v66 S66 ⟨a66, c66, hv66, hS66⟩ => ?_); subst hv66
         refine oM ?_; refine o_call (find_fn a64 c64 re hre a66 c66 w (by have := (hfit hsb w.length rfl).1; omega) _) rfl rfl rfl (by exact .nil) (fun _ st => ⟨(hS64.rdk hiA).out _ st, (hS66.rdk hiA).out _ st⟩) (fun v68 S68 hv68 => ?_)
         obtain ⟨b2, L2, a68, c68, hR2, hv68, hO68⟩ := hv68.res
         subst hv68
         obtain ⟨rfl, rfl⟩ := (hBk.fres hsb hrf h0).uniq hR2
         refine oM ?_; refine oS sE ?_; refine oS sE (oA (oA (oZ hK12 (cR fun _ hK13 => ?_)))); refine oM (oM ?_); refine oS (step_cast (v' := .bool true) (s_eql_bool rfl rfl) rfl) ?_; refine oM ?_; refine oY (oM ?_); refine oY (oM ?_); refine oY ?_; refine o_callP (eqSpans_fn none a68 0 c68 [] []) rfl rfl rfl (fun _ st => ⟨Rd.nil _ _, (hO68.rdk hiA).out _ st⟩) (fun v77 hv77 => ?_)
         rw [decide_eq_true rfl] at hv77
         subst hv77; refine oS sT (oM ?_); refine oY ?_; refine o_callP (works_fn) rfl rfl rfl (fun _ st => (RdPK.old0 hw.2.2).out _ st) (fun v80 hv80 => ?_); subst hv80
         refine oS sT (oA (oZ hK13 (c_ret ?_))); refine ?_; exact xR rfl rfl (rfl)
        ·refine oZ hK11 ?_; refine cT (cR fun _ hK14 => ?_); refine o_callP (works_fn) rfl rfl rfl (fun _ st => (RdPK.old0 hw.2.2).out _ st) (fun v61 hv61 => ?_); subst hv61
         refine oA (oZ hK14 (c_ret ?_)); refine x_then_ret (?_); exact xR rfl rfl (rfl)
      ·have hcl : c.length = gcn re := by rw [hB.len, C0, List.length_replicate]
       have hlo := hB.lo
       have hij := hB.ij
       have hhi := hB.hi
       have h0 : (0 : Int) ≤ (m : Nat) ∧ ((m : Nat) : Int) ≤ w.length := ⟨by omega, by omega⟩
       have hBk : BkRes re w (m : Nat) true (⟨(i : Nat), (j : Nat)⟩ :: c) := .inr ⟨m, x, ks, rfl, hmw, hS, .inr ⟨i, j, c, hB, rfl, rfl⟩⟩
       rw [show gcn re + 1 = ((⟨(i : Nat), (j : Nat)⟩ : Sp) :: c).length by rw [List.length_cons, hcl]] at hO33 ⊢
       refine oM ?_; refine oS sE ?_; refine oS sE ?_; refine oS sE (oA (oA (oA (oZ hK6 (c_seq fun _ hK15 => ?_))))); refine cR fun _ hK16 => ?_; refine oM ?_; refine oS (step_cast (v' := .bool false) (s_neq rfl rfl) rfl) ?_; refine oZ hK16 ?_; refine cFZ hK15 (c_seq fun _ hK17 => ?_); refine cR fun _ hK18 => ?_; refine oM ?_; refine o_call (copyNodes_fn ra rc re (by omega)) rfl rfl rfl (by exact .nil) (fun _ st => (RdK.old0 hw.1).out _ st) (fun v59 S59 ⟨a59, c59, hv59, hS59⟩ => ?_)
       subst hv59; refine o_callP (refs_fn a59 c59 re hre) rfl rfl rfl (fun _ st => (hS59.rdk hiA).out _ st) (fun v60 hv60 => ?_); subst hv60
       cases hrf : refsB re
       ·refine oZ hK18 ?_; refine cFZ hK17 (cR fun _ hK19 => ?_); refine oM ?_; refine o_call (copyNodes_fn ra rc re (by omega)) rfl rfl rfl (by exact .nil) (fun _ st => (RdK.old0 hw.1).out _ st) (fun v64 S64 ⟨a64, c64, hv64, hS64⟩ => ?_); subst hv64
        refine oM ?_; refine o_call (copyBytes_fn ta tc w (by omega)) rfl rfl rfl (by exact .nil) (fun _ st => (RdK.old0 hw.2.1).out _ st) (fun v66 S66 ⟨a66, c66, hv66, hS66⟩ => ?_); subst hv66
        refine oM ?_; refine o_call (find_fn a64 c64 re hre a66 c66 w (by have := (hfit hsb w.length rfl).1; omega) _) rfl rfl rfl (by exact .nil) (fun _ st => ⟨(hS64.rdk hiA).out _ st, (hS66.rdk hiA).out _ st⟩) (fun v68 S68 hv68 => ?_)
        obtain ⟨b2, L2, a68, c68, hR2, hv68, hO68⟩ := hv68.res
        subst hv68
        obtain ⟨rfl, rfl⟩ := (hBk.fres hsb hrf h0).uniq hR2
        refine oM ?_; refine oS sE ?_; refine oS sE (oA (oA (oZ hK19 (cR fun _ hK20 => ?_)))); refine oM (oM ?_); refine oS (step_cast (v' := .bool true) (s_eql_bool rfl rfl) rfl) ?_; refine oM ?_; refine oY (oM ?_); refine oY (oM ?_); refine oY ?_; refine o_callP (eqSpans_fn a33 a68 c33 c68 (⟨(i : Nat), (j : Nat)⟩ :: c) _) rfl rfl rfl (fun _ st => ⟨(hO33.rdk hiA).out _ st, (hO68.rdk hiA).out _ st⟩) (fun v77 hv77 => ?_)
        rw [decide_eq_true rfl] at hv77
        subst hv77; refine oS sT (oM ?_); refine oY ?_; refine o_callP (works_fn) rfl rfl rfl (fun _ st => (RdPK.old0 hw.2.2).out _ st) (fun v80 hv80 => ?_); subst hv80
        refine oS sT (oA (oZ hK20 (c_ret ?_))); refine ?_; exact xR rfl rfl (rfl)
       ·refine oZ hK18 ?_; refine cT (cR fun _ hK21 => ?_); refine o_callP (works_fn) rfl rfl rfl (fun _ st => (RdPK.old0 hw.2.2).out _ st) (fun v61 hv61 => ?_); subst hv61
        refine oA (oZ hK21 (c_ret ?_)); refine x_then_ret (?_); exact xR rfl rfl (rfl)
     ·refine oZ hK5 ?_; refine cT (cR fun _ hK22 => ?_); refine o_callP (works_fn) rfl rfl rfl (fun _ st => (RdPK.old0 hw.2.2).out _ st) (fun v28 hv28 => ?_); subst hv28
      refine oA (oZ hK22 (c_ret ?_)); refine x_then_ret (?_); exact xR rfl rfl (rfl)
    ·refine oS sP (oZ hK3 ?_); refine cT (cR fun _ hK23 => ?_); refine oA (oZ hK23 (c_ret ?_)); refine x_then_ret (?_); exact xR rfl rfl (rfl)
   ·refine oS sP (oM ?_); refine oN ?_; refine oN ?_; refine oN ?_; refine oS sT (oZ hK3 ?_); refine cT (cR fun _ hK24 => ?_); refine oA (oZ hK24 (c_ret ?_)); refine x_then_ret (?_); exact xR rfl rfl (rfl)
  ·refine oM ?_; refine oN ?_; refine oN ?_; refine oN ?_; refine oS sT (oM ?_); refine oN ?_; refine oN ?_; refine oN ?_; refine oS sT (oZ hK3 ?_); refine cT (cR fun _ hK25 => ?_); refine oA (oZ hK25 (c_ret ?_)); refine x_then_ret (?_); exact xR rfl rfl (rfl)
end Go.Proofs.YtloepfcndglmmaaDoor
namespace Go.Proofs.YtloepfcndglmmaaDoor
open Go Go.HL Go.Proofs Go.HL.Kl Go.HL.Kl.Mc
theorem own : ownKnob Tryd.prog.godebug = none := by kernel_rfl
theorem laidOut : laidOutB Tryd.prog = true := by kernel_rfl
theorem open_nd : Opens Tryd.prog 80 En (fun _ t => -128 ≤ t.op ∧ t.op < 128) :=
  open_struct6 Tryd.underlying80 rfl (by kernel_rfl) (by kernel_rfl) (by kernel_rfl) (by kernel_rfl) (by kernel_rfl) (by kernel_rfl) (open_i8 Tryd.underlying75) (open_cl Tryd.underlying78 Tryd.underlying76 (by kernel_rfl) (by kernel_rfl)) (open_i64 Tryd.underlying3) (open_i64 Tryd.underlying3) (open_i64 Tryd.underlying3) (open_i64 Tryd.underlying3) fun w a b c d e f ha _ _ _ _ _ => ⟨⟨a, b, c, d, e, f⟩, rfl, ha⟩
theorem door_met (os : Os) (args : Array Value) : laidMetH Tryd.prog [("galley/backref.none", Rows.laid_galley_backref_none)] ((World.doorLaid Tryd.prog 400 os).forCall (fun _ _ => 0) ⟨#[], args, []⟩).memory :=
  laidMetH_of_parts3 (fuel := 8) (laidMet_of_run' 8 (by kernel_rfl) (by kernel_rfl)) (by kernel_rfl) (by kernel_rfl)
theorem two_of {α : Type} {l : List α} (h : l.length = 2) : ∃ a b, l = [a, b] := by
  match l, h with
  | [a, b], _ => exact ⟨a, b, rfl⟩
theorem tb_laid {W : World} (h : laidMetH Tryd.prog [("galley/backref.none", Rows.laid_galley_backref_none)] W) : RdP W 0 0 (Esp noS) := by
  rw [MakeChecks.laidMetH_plain _ _ _ (by kernel_rfl)] at h
  obtain ⟨ps, hv, _⟩ := h
  obtain ⟨g', t', cs, fuel, p, q, hg', ht', hvar, hd, hr, _⟩ := hv
  have hg : Tryd.prog.globalNamed "galley/backref.none" = some 0 := by kernel_rfl
  obtain rfl := Option.some.inj (hg.symm.trans hg')
  have hty : (Tryd.prog.globals[0]?).map (·.type) = some 45 := by kernel_rfl
  obtain rfl := Option.some.inj (hty.symm.trans ht')
  obtain ⟨y0, y1, n, hx, hl, h0, h1⟩ := Go.ChangeShapes.trod_struct2 Tryd.underlying45 hd
  obtain ⟨z0, hc0, hz0, _⟩ := DataW.trod_int Tryd.underlying3 h0
  obtain ⟨z1, hc1, hz1, _⟩ := DataW.trod_int Tryd.underlying3 h1
  have hq : (Rows.laid_galley_backref_none : DataW Unit) = .agg [y0.1, y1.1] := congrArg Prod.fst hx
  have e2 : Tryd.prog.cellsOf 45 = 2 := by kernel_rfl
  have e1 : Tryd.prog.cellsOf 3 = 1 := by kernel_rfl
  rw [e2] at hl
  rw [e1] at hc0 hc1
  rw [hz0, hz1] at hq
  simp only [Rows.laid_galley_backref_none, DataW.agg.injEq, List.cons.injEq, DataW.lit.injEq, Lit.int.injEq, true_and, and_true] at hq
  obtain ⟨rfl, rfl⟩ := hq
  obtain ⟨cs⟩ := cs
  dsimp only at hl hc0 hc1
  obtain ⟨a, b, rfl⟩ := two_of hl
  simp only [List.drop_zero, List.take_succ_cons, List.take_zero, List.cons.injEq, and_true, List.drop_succ_cons] at hc0 hc1
  subst hc0; subst hc1
  refine ⟨fun j u hu => ?_⟩
  have := World.var?_cell hg hvar j
  rw [Nat.zero_add, this]
  have hu2 : [Value.int IntKind.i64 (-1), Value.int IntKind.i64 (-1)][j]? = some u := hu
  simpa using hu2
end Go.Proofs.YtloepfcndglmmaaDoor
