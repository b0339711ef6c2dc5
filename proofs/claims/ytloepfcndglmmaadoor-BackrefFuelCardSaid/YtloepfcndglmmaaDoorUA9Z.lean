/- BackrefFuel: the law. Conditions: none. -/
import Derived.Test.YtloepfcndglmmaaDoorHTZ
import Derived.Test.YtloepfcndglmmaaDoorUZG5Z
import Derived.Test.YtloepfcndglmmaaDoorHlB
import Derived.Test.YtloepfcndglmmaaDoorKQZ
import Derived.Test.YtloepfcndglmmaaDoorBE1Z
import Derived.Test.YtloepfcndglmmaaDoorRows
import Derived.ProofKit
import Derived.LaidMore
import Derived.Stop.Joined
import Derived.Lib.LaidTab
import Derived.ChangeSame
namespace Go.Proofs.YtloepfcndglmmaaDoor
open Go Go.HL Go.Proofs Go.HL.Kl Go.HL.Kl.Mc Go.HL.Kl.Mc.AskE
set_option maxHeartbeats 4000000 in
theorem backrefFuel_fn (ra : Option Addr) (rc : Nat) (re : List Nd) (hre : ∀ x ∈ re, -128 ≤ x.op ∧ x.op < 128) (ta : Option Addr) (tc : Nat) (w : List UInt8) (p Fz more n : Int) (hf2 : Fz ≤ 9223372036854775807) (hm2 : more ≤ 9223372036854775807) (hn2 : n ≤ 9223372036854775807) : HL.Fn Tryd.prog 3 [.agg [.slice ra re.length rc, .slice ta w.length tc, .int .i64 p, .int .i64 Fz].toArray, .int .i64 more, .int .i64 n] (fun W => Rd En W (.slice ra re.length rc) re ∧ Rd Eb W (.slice ta w.length tc) w ∧ RdP W 0 0 (Esp noS)) [] (fun v _ => v = .bool true) := by
  refine fn_of Tryd.func3 rfl rfl rfl fun w0 hw => ?_
  have hsl := hw.1.sl
  have htl := hw.2.1.sl
  refine cR fun _ hK1 => ?_; refine o_box rfl rfl rfl fun b3 => ?_; refine oA (oZ hK1 (c_seq fun _ hK2 => ?_)); refine cR fun _ hK3 => ?_; refine oS (s_ldB rfl (RdPK.cels (.own meA)) lnA) ?_; refine o_callP (longC_fn ra rc re hre ta tc w p Fz) rfl rfl rfl (fun _ st => ⟨(RdK.old0 hw.1).out _ st, (RdK.old0 hw.2.1).out _ st⟩) (fun v16 ⟨b16, hv16, hl16⟩ => ?_); subst hv16
  cases b16
  ·obtain ⟨hrl, hwl⟩ := hl16 rfl
   refine oZ hK3 ?_; refine cFZ hK2 (cR fun _ hK4 => ?_); refine oS sF ?_; refine oS sL ?_; refine o_call (wideNodes_fn ra rc re (by omega)) rfl rfl rfl (by exact .nil) (fun _ st => (RdK.old0 hw.1).out _ st) (fun v19 S19 ⟨aN, hv19, hSN⟩ => ?_); subst hv19
   have hin := hSN.pre re.length (by rw [wdl_len]; omega)
   rw [wdl_take] at hin
   refine oA (oZ hK4 (c_seq fun _ hK5 => ?_)); refine c_seq fun _ hK6 => ?_; refine c_drawE ([(b3, .cells [.slice ra re.length rc, .slice ta w.length tc, .int .i64 p, .int .i64 Fz].toArray 25 (0, 0))]) (fun i => false) ?_; refine eK 0 rfl sM ?_; refine eK 1 rfl sM ?_; refine eK 3 rfl sF ?_; refine eK 4 rfl sL ?_; refine eK 5 rfl sM (eO 2 rfl ?_); refine o_callP (enough_fn aN (re.length + 64) re hre n hn2) rfl rfl rfl (fun _ st => (hin.rdk hiA).out _ st) (fun v22 hv22 => ?_); refine oX (eO 6 rfl ?_); refine o_callP (rEnough_fn ra rc re hre n hn2) rfl rfl rfl (fun _ st => (RdK.old0 hw.1).out _ st) (fun v26 hv26 => ?_)
   obtain ⟨k, hq22, hq26⟩ := en_two hv22 hv26
   subst hq22; subst hq26
   refine oX ?_; refine eK 7 rfl (step_cast (v' := .bool false) (s_neq rfl rfl) (by simp)) ?_; refine eK 8 rfl sM ?_; refine eG 9 rfl sM ?_; refine eG 10 rfl sF ?_; refine eG 11 rfl sL (eO 12 rfl ?_); refine oY ?_; refine o_callP (eqNodes_fn aN ra _ rc re re) rfl rfl rfl (fun _ st => ⟨(hin.rdk hiA).out _ st, (RdK.old0 hw.1).out _ st⟩) (fun v32 hv32 => ?_)
   rw [decide_eq_true rfl] at hv32
   subst hv32; refine oX ?_; refine eG 13 rfl (step_cast (v' := .bool false) (s_not rfl) rfl) ?_; refine eK 14 rfl sP ?_; refine eK 15 rfl sM ?_; refine eG 16 rfl sM (eO 17 rfl ?_); refine oY ?_; refine o_callP (spareNodes_fn aN _ re (by omega)) rfl rfl rfl (fun _ st => (hSN.rdk hiA).out _ st) (fun v37 hv37 => ?_); subst hv37
   refine oX ?_; refine eG 18 rfl (step_cast (v' := .bool false) (s_not rfl) rfl) ?_; refine eK 19 rfl sP (eZ hK6 ?_); refine cFZ hK5 (c_seq fun _ hK7 => ?_); refine cR fun _ hK8 => ?_; refine oS (s_ldB rfl (RdPK.cels (.own meA)) lnA) ?_; refine o_callP (heavyC_fn ra rc re hre ta tc w p Fz) rfl rfl rfl (fun _ st => ⟨(RdK.old0 hw.1).out _ st, (RdK.old0 hw.2.1).out _ st⟩) (fun v41 ⟨b41, hv41, hF41⟩ => ?_); subst hv41
   cases b41
   ·have hfit := hF41 rfl
    refine oZ hK8 ?_; refine cFZ hK7 (c_seq fun _ hK9 => ?_); refine c_drawE ([(b3, .cells [.slice ra re.length rc, .slice ta w.length tc, .int .i64 p, .int .i64 Fz].toArray 25 (0, 0))]) (fun i => false) ?_; refine eK 0 rfl sF ?_; refine eK 1 rfl sL ?_; refine eK 3 rfl sF ?_; refine eK 4 rfl sL ?_; refine eK 6 rfl sF ?_; refine eK 7 rfl sL ?_; refine eK 8 rfl sF ?_; refine eK 9 rfl sL (eO 2 rfl ?_); refine o_call (copyNodes_fn ra rc re (by omega)) rfl rfl rfl (by exact .nil) (fun _ st => (RdK.old0 hw.1).out _ st) (fun v46 S46 ⟨a46, c46, hv46, hS46⟩ => ?_)
    subst hv46; refine oX (eO 5 rfl ?_); refine o_call (copyBytes_fn ta tc w (by omega)) rfl rfl rfl (by exact .nil) (fun _ st => (RdK.old0 hw.2.1).out _ st) (fun v49 S49 ⟨a49, c49, hv49, hS49⟩ => ?_); subst hv49
    refine oX (eO 10 rfl ?_); refine o_call (bFindG_fn a46 c46 re hre a49 c49 w p Fz hf2 hfit) rfl rfl rfl (by exact .nil) (fun _ st => ⟨(hS46.rdk hiA).out _ st, (hS49.rdk hiA).out _ st, (RdPK.old0 hw.2.2).out _ st⟩) (fun v54 S54 hv54 => ?_)
    obtain ⟨a54, L54, c54, b54, e54, hq54, hO54, hR54⟩ := hv54.out
    subst hq54
    rcases id hR54 with ⟨rfl, _, _, _, hB54⟩ | ⟨he54, rfl, hL54, _⟩
    ·refine oX ?_; refine eK 11 rfl sM ?_; refine eK 12 rfl sE ?_; refine eK 13 rfl sE ?_; refine eK 14 rfl sE ?_; refine eK 15 rfl sA ?_; refine eK 16 rfl sA ?_; refine eK 17 rfl sA (eZ hK9 (c_seq fun _ hK10 => ?_)); refine c_drawE ([(b3, .cells [.slice ra re.length rc, .slice ta w.length tc, .int .i64 p, .int .i64 Fz].toArray 25 (0, 0))]) (fun i => false) ?_; refine eK 0 rfl sF ?_; refine eK 1 rfl sL ?_; refine eK 3 rfl sF ?_; refine eK 4 rfl sL ?_; refine eK 6 rfl sF ?_; refine eK 7 rfl sL ?_; refine eK 8 rfl sM (eO 2 rfl ?_); refine o_call (copyNodes_fn ra rc re (by omega)) rfl rfl rfl (by exact .nil) (fun _ st => (RdK.old0 hw.1).out _ st) (fun v61 S61 ⟨a61, c61, hv61, hS61⟩ => ?_); subst hv61
     refine oX (eO 5 rfl ?_); refine o_call (copyBytes_fn ta tc w (by omega)) rfl rfl rfl (by exact .nil) (fun _ st => (RdK.old0 hw.2.1).out _ st) (fun v64 S64 ⟨a64, c64, hv64, hS64⟩ => ?_); subst hv64
     refine oX (eO 9 rfl ?_); refine o_call (bFindG_fn a61 c61 re hre a64 c64 w p more hm2 hfit) rfl rfl rfl (by exact .nil) (fun _ st => ⟨(hS61.rdk hiA).out _ st, (hS64.rdk hiA).out _ st, (RdPK.old0 hw.2.2).out _ st⟩) (fun v68 S68 hv68 => ?_)
     obtain ⟨a68, L68, c68, b68, e68, hq68, hO68, hR68⟩ := hv68.out
     subst hq68
     rcases id hR68 with ⟨rfl, _, _, _, hB68⟩ | ⟨he68, rfl, hL68, _⟩
     ·refine oX ?_; refine eK 10 rfl sM ?_; refine eK 11 rfl sE ?_; refine eK 12 rfl sE ?_; refine eK 13 rfl sE ?_; refine eK 14 rfl sA ?_; refine eK 15 rfl sA ?_; refine eK 16 rfl sA (eZ hK10 (c_seq fun _ hK11 => ?_)); refine cR fun _ hK12 => ?_; refine oM ?_; refine oS (step_cast (v' := .bool true) (s_eql rfl rfl) rfl) ?_; refine oM ?_; refine oY (oM ?_); refine oY ?_; refine oS (step_cast (v' := .bool true) (s_eql rfl rfl) rfl) ?_; refine oS sT (oM ?_); refine oY (oM ?_); refine oY (oM ?_); refine oY ?_
      obtain ⟨rfl, rfl⟩ := hB54.uniq hB68
      refine oS (step_cast (v' := .bool false) (s_neq_bool rfl rfl) (by cases b54 <;> rfl)) ?_; refine oY (oM ?_); refine oY (oM ?_); refine oY (oM ?_); refine oY ?_; refine o_callP (eqSpans_fn a54 a68 c54 c68 _ _) rfl rfl rfl (fun _ st => ⟨(hO54.rdk hiA).out _ st, (hO68.rdk hiA).out _ st⟩) (fun v85 hv85 => ?_)
      rw [decide_eq_true rfl] at hv85
      subst hv85; refine oY ?_; refine oS (step_cast (v' := .bool false) (s_not rfl) rfl) ?_; refine oY ?_; refine oS sP ?_; refine oS sT (oZ hK12 ?_); refine cFZ hK11 (c_seq fun _ hK13 => ?_); refine cR fun _ hK14 => ?_; refine oM ?_; refine oS (step_cast (v' := .bool false) (s_neq rfl rfl) rfl) ?_; refine oM ?_; refine oN ?_; refine oN ?_; refine oU ?_; refine oU ?_; refine oU ?_; refine oN ?_; refine oS sP (oM ?_); refine oY (oM ?_); refine oY ?_; refine oS (step_cast (v' := .bool false) (s_neq rfl rfl) rfl) ?_; refine oY (oM ?_); refine oN ?_; refine oN ?_; refine oU ?_; refine oU ?_; refine oU ?_; refine oN ?_; refine oY ?_; refine oS sP ?_; refine oS sP (oZ hK14 ?_); refine cFZ hK13 (cR fun _ hK15 => ?_); refine oS (s_ldB rfl (RdPK.cels (.own meA)) lnA) ?_; refine o_alloc (l := [.slice none 0 0, .slice none 0 0, .int .i64 0, .int .i64 0]) rfl rfl fun b14 => ?_; refine o_stW rfl rfl upA lnA lnA onA ?_; refine oZ hK15 (cR fun _ hK16 => ?_)
      refine oM ?_; refine oS sF ?_; refine o_store rfl rfl rfl upA ltA rfl ?_; refine oZ hK16 (cR fun _ hK17 => ?_); refine oM (oM (oM ?_)); refine oS (s_ldB rfl (RdPK.cels (.own meA)) lnA) ?_; refine o_callP (right_fn _ _ _ _ _ ra rc re hre ta tc w p Fz hfit hR54) rfl rfl rfl (fun _ st => ⟨(hO54.rdk hiA).out _ st, (RdK.old0 hw.1).out _ st, (RdK.old0 hw.2.1).out _ st⟩) (fun v118 hv118 => ?_); subst hv118
      refine oM ?_; refine oY (oM ?_); refine oY (oM ?_); refine oY (oM ?_); refine oY ?_; refine oS (s_ldB rfl (RdPK.cels (.own meA)) lnA) ?_; refine oY ?_; refine o_callP (right_fn _ _ _ _ _ ra rc re hre ta tc w p more hfit hR68) rfl rfl rfl (fun _ st => ⟨(hO68.rdk hiA).out _ st, (RdK.old0 hw.1).out _ st, (RdK.old0 hw.2.1).out _ st⟩) (fun v124 hv124 => ?_); subst hv124
      refine oS sT (oM ?_); refine oY ?_; refine o_callP (works_fn) rfl rfl rfl (fun _ st => (RdPK.old0 hw.2.2).out _ st) (fun v127 hv127 => ?_); subst hv127
      refine oS sT (oA (oZ hK17 (c_ret ?_))); refine ?_; exact xR rfl rfl (rfl)
     ·have hl68 : L68.length = 0 := by rw [hL68]; rfl
      refine oX ?_; refine eK 10 rfl sM ?_; refine eK 11 rfl sE ?_; refine eK 12 rfl sE ?_; refine eK 13 rfl sE ?_; refine eK 14 rfl sA ?_; refine eK 15 rfl sA ?_; refine eK 16 rfl sA (eZ hK10 (c_seq fun _ hK18 => ?_)); refine cR fun _ hK19 => ?_; refine oM ?_; refine oS (step_cast (v' := .bool true) (s_eql rfl rfl) rfl) ?_; refine oM ?_; refine oY (oM ?_); refine oY ?_; refine oS (eqF (h := he68)) ?_; refine oS sT (oM ?_); refine oN ?_; refine oN ?_; refine oN ?_; refine oN ?_; refine oU ?_; refine oU ?_; refine oU ?_; refine oU ?_; refine oN ?_; refine oS sP (oZ hK19 ?_); refine cFZ hK18 (c_seq fun _ hK20 => ?_); refine cR fun _ hK21 => ?_; refine oM ?_; refine oS (step_cast (v' := .bool false) (s_neq rfl rfl) rfl) ?_; refine oM ?_; refine oN ?_; refine oN ?_; refine oU ?_; refine oU ?_; refine oU ?_; refine oN ?_; refine oS sP (oM ?_)
      refine oY (oM ?_); refine oY ?_; refine oS (nqT (h := he68)) ?_; refine oY (oM ?_); refine oY (oM ?_); refine oY (oM ?_); refine oY (oM ?_); refine oY ?_; refine oS sC ?_; refine oY ?_; refine oS nqF ?_; refine oY ?_; refine oS sP ?_; refine oY ?_; refine oS sT ?_; refine oS sP (oZ hK21 ?_); refine cFZ hK20 ?_
      refine cR fun _ hK22 => ?_; refine oS (s_ldB rfl (RdPK.cels (.own meA)) lnA) ?_; refine o_alloc (l := [.slice none 0 0, .slice none 0 0, .int .i64 0, .int .i64 0]) rfl rfl fun b14 => ?_; refine o_stW rfl rfl upA lnA lnA onA ?_; refine oZ hK22 (cR fun _ hK23 => ?_); refine oM ?_; refine oS sF ?_; refine o_store rfl rfl rfl upA ltA rfl ?_; refine oZ hK23 (cR fun _ hK24 => ?_); refine oM (oM (oM ?_)); refine oS (s_ldB rfl (RdPK.cels (.own meA)) lnA) ?_; refine o_callP (right_fn _ _ _ _ _ ra rc re hre ta tc w p Fz hfit hR54) rfl rfl rfl (fun _ st => ⟨(hO54.rdk hiA).out _ st, (RdK.old0 hw.1).out _ st, (RdK.old0 hw.2.1).out _ st⟩) (fun v118 hv118 => ?_)
      subst hv118; refine oM ?_; refine oY (oM ?_); refine oY (oM ?_); refine oY (oM ?_); refine oY ?_; refine oS (s_ldB rfl (RdPK.cels (.own meA)) lnA) ?_; refine oY ?_; refine o_callP (right_fn _ _ _ _ _ ra rc re hre ta tc w p more hfit hR68) rfl rfl rfl (fun _ st => ⟨(hO68.rdk hiA).out _ st, (RdK.old0 hw.1).out _ st, (RdK.old0 hw.2.1).out _ st⟩) (fun v124 hv124 => ?_); subst hv124
      refine oS sT (oM ?_); refine oY ?_; refine o_callP (works_fn) rfl rfl rfl (fun _ st => (RdPK.old0 hw.2.2).out _ st) (fun v127 hv127 => ?_); subst hv127
      refine oS sT (oA (oZ hK24 (c_ret ?_))); refine ?_; exact xR rfl rfl (rfl)
    ·have hl54 : L54.length = 0 := by rw [hL54]; rfl
     refine oX ?_; refine eK 11 rfl sM ?_; refine eK 12 rfl sE ?_; refine eK 13 rfl sE ?_; refine eK 14 rfl sE ?_; refine eK 15 rfl sA ?_; refine eK 16 rfl sA ?_; refine eK 17 rfl sA (eZ hK9 (c_seq fun _ hK25 => ?_)); refine c_drawE ([(b3, .cells [.slice ra re.length rc, .slice ta w.length tc, .int .i64 p, .int .i64 Fz].toArray 25 (0, 0))]) (fun i => false) ?_; refine eK 0 rfl sF ?_; refine eK 1 rfl sL ?_; refine eK 3 rfl sF ?_; refine eK 4 rfl sL ?_; refine eK 6 rfl sF ?_; refine eK 7 rfl sL ?_; refine eK 8 rfl sM (eO 2 rfl ?_); refine o_call (copyNodes_fn ra rc re (by omega)) rfl rfl rfl (by exact .nil) (fun _ st => (RdK.old0 hw.1).out _ st) (fun v61 S61 ⟨a61, c61, hv61, hS61⟩ => ?_); subst hv61
     refine oX (eO 5 rfl ?_); refine o_call (copyBytes_fn ta tc w (by omega)) rfl rfl rfl (by exact .nil) (fun _ st => (RdK.old0 hw.2.1).out _ st) (fun v64 S64 ⟨a64, c64, hv64, hS64⟩ => ?_); subst hv64
     refine oX (eO 9 rfl ?_); refine o_call (bFindG_fn a61 c61 re hre a64 c64 w p more hm2 hfit) rfl rfl rfl (by exact .nil) (fun _ st => ⟨(hS61.rdk hiA).out _ st, (hS64.rdk hiA).out _ st, (RdPK.old0 hw.2.2).out _ st⟩) (fun v68 S68 hv68 => ?_)
     obtain ⟨a68, L68, c68, b68, e68, hq68, hO68, hR68⟩ := hv68.out
     subst hq68
     rcases id hR68 with ⟨rfl, _, _, _, hB68⟩ | ⟨he68, rfl, hL68, _⟩
     ·refine oX ?_; refine eK 10 rfl sM ?_; refine eK 11 rfl sE ?_; refine eK 12 rfl sE ?_; refine eK 13 rfl sE ?_; refine eK 14 rfl sA ?_; refine eK 15 rfl sA ?_; refine eK 16 rfl sA (eZ hK25 (c_seq fun _ hK26 => ?_)); refine cR fun _ hK27 => ?_; refine oM ?_; refine oS (eqF (h := he54)) ?_; refine oM ?_; refine oN ?_; refine oN ?_; refine oS sP (oM ?_); refine oN ?_; refine oN ?_; refine oN ?_; refine oN ?_; refine oU ?_; refine oU ?_; refine oU ?_; refine oU ?_; refine oN ?_; refine oS sP (oZ hK27 ?_); refine cFZ hK26 (c_seq fun _ hK28 => ?_); refine cR fun _ hK29 => ?_; refine oM ?_; refine oS (nqT (h := he54)) ?_; refine oM ?_; refine oY (oM ?_); refine oY (oM ?_); refine oY (oM ?_); refine oY ?_; refine oS sC ?_; refine oY ?_; refine oS nqF ?_
      refine oY ?_; refine oS sP ?_; refine oS sT (oM ?_); refine oY (oM ?_); refine oY ?_; refine oS (step_cast (v' := .bool false) (s_neq rfl rfl) rfl) ?_; refine oY (oM ?_); refine oN ?_; refine oN ?_; refine oU ?_; refine oU ?_; refine oU ?_; refine oN ?_; refine oY ?_; refine oS sP ?_; refine oS sP (oZ hK29 ?_); refine cFZ hK28 (cR fun _ hK30 => ?_); refine oS (s_ldB rfl (RdPK.cels (.own meA)) lnA) ?_; refine o_alloc (l := [.slice none 0 0, .slice none 0 0, .int .i64 0, .int .i64 0]) rfl rfl fun b14 => ?_; refine o_stW rfl rfl upA lnA lnA onA ?_; refine oZ hK30 (cR fun _ hK31 => ?_); refine oM ?_; refine oS sF ?_; refine o_store rfl rfl rfl upA ltA rfl ?_; refine oZ hK31 (cR fun _ hK32 => ?_); refine oM (oM (oM ?_)); refine oS (s_ldB rfl (RdPK.cels (.own meA)) lnA) ?_; refine o_callP (right_fn _ _ _ _ _ ra rc re hre ta tc w p Fz hfit hR54) rfl rfl rfl (fun _ st => ⟨(hO54.rdk hiA).out _ st, (RdK.old0 hw.1).out _ st, (RdK.old0 hw.2.1).out _ st⟩) (fun v118 hv118 => ?_); subst hv118
      refine oM ?_; refine oY (oM ?_); refine oY (oM ?_); refine oY (oM ?_); refine oY ?_; refine oS (s_ldB rfl (RdPK.cels (.own meA)) lnA) ?_; refine oY ?_; refine o_callP (right_fn _ _ _ _ _ ra rc re hre ta tc w p more hfit hR68) rfl rfl rfl (fun _ st => ⟨(hO68.rdk hiA).out _ st, (RdK.old0 hw.1).out _ st, (RdK.old0 hw.2.1).out _ st⟩) (fun v124 hv124 => ?_); subst hv124
      refine oS sT (oM ?_); refine oY ?_; refine o_callP (works_fn) rfl rfl rfl (fun _ st => (RdPK.old0 hw.2.2).out _ st) (fun v127 hv127 => ?_); subst hv127
      refine oS sT (oA (oZ hK32 (c_ret ?_))); refine ?_; exact xR rfl rfl (rfl)
     ·have hl68 : L68.length = 0 := by rw [hL68]; rfl
      refine oX ?_; refine eK 10 rfl sM ?_; refine eK 11 rfl sE ?_; refine eK 12 rfl sE ?_; refine eK 13 rfl sE ?_; refine eK 14 rfl sA ?_; refine eK 15 rfl sA ?_; refine eK 16 rfl sA (eZ hK25 (c_seq fun _ hK33 => ?_)); refine cR fun _ hK34 => ?_; refine oM ?_; refine oS (eqF (h := he54)) ?_; refine oM ?_; refine oN ?_; refine oN ?_; refine oS sP (oM ?_); refine oN ?_; refine oN ?_; refine oN ?_; refine oN ?_; refine oU ?_; refine oU ?_; refine oU ?_; refine oU ?_; refine oN ?_; refine oS sP (oZ hK34 ?_); refine cFZ hK33 (c_seq fun _ hK35 => ?_); refine cR fun _ hK36 => ?_; refine oM ?_; refine oS (nqT (h := he54)) ?_; refine oM ?_; refine oY (oM ?_); refine oY (oM ?_); refine oY (oM ?_); refine oY ?_; refine oS sC ?_; refine oY ?_; refine oS nqF ?_
      refine oY ?_; refine oS sP ?_; refine oS sT (oM ?_); refine oY (oM ?_); refine oY ?_; refine oS (nqT (h := he68)) ?_; refine oY (oM ?_); refine oY (oM ?_); refine oY (oM ?_); refine oY (oM ?_); refine oY ?_; refine oS sC ?_; refine oY ?_; refine oS nqF ?_; refine oY ?_; refine oS sP ?_; refine oY ?_; refine oS sT ?_; refine oS sP (oZ hK36 ?_); refine cFZ hK35 (cR fun _ hK37 => ?_); refine oS (s_ldB rfl (RdPK.cels (.own meA)) lnA) ?_; refine o_alloc (l := [.slice none 0 0, .slice none 0 0, .int .i64 0, .int .i64 0]) rfl rfl fun b14 => ?_; refine o_stW rfl rfl upA lnA lnA onA ?_; refine oZ hK37 (cR fun _ hK38 => ?_); refine oM ?_; refine oS sF ?_; refine o_store rfl rfl rfl upA ltA rfl ?_; refine oZ hK38 (cR fun _ hK39 => ?_); refine oM (oM (oM ?_)); refine oS (s_ldB rfl (RdPK.cels (.own meA)) lnA) ?_; refine o_callP (right_fn _ _ _ _ _ ra rc re hre ta tc w p Fz hfit hR54) rfl rfl rfl (fun _ st => ⟨(hO54.rdk hiA).out _ st, (RdK.old0 hw.1).out _ st, (RdK.old0 hw.2.1).out _ st⟩) (fun v118 hv118 => ?_)
      subst hv118; refine oM ?_; refine oY (oM ?_); refine oY (oM ?_); refine oY (oM ?_); refine oY ?_; refine oS (s_ldB rfl (RdPK.cels (.own meA)) lnA) ?_; refine oY ?_; refine o_callP (right_fn _ _ _ _ _ ra rc re hre ta tc w p more hfit hR68) rfl rfl rfl (fun _ st => ⟨(hO68.rdk hiA).out _ st, (RdK.old0 hw.1).out _ st, (RdK.old0 hw.2.1).out _ st⟩) (fun v124 hv124 => ?_); subst hv124
      refine oS sT (oM ?_); refine oY ?_; refine o_callP (works_fn) rfl rfl rfl (fun _ st => (RdPK.old0 hw.2.2).out _ st) (fun v127 hv127 => ?_); subst hv127
      refine oS sT (oA (oZ hK39 (c_ret ?_))); refine ?_; exact xR rfl rfl (rfl)
   ·refine oZ hK8 ?_; refine cT (cR fun _ hK40 => ?_); refine o_callP (works_fn) rfl rfl rfl (fun _ st => (RdPK.old0 hw.2.2).out _ st) (fun v42 hv42 => ?_); subst hv42
    refine oA (oZ hK40 (c_ret ?_)); refine x_then_ret (?_); exact xR rfl rfl (rfl)
  ·refine oZ hK3 ?_; refine cT (cR fun _ hK41 => ?_); refine oA (oZ hK41 (c_ret ?_)); refine x_then_ret (?_); exact xR rfl rfl (rfl)
end Go.Proofs.YtloepfcndglmmaaDoor
namespace Go.Proofs.YtloepfcndglmmaaDoor
open Go Go.HL Go.Proofs Go.HL.Kl Go.HL.Kl.Mc
theorem own : ownKnob Tryd.prog.godebug = none := by kernel_rfl
theorem laidOut : laidOutB Tryd.prog = true := by kernel_rfl
theorem open_nd : Opens Tryd.prog 80 En (fun _ t => -128 ≤ t.op ∧ t.op < 128) :=
  open_struct6 Tryd.underlying80 rfl (by kernel_rfl) (by kernel_rfl) (by kernel_rfl) (by kernel_rfl) (by kernel_rfl) (by kernel_rfl) (open_i8 Tryd.underlying75) (open_cl Tryd.underlying78 Tryd.underlying76 (by kernel_rfl) (by kernel_rfl)) (open_i64 Tryd.underlying3) (open_i64 Tryd.underlying3) (open_i64 Tryd.underlying3) (open_i64 Tryd.underlying3) fun w a b c d e f ha _ _ _ _ _ => ⟨⟨a, b, c, d, e, f⟩, rfl, ha⟩
theorem door_met (os : Os) (args : Array Value) : laidMetH Tryd.prog [("galley/backref.none", Rows.laid_galley_backref_none)] ((World.doorLaid Tryd.prog 400 os).forCall (fun _ _ => 0) ⟨#[], args, []⟩).memory :=
  laidMetH_of_parts3 (fuel := 8) (laidMet_of_run' 8 (by kernel_rfl) (by kernel_rfl)) (by kernel_rfl) (by kernel_rfl)
theorem two_of {α : Type} {l : List α} (h : l.length = 2) : ∃ a b, l = [a, b] := by
  match l, h with
  | [a, b], _ => exact ⟨a, b, rfl⟩
theorem tb_laid {W : World} (h : laidMetH Tryd.prog [("galley/backref.none", Rows.laid_galley_backref_none)] W) : RdP W 0 0 (Esp noS) := by
  rw [MakeChecks.laidMetH_plain _ _ _ (by kernel_rfl)] at h
  obtain ⟨ps, hv, _⟩ := h
  obtain ⟨g', t', cs, fuel, p, q, hg', ht', hvar, hd, hr, _⟩ := hv
  have hg : Tryd.prog.globalNamed "galley/backref.none" = some 0 := by kernel_rfl
  obtain rfl := Option.some.inj (hg.symm.trans hg')
  have hty : (Tryd.prog.globals[0]?).map (·.type) = some 45 := by kernel_rfl
  obtain rfl := Option.some.inj (hty.symm.trans ht')
  obtain ⟨y0, y1, n, hx, hl, h0, h1⟩ := Go.ChangeShapes.trod_struct2 Tryd.underlying45 hd
  obtain ⟨z0, hc0, hz0, _⟩ := DataW.trod_int Tryd.underlying3 h0
  obtain ⟨z1, hc1, hz1, _⟩ := DataW.trod_int Tryd.underlying3 h1
  have hq : (Rows.laid_galley_backref_none : DataW Unit) = .agg [y0.1, y1.1] := congrArg Prod.fst hx
  have e2 : Tryd.prog.cellsOf 45 = 2 := by kernel_rfl
  have e1 : Tryd.prog.cellsOf 3 = 1 := by kernel_rfl
  rw [e2] at hl
  rw [e1] at hc0 hc1
  rw [hz0, hz1] at hq
  simp only [Rows.laid_galley_backref_none, DataW.agg.injEq, List.cons.injEq, DataW.lit.injEq, Lit.int.injEq, true_and, and_true] at hq
  obtain ⟨rfl, rfl⟩ := hq
  obtain ⟨cs⟩ := cs
  dsimp only at hl hc0 hc1
  obtain ⟨a, b, rfl⟩ := two_of hl
  simp only [List.drop_zero, List.take_succ_cons, List.take_zero, List.cons.injEq, and_true, List.drop_succ_cons] at hc0 hc1
  subst hc0; subst hc1
  refine ⟨fun j u hu => ?_⟩
  have := World.var?_cell hg hvar j
  rw [Nat.zero_add, this]
  have hu2 : [Value.int IntKind.i64 (-1), Value.int IntKind.i64 (-1)][j]? = some u := hu
  simpa using hu2
end Go.Proofs.YtloepfcndglmmaaDoor
