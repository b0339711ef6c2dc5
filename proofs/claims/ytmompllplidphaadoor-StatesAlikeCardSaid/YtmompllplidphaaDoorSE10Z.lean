/- Part of the proofs over this seat: see the text that holds the theorem. Conditions: each theorem bears its own. -/
import Derived.Test.YtmompllplidphaaDoorHTZ
import Derived.Test.YtmompllplidphaaDoorSM25Z
import Derived.Test.YtmompllplidphaaDoorMC9Z
import Derived.Test.YtmompllplidphaaDoorHlB
import Derived.Test.YtmompllplidphaaDoorMK1Z
import Derived.Test.YtmompllplidphaaDoorSW10Z
import Derived.Test.YtmompllplidphaaDoorRows
import Derived.ProofKit
import Derived.LaidMore
import Derived.Stop.Joined
import Derived.Lib.LaidTab
namespace Go.Proofs.YtmompllplidphaaDoor
open Go Go.HL Go.Proofs Go.HL.Kl Go.HL.Kl.Mc Go.HL.Sts
set_option maxHeartbeats 4000000 in
theorem statesAlike_fn (ra : Option Addr) (rc : Nat) (re : List Nd) (hre : ∀ x ∈ re, -128 ≤ x.op ∧ x.op < 128)(rb : Option Addr) (qc : Nat) (qe : List Nd) (hqe : ∀ x ∈ qe, -128 ≤ x.op ∧ x.op < 128) (xa : Option Addr) (xc : Nat) (rows : List (Sl UInt8)) : HL.Fn Tryd.prog 6 [.slice ra re.length rc, .slice rb qe.length qc, .slice xa rows.length xc] (fun W => Rd En W (.slice ra re.length rc) re ∧ Rd En W (.slice rb qe.length qc) qe ∧ Tb [] W ∧ Rd Esl W (.slice xa rows.length xc) rows ∧ ∀ s ∈ rows, Rd Eb W s.v s.xs) [] (fun v _ => v = .bool true) := by
  refine fn_of Tryd.func6 rfl rfl rfl fun w0 hw => ?_
  have hsx := hw.2.2.2.1.sl
  refine cR fun _ hK1 => ?_; refine oA (oZ hK1 (c_seq fun _ hK2 => ?_)); refine cR fun _ hK3 => ?_; refine oM ?_; refine o_callP (longRe_fn ra rc re hre) rfl rfl rfl (fun w st => (RdK.old0 hw.1).out w st) (fun v19 ⟨b19, hv19⟩ => ?_); subst hv19
  cases b19
  ·refine oM ?_; refine oY (oM ?_); refine oY ?_; refine o_callP (longRe_fn rb qc qe hqe) rfl rfl rfl (fun w st => (RdK.old0 hw.2.1).out w st) (fun v22 ⟨b22, hv22⟩ => ?_); subst hv22
   cases b22
   ·refine oS sP (oM ?_); refine oY (oM ?_); refine oY ?_; refine oS sC ?_; refine oY ?_
    by_cases hxl : rows.length > 65536
    ·refine oS (step_cast (v' := .bool true) (s_gtr rfl rfl) (congrArg Value.bool (decide_eq_true (by omega)))) ?_; refine oS sP (oZ hK3 ?_); refine cT (cR fun _ hK4 => ?_); refine oA (oZ hK4 (c_ret ?_)); refine x_then_ret (?_); exact xR rfl rfl (rfl)
    ·refine oS (step_cast (v' := .bool false) (s_gtr rfl rfl) (congrArg Value.bool (decide_eq_false (by omega)))) ?_; refine oS sP (oZ hK3 ?_); refine cFZ hK2 (cR fun _ hK5 => ?_); refine o_callP (lives_fn) rfl rfl rfl (fun w st => tb_of hw.2.2.1 st HSub.nil) (fun v29 hv29 => ?_); subst hv29
     refine oA (oZ hK5 (cR fun _ hK6 => ?_)); refine oM ?_; refine o_call (make_fn ra rc re hre) rfl rfl rfl (by exact .nil) (fun w st => ⟨(RdK.old0 hw.1).out w st, tb_of hw.2.2.1 st HSub.nil⟩) (fun v32 S32 hM1 => ?_)
     rcases hM1 with ⟨he1, hv1⟩ | ⟨hd1, hv1, ho1⟩
     ·subst hv1
      have hne1 := mkErr_ne he1
      refine oM ?_; refine oS sE ?_; refine oS sE ?_; refine o_alloc rfl rfl fun b8 => ?_; refine o_stW rfl rfl upA lnA lnA onA ?_; refine oA (oZ hK6 (cR fun _ hK7 => ?_)); refine oM ?_; refine o_call (make_fn rb qc qe hqe) rfl rfl rfl (by exact .nil) (fun w st => ⟨(RdK.old0 hw.2.1).out w st, tb_of hw.2.2.1 st HSub.nil⟩) (fun v37 S37 hM2 => ?_)
      rcases hM2 with ⟨he2, hv2⟩ | ⟨hd2, hv2, ho2⟩
      ·subst hv2; refine oM ?_; refine oS sE ?_; refine oS sE ?_; refine o_alloc rfl rfl fun b10 => ?_; refine o_stW rfl rfl upA lnA lnA onA ?_; refine oA (oZ hK7 (c_seq fun _ hK8 => ?_)); refine cR fun _ hK9 => ?_; refine oM ?_; refine oS (s_not rfl) ?_; refine oM ?_; refine oY (oM ?_); refine oY ?_; refine oS (step_cast (v' := .bool true) (s_neq rfl rfl) (congrArg Value.bool (decide_eq_true hne1))) ?_; refine oS sP (oM ?_); refine oN ?_; refine oN ?_; refine oS sT (oZ hK9 ?_)
       refine cT (cR fun _ hK10 => ?_); refine oM (oA (oZ hK10 (c_ret ?_))); refine x_then_ret (?_); exact xR rfl rfl (rfl)
      ·rename_i d2 dv2
       obtain ⟨na2, nc2, rows2, ea2, ec2, aa2, ac2, Sn2, Sq2, Se2, Sa2, rfl, rfl, hR2, hQ2, hx2, hE2, hA2⟩ := ho2
       subst hv2; refine oM ?_; refine oS sE ?_; refine oS sE ?_; refine o_alloc rfl rfl fun b10 => ?_; refine o_stW rfl rfl upA lnA lnA onA ?_; refine oA (oZ hK7 (c_seq fun _ hK11 => ?_)); refine cR fun _ hK12 => ?_; refine oM ?_; refine oS (s_not rfl) ?_; refine oM ?_; refine oY (oM ?_); refine oY ?_; refine oS (step_cast (v' := .bool true) (s_neq rfl rfl) (congrArg Value.bool (decide_eq_true hne1))) ?_; refine oS sP (oM ?_); refine oN ?_; refine oN ?_; refine oS sT (oZ hK12 ?_)
       refine cT (cR fun _ hK13 => ?_); refine oM (oA (oZ hK13 (c_ret ?_))); refine x_then_ret (?_); exact xR rfl rfl (rfl)
     ·rename_i d dv
      obtain ⟨na1, nc1, rows1, ea1, ec1, aa1, ac1, Sn1, Sq1, Se1, Sa1, rfl, rfl, hR1, hQ1, hx1, hE1, hA1⟩ := ho1
      subst hv1
      obtain ⟨nd, ks, hSp, hrf, hwt, hSh, hmm⟩ := make_means hd1
      have hrl := shp_len hSp hwt
      refine oM ?_; refine oS sE ?_; refine oS sE ?_; refine o_alloc rfl rfl fun b8 => ?_; refine o_stW rfl rfl upA lnA lnA onA ?_; refine oA (oZ hK6 (cR fun _ hK14 => ?_)); refine oM ?_; refine o_call (make_fn rb qc qe hqe) rfl rfl rfl (by exact .nil) (fun w st => ⟨(RdK.old0 hw.2.1).out w st, tb_of hw.2.2.1 st HSub.nil⟩) (fun v37 S37 hM2 => ?_)
      rcases hM2 with ⟨he2, hv2⟩ | ⟨hd2, hv2, ho2⟩
      ·subst hv2
       have hne2 := mkErr_ne he2
       refine oM ?_; refine oS sE ?_; refine oS sE ?_; refine o_alloc rfl rfl fun b10 => ?_; refine o_stW rfl rfl upA lnA lnA onA ?_; refine oA (oZ hK14 (c_seq fun _ hK15 => ?_)); refine cR fun _ hK16 => ?_; refine oM ?_; refine oS (s_not rfl) ?_; refine oM ?_; refine oY (oM ?_); refine oY ?_; refine oS (step_cast (v' := .bool false) (s_neq rfl rfl) rfl) ?_; refine oS sP (oM ?_); refine oY (oM ?_); refine oY ?_; refine oS (step_cast (v' := .bool true) (s_neq rfl rfl) (congrArg Value.bool (decide_eq_true hne2))) ?_; refine oS sP (oZ hK16 ?_); refine cT (cR fun _ hK17 => ?_); refine oM (oA (oZ hK17 (c_ret ?_))); refine x_then_ret (?_); exact xR rfl rfl (rfl)
      ·rename_i d2 dv2
       obtain ⟨na2, nc2, rows2, ea2, ec2, aa2, ac2, Sn2, Sq2, Se2, Sa2, rfl, rfl, hR2, hQ2, hx2, hE2, hA2⟩ := ho2
       subst hv2
       obtain ⟨nd2, ks2, hSp2, hrf2, hwt2, hSh2, hmm2⟩ := make_means hd2
       have hrl2 := shp_len hSp2 hwt2
       have hcm := unM_comm hSh hSh2
       have hz1 := hSh.sz.2.1
       have hz2 := hSh2.sz.2.1
       refine oM ?_; refine oS sE ?_; refine oS sE ?_; refine o_alloc rfl rfl fun b10 => ?_; refine o_stW rfl rfl upA lnA lnA onA ?_; refine oA (oZ hK14 (c_seq fun _ hK18 => ?_)); refine cR fun _ hK19 => ?_; refine oM ?_; refine oS (s_not rfl) ?_; refine oM ?_; refine oY (oM ?_); refine oY ?_; refine oS (step_cast (v' := .bool false) (s_neq rfl rfl) rfl) ?_; refine oS sP (oM ?_); refine oY (oM ?_); refine oY ?_; refine oS (step_cast (v' := .bool false) (s_neq rfl rfl) rfl) ?_; refine oS sP (oZ hK19 ?_); refine cFZ hK18 (cR fun _ hK20 => ?_); refine oS (s_ldB rfl (RdPK.cels (.own meA)) lnA) ?_; refine oS (s_ldB rfl (RdPK.cels (.own meA)) lnA) ?_; refine o_call (unlike2_fn d aa1 ac1 na1 nc1 rows1 ea1 ec1 hx1 d2 aa2 ac2 na2 nc2 rows2 ea2 ec2 hx2) rfl rfl rfl (by exact .nil) (fun w st => ⟨DfO.rdD hR1 hQ1 hx1 hE1 hA1 hiA hiA hiA hiA st, DfO.rdD hR2 hQ2 hx2 hE2 hA2 hiA hiA hiA hiA st, tb_of hw.2.2.1 st HSub.nil⟩) (fun v54 S54 hU => ?_)
       rcases hU with ⟨hn, hv54⟩ | ⟨t, ua, uc, ht, hv54, hUO⟩
       ·subst hv54
        have hall := unM_none hSh hSh2 hn
        refine oM ?_; refine oS sE ?_; refine oS sE (oA (oA (oZ hK20 (cR fun _ hK21 => ?_)))); refine oS (s_ldB rfl (RdPK.cels (.own meA)) lnA) ?_; refine oS (s_ldB rfl (RdPK.cels (.own meA)) lnA) ?_; refine o_call (unlike2_fn d2 aa2 ac2 na2 nc2 rows2 ea2 ec2 hx2 d aa1 ac1 na1 nc1 rows1 ea1 ec1 hx1) rfl rfl rfl (by exact .nil) (fun w st => ⟨DfO.rdD hR2 hQ2 hx2 hE2 hA2 hiA hiA hiA hiA st, DfO.rdD hR1 hQ1 hx1 hE1 hA1 hiA hiA hiA hiA st, tb_of hw.2.2.1 st HSub.nil⟩) (fun v60 S60 hU2 => ?_)
        rcases hU2 with ⟨hn2, hv60⟩ | ⟨t2, ua2, uc2, ht2, hv60, hUO2⟩
        rotate_left
        ·rw [← hcm, hn] at ht2; cases ht2
        subst hv60; refine oM ?_; refine oS sE ?_; refine oS sE (oA (oA (oZ hK21 (c_seq fun _ hK22 => ?_)))); refine cR fun _ hK23 => ?_; refine oM (oM ?_); refine oS (step_cast (v' := .bool false) (s_neq_bool rfl rfl) rfl) ?_; refine oM ?_; refine oY (oM ?_); refine oY (oM ?_); refine oY ?_; refine o_callP (eqBytes_fn none none 0 0 [] []) rfl rfl rfl (fun w st => ⟨Rd.nil Eb w, Rd.nil Eb w⟩) (fun v69 hv69 => ?_)
        rw [decide_eq_true rfl] at hv69
        subst hv69; refine oY ?_; refine oS (s_not rfl) ?_; refine oS sP (oM ?_); refine oY (oM ?_); refine oY ?_; refine oS (s_not rfl) ?_; refine oY (oM ?_); refine oY (oM ?_); refine oY ?_; refine oS sC ?_; refine oY ?_; refine oS (step_cast (v' := .bool false) (s_neq rfl rfl) rfl) ?_; refine oY ?_; refine oS sT ?_; refine oS sP (oZ hK23 ?_); refine cFZ hK22 (c_seq fun _ hK24 => ?_); refine cR fun _ hK25 => ?_; refine oM (oM ?_); refine oN ?_; refine oN ?_; refine oN ?_; refine oN ?_; refine oN ?_; refine oN ?_; refine oN ?_; refine oN ?_; refine oN ?_; refine oN ?_; refine oN ?_; refine oU ?_; refine oU ?_; refine oU ?_; refine oU ?_; refine oU ?_; refine oU ?_; refine oU ?_; refine oU ?_; refine oU ?_; refine oU ?_; refine oU ?_; refine oU ?_; refine oN ?_; refine oS sP (oZ hK25 ?_); refine cFZ hK24 (c_seq fun _ hK26 => ?_)
        refine cR fun _ hK27 => ?_; refine oA (oZ hK27 (c_block ?_))
        -- not carried: 6
        refine c_loopB (fun (k : Nat) => k ≤ rows.length) (fun (k : Nat) => [(16, .int .i64 k)]) [(0, _), (1, _), (2, _), (8, _), (10, _), (12, _), (13, _)] (fun (k : Nat) => (b8, .cells [.slice aa1 d.atoms.length ac1, .slice na1 rows1.length nc1, .slice ea1 d.ends.length ec1].toArray 26 (0, 0)) :: (b10, .cells [.slice aa2 d2.atoms.length ac2, .slice na2 rows2.length nc2, .slice ea2 d2.ends.length ec2].toArray 26 (0, 0)) :: ((Sn1 ++ (Sq1 ++ (Se1 ++ Sa1))) ++ (Sn2 ++ (Sq2 ++ (Se2 ++ Sa2))))) (fun (k : Nat) => rows.length - k) 0 (by omega) sbA sbA hzB ?_
        rintro k hk
        refine c_seq fun _ hK28 => ?_; refine cR fun _ hK29 => ?_; refine oM (oM ?_); refine oS sC ?_
        by_cases hlt : k < rows.length
        ·obtain ⟨s, hs⟩ : ∃ s, rows[k]? = some s := gE
         have hsm := List.mem_of_getElem? hs
         have hss := (hw.2.2.2.2 s hsm).sl
         refine oS (step_cast (v' := .bool true) (s_lss rfl rfl) (congrArg Value.bool (decide_eq_true (by omega)))) ?_; refine oM ?_; refine oY (oM ?_); refine oY ?_
         by_cases hk100 : k < 100
         ·refine oS (step_cast (v' := .bool true) (s_lss rfl rfl) (congrArg Value.bool (decide_eq_true (by omega)))) ?_; refine oS sT (oZ hK29 ?_); refine cTZ hK28 (c_seq fun _ hK30 => ?_); refine c_block (cR fun _ hK31 => ?_); refine oM (oM ?_); refine oS (s_idx rfl rfl hsx (by omega)) ?_; refine oS (s_ld rfl ((RdK.old0 hw.2.2.2.1).ld k 0 hs rfl (by decide) (by omega))) ?_; refine oA (oZ hK31 (c_seq fun _ hK32 => ?_)); refine cR fun _ hK33 => ?_; refine oM ?_; refine oS sC ?_
          by_cases h64 : s.xs.length > 64
          ·refine oS (step_cast (v' := .bool true) (s_gtr rfl rfl) (congrArg Value.bool (decide_eq_true (by omega)))) ?_; refine oM ?_; refine oN ?_; refine oN ?_; refine oU ?_; refine oU ?_; refine oU ?_; refine oU ?_; refine oN ?_; refine oS sT (oZ hK33 ?_); refine cT ?_; refine c_exit ?_; refine x_then_exit (x_block_exit (xZ hK30 (c_region (oM ?_)))); refine oS sD (oA (o_nil ?_)); exact xI (k + 1) (by omega)
          ·have heqT := hall s.xs
           refine oS (step_cast (v' := .bool false) (s_gtr rfl rfl) (congrArg Value.bool (decide_eq_false (by omega)))) ?_; refine oM ?_; refine oY (oM ?_); refine oY (oM ?_); refine oN ?_; refine oN ?_; refine oN ?_; refine oN ?_; refine oY ?_; refine oS sP ?_; refine oS sP (oZ hK33 ?_); refine cFZ hK32 (cR fun _ hK34 => ?_); refine oM (oM ?_); refine o_call (means_fn ra rc re hre hd1.1 hrf nd ks hSp hrl s.a s.c s.xs (by omega)) rfl rfl rfl (by exact .nil) (fun w st => ⟨(RdK.old0 hw.1).out w st, (RdK.old0 (hw.2.2.2.2 s hsm)).out w st⟩) (fun v136 S136 ⟨b136, hv136, hb136⟩ => ?_)
           subst hv136; refine oM (oM ?_); refine o_call (means_fn rb qc qe hqe hd2.1 hrf2 nd2 ks2 hSp2 hrl2 s.a s.c s.xs (by omega)) rfl rfl rfl (by exact .nil) (fun w st => ⟨(RdK.old0 hw.2.1).out w st, (RdK.old0 (hw.2.2.2.2 s hsm)).out w st⟩) (fun v139 S139 ⟨b139, hv139, hb139⟩ => ?_); subst hv139
           refine oS (step_cast (v' := .bool false) (s_neq_bool rfl rfl) (congrArg Value.bool (decide_eq_false (fun h => h (Bool.eq_iff_iff.2 (hb136.trans ((hmm _).symm.trans ((Bool.eq_iff_iff.1 heqT).trans ((hmm2 _).trans hb139.symm))))))))) ?_; refine oZ hK34 ?_; refine cF (c_skip (x_block (xZ hK30 (c_region (oM ?_))))); refine oS sD (oA (o_nil ?_)); exact xI (k + 1) (by omega)
         ·refine oS (step_cast (v' := .bool false) (s_lss rfl rfl) (congrArg Value.bool (decide_eq_false (by omega)))) ?_; refine oS sT (oZ hK29 ?_); refine cF ?_; refine c_exit ?_; refine x_then_exit (x_then_exit (x_block_exit (xZ hK26 (cR fun _ hK35 => ?_)))); refine oM (oM ?_); refine oY ?_; refine oS sF ?_; refine oY ?_; refine oS sL ?_; refine oY ?_; refine oS sF ?_; refine oY ?_; refine oS sL ?_; refine oY ?_; refine o_callP (eqC_fn aa1 aa2 ac1 ac2 d.atoms d2.atoms) rfl rfl rfl (fun w st => ⟨(hA1.rdk hiA).out w st, (hA2.rdk hiA).out w st⟩) (fun v147 hv147 => ?_)
          subst hv147
          cases hat : decide (d.atoms = d2.atoms)
          ·refine oY ?_; refine oS (s_not rfl) ?_; refine oS sP (oM ?_); refine oN ?_; refine oN ?_; refine oN ?_; refine oS sT (oA (oZ hK35 (c_ret ?_))); refine ?_; exact xR rfl rfl (rfl)
          ·have hdd : d = d2 := alike_eq hd1 hd2 (of_decide_eq_true hat) hall
           refine oY ?_; refine oS (s_not rfl) ?_; refine oS sP (oM ?_); refine oY ?_; refine oS (s_ldB rfl (RdPK.cels (.own meA)) lnA) ?_; refine oY ?_; refine oS (s_ldB rfl (RdPK.cels (.own meA)) lnA) ?_; refine oY ?_; refine o_callP (eqDfa_fn d aa1 ac1 na1 nc1 rows1 ea1 ec1 hx1 d2 aa2 ac2 na2 nc2 rows2 ea2 ec2 hx2) rfl rfl rfl (fun w st => ⟨DfO.rdD hR1 hQ1 hx1 hE1 hA1 hiA hiA hiA hiA st, DfO.rdD hR2 hQ2 hx2 hE2 hA2 hiA hiA hiA hiA st⟩) (fun v153 hv153 => ?_)
           rw [decide_eq_true hdd] at hv153
           subst hv153; refine oS sP (oA (oZ hK35 (c_ret ?_))); refine ?_; exact xR rfl rfl (rfl)
        ·refine oS (step_cast (v' := .bool false) (s_lss rfl rfl) (congrArg Value.bool (decide_eq_false (by omega)))) ?_; refine oM ?_; refine oN ?_; refine oN ?_; refine oS sP (oZ hK29 ?_); refine cF ?_; refine c_exit ?_; refine x_then_exit (x_then_exit (x_block_exit (xZ hK26 (cR fun _ hK36 => ?_)))); refine oM (oM ?_); refine oY ?_; refine oS sF ?_; refine oY ?_; refine oS sL ?_; refine oY ?_; refine oS sF ?_; refine oY ?_; refine oS sL ?_; refine oY ?_; refine o_callP (eqC_fn aa1 aa2 ac1 ac2 d.atoms d2.atoms) rfl rfl rfl (fun w st => ⟨(hA1.rdk hiA).out w st, (hA2.rdk hiA).out w st⟩) (fun v147 hv147 => ?_); subst hv147
         cases hat : decide (d.atoms = d2.atoms)
         ·refine oY ?_; refine oS (s_not rfl) ?_; refine oS sP (oM ?_); refine oN ?_; refine oN ?_; refine oN ?_; refine oS sT (oA (oZ hK36 (c_ret ?_))); refine ?_; exact xR rfl rfl (rfl)
         ·have hdd : d = d2 := alike_eq hd1 hd2 (of_decide_eq_true hat) hall
          refine oY ?_; refine oS (s_not rfl) ?_; refine oS sP (oM ?_); refine oY ?_; refine oS (s_ldB rfl (RdPK.cels (.own meA)) lnA) ?_; refine oY ?_; refine oS (s_ldB rfl (RdPK.cels (.own meA)) lnA) ?_; refine oY ?_; refine o_callP (eqDfa_fn d aa1 ac1 na1 nc1 rows1 ea1 ec1 hx1 d2 aa2 ac2 na2 nc2 rows2 ea2 ec2 hx2) rfl rfl rfl (fun w st => ⟨DfO.rdD hR1 hQ1 hx1 hE1 hA1 hiA hiA hiA hiA st, DfO.rdD hR2 hQ2 hx2 hE2 hA2 hiA hiA hiA hiA st⟩) (fun v153 hv153 => ?_)
          rw [decide_eq_true hdd] at hv153
          subst hv153; refine oS sP (oA (oZ hK36 (c_ret ?_))); refine ?_; exact xR rfl rfl (rfl)
       ·subst hv54
        obtain ⟨hun1, hun2⟩ := unM_some hSh hSh2 ht
        have hln := unM_len hSh hSh2 ht
        have hsU := hUO.sl
        refine oM ?_; refine oS sE ?_; refine oS sE (oA (oA (oZ hK20 (cR fun _ hK37 => ?_)))); refine oS (s_ldB rfl (RdPK.cels (.own meA)) lnA) ?_; refine oS (s_ldB rfl (RdPK.cels (.own meA)) lnA) ?_; refine o_call (unlike2_fn d2 aa2 ac2 na2 nc2 rows2 ea2 ec2 hx2 d aa1 ac1 na1 nc1 rows1 ea1 ec1 hx1) rfl rfl rfl (by exact .nil) (fun w st => ⟨DfO.rdD hR2 hQ2 hx2 hE2 hA2 hiA hiA hiA hiA st, DfO.rdD hR1 hQ1 hx1 hE1 hA1 hiA hiA hiA hiA st, tb_of hw.2.2.1 st HSub.nil⟩) (fun v60 S60 hU2 => ?_)
        rcases hU2 with ⟨hn2, hv60⟩ | ⟨t2, ua2, uc2, ht2, hv60, hUO2⟩
        ·rw [← hcm, ht] at hn2; cases hn2
        rw [← hcm, ht] at ht2
        obtain rfl := Option.some.inj ht2
        subst hv60; refine oM ?_; refine oS sE ?_; refine oS sE (oA (oA (oZ hK37 (c_seq fun _ hK38 => ?_)))); refine cR fun _ hK39 => ?_; refine oM (oM ?_); refine oS (step_cast (v' := .bool false) (s_neq_bool rfl rfl) rfl) ?_; refine oM ?_; refine oY (oM ?_); refine oY (oM ?_); refine oY ?_; refine o_callP (eqBytes_fn ua ua2 uc uc2 t t) rfl rfl rfl (fun w st => ⟨(hUO.rdk hiA).out w st, (hUO2.rdk hiA).out w st⟩) (fun v69 hv69 => ?_)
        rw [decide_eq_true rfl] at hv69
        subst hv69; refine oY ?_; refine oS (s_not rfl) ?_; refine oS sP (oM ?_); refine oY (oM ?_); refine oY ?_; refine oS (s_not rfl) ?_; refine oY (oM ?_); refine oN ?_; refine oN ?_; refine oN ?_; refine oY ?_; refine oS sP ?_; refine oS sP (oZ hK39 ?_); refine cFZ hK38 (c_seq fun _ hK40 => ?_); refine cR fun _ hK41 => ?_; refine oM (oM ?_); refine oY (oM ?_); refine oY ?_; refine oS sC ?_; refine oY ?_; refine oS sF ?_; refine oY ?_; refine oS sL ?_; refine oY ?_; refine oS sC ?_; refine oY ?_; refine oS sF ?_; refine oY ?_; refine oS sL ?_; refine oY ?_; refine oS sC ?_; refine oY ?_; refine oS sD ?_; refine oY ?_; refine oS (step_cast (v' := .bool false) (s_geq rfl rfl) (congrArg Value.bool (decide_eq_false (by omega)))) ?_; refine oY (oM ?_); refine oY (oM ?_); refine oY ?_; refine oS sC ?_; refine oY ?_
        by_cases ht64 : t.length ≤ 64
        ·refine oS (step_cast (v' := .bool true) (s_leq rfl rfl) (congrArg Value.bool (decide_eq_true (by omega)))) ?_; refine oY (oM ?_); refine oY (oM ?_); refine oY (oM ?_); refine oY ?_; refine o_call (means_fn ra rc re hre hd1.1 hrf nd ks hSp hrl ua uc t (by omega)) rfl rfl rfl (by exact .nil) (fun w st => ⟨(RdK.old0 hw.1).out w st, (hUO.rdk hiA).out w st⟩) (fun v100 S100 ⟨b100, hv100, hb100⟩ => ?_); subst hv100
         refine oY (oM ?_); refine oY (oM ?_); refine oY ?_; refine o_call (means_fn rb qc qe hqe hd2.1 hrf2 nd2 ks2 hSp2 hrl2 ua uc t (by omega)) rfl rfl rfl (by exact .nil) (fun w st => ⟨(RdK.old0 hw.2.1).out w st, (hUO.rdk hiA).out w st⟩) (fun v103 S103 ⟨b103, hv103, hb103⟩ => ?_); subst hv103
         refine oY ?_; refine oS (step_cast (v' := .bool false) (s_eql_bool rfl rfl) (congrArg Value.bool (decide_eq_false (fun h => hun1 (Bool.eq_iff_iff.2 ((hmm _).trans (hb100.symm.trans ((Bool.eq_iff_iff.1 h).trans (hb103.trans (hmm2 _).symm))))))))) ?_; refine oY ?_; refine oS sT ?_; refine oY ?_; refine oS sP ?_; refine oS sT (oZ hK41 ?_); refine cFZ hK40 (c_seq fun _ hK42 => ?_); refine cR fun _ hK43 => ?_; refine oA (oZ hK43 (c_block ?_))
         -- not carried: 6
         refine c_loopB (fun (k : Nat) => k ≤ rows.length) (fun (k : Nat) => [(16, .int .i64 k)]) [(0, _), (1, _), (2, _), (8, _), (10, _), (12, _), (13, _)] (fun (k : Nat) => (b8, .cells [.slice aa1 d.atoms.length ac1, .slice na1 rows1.length nc1, .slice ea1 d.ends.length ec1].toArray 26 (0, 0)) :: (b10, .cells [.slice aa2 d2.atoms.length ac2, .slice na2 rows2.length nc2, .slice ea2 d2.ends.length ec2].toArray 26 (0, 0)) :: ((Sn1 ++ (Sq1 ++ (Se1 ++ Sa1))) ++ ((Sn2 ++ (Sq2 ++ (Se2 ++ Sa2))) ++ S54))) (fun (k : Nat) => rows.length - k) 0 (by omega) sbA sbA hzB ?_
         rintro k hk
         refine c_seq fun _ hK44 => ?_; refine cR fun _ hK45 => ?_; refine oM (oM ?_); refine oS sC ?_
         by_cases hlt : k < rows.length
         ·obtain ⟨s, hs⟩ : ∃ s, rows[k]? = some s := gE
          have hsm := List.mem_of_getElem? hs
          have hss := (hw.2.2.2.2 s hsm).sl
          refine oS (step_cast (v' := .bool true) (s_lss rfl rfl) (congrArg Value.bool (decide_eq_true (by omega)))) ?_; refine oM ?_; refine oY (oM ?_); refine oY ?_
          by_cases hk100 : k < 100
          ·refine oS (step_cast (v' := .bool true) (s_lss rfl rfl) (congrArg Value.bool (decide_eq_true (by omega)))) ?_; refine oS sT (oZ hK45 ?_); refine cTZ hK44 (c_seq fun _ hK46 => ?_); refine c_block (cR fun _ hK47 => ?_); refine oM (oM ?_); refine oS (s_idx rfl rfl hsx (by omega)) ?_; refine oS (s_ld rfl ((RdK.old0 hw.2.2.2.1).ld k 0 hs rfl (by decide) (by omega))) ?_; refine oA (oZ hK47 (c_seq fun _ hK48 => ?_)); refine cR fun _ hK49 => ?_; refine oM ?_; refine oS sC ?_
           by_cases h64 : s.xs.length > 64
           ·refine oS (step_cast (v' := .bool true) (s_gtr rfl rfl) (congrArg Value.bool (decide_eq_true (by omega)))) ?_; refine oM ?_; refine oN ?_; refine oN ?_; refine oU ?_; refine oU ?_; refine oU ?_; refine oU ?_; refine oN ?_; refine oS sT (oZ hK49 ?_); refine cT ?_; refine c_exit ?_; refine x_then_exit (x_block_exit (xZ hK46 (c_region (oM ?_)))); refine oS sD (oA (o_nil ?_)); exact xI (k + 1) (by omega)
           ·refine oS (step_cast (v' := .bool false) (s_gtr rfl rfl) (congrArg Value.bool (decide_eq_false (by omega)))) ?_; refine oM ?_; refine oY (oM ?_); refine oY (oM ?_); refine oY (oM ?_); refine oY (oM ?_); refine oY ?_; refine o_callP (ahead_fn s.a s.c s.xs ua uc t) rfl rfl rfl (fun w st => ⟨(RdK.old0 (hw.2.2.2.2 s hsm)).out w st, (hUO.rdk hiA).out w st⟩) (fun v130 hv130 => ?_); subst hv130
            cases hah : aheadB s.xs t
            ·refine oY ?_; refine oS (s_not rfl) ?_; refine oY ?_; refine oS sT ?_; refine oS sP (oZ hK49 ?_); refine cT ?_; refine c_exit ?_; refine x_then_exit (x_block_exit (xZ hK46 (c_region (oM ?_)))); refine oS sD (oA (o_nil ?_)); exact xI (k + 1) (by omega)
            ·have heqT := hun2 s.xs (of_decide_eq_true hah)
             refine oY ?_; refine oS (s_not rfl) ?_; refine oY ?_; refine oS sT ?_; refine oS sP (oZ hK49 ?_); refine cFZ hK48 (cR fun _ hK50 => ?_); refine oM (oM ?_); refine o_call (means_fn ra rc re hre hd1.1 hrf nd ks hSp hrl s.a s.c s.xs (by omega)) rfl rfl rfl (by exact .nil) (fun w st => ⟨(RdK.old0 hw.1).out w st, (RdK.old0 (hw.2.2.2.2 s hsm)).out w st⟩) (fun v136 S136 ⟨b136, hv136, hb136⟩ => ?_); subst hv136
             refine oM (oM ?_); refine o_call (means_fn rb qc qe hqe hd2.1 hrf2 nd2 ks2 hSp2 hrl2 s.a s.c s.xs (by omega)) rfl rfl rfl (by exact .nil) (fun w st => ⟨(RdK.old0 hw.2.1).out w st, (RdK.old0 (hw.2.2.2.2 s hsm)).out w st⟩) (fun v139 S139 ⟨b139, hv139, hb139⟩ => ?_); subst hv139
             refine oS (step_cast (v' := .bool false) (s_neq_bool rfl rfl) (congrArg Value.bool (decide_eq_false (fun h => h (Bool.eq_iff_iff.2 (hb136.trans ((hmm _).symm.trans ((Bool.eq_iff_iff.1 heqT).trans ((hmm2 _).trans hb139.symm))))))))) ?_; refine oZ hK50 ?_; refine cF (c_skip (x_block (xZ hK46 (c_region (oM ?_))))); refine oS sD (oA (o_nil ?_)); exact xI (k + 1) (by omega)
          ·refine oS (step_cast (v' := .bool false) (s_lss rfl rfl) (congrArg Value.bool (decide_eq_false (by omega)))) ?_; refine oS sT (oZ hK45 ?_); refine cF ?_; refine c_exit ?_; refine x_then_exit (x_then_exit (x_block_exit (xZ hK42 (cR fun _ hK51 => ?_)))); refine oM (oM ?_); refine oN ?_; refine oN ?_; refine oN ?_; refine oN ?_; refine oN ?_; refine oN ?_; refine oS sT (oM ?_); refine oN ?_; refine oN ?_; refine oN ?_; refine oS sT (oA (oZ hK51 (c_ret ?_))); refine ?_; exact xR rfl rfl (rfl)
         ·refine oS (step_cast (v' := .bool false) (s_lss rfl rfl) (congrArg Value.bool (decide_eq_false (by omega)))) ?_; refine oM ?_; refine oN ?_; refine oN ?_; refine oS sP (oZ hK45 ?_); refine cF ?_; refine c_exit ?_; refine x_then_exit (x_then_exit (x_block_exit (xZ hK42 (cR fun _ hK52 => ?_)))); refine oM (oM ?_); refine oN ?_; refine oN ?_; refine oN ?_; refine oN ?_; refine oN ?_; refine oN ?_; refine oS sT (oM ?_); refine oN ?_; refine oN ?_; refine oN ?_; refine oS sT (oA (oZ hK52 (c_ret ?_))); refine ?_; exact xR rfl rfl (rfl)
        ·refine oS (step_cast (v' := .bool false) (s_leq rfl rfl) (congrArg Value.bool (decide_eq_false (by omega)))) ?_; refine oY (oM ?_); refine oN ?_; refine oN ?_; refine oN ?_; refine oN ?_; refine oN ?_; refine oN ?_; refine oN ?_; refine oY ?_; refine oS sP ?_; refine oY ?_; refine oS sP ?_; refine oS sT (oZ hK41 ?_); refine cFZ hK40 (c_seq fun _ hK53 => ?_); refine cR fun _ hK54 => ?_; refine oA (oZ hK54 (c_block ?_))
         -- not carried: 6
         refine c_loopB (fun (k : Nat) => k ≤ rows.length) (fun (k : Nat) => [(16, .int .i64 k)]) [(0, _), (1, _), (2, _), (8, _), (10, _), (12, _), (13, _)] (fun (k : Nat) => (b8, .cells [.slice aa1 d.atoms.length ac1, .slice na1 rows1.length nc1, .slice ea1 d.ends.length ec1].toArray 26 (0, 0)) :: (b10, .cells [.slice aa2 d2.atoms.length ac2, .slice na2 rows2.length nc2, .slice ea2 d2.ends.length ec2].toArray 26 (0, 0)) :: ((Sn1 ++ (Sq1 ++ (Se1 ++ Sa1))) ++ ((Sn2 ++ (Sq2 ++ (Se2 ++ Sa2))) ++ S54))) (fun (k : Nat) => rows.length - k) 0 (by omega) sbA sbA hzB ?_
         rintro k hk
         refine c_seq fun _ hK55 => ?_; refine cR fun _ hK56 => ?_; refine oM (oM ?_); refine oS sC ?_
         by_cases hlt : k < rows.length
         ·obtain ⟨s, hs⟩ : ∃ s, rows[k]? = some s := gE
          have hsm := List.mem_of_getElem? hs
          have hss := (hw.2.2.2.2 s hsm).sl
          refine oS (step_cast (v' := .bool true) (s_lss rfl rfl) (congrArg Value.bool (decide_eq_true (by omega)))) ?_; refine oM ?_; refine oY (oM ?_); refine oY ?_
          by_cases hk100 : k < 100
          ·refine oS (step_cast (v' := .bool true) (s_lss rfl rfl) (congrArg Value.bool (decide_eq_true (by omega)))) ?_; refine oS sT (oZ hK56 ?_); refine cTZ hK55 (c_seq fun _ hK57 => ?_); refine c_block (cR fun _ hK58 => ?_); refine oM (oM ?_); refine oS (s_idx rfl rfl hsx (by omega)) ?_; refine oS (s_ld rfl ((RdK.old0 hw.2.2.2.1).ld k 0 hs rfl (by decide) (by omega))) ?_; refine oA (oZ hK58 (c_seq fun _ hK59 => ?_)); refine cR fun _ hK60 => ?_; refine oM ?_; refine oS sC ?_
           by_cases h64 : s.xs.length > 64
           ·refine oS (step_cast (v' := .bool true) (s_gtr rfl rfl) (congrArg Value.bool (decide_eq_true (by omega)))) ?_; refine oM ?_; refine oN ?_; refine oN ?_; refine oU ?_; refine oU ?_; refine oU ?_; refine oU ?_; refine oN ?_; refine oS sT (oZ hK60 ?_); refine cT ?_; refine c_exit ?_; refine x_then_exit (x_block_exit (xZ hK57 (c_region (oM ?_)))); refine oS sD (oA (o_nil ?_)); exact xI (k + 1) (by omega)
           ·refine oS (step_cast (v' := .bool false) (s_gtr rfl rfl) (congrArg Value.bool (decide_eq_false (by omega)))) ?_; refine oM ?_; refine oY (oM ?_); refine oY (oM ?_); refine oY (oM ?_); refine oY (oM ?_); refine oY ?_; refine o_callP (ahead_fn s.a s.c s.xs ua uc t) rfl rfl rfl (fun w st => ⟨(RdK.old0 (hw.2.2.2.2 s hsm)).out w st, (hUO.rdk hiA).out w st⟩) (fun v130 hv130 => ?_); subst hv130
            cases hah : aheadB s.xs t
            ·refine oY ?_; refine oS (s_not rfl) ?_; refine oY ?_; refine oS sT ?_; refine oS sP (oZ hK60 ?_); refine cT ?_; refine c_exit ?_; refine x_then_exit (x_block_exit (xZ hK57 (c_region (oM ?_)))); refine oS sD (oA (o_nil ?_)); exact xI (k + 1) (by omega)
            ·have heqT := hun2 s.xs (of_decide_eq_true hah)
             refine oY ?_; refine oS (s_not rfl) ?_; refine oY ?_; refine oS sT ?_; refine oS sP (oZ hK60 ?_); refine cFZ hK59 (cR fun _ hK61 => ?_); refine oM (oM ?_); refine o_call (means_fn ra rc re hre hd1.1 hrf nd ks hSp hrl s.a s.c s.xs (by omega)) rfl rfl rfl (by exact .nil) (fun w st => ⟨(RdK.old0 hw.1).out w st, (RdK.old0 (hw.2.2.2.2 s hsm)).out w st⟩) (fun v136 S136 ⟨b136, hv136, hb136⟩ => ?_); subst hv136
             refine oM (oM ?_); refine o_call (means_fn rb qc qe hqe hd2.1 hrf2 nd2 ks2 hSp2 hrl2 s.a s.c s.xs (by omega)) rfl rfl rfl (by exact .nil) (fun w st => ⟨(RdK.old0 hw.2.1).out w st, (RdK.old0 (hw.2.2.2.2 s hsm)).out w st⟩) (fun v139 S139 ⟨b139, hv139, hb139⟩ => ?_); subst hv139
             refine oS (step_cast (v' := .bool false) (s_neq_bool rfl rfl) (congrArg Value.bool (decide_eq_false (fun h => h (Bool.eq_iff_iff.2 (hb136.trans ((hmm _).symm.trans ((Bool.eq_iff_iff.1 heqT).trans ((hmm2 _).trans hb139.symm))))))))) ?_; refine oZ hK61 ?_; refine cF (c_skip (x_block (xZ hK57 (c_region (oM ?_))))); refine oS sD (oA (o_nil ?_)); exact xI (k + 1) (by omega)
          ·refine oS (step_cast (v' := .bool false) (s_lss rfl rfl) (congrArg Value.bool (decide_eq_false (by omega)))) ?_; refine oS sT (oZ hK56 ?_); refine cF ?_; refine c_exit ?_; refine x_then_exit (x_then_exit (x_block_exit (xZ hK53 (cR fun _ hK62 => ?_)))); refine oM (oM ?_); refine oN ?_; refine oN ?_; refine oN ?_; refine oN ?_; refine oN ?_; refine oN ?_; refine oS sT (oM ?_); refine oN ?_; refine oN ?_; refine oN ?_; refine oS sT (oA (oZ hK62 (c_ret ?_))); refine ?_; exact xR rfl rfl (rfl)
         ·refine oS (step_cast (v' := .bool false) (s_lss rfl rfl) (congrArg Value.bool (decide_eq_false (by omega)))) ?_; refine oM ?_; refine oN ?_; refine oN ?_; refine oS sP (oZ hK56 ?_); refine cF ?_; refine c_exit ?_; refine x_then_exit (x_then_exit (x_block_exit (xZ hK53 (cR fun _ hK63 => ?_)))); refine oM (oM ?_); refine oN ?_; refine oN ?_; refine oN ?_; refine oN ?_; refine oN ?_; refine oN ?_; refine oS sT (oM ?_); refine oN ?_; refine oN ?_; refine oN ?_; refine oS sT (oA (oZ hK63 (c_ret ?_))); refine ?_; exact xR rfl rfl (rfl)
   ·refine oS sP (oM ?_); refine oN ?_; refine oN ?_; refine oN ?_; refine oS sT (oZ hK3 ?_); refine cT (cR fun _ hK64 => ?_); refine oA (oZ hK64 (c_ret ?_)); refine x_then_ret (?_); exact xR rfl rfl (rfl)
  ·refine oM ?_; refine oN ?_; refine oN ?_; refine oS sT (oM ?_); refine oN ?_; refine oN ?_; refine oN ?_; refine oS sT (oZ hK3 ?_); refine cT (cR fun _ hK65 => ?_); refine oA (oZ hK65 (c_ret ?_)); refine x_then_ret (?_); exact xR rfl rfl (rfl)
theorem own : ownKnob Tryd.prog.godebug = none := by kernel_rfl
theorem laidOut : laidOutB Tryd.prog = true := by kernel_rfl
theorem door_met (os : Os) (args : Array Value) : laidMetH Tryd.prog [("math/bits.deBruijn64tab", Rows.laid_math_bits_deBruijn64tab)] ((World.doorLaid Tryd.prog 400 os).forCall (fun _ _ => 0) ⟨#[], args, []⟩).memory :=
  laidMetH_of_parts3 (fuel := 8) (laidMet_of_run' 8 (by kernel_rfl) (by kernel_rfl)) (by kernel_rfl) (by kernel_rfl)
theorem tab_eq : Rows.laid_math_bits_deBruijn64tab = Lib.tabData (H := Unit) .u8 (Lib.deBruijn64tab.map fun n : Nat => (n : Int)) := rfl
theorem tb_laid {W : World} (h : laidMetH Tryd.prog [("math/bits.deBruijn64tab", Rows.laid_math_bits_deBruijn64tab)] W) : Tb [] W := by
  rw [MakeChecks.laidMetH_plain _ _ _ (by kernel_rfl)] at h
  rw [tab_eq] at h
  have ht := Lib.tabIs_of_head (g := 0) (t := 139) (e := 5) (n := 64) (by kernel_rfl) (by kernel_rfl) (by kernel_rfl) (by kernel_rfl) (by kernel_rfl) (by kernel_rfl) h
  have h1 := rdp_of_tab (g := 0) (by kernel_rfl) ht
  rw [List.map_map] at h1
  exact ⟨h1, fun hm => by cases hm⟩
theorem open_nd : Opens Tryd.prog 57 En (fun _ t => -128 ≤ t.op ∧ t.op < 128) :=
  open_struct6 Tryd.underlying57 rfl (by kernel_rfl) (by kernel_rfl) (by kernel_rfl) (by kernel_rfl) (by kernel_rfl) (by kernel_rfl) (open_i8 Tryd.underlying55) (Mc.open_cl Tryd.underlying54 Tryd.underlying52 (by kernel_rfl) (by kernel_rfl)) (open_i64 Tryd.underlying3) (open_i64 Tryd.underlying3) (open_i64 Tryd.underlying3) (open_i64 Tryd.underlying3) fun w a b c d e f ha _ _ _ _ _ => ⟨⟨a, b, c, d, e, f⟩, rfl, ha⟩
structure DfV where
  a : Sl Kl.Cl
  n : Sl (Sl Int)
  e : Sl Bool
def EDf (x : DfV) : List Value := [x.a.v, x.n.v, x.e.v]
def DfV.d (x : DfV) : Df := ⟨x.n.xs.map Sl.xs, x.e.xs, x.a.xs⟩
def DfV.ok (w : World) (x : DfV) : Prop := RdD x.d x.a.a x.a.c x.n.a x.n.c x.n.xs x.e.a x.e.c w
end Go.Proofs.YtmompllplidphaaDoor
