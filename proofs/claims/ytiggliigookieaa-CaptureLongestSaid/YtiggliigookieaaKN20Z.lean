/- Part of the proofs over this seat: see the text that holds the theorem. Conditions: each theorem bears its own. -/
import Derived.Test.YtiggliigookieaaMK8Z
import Derived.Test.YtiggliigookieaaKF1Z
import Derived.Test.YtiggliigookieaaMT7Z
import Derived.Test.YtiggliigookieaaMT4Z
namespace Go.Proofs.Ytiggliigookieaa
open Go Go.HL Go.Proofs Go.HL.Kl Go.HL.Kl.Mc
set_option maxHeartbeats 1000000 in
theorem rounds_step (w : List UInt8) (x y : Nd) (js : F) (ih : OverC Try.prog 30 w y js) (ra : Option Addr) (rc : Nat) (re : List Nd) (ta : Option Addr) (tc i i1 : Nat) (fa : Option Addr) (fc : Nat) (fr : List Bool) (S : Nat → Prop) (hre : ∀ x ∈ re, -128 ≤ x.op ∧ x.op < 128) (hr8 : ∀ x ∈ re, ¬ x.op = 8) (hwl : w.length ≤ 1000000) (hp : Part re (.nd x (.nd y js .nil) .nil) i i1) (h6 : x.op = 6) (hS : IsS fr w.length S) (hSb : ∀ p, S p → p ≤ w.length) : HL.Fn Try.prog 48 [.slice ra re.length rc, .int .i64 i, .slice ta w.length tc, .slice fa fr.length fc] (fun W => Rd En W (.slice ra re.length rc) re ∧ Rd Eb W (.slice ta w.length tc) w ∧ Rd Ebo W (.slice fa fr.length fc) fr) [] (OutP w.length (img (rounds x (der1 w y js)) S) (.slice fa fr.length fc) fr) := by
  refine fn_of Try.func48 rfl rfl rfl fun w0 hw => ?_
  obtain ⟨hx, hpk, _⟩ := hp.head
  have hilt := (List.getElem?_eq_some_iff.1 hx).1
  have hsl := hw.1.sl
  have hbl := hsl.le
  have hrf := rep_flds hp.wf.1 h6
  have hD : Inn w.length (der1 w y js) := der1_inn
  have hpb : ∀ k p, img (pow (der1 w y js) k) S p → p ≤ w.length := fun k p ⟨u, h1, h2⟩ => pow_inn hD k _ _ (hSb u h1) h2
  refine c_seq fun _ hK1 => ?_
  refine c_region ?_
  refine o_step rfl (s_assign rfl) ?_
  refine o_nil ?_
  refine x_then (hK1 _ _ ?_)
  refine c_seq fun _ hK2 => ?_
  refine c_region ?_
  refine o_step rfl (s_move rfl) ?_
  refine o_step rfl (s_assign rfl) ?_
  refine o_nil ?_
  refine x_then (hK2 _ _ ?_)
  refine c_seq fun _ hK3 => ?_
  refine c_seq fun _ hK4 => ?_
  refine c_region ?_
  refine o_step rfl (s_assign rfl) ?_
  refine o_nil ?_
  refine x_then (hK4 _ _ ?_)
  refine c_block ?_
  refine c_loop3 (fun (j : Nat) (q : Sl Bool) (Sd : Hp) => (j : Int) ≤ x.mn ∧ IsS q.xs w.length (img (pow (der1 w y js) j) S) ∧ RdC (.slice fa fr.length fc) fr (.slice q.a q.xs.length q.c) q.xs Sd) (fun (j : Nat) (q : Sl Bool) (Sd : Hp) => [(10, .int .i64 j), (9, .slice q.a q.xs.length q.c)]) [(0, _), (1, _), (2, _), (8, _)] (fun (j : Nat) (q : Sl Bool) (Sd : Hp) => Sd) (fun (j : Nat) (q : Sl Bool) (Sd : Hp) => x.mn.toNat - j) 0 ⟨fa, fc, fr⟩ [] ⟨by omega, hS.iff fun q _ => img_zero.symm, .self⟩ sbA sbA hzB ?_
  rintro j q Sd ⟨hj, hi, hq⟩
  refine c_seq fun _ hK5 => ?_
  refine c_seq fun _ hK6 => ?_
  refine c_region ?_
  refine o_step rfl (s_move rfl) ?_
  refine o_step rfl (s_move rfl) ?_
  refine o_step rfl (s_move rfl) ?_
  refine o_step rfl (s_idx rfl rfl hsl (by omega)) ?_
  refine o_step rfl (s_field rfl rfl (by decide)) ?_
  refine o_step rfl (s_ld rfl ((RdK.old0 hw.1).ld i 6 hx rfl (by decide) (by omega))) ?_
  by_cases hjm : (j : Int) < x.mn
  ·
   refine o_step rfl (step_cast (v' := .bool true) (s_lss rfl rfl) (by rw [decide_eq_true (by omega)])) ?_
   refine o_nil ?_
   refine x_then (hK6 _ _ ?_)
   refine c_true rfl ?_
   refine c_skip ?_
   refine x_then (hK5 _ _ ?_)
   refine c_seq fun _ hK7 => ?_
   refine c_block ?_
   refine c_region ?_
   refine o_step rfl (s_move rfl) ?_
   refine o_step rfl (s_move rfl) ?_
   refine o_step rfl (s_add rfl rfl (by omega)) ?_
   refine o_step rfl (s_move rfl) ?_
   refine o_step rfl (s_move rfl) ?_
   refine o_call (ih ra rc re ta tc (i + 1) _ q.a q.c q.xs _ hre hr8 hwl hpk hi (hpb j)) rfl rfl rfl (by exact .nil) (fun w st => ⟨(RdK.old0 hw.1).out w st, (RdK.old0 hw.2.1).out w st, (hq.rdk hw.2.2 hiA).out w st⟩) (fun v30 S30 ⟨a30, c30, l30, hv30, hi30, hr30⟩ => ?_)
   subst hv30
   refine o_step rfl (s_assign rfl) ?_
   refine o_nil ?_
   refine x_block ?_
   refine x_then (hK7 _ _ ?_)
   refine c_region ?_
   refine o_step rfl (s_move rfl) ?_
   refine o_step rfl (s_add rfl rfl (by omega)) ?_
   refine o_step rfl (s_assign rfl) ?_
   refine o_nil ?_
   exact x_then (x_inv (j + 1, ⟨a30, c30, l30⟩, S30 ++ Sd) ⟨by omega, hi30.iff fun q _ => img_succ, hq.trans hr30⟩ (by first | omega | (dsimp only; omega)) sbA hzB)
  ·
   obtain rfl : j = x.mn.toNat := by omega
   refine o_step rfl (step_cast (v' := .bool false) (s_lss rfl rfl) (by rw [decide_eq_false (by omega)])) ?_
   refine o_nil ?_
   refine x_then (hK6 _ _ ?_)
   refine c_false rfl ?_
   refine c_exit ?_
   refine x_then_exit ?_
   refine x_then_exit ?_
   refine x_block_exit ?_
   refine x_then (hK3 _ _ ?_)
   refine c_seq fun _ hK8 => ?_
   refine c_region ?_
   refine o_step rfl (s_move rfl) ?_
   refine o_step rfl (s_assign rfl) ?_
   refine o_nil ?_
   refine x_then (hK8 _ _ ?_)
   refine c_seq fun _ hK9 => ?_
   refine c_seq fun _ hK10 => ?_
   refine c_region ?_
   refine o_step rfl (s_move rfl) ?_
   refine o_step rfl (s_move rfl) ?_
   refine o_step rfl (s_idx rfl rfl hsl (by omega)) ?_
   refine o_step rfl (s_field rfl rfl (by decide)) ?_
   refine o_step rfl (s_ld rfl ((RdK.old0 hw.1).ld i 6 hx rfl (by decide) (by omega))) ?_
   refine o_step rfl (s_assign rfl) ?_
   refine o_nil ?_
   refine x_then (hK10 _ _ ?_)
   refine c_block ?_
   -- not carried: 8
   refine c_loop4 (fun (k : Nat) (qn : Sl Bool) (qo : Sl Bool) (Sd : Hp) => x.mn ≤ k ∧ (x.mx = -1 → k + cf qo.xs ≤ x.mn.toNat + w.length + 1) ∧ (x.mx ≠ -1 → (k : Int) ≤ x.mx) ∧ IsS qn.xs w.length (img (pow (der1 w y js) k) S) ∧ IsS qo.xs w.length (upTo (der1 w y js) S x.mn.toNat k) ∧ RdC (.slice fa fr.length fc) fr (.slice qn.a qn.xs.length qn.c) qn.xs Sd ∧ RdC (.slice fa fr.length fc) fr (.slice qo.a qo.xs.length qo.c) qo.xs Sd) (fun (k : Nat) (qn : Sl Bool) (qo : Sl Bool) (Sd : Hp) => [(12, .int .i64 k), (9, .slice qn.a qn.xs.length qn.c), (11, .slice qo.a qo.xs.length qo.c)]) [(0, _), (1, _), (2, _)] (fun (k : Nat) (qn : Sl Bool) (qo : Sl Bool) (Sd : Hp) => Sd) (fun (k : Nat) (qn : Sl Bool) (qo : Sl Bool) (Sd : Hp) => (if x.mx = -1 then cf qo.xs else (x.mx - k).toNat)) x.mn.toNat q q Sd ⟨by omega, fun _ => by have := cf_le q.xs; have := hi.len; omega, fun h => by omega, hi, hi.iff fun q _ => upTo_start.symm, hq, hq⟩ (by exact Sub.cons' rfl (by congr 1; omega) sbA) sbA hzB ?_
   rintro k qn qo Sd ⟨hk1, hk2, hk3, hin0, hio, hrn, hro⟩
   have hlo := hio.len
   refine c_seq fun _ hK11 => ?_
   refine c_seq fun _ hK12 => ?_
   refine c_region ?_
   refine o_step rfl (s_move rfl) ?_
   refine o_step rfl (s_move rfl) ?_
   refine o_step rfl (s_move rfl) ?_
   refine o_step rfl (s_idx rfl rfl hsl (by omega)) ?_
   refine o_step rfl (s_field rfl rfl (by decide)) ?_
   refine o_step rfl (s_ld rfl ((RdK.old0 hw.1).ld i 7 hx rfl (by decide) (by omega))) ?_
   by_cases hkm : (k : Int) < x.mx
   ·
    refine o_step rfl (step_cast (v' := .bool true) (s_lss rfl rfl) (by rw [decide_eq_true (by omega)])) ?_
    refine o_step rfl (s_move rfl) ?_
    refine o_no rfl rfl rfl rfl ?_
    refine o_no rfl rfl rfl rfl ?_
    refine o_no rfl rfl rfl rfl ?_
    refine o_no rfl rfl rfl rfl ?_
    refine o_no rfl rfl rfl rfl ?_
    refine o_no rfl rfl rfl rfl ?_
    refine o_step rfl (s_pick_t rfl rfl) ?_
    refine o_nil ?_
    refine x_then (hK12 _ _ ?_)
    refine c_true rfl ?_
    refine c_skip ?_
    refine x_then (hK11 _ _ ?_)
    refine c_seq fun _ hK13 => ?_
    refine c_block ?_
    refine c_seq fun _ hK14 => ?_
    refine c_region ?_
    refine o_step rfl (s_move rfl) ?_
    refine o_step rfl (s_move rfl) ?_
    refine o_step rfl (s_add rfl rfl (by omega)) ?_
    refine o_step rfl (s_move rfl) ?_
    refine o_step rfl (s_move rfl) ?_
    refine o_call (ih ra rc re ta tc (i + 1) _ qn.a qn.c qn.xs _ hre hr8 hwl hpk hin0 (hpb k)) rfl rfl rfl (by exact .nil) (fun w st => ⟨(RdK.old0 hw.1).out w st, (RdK.old0 hw.2.1).out w st, (hrn.rdk hw.2.2 hiA).out w st⟩) (fun v59 S59 ⟨a59, c59, l59, hv59, hi59, hr59⟩ => ?_)
    subst hv59
    have hr59 : RdC (.slice qn.a qn.xs.length qn.c) qn.xs (.slice a59 l59.length c59) l59 S59 := hr59
    have hln := hi59.len
    refine o_step rfl (s_assign rfl) ?_
    refine o_nil ?_
    refine x_then (hK14 _ _ ?_)
    refine c_seq fun _ hK15 => ?_
    refine c_region ?_
    refine o_step rfl (s_move rfl) ?_
    refine o_step rfl (s_move rfl) ?_
    refine o_call (both_fn qo.a a59 qo.c c59 qo.xs l59 (by omega) (by omega)) rfl rfl rfl (by exact .nil) (fun w st => ⟨(hro.rdk hw.2.2 hiA).out w st, ((hrn.trans hr59).rdk hw.2.2 hiB).out w st⟩) (fun v63 S63 ⟨a63, c63, hv63, hO63⟩ => ?_)
    subst hv63
    refine o_step rfl (s_move rfl) ?_
    refine o_step rfl (s_extract rfl rfl) ?_
    refine o_step rfl (s_extract rfl rfl) ?_
    refine o_step rfl (s_assign rfl) ?_
    refine o_step rfl (s_assign rfl) ?_
    refine o_nil ?_
    refine x_then (hK15 _ _ ?_)
    refine c_seq fun _ hK16 => ?_
    refine c_seq fun _ hK17 => ?_
    refine c_region ?_
    refine o_step rfl (s_move rfl) ?_
    by_cases hmo : moreB qo.xs l59 = false
    ·
     refine o_step rfl (step_cast (v' := .bool true) (s_not rfl) (by rw [hmo]; rfl)) ?_
     refine o_step rfl (s_move rfl) ?_
     refine o_yes rfl rfl ?_
     refine o_step rfl (s_move rfl) ?_
     refine o_yes rfl rfl ?_
     refine o_step rfl (s_move rfl) ?_
     refine o_yes rfl rfl ?_
     refine o_step rfl (s_idx rfl rfl hsl (by omega)) ?_
     refine o_yes rfl rfl ?_
     refine o_step rfl (s_field rfl rfl (by decide)) ?_
     refine o_yes rfl rfl ?_
     refine o_step rfl (s_ld rfl ((RdK.old0 hw.1).ld i 7 hx rfl (by decide) (by omega))) ?_
     refine o_yes rfl rfl ?_
     by_cases hm2 : x.mx = -1
     ·
      refine o_step rfl (step_cast (v' := .bool true) (s_eql rfl rfl) (by rw [decide_eq_true (by omega)])) ?_
      refine o_step rfl (s_pick_t rfl rfl) ?_
      refine o_nil ?_
      refine x_then (hK17 _ _ ?_)
      refine c_true rfl ?_
      refine c_seq fun _ hK18 => ?_
      refine c_region ?_
      refine o_step rfl (s_move rfl) ?_
      refine o_step rfl (s_assign rfl) ?_
      refine o_nil ?_
      refine x_then (hK18 _ _ ?_)
      refine c_ret ?_
      refine x_then_ret (x_block_ret (x_then_ret (x_then_ret (x_block_ret (x_then_ret (?_))))))
      exfalso; omega
     ·
      refine o_step rfl (step_cast (v' := .bool false) (s_eql rfl rfl) (by rw [decide_eq_false (by omega)])) ?_
      refine o_step rfl (s_pick_t rfl rfl) ?_
      refine o_nil ?_
      refine x_then (hK17 _ _ ?_)
      refine c_false rfl ?_
      refine c_skip ?_
      refine x_then (hK16 _ _ ?_)
      refine c_region ?_
      refine o_step rfl (s_move rfl) ?_
      refine o_step rfl (s_assign rfl) ?_
      refine o_nil ?_
      refine x_block ?_
      refine x_then (hK13 _ _ ?_)
      refine c_region ?_
      refine o_step rfl (s_move rfl) ?_
      refine o_step rfl (s_add rfl rfl (by omega)) ?_
      refine o_step rfl (s_assign rfl) ?_
      refine o_nil ?_
      have hin : IsS l59 w.length (img (pow (der1 w y js) (k + 1)) S) := hi59.iff fun q _ => img_succ
      have hio2 : IsS (orL qo.xs l59) w.length (upTo (der1 w y js) S x.mn.toNat (k + 1)) := (hio.or hin).iff fun q _ => (upTo_succ (by omega)).symm
      have hcf := cf_le (orL qo.xs l59)
      have hol := orL_len qo.xs l59
      exact x_then (x_inv (k + 1, ⟨a59, c59, l59⟩, ⟨a63, c63, orL qo.xs l59⟩, S63 ++ (S59 ++ Sd)) ⟨by omega, fun h => by omega, fun h => by omega, hin, hio2, (hrn.trans hr59).mono hiB, .of (hO63.rds.mono hiA)⟩ (by dsimp only; rw [if_neg (by omega), if_neg (by omega)]; omega) sbA hzB)
    ·
     have hmo2 : moreB qo.xs l59 = true := by simpa using hmo
     refine o_step rfl (step_cast (v' := .bool false) (s_not rfl) (by rw [hmo2]; rfl)) ?_
     refine o_step rfl (s_move rfl) ?_
     refine o_no rfl rfl rfl rfl ?_
     refine o_no rfl rfl rfl rfl ?_
     refine o_no rfl rfl rfl rfl ?_
     refine o_no rfl rfl rfl rfl ?_
     refine o_no rfl rfl rfl rfl ?_
     refine o_no rfl rfl rfl rfl ?_
     refine o_step rfl (s_pick_f rfl rfl) ?_
     refine o_nil ?_
     refine x_then (hK17 _ _ ?_)
     refine c_false rfl ?_
     refine c_skip ?_
     refine x_then (hK16 _ _ ?_)
     refine c_region ?_
     refine o_step rfl (s_move rfl) ?_
     refine o_step rfl (s_assign rfl) ?_
     refine o_nil ?_
     refine x_block ?_
     refine x_then (hK13 _ _ ?_)
     refine c_region ?_
     refine o_step rfl (s_move rfl) ?_
     refine o_step rfl (s_add rfl rfl (by omega)) ?_
     refine o_step rfl (s_assign rfl) ?_
     refine o_nil ?_
     have hin : IsS l59 w.length (img (pow (der1 w y js) (k + 1)) S) := hi59.iff fun q _ => img_succ
     have hio2 : IsS (orL qo.xs l59) w.length (upTo (der1 w y js) S x.mn.toNat (k + 1)) := (hio.or hin).iff fun q _ => (upTo_succ (by omega)).symm
     have hcf := cf_le (orL qo.xs l59)
     have hol := orL_len qo.xs l59
     exact x_then (x_inv (k + 1, ⟨a59, c59, l59⟩, ⟨a63, c63, orL qo.xs l59⟩, S63 ++ (S59 ++ Sd)) ⟨by omega, fun h => by omega, fun h => by omega, hin, hio2, (hrn.trans hr59).mono hiB, .of (hO63.rds.mono hiA)⟩ (by dsimp only; rw [if_neg (by omega), if_neg (by omega)]; omega) sbA hzB)
   ·
    refine o_step rfl (step_cast (v' := .bool false) (s_lss rfl rfl) (by rw [decide_eq_false (by omega)])) ?_
    refine o_step rfl (s_move rfl) ?_
    refine o_yes rfl rfl ?_
    refine o_step rfl (s_move rfl) ?_
    refine o_yes rfl rfl ?_
    refine o_step rfl (s_move rfl) ?_
    refine o_yes rfl rfl ?_
    refine o_step rfl (s_idx rfl rfl hsl (by omega)) ?_
    refine o_yes rfl rfl ?_
    refine o_step rfl (s_field rfl rfl (by decide)) ?_
    refine o_yes rfl rfl ?_
    refine o_step rfl (s_ld rfl ((RdK.old0 hw.1).ld i 7 hx rfl (by decide) (by omega))) ?_
    refine o_yes rfl rfl ?_
    by_cases hm1 : x.mx = -1
    ·
     have hk2b := hk2 hm1
     refine o_step rfl (step_cast (v' := .bool true) (s_eql rfl rfl) (by rw [decide_eq_true (by omega)])) ?_
     refine o_step rfl (s_pick_f rfl rfl) ?_
     refine o_nil ?_
     refine x_then (hK12 _ _ ?_)
     refine c_true rfl ?_
     refine c_skip ?_
     refine x_then (hK11 _ _ ?_)
     refine c_seq fun _ hK19 => ?_
     refine c_block ?_
     refine c_seq fun _ hK20 => ?_
     refine c_region ?_
     refine o_step rfl (s_move rfl) ?_
     refine o_step rfl (s_move rfl) ?_
     refine o_step rfl (s_add rfl rfl (by omega)) ?_
     refine o_step rfl (s_move rfl) ?_
     refine o_step rfl (s_move rfl) ?_
     refine o_call (ih ra rc re ta tc (i + 1) _ qn.a qn.c qn.xs _ hre hr8 hwl hpk hin0 (hpb k)) rfl rfl rfl (by exact .nil) (fun w st => ⟨(RdK.old0 hw.1).out w st, (RdK.old0 hw.2.1).out w st, (hrn.rdk hw.2.2 hiA).out w st⟩) (fun v59 S59 ⟨a59, c59, l59, hv59, hi59, hr59⟩ => ?_)
     subst hv59
     have hr59 : RdC (.slice qn.a qn.xs.length qn.c) qn.xs (.slice a59 l59.length c59) l59 S59 := hr59
     have hln := hi59.len
     refine o_step rfl (s_assign rfl) ?_
     refine o_nil ?_
     refine x_then (hK20 _ _ ?_)
     refine c_seq fun _ hK21 => ?_
     refine c_region ?_
     refine o_step rfl (s_move rfl) ?_
     refine o_step rfl (s_move rfl) ?_
     refine o_call (both_fn qo.a a59 qo.c c59 qo.xs l59 (by omega) (by omega)) rfl rfl rfl (by exact .nil) (fun w st => ⟨(hro.rdk hw.2.2 hiA).out w st, ((hrn.trans hr59).rdk hw.2.2 hiB).out w st⟩) (fun v63 S63 ⟨a63, c63, hv63, hO63⟩ => ?_)
     subst hv63
     refine o_step rfl (s_move rfl) ?_
     refine o_step rfl (s_extract rfl rfl) ?_
     refine o_step rfl (s_extract rfl rfl) ?_
     refine o_step rfl (s_assign rfl) ?_
     refine o_step rfl (s_assign rfl) ?_
     refine o_nil ?_
     refine x_then (hK21 _ _ ?_)
     refine c_seq fun _ hK22 => ?_
     refine c_seq fun _ hK23 => ?_
     refine c_region ?_
     refine o_step rfl (s_move rfl) ?_
     by_cases hmo : moreB qo.xs l59 = false
     ·
      refine o_step rfl (step_cast (v' := .bool true) (s_not rfl) (by rw [hmo]; rfl)) ?_
      refine o_step rfl (s_move rfl) ?_
      refine o_yes rfl rfl ?_
      refine o_step rfl (s_move rfl) ?_
      refine o_yes rfl rfl ?_
      refine o_step rfl (s_move rfl) ?_
      refine o_yes rfl rfl ?_
      refine o_step rfl (s_idx rfl rfl hsl (by omega)) ?_
      refine o_yes rfl rfl ?_
      refine o_step rfl (s_field rfl rfl (by decide)) ?_
      refine o_yes rfl rfl ?_
      refine o_step rfl (s_ld rfl ((RdK.old0 hw.1).ld i 7 hx rfl (by decide) (by omega))) ?_
      refine o_yes rfl rfl ?_
      by_cases hm2 : x.mx = -1
      ·
       refine o_step rfl (step_cast (v' := .bool true) (s_eql rfl rfl) (by rw [decide_eq_true (by omega)])) ?_
       refine o_step rfl (s_pick_t rfl rfl) ?_
       refine o_nil ?_
       refine x_then (hK23 _ _ ?_)
       refine c_true rfl ?_
       refine c_seq fun _ hK24 => ?_
       refine c_region ?_
       refine o_step rfl (s_move rfl) ?_
       refine o_step rfl (s_assign rfl) ?_
       refine o_nil ?_
       refine x_then (hK24 _ _ ?_)
       refine c_ret ?_
       refine x_then_ret (x_block_ret (x_then_ret (x_then_ret (x_block_ret (x_then_ret (?_))))))
       refine x_sub (Sub.refl _) (H' := Sd) hzB ?_
       exact x_ret rfl (.tmp rfl (.nil)) (⟨_, _, _, rfl, hio.iff fun q _ => rounds_fixed (by omega) hm1 (by omega) hSb hD (fun q hq h => hio.no_more (hi59.iff fun q _ => img_succ) hmo q hq h |> fun h => h) q, hro⟩)
      ·
       refine o_step rfl (step_cast (v' := .bool false) (s_eql rfl rfl) (by rw [decide_eq_false (by omega)])) ?_
       refine o_step rfl (s_pick_t rfl rfl) ?_
       refine o_nil ?_
       refine x_then (hK23 _ _ ?_)
       refine c_false rfl ?_
       refine c_skip ?_
       refine x_then (hK22 _ _ ?_)
       refine c_region ?_
       refine o_step rfl (s_move rfl) ?_
       refine o_step rfl (s_assign rfl) ?_
       refine o_nil ?_
       refine x_block ?_
       refine x_then (hK19 _ _ ?_)
       refine c_region ?_
       refine o_step rfl (s_move rfl) ?_
       refine o_step rfl (s_add rfl rfl (by omega)) ?_
       refine o_step rfl (s_assign rfl) ?_
       refine o_nil ?_
       have hin : IsS l59 w.length (img (pow (der1 w y js) (k + 1)) S) := hi59.iff fun q _ => img_succ
       have hio2 : IsS (orL qo.xs l59) w.length (upTo (der1 w y js) S x.mn.toNat (k + 1)) := (hio.or hin).iff fun q _ => (upTo_succ (by omega)).symm
       have hcf := cf_le (orL qo.xs l59)
       have hol := orL_len qo.xs l59
       exact x_then (x_inv (k + 1, ⟨a59, c59, l59⟩, ⟨a63, c63, orL qo.xs l59⟩, S63 ++ (S59 ++ Sd)) ⟨by omega, fun h => by omega, fun h => by omega, hin, hio2, (hrn.trans hr59).mono hiB, .of (hO63.rds.mono hiA)⟩ (by omega) sbA hzB)
     ·
      have hmo2 : moreB qo.xs l59 = true := by simpa using hmo
      refine o_step rfl (step_cast (v' := .bool false) (s_not rfl) (by rw [hmo2]; rfl)) ?_
      refine o_step rfl (s_move rfl) ?_
      refine o_no rfl rfl rfl rfl ?_
      refine o_no rfl rfl rfl rfl ?_
      refine o_no rfl rfl rfl rfl ?_
      refine o_no rfl rfl rfl rfl ?_
      refine o_no rfl rfl rfl rfl ?_
      refine o_no rfl rfl rfl rfl ?_
      refine o_step rfl (s_pick_f rfl rfl) ?_
      refine o_nil ?_
      refine x_then (hK23 _ _ ?_)
      refine c_false rfl ?_
      refine c_skip ?_
      refine x_then (hK22 _ _ ?_)
      refine c_region ?_
      refine o_step rfl (s_move rfl) ?_
      refine o_step rfl (s_assign rfl) ?_
      refine o_nil ?_
      refine x_block ?_
      refine x_then (hK19 _ _ ?_)
      refine c_region ?_
      refine o_step rfl (s_move rfl) ?_
      refine o_step rfl (s_add rfl rfl (by omega)) ?_
      refine o_step rfl (s_assign rfl) ?_
      refine o_nil ?_
      have hin : IsS l59 w.length (img (pow (der1 w y js) (k + 1)) S) := hi59.iff fun q _ => img_succ
      have hio2 : IsS (orL qo.xs l59) w.length (upTo (der1 w y js) S x.mn.toNat (k + 1)) := (hio.or hin).iff fun q _ => (upTo_succ (by omega)).symm
      have hcf := cf_le (orL qo.xs l59)
      have hol := orL_len qo.xs l59
      exact x_then (x_inv (k + 1, ⟨a59, c59, l59⟩, ⟨a63, c63, orL qo.xs l59⟩, S63 ++ (S59 ++ Sd)) ⟨by omega, fun h => by have := cf_more hmo2; have := hk2 hm1; dsimp only; omega, fun h => absurd hm1 h, hin, hio2, (hrn.trans hr59).mono hiB, .of (hO63.rds.mono hiA)⟩ (by dsimp only; rw [if_pos hm1, if_pos hm1]; exact cf_more hmo2) sbA hzB)
    ·
     have hmk := hk3 hm1
     refine o_step rfl (step_cast (v' := .bool false) (s_eql rfl rfl) (by rw [decide_eq_false (by omega)])) ?_
     refine o_step rfl (s_pick_f rfl rfl) ?_
     refine o_nil ?_
     refine x_then (hK12 _ _ ?_)
     refine c_false rfl ?_
     refine c_exit ?_
     refine x_then_exit ?_
     refine x_then_exit ?_
     refine x_block_exit ?_
     refine x_then (hK9 _ _ ?_)
     refine c_seq fun _ hK25 => ?_
     refine c_region ?_
     refine o_step rfl (s_move rfl) ?_
     refine o_step rfl (s_assign rfl) ?_
     refine o_nil ?_
     refine x_then (hK25 _ _ ?_)
     refine c_ret ?_
     refine ?_
     refine x_sub (Sub.refl _) (H' := Sd) hzB ?_
     exact x_ret rfl (.tmp rfl (.nil)) (⟨_, _, _, rfl, hio.iff fun q _ => rounds_last (by omega) (by omega) q, hro⟩)
end Go.Proofs.Ytiggliigookieaa

/- Part of the proofs over this seat: see the text that holds the theorem. Conditions: each theorem bears its own. -/
namespace Go.Proofs.Ytiggliigookieaa
open Go Go.HL Go.Proofs Go.HL.Kl Go.HL.Kl.Mc
theorem rHas_fn (c : Cl) (x : Nat) (hx : x < 256) : HL.Fn Try.prog 33 [.agg (Ec c).toArray, .int .u8 x] (fun _ => True) [] (fun v _ => v = .bool (c.getLsbD x)) := by
  refine fn_of Try.func33 rfl rfl rfl fun w0 hw => ?_
  refine c_seq fun _ hK1 => ?_
  refine c_region ?_
  refine o_box rfl rfl rfl fun b2 => ?_
  refine o_step rfl (s_assign rfl) ?_
  refine o_nil ?_
  refine x_then (hK1 _ _ ?_)
  refine c_seq fun _ hK2 => ?_
  refine c_region ?_
  refine o_step rfl (s_move rfl) ?_
  refine o_step rfl (step_cast (v' := .int .u8 ((x / 64 : Nat) : Int)) (s_quo rfl rfl (by decide)) (congrArg _ (quo64 hx))) ?_
  refine o_step rfl (s_idx1 rfl rfl (by omega)) ?_
  refine o_step rfl (s_ld rfl ((RdPK.own meA).cel (j := x / 64) (Ec_get _ (by omega)) (by omega))) ?_
  refine o_step rfl (s_move rfl) ?_
  refine o_step rfl (step_cast (v' := .int .u8 ((x % 64 : Nat) : Int)) (s_rem rfl rfl (by decide)) (congrArg _ (rem64 hx))) ?_
  refine o_step rfl (s_shr rfl rfl (by omega)) ?_
  refine o_step rfl (s_and rfl rfl) ?_
  refine o_step rfl (step_cast (v' := .bool (c.getLsbD x)) (s_eql rfl rfl) (congrArg Value.bool (hasB c hx))) ?_
  refine o_step rfl (s_assign rfl) ?_
  refine o_nil ?_
  refine x_then (hK2 _ _ ?_)
  refine c_ret ?_
  refine ?_
  exact x_ret rfl (.tmp rfl (.nil)) (rfl)
end Go.Proofs.Ytiggliigookieaa

/- Part of the proofs over this seat: see the text that holds the theorem. Conditions: each theorem bears its own. -/
namespace Go.Proofs.Ytiggliigookieaa
open Go Go.HL Go.Proofs Go.HL.Kl Go.HL.Kl.Mc
set_option maxHeartbeats 2000000 in
theorem over_step (w : List UInt8) (x : Nd) (ks : F) (ih : ∀ y js, js.size < ks.size → OverC Try.prog 30 w y js) (ra : Option Addr) (rc : Nat) (re : List Nd) (ta : Option Addr) (tc i i1 : Nat) (fa : Option Addr) (fc : Nat) (fr : List Bool) (S : Nat → Prop) (hre : ∀ x ∈ re, -128 ≤ x.op ∧ x.op < 128) (hr8 : ∀ x ∈ re, ¬ x.op = 8) (hwl : w.length ≤ 1000000) (hp : Part re (.nd x ks .nil) i i1) (hS : IsS fr w.length S) (hSb : ∀ p, S p → p ≤ w.length) : HL.Fn Try.prog 30 [.slice ra re.length rc, .int .i64 i, .slice ta w.length tc, .slice fa fr.length fc] (fun W => Rd En W (.slice ra re.length rc) re ∧ Rd Eb W (.slice ta w.length tc) w ∧ Rd Ebo W (.slice fa fr.length fc) fr) [] (OutP w.length (img (der1 w x ks) S) (.slice fa fr.length fc) fr) := by
  refine fn_of Try.func30 rfl rfl rfl fun w0 hw => ?_
  obtain ⟨hx, hpk, _⟩ := hp.head
  have hilt := (List.getElem?_eq_some_iff.1 hx).1
  have hsl := hw.1.sl
  have hbl := hsl.le
  have hst := hw.2.1.sl
  have hsf := hw.2.2.sl
  have hfl := hS.len
  have hox := hre x (List.mem_of_getElem? hx)
  have hx8 := hr8 x (List.mem_of_getElem? hx)
  have hok : ndOk x = true := hp.wf.1
  have hop : 1 ≤ x.op ∧ x.op ≤ 8 := (flds_iff.1 (by simp only [ndOk, Bool.and_eq_true] at hok; exact hok.1)).1
  have hkn : (ks.num : Int) = x.kids := hp.wf.2.1
  have hpkl := hpk.le
  have hkl := F.num_le ks
  refine c_seq fun _ hK1 => ?_
  refine c_region ?_
  refine o_step rfl (s_assign rfl) ?_
  refine o_nil ?_
  refine x_then (hK1 _ _ ?_)
  refine c_seq fun _ hK2 => ?_
  refine c_region ?_
  refine o_step rfl (s_move rfl) ?_
  refine o_step rfl (s_len rfl) ?_
  refine o_step rfl (s_add rfl rfl (by omega)) ?_
  refine o_make (E := Ebo) (zx := false) (n := w.length + 1) rfl rfl rfl (by omega) (by omega) rfl fun b20 S20 hS20 => ?_
  have hS20s := hS20.sl
  rw [List.length_replicate] at hS20s
  refine o_step rfl (s_assign rfl) ?_
  refine o_nil ?_
  refine x_then (hK2 _ _ ?_)
  refine c_seq fun _ hK3 => ?_
  refine c_region ?_
  refine o_step rfl (s_move rfl) ?_
  refine o_step rfl (s_move rfl) ?_
  refine o_step rfl (s_idx rfl rfl hsl (by omega)) ?_
  refine o_step rfl (s_ldB rfl ((RdK.old0 hw.1).lds i hx rfl) (by rfl)) ?_
  refine o_alloc (l := En zN) (by rw [En_zero]; rfl) rfl fun b10 => ?_
  refine o_stW rfl rfl upA lnA lnA onA ?_
  refine o_nil ?_
  refine x_then (hK3 _ _ ?_)
  refine c_seq fun _ hK4 => ?_
  refine c_seq fun _ hK5 => ?_
  refine c_region ?_
  refine o_step rfl (s_field rfl rfl (by decide)) ?_
  refine o_step rfl (s_ld rfl (.own meA rfl)) ?_
  refine o_step rfl (s_convI rfl (by omega)) ?_
  refine o_nil ?_
  refine x_then (hK5 _ _ ?_)
  refine c_block ?_
  refine c_seq fun _ hK6 => ?_
  refine c_region ?_
  by_cases h1 : x.op = 1
  ·
   refine o_step rfl (step_cast (v' := .bool true) (s_eql rfl rfl) (by rw [decide_eq_true h1])) ?_
   refine o_step rfl (s_assign rfl) ?_
   refine o_nil ?_
   refine x_then (hK6 _ _ ?_)
   refine c_true rfl ?_
   refine c_seq fun _ hK7 => ?_
   refine c_region ?_
   refine o_step rfl (s_assign rfl) ?_
   refine o_nil ?_
   refine x_then (hK7 _ _ ?_)
   refine c_block ?_
   refine c_loop3 (fun (j : Nat) (out : List Bool) (So : Hp) => j ≤ w.length ∧ SetP w x.set fr j out ∧ OwnS Ebo 1 4 (.slice (some ⟨b20, 0, none⟩) (w.length + 1) (w.length + 1)) out So) (fun (j : Nat) (out : List Bool) (So : Hp) => [(11, .int .i64 j)]) [(2, _), (3, _), (8, _), (9, _), (10, _)] (fun (j : Nat) (out : List Bool) (So : Hp) => (b10, .cells (En x).toArray 51 (0, 0)) :: So) (fun (j : Nat) (out : List Bool) (So : Hp) => w.length - j) 0 _ S20 ⟨by omega, .zero, hS20⟩ sbA sbA hzB ?_
   rintro j out So ⟨hj, hP, hO⟩
   have hOs := hO.sl
   rw [hP.len] at hOs
   refine c_seq fun _ hK8 => ?_
   refine c_seq fun _ hK9 => ?_
   refine c_region ?_
   refine o_step rfl (s_move rfl) ?_
   refine o_step rfl (s_move rfl) ?_
   refine o_step rfl (s_len rfl) ?_
   by_cases hjw : j < w.length
   ·
    obtain ⟨y, hy⟩ : ∃ y, w[j]? = some y := ⟨_, List.getElem?_eq_getElem hjw⟩
    refine o_step rfl (step_cast (v' := .bool true) (s_lss rfl rfl) (by rw [decide_eq_true (by omega)])) ?_
    refine o_nil ?_
    refine x_then (hK9 _ _ ?_)
    refine c_true rfl ?_
    refine c_skip ?_
    refine x_then (hK8 _ _ ?_)
    refine c_seq fun _ hK10 => ?_
    refine c_block ?_
    refine c_drawE ([(b10, .cells (En x).toArray 51 (0, 0))]) (fun i => false) ?_
    refine e_take 0 rfl (by kernel_rfl) (by kernel_rfl) (by kernel_rfl) (by kernel_rfl) (fun _ _ => rfl) rfl hzB (s_move rfl) ?_
    refine e_take 1 rfl (by kernel_rfl) (by kernel_rfl) (by kernel_rfl) (by kernel_rfl) (fun _ _ => rfl) rfl hzB (s_move rfl) ?_
    refine e_take 2 rfl (by kernel_rfl) (by kernel_rfl) (by kernel_rfl) (by kernel_rfl) (fun _ _ => rfl) rfl hzB (s_add rfl rfl (by omega)) ?_
    refine e_take 3 rfl (by kernel_rfl) (by kernel_rfl) (by kernel_rfl) (by kernel_rfl) (fun _ _ => rfl) rfl hzB (s_move rfl) ?_
    refine e_take 4 rfl (by kernel_rfl) (by kernel_rfl) (by kernel_rfl) (by kernel_rfl) (fun _ _ => rfl) rfl hzB (s_move rfl) ?_
    refine e_take 5 rfl (by kernel_rfl) (by kernel_rfl) (by kernel_rfl) (by kernel_rfl) (fun _ _ => rfl) rfl hzB (s_idx rfl rfl hsf (by omega)) ?_
    by_cases hf : bo0 fr j = true
    ·
     refine e_take 6 rfl (by kernel_rfl) (by kernel_rfl) (by kernel_rfl) (by kernel_rfl) (fun _ _ => rfl) rfl hzB (step_cast (v' := .bool true) (s_ld rfl ((RdK.old0 hw.2.2).ld j 0 (bo0_get (by omega)) rfl (by decide) (by omega))) (by rw [hf])) ?_
     refine e_take 7 rfl (by kernel_rfl) (by kernel_rfl) (by kernel_rfl) (by kernel_rfl) (fun _ _ => rfl) rfl hzB (s_move rfl) ?_
     refine e_take 8 rfl (by kernel_rfl) (by kernel_rfl) (by kernel_rfl) (by kernel_rfl) (fun _ fr => by rw [wanted_of fr rfl rfl rfl]; rfl) rfl hzB (s_field rfl rfl (by decide)) ?_
     refine e_take 9 rfl (by kernel_rfl) (by kernel_rfl) (by kernel_rfl) (by kernel_rfl) (fun _ fr => by rw [wanted_of fr rfl rfl rfl]; rfl) rfl hzB (s_ldB rfl (RdPK.cels (RdPK.own' (cs := Ec x.set) meA nd_set)) (Ec_lenM _)) ?_
     refine e_take 10 rfl (by kernel_rfl) (by kernel_rfl) (by kernel_rfl) (by kernel_rfl) (fun _ fr => by rw [wanted_of fr rfl rfl rfl]; rfl) rfl hzB (s_move rfl) ?_
     refine e_take 11 rfl (by kernel_rfl) (by kernel_rfl) (by kernel_rfl) (by kernel_rfl) (fun _ fr => by rw [wanted_of fr rfl rfl rfl]; rfl) rfl hzB (s_move rfl) ?_
     refine e_take 12 rfl (by kernel_rfl) (by kernel_rfl) (by kernel_rfl) (by kernel_rfl) (fun _ fr => by rw [wanted_of fr rfl rfl rfl]; rfl) rfl hzB (s_idx rfl rfl hst (by omega)) ?_
     refine e_take 13 rfl (by kernel_rfl) (by kernel_rfl) (by kernel_rfl) (by kernel_rfl) (fun _ fr => by rw [wanted_of fr rfl rfl rfl]; rfl) rfl hzB (s_ld rfl ((RdK.old0 hw.2.1).ld j 0 hy rfl (by decide) (by omega))) ?_
     refine e_one 14 rfl (by kernel_rfl) ?_
     refine o_yes rfl rfl ?_
     refine o_callP (rHas_fn x.set y.toNat y.toNat_lt) rfl rfl rfl (fun _ _ => trivial) (fun v50 hv50 => ?_)
     subst hv50
     refine o_nil ?_
     refine x_oneS hzB ?_
     refine e_take 15 rfl (by kernel_rfl) (by kernel_rfl) (by kernel_rfl) (by kernel_rfl) (fun _ _ => rfl) rfl hzB (s_pick_t rfl rfl) ?_
     refine e_take 16 rfl (by kernel_rfl) (by kernel_rfl) (by kernel_rfl) (by kernel_rfl) (fun _ _ => rfl) rfl hzB (s_idx rfl rfl hOs (by omega)) ?_
     refine e_one 17 rfl (by kernel_rfl) ?_
     refine o_stS1 (j + 1) _ hO pkA rfl rfl rfl (by rw [hP.len]; omega) (by omega) fun S' hS' => ?_
     refine o_nil ?_
     refine x_oneS hzB ?_
     refine e_done (by kernel_rfl) ?_
     refine x_block ?_
     refine x_then (hK10 _ _ ?_)
     refine c_region ?_
     refine o_step rfl (s_move rfl) ?_
     refine o_step rfl (s_add rfl rfl (by omega)) ?_
     refine o_step rfl (s_assign rfl) ?_
     refine o_nil ?_
     exact x_then (x_inv (j + 1, _, _) ⟨by omega, hP.step hjw ⟨fun h => ⟨bo0_true.1 hf, y, hy, h⟩, fun ⟨_, b, hb, h⟩ => by rw [hy] at hb; cases hb; exact h⟩, hS'⟩ (by first | omega | (dsimp only; omega)) sbA hzB)
    ·
     have hff : bo0 fr j = false := by simpa using hf
     refine e_take 6 rfl (by kernel_rfl) (by kernel_rfl) (by kernel_rfl) (by kernel_rfl) (fun _ _ => rfl) rfl hzB (step_cast (v' := .bool false) (s_ld rfl ((RdK.old0 hw.2.2).ld j 0 (bo0_get (by omega)) rfl (by decide) (by omega))) (by rw [hff])) ?_
     refine e_take 7 rfl (by kernel_rfl) (by kernel_rfl) (by kernel_rfl) (by kernel_rfl) (fun _ _ => rfl) rfl hzB (s_move rfl) ?_
     refine e_skip 8 rfl (by kernel_rfl) (by kernel_rfl) (by kernel_rfl) rfl rfl rfl rfl ?_
     refine e_skip 9 rfl (by kernel_rfl) (by kernel_rfl) (by kernel_rfl) rfl rfl rfl rfl ?_
     refine e_skip 10 rfl (by kernel_rfl) (by kernel_rfl) (by kernel_rfl) rfl rfl rfl rfl ?_
     refine e_skip 11 rfl (by kernel_rfl) (by kernel_rfl) (by kernel_rfl) rfl rfl rfl rfl ?_
     refine e_skip 12 rfl (by kernel_rfl) (by kernel_rfl) (by kernel_rfl) rfl rfl rfl rfl ?_
     refine e_skip 13 rfl (by kernel_rfl) (by kernel_rfl) (by kernel_rfl) rfl rfl rfl rfl ?_
     refine e_one 14 rfl (by kernel_rfl) ?_
     refine o_no rfl rfl rfl rfl ?_
     refine o_nil ?_
     refine x_oneS hzB ?_
     refine e_take 15 rfl (by kernel_rfl) (by kernel_rfl) (by kernel_rfl) (by kernel_rfl) (fun _ _ => rfl) rfl hzB (s_pick_f rfl rfl) ?_
     refine e_take 16 rfl (by kernel_rfl) (by kernel_rfl) (by kernel_rfl) (by kernel_rfl) (fun _ _ => rfl) rfl hzB (s_idx rfl rfl hOs (by omega)) ?_
     refine e_one 17 rfl (by kernel_rfl) ?_
     refine o_stS1 (j + 1) _ hO pkA rfl rfl rfl (by rw [hP.len]; omega) (by omega) fun S' hS' => ?_
     refine o_nil ?_
     refine x_oneS hzB ?_
     refine e_done (by kernel_rfl) ?_
     refine x_block ?_
     refine x_then (hK10 _ _ ?_)
     refine c_region ?_
     refine o_step rfl (s_move rfl) ?_
     refine o_step rfl (s_add rfl rfl (by omega)) ?_
     refine o_step rfl (s_assign rfl) ?_
     refine o_nil ?_
     exact x_then (x_inv (j + 1, _, _) ⟨by omega, hP.step hjw ⟨fun h => (by cases h), fun ⟨h, _⟩ => absurd (bo0_true.2 h) hf⟩, hS'⟩ (by first | omega | (dsimp only; omega)) sbA hzB)
   ·
    obtain rfl : j = w.length := by omega
    refine o_step rfl (step_cast (v' := .bool false) (s_lss rfl rfl) (by rw [decide_eq_false (by omega)])) ?_
    refine o_nil ?_
    refine x_then (hK9 _ _ ?_)
    refine c_false rfl ?_
    refine c_exit ?_
    refine x_then_exit ?_
    refine x_then_exit ?_
    refine x_block_exit ?_
    refine x_block ?_
    refine x_then (hK4 _ _ ?_)
    refine c_seq fun _ hK11 => ?_
    refine c_region ?_
    refine o_step rfl (s_move rfl) ?_
    refine o_step rfl (s_assign rfl) ?_
    refine o_nil ?_
    refine x_then (hK11 _ _ ?_)
    refine c_ret ?_
    refine ?_
    refine x_sub (Sub.refl _) (H' := So) hzB ?_
    exact x_ret rfl (.tmp rfl (.nil)) ((OutP.of hO hP.len (hP.done h1 hS)))
  ·
   refine o_step rfl (step_cast (v' := .bool false) (s_eql rfl rfl) (by rw [decide_eq_false h1])) ?_
   refine o_step rfl (s_assign rfl) ?_
   refine o_nil ?_
   refine x_then (hK6 _ _ ?_)
   refine c_false rfl ?_
   refine c_seq fun _ hK12 => ?_
   refine c_region ?_
   by_cases h2 : x.op = 2
   ·
    refine o_step rfl (step_cast (v' := .bool true) (s_eql rfl rfl) (by rw [decide_eq_true h2])) ?_
    refine o_step rfl (s_assign rfl) ?_
    refine o_nil ?_
    refine x_then (hK12 _ _ ?_)
    refine c_true rfl ?_
    refine c_region ?_
    refine o_step rfl (s_move rfl) ?_
    refine o_step rfl (s_move rfl) ?_
    refine o_step rfl (s_idx rfl rfl hsf (by omega)) ?_
    refine o_step rfl (s_ld rfl ((RdK.old0 hw.2.2).ld 0 0 (bo0_get (by omega)) rfl (by decide) (by omega))) ?_
    refine o_step rfl (s_idx rfl rfl hS20s (by omega)) ?_
    refine o_stS1 0 _ hS20 pkA rfl rfl rfl (by simp) (by omega) fun S' hS' => ?_
    refine o_nil ?_
    refine x_block ?_
    refine x_then (hK4 _ _ ?_)
    refine c_seq fun _ hK13 => ?_
    refine c_region ?_
    refine o_step rfl (s_move rfl) ?_
    refine o_step rfl (s_assign rfl) ?_
    refine o_nil ?_
    refine x_then (hK13 _ _ ?_)
    refine c_ret ?_
    refine ?_
    refine x_sub (Sub.refl _) (H' := S') hzB ?_
    exact x_ret rfl (.tmp rfl (.nil)) ((OutP.of hS' (by simp) (.bol h2 hS)))
   ·
    refine o_step rfl (step_cast (v' := .bool false) (s_eql rfl rfl) (by rw [decide_eq_false h2])) ?_
    refine o_step rfl (s_assign rfl) ?_
    refine o_nil ?_
    refine x_then (hK12 _ _ ?_)
    refine c_false rfl ?_
    refine c_seq fun _ hK14 => ?_
    refine c_region ?_
    by_cases h3 : x.op = 3
    ·
     refine o_step rfl (step_cast (v' := .bool true) (s_eql rfl rfl) (by rw [decide_eq_true h3])) ?_
     refine o_step rfl (s_assign rfl) ?_
     refine o_nil ?_
     refine x_then (hK14 _ _ ?_)
     refine c_true rfl ?_
     refine c_region ?_
     refine o_step rfl (s_move rfl) ?_
     refine o_step rfl (s_move rfl) ?_
     refine o_step rfl (s_len rfl) ?_
     refine o_step rfl (s_move rfl) ?_
     refine o_step rfl (s_move rfl) ?_
     refine o_step rfl (s_len rfl) ?_
     refine o_step rfl (s_idx rfl rfl hsf (by omega)) ?_
     refine o_step rfl (s_ld rfl ((RdK.old0 hw.2.2).ld w.length 0 (bo0_get (by omega)) rfl (by decide) (by omega))) ?_
     refine o_step rfl (s_idx rfl rfl hS20s (by omega)) ?_
     refine o_stS1 w.length _ hS20 pkA rfl rfl rfl (by simp) (by omega) fun S' hS' => ?_
     refine o_nil ?_
     refine x_block ?_
     refine x_then (hK4 _ _ ?_)
     refine c_seq fun _ hK15 => ?_
     refine c_region ?_
     refine o_step rfl (s_move rfl) ?_
     refine o_step rfl (s_assign rfl) ?_
     refine o_nil ?_
     refine x_then (hK15 _ _ ?_)
     refine c_ret ?_
     refine ?_
     refine x_sub (Sub.refl _) (H' := S') hzB ?_
     exact x_ret rfl (.tmp rfl (.nil)) ((OutP.of hS' (by simp) (.eol h3 hS)))
    ·
     refine o_step rfl (step_cast (v' := .bool false) (s_eql rfl rfl) (by rw [decide_eq_false h3])) ?_
     refine o_step rfl (s_assign rfl) ?_
     refine o_nil ?_
     refine x_then (hK14 _ _ ?_)
     refine c_false rfl ?_
     refine c_seq fun _ hK16 => ?_
     refine c_region ?_
     by_cases h4 : x.op = 4
     ·
      refine o_step rfl (step_cast (v' := .bool true) (s_eql rfl rfl) (by rw [decide_eq_true h4])) ?_
      refine o_step rfl (s_assign rfl) ?_
      refine o_nil ?_
      refine x_then (hK16 _ _ ?_)
      refine c_true rfl ?_
      refine c_seq fun _ hK17 => ?_
      refine c_region ?_
      refine o_step rfl (s_move rfl) ?_
      refine o_step rfl (s_assign rfl) ?_
      refine o_nil ?_
      refine x_then (hK17 _ _ ?_)
      refine c_seq fun _ hK18 => ?_
      refine c_region ?_
      refine o_step rfl (s_move rfl) ?_
      refine o_step rfl (s_add rfl rfl (by omega)) ?_
      refine o_step rfl (s_assign rfl) ?_
      refine o_nil ?_
      refine x_then (hK18 _ _ ?_)
      refine c_seq fun _ hK19 => ?_
      refine c_region ?_
      refine o_step rfl (s_assign rfl) ?_
      refine o_nil ?_
      refine x_then (hK19 _ _ ?_)
      refine c_block ?_
      refine c_loop6 (fun (k : Nat) (g : F) (kp : Nat) (q : Sl Bool) (Sd : Hp) (T : Nat → Prop) => k + g.num = ks.num ∧ Part re g kp (i + 1 + ks.size) ∧ g.size ≤ ks.size ∧ IsS q.xs w.length T ∧ (∀ p, T p → p ≤ w.length) ∧ (∀ p, img (der w g false) T p ↔ img (der w ks false) S p) ∧ RdC (.slice fa fr.length fc) fr (.slice q.a q.xs.length q.c) q.xs Sd) (fun (k : Nat) (g : F) (kp : Nat) (q : Sl Bool) (Sd : Hp) (T : Nat → Prop) => [(13, .int .i64 k), (12, .int .i64 kp), (9, .slice q.a q.xs.length q.c)]) [(0, _), (2, _), (8, _), (10, _)] (fun (k : Nat) (g : F) (kp : Nat) (q : Sl Bool) (Sd : Hp) (T : Nat → Prop) => (b10, .cells (En x).toArray 51 (0, 0)) :: Sd) (fun (k : Nat) (g : F) (kp : Nat) (q : Sl Bool) (Sd : Hp) (T : Nat → Prop) => ks.num - k) 0 ks (i + 1) ⟨fa, fc, fr⟩ [] S ⟨by omega, hpk, Nat.le_refl _, hS, hSb, fun _ => Iff.rfl, .self⟩ sbA sbA hzB ?_
      rintro k g kp q Sd T ⟨hkg, hpg, hgs, hi, hTb, hT, hq⟩
      refine c_seq fun _ hK20 => ?_
      refine c_seq fun _ hK21 => ?_
      refine c_region ?_
      refine o_step rfl (s_move rfl) ?_
      refine o_step rfl (s_field rfl rfl (by decide)) ?_
      refine o_step rfl (s_ld rfl (.own meA rfl)) ?_
      by_cases hk : (k : Int) < x.kids
      ·
       obtain ⟨y, ks1, r2, rfl⟩ : ∃ y ks1 r2, g = F.nd y ks1 r2 := by cases g with | nil => simp [F.num] at hkg; omega | nd y a b => exact ⟨y, a, b, rfl⟩
       obtain ⟨hy, hpy, hpt⟩ := hpg.head
       have hsz : ks1.size < ks.size := by simp only [F.size] at hgs; omega
       simp only [F.num] at hkg
       simp only [F.size] at hgs
       refine o_step rfl (step_cast (v' := .bool true) (s_lss rfl rfl) (by rw [decide_eq_true (by omega)])) ?_
       refine o_nil ?_
       refine x_then (hK21 _ _ ?_)
       refine c_true rfl ?_
       refine c_skip ?_
       refine x_then (hK20 _ _ ?_)
       refine c_seq fun _ hK22 => ?_
       refine c_block ?_
       refine c_seq fun _ hK23 => ?_
       refine c_region ?_
       refine o_step rfl (s_move rfl) ?_
       refine o_step rfl (s_move rfl) ?_
       refine o_step rfl (s_move rfl) ?_
       refine o_step rfl (s_move rfl) ?_
       refine o_call (ih y ks1 hsz ra rc re ta tc kp _ q.a q.c q.xs T hre hr8 hwl hpg.one hi hTb) rfl rfl rfl (by exact .nil) (fun w st => ⟨(RdK.old0 hw.1).out w st, (RdK.old0 hw.2.1).out w st, (hq.rdk hw.2.2 hiA).out w st⟩) (fun v86 S86 ⟨a86, c86, l86, hv86, hi86, hr86⟩ => ?_)
       subst hv86
       refine o_step rfl (s_assign rfl) ?_
       refine o_nil ?_
       refine x_then (hK23 _ _ ?_)
       refine c_region ?_
       refine o_step rfl (s_move rfl) ?_
       refine o_step rfl (s_move rfl) ?_
       refine o_callP (behind_fn ra rc re y ks1 kp _ hpg.one) rfl rfl rfl (fun w st => (RdK.old0 hw.1).out w st) (fun v89 hv89 => ?_)
       subst hv89
       refine o_step rfl (s_assign rfl) ?_
       refine o_nil ?_
       refine x_block ?_
       refine x_then (hK22 _ _ ?_)
       refine c_region ?_
       refine o_step rfl (s_move rfl) ?_
       refine o_step rfl (s_add rfl rfl (by omega)) ?_
       refine o_step rfl (s_assign rfl) ?_
       refine o_nil ?_
       exact x_then (x_inv (k + 1, r2, kp + 1 + ks1.size, ⟨a86, c86, l86⟩, S86 ++ Sd, (img (der1 w y ks1) T)) ⟨by dsimp only; omega, hpt, by dsimp only; omega, hi86, img_inn hTb, fun p => img_cat.trans (hT p), hq.trans hr86⟩ (by first | omega | (dsimp only; omega)) sbA hzB)
      ·
       obtain rfl : g = F.nil := F.num_nil (by omega)
       refine o_step rfl (step_cast (v' := .bool false) (s_lss rfl rfl) (by rw [decide_eq_false (by omega)])) ?_
       refine o_nil ?_
       refine x_then (hK21 _ _ ?_)
       refine c_false rfl ?_
       refine c_exit ?_
       refine x_then_exit ?_
       refine x_then_exit ?_
       refine x_block_exit ?_
       refine x_block ?_
       refine x_then (hK4 _ _ ?_)
       refine c_seq fun _ hK24 => ?_
       refine c_region ?_
       refine o_step rfl (s_move rfl) ?_
       refine o_step rfl (s_assign rfl) ?_
       refine o_nil ?_
       refine x_then (hK24 _ _ ?_)
       refine c_ret ?_
       refine ?_
       refine x_sub (Sub.refl _) (H' := Sd) hzB ?_
       exact x_ret rfl (.tmp rfl (.nil)) (⟨_, _, _, rfl, hi.iff fun p _ => img_nil.symm.trans ((hT p).trans (img_else h1 h2 h3 (by omega) (by omega)).symm), hq⟩)
     ·
      refine o_step rfl (step_cast (v' := .bool false) (s_eql rfl rfl) (by rw [decide_eq_false h4])) ?_
      refine o_step rfl (s_assign rfl) ?_
      refine o_nil ?_
      refine x_then (hK16 _ _ ?_)
      refine c_false rfl ?_
      refine c_seq fun _ hK25 => ?_
      refine c_region ?_
      by_cases h5 : x.op = 5
      ·
       refine o_step rfl (step_cast (v' := .bool true) (s_eql rfl rfl) (by rw [decide_eq_true h5])) ?_
       refine o_step rfl (s_assign rfl) ?_
       refine o_nil ?_
       refine x_then (hK25 _ _ ?_)
       refine c_true rfl ?_
       refine c_seq fun _ hK26 => ?_
       refine c_region ?_
       refine o_step rfl (s_move rfl) ?_
       refine o_step rfl (s_add rfl rfl (by omega)) ?_
       refine o_step rfl (s_assign rfl) ?_
       refine o_nil ?_
       refine x_then (hK26 _ _ ?_)
       refine c_seq fun _ hK27 => ?_
       refine c_region ?_
       refine o_step rfl (s_assign rfl) ?_
       refine o_nil ?_
       refine x_then (hK27 _ _ ?_)
       refine c_block ?_
       refine c_loop6 (fun (k : Nat) (g : F) (kp : Nat) (q : Sl Bool) (Sd : Hp) (T : Nat → Prop) => k + g.num = ks.num ∧ Part re g kp (i + 1 + ks.size) ∧ g.size ≤ ks.size ∧ IsS q.xs w.length T ∧ (∀ p, (T p ∨ img (der w g true) S p) ↔ img (der w ks true) S p) ∧ RdS Ebo (.slice q.a q.xs.length q.c) q.xs Sd) (fun (k : Nat) (g : F) (kp : Nat) (q : Sl Bool) (Sd : Hp) (T : Nat → Prop) => [(15, .int .i64 k), (14, .int .i64 kp), (9, .slice q.a q.xs.length q.c)]) [(0, _), (2, _), (3, _), (8, _), (10, _)] (fun (k : Nat) (g : F) (kp : Nat) (q : Sl Bool) (Sd : Hp) (T : Nat → Prop) => (b10, .cells (En x).toArray 51 (0, 0)) :: Sd) (fun (k : Nat) (g : F) (kp : Nat) (q : Sl Bool) (Sd : Hp) (T : Nat → Prop) => ks.num - k) 0 ks (i + 1) ⟨some ⟨b20, 0, none⟩, w.length + 1, List.replicate (w.length + 1) false⟩ S20 (fun _ => False) ⟨by omega, hpk, Nat.le_refl _, .none, fun _ => by simp, by dsimp only; rw [List.length_replicate]; exact hS20.rds⟩ (by exact Sub.cons rfl (Sub.cons rfl (Sub.cons' rfl (by dsimp only; rw [List.length_replicate]) sbA))) sbA hzB ?_
       rintro k g kp q Sd T ⟨hkg, hpg, hgs, hi, hT, hq⟩
       have hlq := hi.len
       refine c_seq fun _ hK28 => ?_
       refine c_seq fun _ hK29 => ?_
       refine c_region ?_
       refine o_step rfl (s_move rfl) ?_
       refine o_step rfl (s_field rfl rfl (by decide)) ?_
       refine o_step rfl (s_ld rfl (.own meA rfl)) ?_
       by_cases hk : (k : Int) < x.kids
       ·
        obtain ⟨y, ks1, r2, rfl⟩ : ∃ y ks1 r2, g = F.nd y ks1 r2 := by cases g with | nil => simp [F.num] at hkg; omega | nd y a b => exact ⟨y, a, b, rfl⟩
        obtain ⟨hy, hpy, hpt⟩ := hpg.head
        have hsz : ks1.size < ks.size := by simp only [F.size] at hgs; omega
        simp only [F.num] at hkg
        simp only [F.size] at hgs
        refine o_step rfl (step_cast (v' := .bool true) (s_lss rfl rfl) (by rw [decide_eq_true (by omega)])) ?_
        refine o_nil ?_
        refine x_then (hK29 _ _ ?_)
        refine c_true rfl ?_
        refine c_skip ?_
        refine x_then (hK28 _ _ ?_)
        refine c_seq fun _ hK30 => ?_
        refine c_block ?_
        refine c_seq fun _ hK31 => ?_
        refine c_region ?_
        refine o_step rfl (s_move rfl) ?_
        refine o_step rfl (s_move rfl) ?_
        refine o_step rfl (s_move rfl) ?_
        refine o_step rfl (s_move rfl) ?_
        refine o_call (ih y ks1 hsz ra rc re ta tc kp _ fa fc fr S hre hr8 hwl hpg.one hS hSb) rfl rfl rfl (by exact .nil) (fun w st => ⟨(RdK.old0 hw.1).out w st, (RdK.old0 hw.2.1).out w st, (RdK.old0 hw.2.2).out w st⟩) (fun v104 S104 ⟨a104, c104, l104, hv104, hi104, hr104⟩ => ?_)
        subst hv104
        have hr104 : RdC (.slice fa fr.length fc) fr (.slice a104 l104.length c104) l104 S104 := hr104
        have hln := hi104.len
        refine o_step rfl (s_assign rfl) ?_
        refine o_nil ?_
        refine x_then (hK31 _ _ ?_)
        refine c_seq fun _ hK32 => ?_
        refine c_region ?_
        refine o_step rfl (s_move rfl) ?_
        refine o_step rfl (s_move rfl) ?_
        refine o_call (both_fn q.a a104 q.c c104 q.xs l104 (by omega) (by omega)) rfl rfl rfl (by exact .nil) (fun w st => ⟨(hq.rdk hiA).out w st, (hr104.rdk hw.2.2 hiA).out w st⟩) (fun v108 S108 ⟨a108, c108, hv108, hO108⟩ => ?_)
        subst hv108
        refine o_step rfl (s_move rfl) ?_
        refine o_step rfl (s_extract rfl rfl) ?_
        refine o_step rfl (s_extract rfl rfl) ?_
        refine o_step rfl (s_assign rfl) ?_
        refine o_nil ?_
        refine x_then (hK32 _ _ ?_)
        refine c_region ?_
        refine o_step rfl (s_move rfl) ?_
        refine o_step rfl (s_move rfl) ?_
        refine o_callP (behind_fn ra rc re y ks1 kp _ hpg.one) rfl rfl rfl (fun w st => (RdK.old0 hw.1).out w st) (fun v113 hv113 => ?_)
        subst hv113
        refine o_step rfl (s_assign rfl) ?_
        refine o_nil ?_
        refine x_block ?_
        refine x_then (hK30 _ _ ?_)
        refine c_region ?_
        refine o_step rfl (s_move rfl) ?_
        refine o_step rfl (s_add rfl rfl (by omega)) ?_
        refine o_step rfl (s_assign rfl) ?_
        refine o_nil ?_
        exact x_then (x_inv (k + 1, r2, kp + 1 + ks1.size, ⟨a108, c108, orL q.xs l104⟩, S108, (fun p => T p ∨ img (der1 w y ks1) S p)) ⟨by dsimp only; omega, hpt, by dsimp only; omega, hi.or hi104, fun p => by rw [← hT p, img_alt, or_assoc], hO108.rds⟩ (by first | omega | (dsimp only; omega)) sbA hzB)
       ·
        obtain rfl : g = F.nil := F.num_nil (by omega)
        refine o_step rfl (step_cast (v' := .bool false) (s_lss rfl rfl) (by rw [decide_eq_false (by omega)])) ?_
        refine o_nil ?_
        refine x_then (hK29 _ _ ?_)
        refine c_false rfl ?_
        refine c_exit ?_
        refine x_then_exit ?_
        refine x_then_exit ?_
        refine x_block_exit ?_
        refine x_block ?_
        refine x_then (hK4 _ _ ?_)
        refine c_seq fun _ hK33 => ?_
        refine c_region ?_
        refine o_step rfl (s_move rfl) ?_
        refine o_step rfl (s_assign rfl) ?_
        refine o_nil ?_
        refine x_then (hK33 _ _ ?_)
        refine c_ret ?_
        refine ?_
        refine x_sub (Sub.refl _) (H' := Sd) hzB ?_
        exact x_ret rfl (.tmp rfl (.nil)) (⟨_, _, _, rfl, hi.iff fun p _ => by rw [img_alt5 h5, ← hT p]; exact ⟨.inl, fun h => h.elim id fun h => absurd h img_nil'⟩, RdC.of hq⟩)
      ·
       refine o_step rfl (step_cast (v' := .bool false) (s_eql rfl rfl) (by rw [decide_eq_false h5])) ?_
       refine o_step rfl (s_assign rfl) ?_
       refine o_nil ?_
       refine x_then (hK25 _ _ ?_)
       refine c_false rfl ?_
       refine c_seq fun _ hK34 => ?_
       refine c_region ?_
       by_cases h7 : x.op = 7
       ·
        refine o_step rfl (step_cast (v' := .bool true) (s_eql rfl rfl) (by rw [decide_eq_true h7])) ?_
        refine o_step rfl (s_assign rfl) ?_
        refine o_nil ?_
        refine x_then (hK34 _ _ ?_)
        refine c_true rfl ?_
        refine c_region ?_
        refine o_step rfl (s_move rfl) ?_
        refine o_step rfl (s_move rfl) ?_
        refine o_step rfl (s_add rfl rfl (by omega)) ?_
        refine o_step rfl (s_move rfl) ?_
        refine o_step rfl (s_move rfl) ?_
        obtain ⟨y, js, rfl⟩ := grp_kid hp.wf h7
        refine o_call (ih y js (by simp only [F.size]; omega) ra rc re ta tc (i + 1) _ fa fc fr S hre hr8 hwl hpk hS hSb) rfl rfl rfl (by exact .nil) (fun w st => ⟨(RdK.old0 hw.1).out w st, (RdK.old0 hw.2.1).out w st, (RdK.old0 hw.2.2).out w st⟩) (fun v121 S121 ⟨a121, c121, l121, hv121, hi121, hr121⟩ => ?_)
        subst hv121
        refine o_step rfl (s_assign rfl) ?_
        refine o_nil ?_
        refine x_block ?_
        refine x_then (hK4 _ _ ?_)
        refine c_seq fun _ hK35 => ?_
        refine c_region ?_
        refine o_step rfl (s_move rfl) ?_
        refine o_step rfl (s_assign rfl) ?_
        refine o_nil ?_
        refine x_then (hK35 _ _ ?_)
        refine c_ret ?_
        refine ?_
        refine x_sub (Sub.refl _) (H' := S121) hzB ?_
        exact x_ret rfl (.tmp rfl (.nil)) (⟨_, _, _, rfl, hi121.iff fun p _ => (img_else h1 h2 h3 h5 (by omega)).symm, hr121⟩)
       ·
        refine o_step rfl (step_cast (v' := .bool false) (s_eql rfl rfl) (by rw [decide_eq_false h7])) ?_
        refine o_step rfl (s_assign rfl) ?_
        refine o_nil ?_
        refine x_then (hK34 _ _ ?_)
        refine c_false rfl ?_
        refine c_seq fun _ hK36 => ?_
        refine c_region ?_
        by_cases h6 : x.op = 6
        ·
         refine o_step rfl (step_cast (v' := .bool true) (s_eql rfl rfl) (by rw [decide_eq_true h6])) ?_
         refine o_step rfl (s_assign rfl) ?_
         refine o_nil ?_
         refine x_then (hK36 _ _ ?_)
         refine c_true rfl ?_
         refine c_region ?_
         refine o_step rfl (s_move rfl) ?_
         refine o_step rfl (s_move rfl) ?_
         refine o_step rfl (s_move rfl) ?_
         refine o_step rfl (s_move rfl) ?_
         obtain ⟨y, js, rfl⟩ := rep_kid hp.wf h6
         refine o_call (rounds_step w x y js (ih y js (by simp only [F.size]; omega)) ra rc re ta tc i i1 fa fc fr S hre hr8 hwl hp h6 hS hSb) rfl rfl rfl (by exact .nil) (fun w st => ⟨(RdK.old0 hw.1).out w st, (RdK.old0 hw.2.1).out w st, (RdK.old0 hw.2.2).out w st⟩) (fun v128 S128 ⟨a128, c128, l128, hv128, hi128, hr128⟩ => ?_)
         subst hv128
         refine o_step rfl (s_assign rfl) ?_
         refine o_nil ?_
         refine x_block ?_
         refine x_then (hK4 _ _ ?_)
         refine c_seq fun _ hK37 => ?_
         refine c_region ?_
         refine o_step rfl (s_move rfl) ?_
         refine o_step rfl (s_assign rfl) ?_
         refine o_nil ?_
         refine x_then (hK37 _ _ ?_)
         refine c_ret ?_
         refine ?_
         refine x_sub (Sub.refl _) (H' := S128) hzB ?_
         exact x_ret rfl (.tmp rfl (.nil)) (⟨_, _, _, rfl, hi128.iff fun p _ => (img_rep6 h6).symm, hr128⟩)
        ·
         refine o_step rfl (step_cast (v' := .bool false) (s_eql rfl rfl) (by rw [decide_eq_false h6])) ?_
         refine o_step rfl (s_assign rfl) ?_
         refine o_nil ?_
         refine x_then (hK36 _ _ ?_)
         refine c_false rfl ?_
         refine c_skip ?_
         refine x_block ?_
         refine x_then (hK4 _ _ ?_)
         refine c_seq fun _ hK38 => ?_
         refine c_region ?_
         refine o_step rfl (s_move rfl) ?_
         refine o_step rfl (s_assign rfl) ?_
         refine o_nil ?_
         refine x_then (hK38 _ _ ?_)
         refine c_ret ?_
         refine ?_
         exfalso; omega

theorem over_fn (w : List UInt8) : ∀ (n : Nat) (x : Nd) (ks : F), ks.size < n → OverC Try.prog 30 w x ks := by
  intro n
  induction n with
  | zero => intro x ks h; omega
  | succ n ihn => intro x ks h ra rc re ta tc i i1 fa fc fr S hre hr8 hwl hp hS hSb; exact over_step w x ks (fun y js hj => ihn y js (by omega)) ra rc re ta tc i i1 fa fc fr S hre hr8 hwl hp hS hSb
end Go.Proofs.Ytiggliigookieaa
