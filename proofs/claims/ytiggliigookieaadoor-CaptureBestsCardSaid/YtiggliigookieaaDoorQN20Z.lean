/- Part of the proofs over this seat: see the text that holds the theorem. Conditions: each theorem bears its own. -/
import Derived.Test.YtiggliigookieaaDoorMT8Z
import Derived.Test.YtiggliigookieaaDoorQF1Z
namespace Go.Proofs.YtiggliigookieaaDoor
open Go Go.HL Go.Proofs Go.HL.Kl Go.HL.Kl.Mc
set_option maxHeartbeats 1000000 in
theorem rounds_step (w : List UInt8) (x y : Nd) (js : F) (ih : OverC Tryd.prog 64 w y js) (ra : Option Addr) (rc : Nat) (re : List Nd) (ta : Option Addr) (tc i i1 : Nat) (fa : Option Addr) (fc : Nat) (fr : List Bool) (S : Nat → Prop) (hre : ∀ x ∈ re, -128 ≤ x.op ∧ x.op < 128) (hr8 : ∀ x ∈ re, ¬ x.op = 8) (hwl : w.length ≤ 1000000) (hp : Part re (.nd x (.nd y js .nil) .nil) i i1) (h6 : x.op = 6) (hS : IsS fr w.length S) (hSb : ∀ p, S p → p ≤ w.length) : HL.Fn Tryd.prog 81 [.slice ra re.length rc, .int .i64 i, .slice ta w.length tc, .slice fa fr.length fc] (fun W => Rd En W (.slice ra re.length rc) re ∧ Rd Eb W (.slice ta w.length tc) w ∧ Rd Ebo W (.slice fa fr.length fc) fr) [] (OutP w.length (img (rounds x (der1 w y js)) S) (.slice fa fr.length fc) fr) := by
  refine fn_of Tryd.func81 rfl rfl rfl fun w0 hw => ?_
  obtain ⟨hx, hpk, _⟩ := hp.head
  have hilt := (List.getElem?_eq_some_iff.1 hx).1
  have hsl := hw.1.sl
  have hbl := hsl.le
  have hrf := rep_flds hp.wf.1 h6
  have hD : Inn w.length (der1 w y js) := der1_inn
  have hpb : ∀ k p, img (pow (der1 w y js) k) S p → p ≤ w.length := fun k p ⟨u, h1, h2⟩ => pow_inn hD k _ _ (hSb u h1) h2
  refine c_seq fun _ hK1 => ?_
  refine c_region ?_
  refine o_step rfl (s_assign rfl) ?_
  refine o_nil ?_
  refine x_then (hK1 _ _ ?_)
  refine c_seq fun _ hK2 => ?_
  refine c_region ?_
  refine o_step rfl (s_move rfl) ?_
  refine o_step rfl (s_assign rfl) ?_
  refine o_nil ?_
  refine x_then (hK2 _ _ ?_)
  refine c_seq fun _ hK3 => ?_
  refine c_seq fun _ hK4 => ?_
  refine c_region ?_
  refine o_step rfl (s_assign rfl) ?_
  refine o_nil ?_
  refine x_then (hK4 _ _ ?_)
  refine c_block ?_
  refine c_loop3 (fun (j : Nat) (q : Sl Bool) (Sd : Hp) => (j : Int) ≤ x.mn ∧ IsS q.xs w.length (img (pow (der1 w y js) j) S) ∧ RdC (.slice fa fr.length fc) fr (.slice q.a q.xs.length q.c) q.xs Sd) (fun (j : Nat) (q : Sl Bool) (Sd : Hp) => [(10, .int .i64 j), (9, .slice q.a q.xs.length q.c)]) [(0, _), (1, _), (2, _), (8, _)] (fun (j : Nat) (q : Sl Bool) (Sd : Hp) => Sd) (fun (j : Nat) (q : Sl Bool) (Sd : Hp) => x.mn.toNat - j) 0 ⟨fa, fc, fr⟩ [] ⟨by omega, hS.iff fun q _ => img_zero.symm, .self⟩ sbA sbA hzB ?_
  rintro j q Sd ⟨hj, hi, hq⟩
  refine c_seq fun _ hK5 => ?_
  refine c_seq fun _ hK6 => ?_
  refine c_region ?_
  refine o_step rfl (s_move rfl) ?_
  refine o_step rfl (s_move rfl) ?_
  refine o_step rfl (s_move rfl) ?_
  refine o_step rfl (s_idx rfl rfl hsl (by omega)) ?_
  refine o_step rfl (s_field rfl rfl (by decide)) ?_
  refine o_step rfl (s_ld rfl ((RdK.old0 hw.1).ld i 6 hx rfl (by decide) (by omega))) ?_
  by_cases hjm : (j : Int) < x.mn
  ·
   refine o_step rfl (step_cast (v' := .bool true) (s_lss rfl rfl) (by rw [decide_eq_true (by omega)])) ?_
   refine o_nil ?_
   refine x_then (hK6 _ _ ?_)
   refine c_true rfl ?_
   refine c_skip ?_
   refine x_then (hK5 _ _ ?_)
   refine c_seq fun _ hK7 => ?_
   refine c_block ?_
   refine c_region ?_
   refine o_step rfl (s_move rfl) ?_
   refine o_step rfl (s_move rfl) ?_
   refine o_step rfl (s_add rfl rfl (by omega)) ?_
   refine o_step rfl (s_move rfl) ?_
   refine o_step rfl (s_move rfl) ?_
   refine o_call (ih ra rc re ta tc (i + 1) _ q.a q.c q.xs _ hre hr8 hwl hpk hi (hpb j)) rfl rfl rfl (by exact .nil) (fun w st => ⟨(RdK.old0 hw.1).out w st, (RdK.old0 hw.2.1).out w st, (hq.rdk hw.2.2 hiA).out w st⟩) (fun v30 S30 ⟨a30, c30, l30, hv30, hi30, hr30⟩ => ?_)
   subst hv30
   refine o_step rfl (s_assign rfl) ?_
   refine o_nil ?_
   refine x_block ?_
   refine x_then (hK7 _ _ ?_)
   refine c_region ?_
   refine o_step rfl (s_move rfl) ?_
   refine o_step rfl (s_add rfl rfl (by omega)) ?_
   refine o_step rfl (s_assign rfl) ?_
   refine o_nil ?_
   exact x_then (x_inv (j + 1, ⟨a30, c30, l30⟩, S30 ++ Sd) ⟨by omega, hi30.iff fun q _ => img_succ, hq.trans hr30⟩ (by first | omega | (dsimp only; omega)) sbA hzB)
  ·
   obtain rfl : j = x.mn.toNat := by omega
   refine o_step rfl (step_cast (v' := .bool false) (s_lss rfl rfl) (by rw [decide_eq_false (by omega)])) ?_
   refine o_nil ?_
   refine x_then (hK6 _ _ ?_)
   refine c_false rfl ?_
   refine c_exit ?_
   refine x_then_exit ?_
   refine x_then_exit ?_
   refine x_block_exit ?_
   refine x_then (hK3 _ _ ?_)
   refine c_seq fun _ hK8 => ?_
   refine c_region ?_
   refine o_step rfl (s_move rfl) ?_
   refine o_step rfl (s_assign rfl) ?_
   refine o_nil ?_
   refine x_then (hK8 _ _ ?_)
   refine c_seq fun _ hK9 => ?_
   refine c_seq fun _ hK10 => ?_
   refine c_region ?_
   refine o_step rfl (s_move rfl) ?_
   refine o_step rfl (s_move rfl) ?_
   refine o_step rfl (s_idx rfl rfl hsl (by omega)) ?_
   refine o_step rfl (s_field rfl rfl (by decide)) ?_
   refine o_step rfl (s_ld rfl ((RdK.old0 hw.1).ld i 6 hx rfl (by decide) (by omega))) ?_
   refine o_step rfl (s_assign rfl) ?_
   refine o_nil ?_
   refine x_then (hK10 _ _ ?_)
   refine c_block ?_
   -- not carried: 8
   refine c_loop4 (fun (k : Nat) (qn : Sl Bool) (qo : Sl Bool) (Sd : Hp) => x.mn ≤ k ∧ (x.mx = -1 → k + cf qo.xs ≤ x.mn.toNat + w.length + 1) ∧ (x.mx ≠ -1 → (k : Int) ≤ x.mx) ∧ IsS qn.xs w.length (img (pow (der1 w y js) k) S) ∧ IsS qo.xs w.length (upTo (der1 w y js) S x.mn.toNat k) ∧ RdC (.slice fa fr.length fc) fr (.slice qn.a qn.xs.length qn.c) qn.xs Sd ∧ RdC (.slice fa fr.length fc) fr (.slice qo.a qo.xs.length qo.c) qo.xs Sd) (fun (k : Nat) (qn : Sl Bool) (qo : Sl Bool) (Sd : Hp) => [(12, .int .i64 k), (9, .slice qn.a qn.xs.length qn.c), (11, .slice qo.a qo.xs.length qo.c)]) [(0, _), (1, _), (2, _)] (fun (k : Nat) (qn : Sl Bool) (qo : Sl Bool) (Sd : Hp) => Sd) (fun (k : Nat) (qn : Sl Bool) (qo : Sl Bool) (Sd : Hp) => (if x.mx = -1 then cf qo.xs else (x.mx - k).toNat)) x.mn.toNat q q Sd ⟨by omega, fun _ => by have := cf_le q.xs; have := hi.len; omega, fun h => by omega, hi, hi.iff fun q _ => upTo_start.symm, hq, hq⟩ (by exact Sub.cons' rfl (by congr 1; omega) sbA) sbA hzB ?_
   rintro k qn qo Sd ⟨hk1, hk2, hk3, hin0, hio, hrn, hro⟩
   have hlo := hio.len
   refine c_seq fun _ hK11 => ?_
   refine c_seq fun _ hK12 => ?_
   refine c_region ?_
   refine o_step rfl (s_move rfl) ?_
   refine o_step rfl (s_move rfl) ?_
   refine o_step rfl (s_move rfl) ?_
   refine o_step rfl (s_idx rfl rfl hsl (by omega)) ?_
   refine o_step rfl (s_field rfl rfl (by decide)) ?_
   refine o_step rfl (s_ld rfl ((RdK.old0 hw.1).ld i 7 hx rfl (by decide) (by omega))) ?_
   by_cases hkm : (k : Int) < x.mx
   ·
    refine o_step rfl (step_cast (v' := .bool true) (s_lss rfl rfl) (by rw [decide_eq_true (by omega)])) ?_
    refine o_step rfl (s_move rfl) ?_
    refine o_no rfl rfl rfl rfl ?_
    refine o_no rfl rfl rfl rfl ?_
    refine o_no rfl rfl rfl rfl ?_
    refine o_no rfl rfl rfl rfl ?_
    refine o_no rfl rfl rfl rfl ?_
    refine o_no rfl rfl rfl rfl ?_
    refine o_step rfl (s_pick_t rfl rfl) ?_
    refine o_nil ?_
    refine x_then (hK12 _ _ ?_)
    refine c_true rfl ?_
    refine c_skip ?_
    refine x_then (hK11 _ _ ?_)
    refine c_seq fun _ hK13 => ?_
    refine c_block ?_
    refine c_seq fun _ hK14 => ?_
    refine c_region ?_
    refine o_step rfl (s_move rfl) ?_
    refine o_step rfl (s_move rfl) ?_
    refine o_step rfl (s_add rfl rfl (by omega)) ?_
    refine o_step rfl (s_move rfl) ?_
    refine o_step rfl (s_move rfl) ?_
    refine o_call (ih ra rc re ta tc (i + 1) _ qn.a qn.c qn.xs _ hre hr8 hwl hpk hin0 (hpb k)) rfl rfl rfl (by exact .nil) (fun w st => ⟨(RdK.old0 hw.1).out w st, (RdK.old0 hw.2.1).out w st, (hrn.rdk hw.2.2 hiA).out w st⟩) (fun v59 S59 ⟨a59, c59, l59, hv59, hi59, hr59⟩ => ?_)
    subst hv59
    have hr59 : RdC (.slice qn.a qn.xs.length qn.c) qn.xs (.slice a59 l59.length c59) l59 S59 := hr59
    have hln := hi59.len
    refine o_step rfl (s_assign rfl) ?_
    refine o_nil ?_
    refine x_then (hK14 _ _ ?_)
    refine c_seq fun _ hK15 => ?_
    refine c_region ?_
    refine o_step rfl (s_move rfl) ?_
    refine o_step rfl (s_move rfl) ?_
    refine o_call (both_fn qo.a a59 qo.c c59 qo.xs l59 (by omega) (by omega)) rfl rfl rfl (by exact .nil) (fun w st => ⟨(hro.rdk hw.2.2 hiA).out w st, ((hrn.trans hr59).rdk hw.2.2 hiB).out w st⟩) (fun v63 S63 ⟨a63, c63, hv63, hO63⟩ => ?_)
    subst hv63
    refine o_step rfl (s_move rfl) ?_
    refine o_step rfl (s_extract rfl rfl) ?_
    refine o_step rfl (s_extract rfl rfl) ?_
    refine o_step rfl (s_assign rfl) ?_
    refine o_step rfl (s_assign rfl) ?_
    refine o_nil ?_
    refine x_then (hK15 _ _ ?_)
    refine c_seq fun _ hK16 => ?_
    refine c_seq fun _ hK17 => ?_
    refine c_region ?_
    refine o_step rfl (s_move rfl) ?_
    by_cases hmo : moreB qo.xs l59 = false
    ·
     refine o_step rfl (step_cast (v' := .bool true) (s_not rfl) (by rw [hmo]; rfl)) ?_
     refine o_step rfl (s_move rfl) ?_
     refine o_yes rfl rfl ?_
     refine o_step rfl (s_move rfl) ?_
     refine o_yes rfl rfl ?_
     refine o_step rfl (s_move rfl) ?_
     refine o_yes rfl rfl ?_
     refine o_step rfl (s_idx rfl rfl hsl (by omega)) ?_
     refine o_yes rfl rfl ?_
     refine o_step rfl (s_field rfl rfl (by decide)) ?_
     refine o_yes rfl rfl ?_
     refine o_step rfl (s_ld rfl ((RdK.old0 hw.1).ld i 7 hx rfl (by decide) (by omega))) ?_
     refine o_yes rfl rfl ?_
     by_cases hm2 : x.mx = -1
     ·
      refine o_step rfl (step_cast (v' := .bool true) (s_eql rfl rfl) (by rw [decide_eq_true (by omega)])) ?_
      refine o_step rfl (s_pick_t rfl rfl) ?_
      refine o_nil ?_
      refine x_then (hK17 _ _ ?_)
      refine c_true rfl ?_
      refine c_seq fun _ hK18 => ?_
      refine c_region ?_
      refine o_step rfl (s_move rfl) ?_
      refine o_step rfl (s_assign rfl) ?_
      refine o_nil ?_
      refine x_then (hK18 _ _ ?_)
      refine c_ret ?_
      refine x_then_ret (x_block_ret (x_then_ret (x_then_ret (x_block_ret (x_then_ret (?_))))))
      exfalso; omega
     ·
      refine o_step rfl (step_cast (v' := .bool false) (s_eql rfl rfl) (by rw [decide_eq_false (by omega)])) ?_
      refine o_step rfl (s_pick_t rfl rfl) ?_
      refine o_nil ?_
      refine x_then (hK17 _ _ ?_)
      refine c_false rfl ?_
      refine c_skip ?_
      refine x_then (hK16 _ _ ?_)
      refine c_region ?_
      refine o_step rfl (s_move rfl) ?_
      refine o_step rfl (s_assign rfl) ?_
      refine o_nil ?_
      refine x_block ?_
      refine x_then (hK13 _ _ ?_)
      refine c_region ?_
      refine o_step rfl (s_move rfl) ?_
      refine o_step rfl (s_add rfl rfl (by omega)) ?_
      refine o_step rfl (s_assign rfl) ?_
      refine o_nil ?_
      have hin : IsS l59 w.length (img (pow (der1 w y js) (k + 1)) S) := hi59.iff fun q _ => img_succ
      have hio2 : IsS (orL qo.xs l59) w.length (upTo (der1 w y js) S x.mn.toNat (k + 1)) := (hio.or hin).iff fun q _ => (upTo_succ (by omega)).symm
      have hcf := cf_le (orL qo.xs l59)
      have hol := orL_len qo.xs l59
      exact x_then (x_inv (k + 1, ⟨a59, c59, l59⟩, ⟨a63, c63, orL qo.xs l59⟩, S63 ++ (S59 ++ Sd)) ⟨by omega, fun h => by omega, fun h => by omega, hin, hio2, (hrn.trans hr59).mono hiB, .of (hO63.rds.mono hiA)⟩ (by dsimp only; rw [if_neg (by omega), if_neg (by omega)]; omega) sbA hzB)
    ·
     have hmo2 : moreB qo.xs l59 = true := by simpa using hmo
     refine o_step rfl (step_cast (v' := .bool false) (s_not rfl) (by rw [hmo2]; rfl)) ?_
     refine o_step rfl (s_move rfl) ?_
     refine o_no rfl rfl rfl rfl ?_
     refine o_no rfl rfl rfl rfl ?_
     refine o_no rfl rfl rfl rfl ?_
     refine o_no rfl rfl rfl rfl ?_
     refine o_no rfl rfl rfl rfl ?_
     refine o_no rfl rfl rfl rfl ?_
     refine o_step rfl (s_pick_f rfl rfl) ?_
     refine o_nil ?_
     refine x_then (hK17 _ _ ?_)
     refine c_false rfl ?_
     refine c_skip ?_
     refine x_then (hK16 _ _ ?_)
     refine c_region ?_
     refine o_step rfl (s_move rfl) ?_
     refine o_step rfl (s_assign rfl) ?_
     refine o_nil ?_
     refine x_block ?_
     refine x_then (hK13 _ _ ?_)
     refine c_region ?_
     refine o_step rfl (s_move rfl) ?_
     refine o_step rfl (s_add rfl rfl (by omega)) ?_
     refine o_step rfl (s_assign rfl) ?_
     refine o_nil ?_
     have hin : IsS l59 w.length (img (pow (der1 w y js) (k + 1)) S) := hi59.iff fun q _ => img_succ
     have hio2 : IsS (orL qo.xs l59) w.length (upTo (der1 w y js) S x.mn.toNat (k + 1)) := (hio.or hin).iff fun q _ => (upTo_succ (by omega)).symm
     have hcf := cf_le (orL qo.xs l59)
     have hol := orL_len qo.xs l59
     exact x_then (x_inv (k + 1, ⟨a59, c59, l59⟩, ⟨a63, c63, orL qo.xs l59⟩, S63 ++ (S59 ++ Sd)) ⟨by omega, fun h => by omega, fun h => by omega, hin, hio2, (hrn.trans hr59).mono hiB, .of (hO63.rds.mono hiA)⟩ (by dsimp only; rw [if_neg (by omega), if_neg (by omega)]; omega) sbA hzB)
   ·
    refine o_step rfl (step_cast (v' := .bool false) (s_lss rfl rfl) (by rw [decide_eq_false (by omega)])) ?_
    refine o_step rfl (s_move rfl) ?_
    refine o_yes rfl rfl ?_
    refine o_step rfl (s_move rfl) ?_
    refine o_yes rfl rfl ?_
    refine o_step rfl (s_move rfl) ?_
    refine o_yes rfl rfl ?_
    refine o_step rfl (s_idx rfl rfl hsl (by omega)) ?_
    refine o_yes rfl rfl ?_
    refine o_step rfl (s_field rfl rfl (by decide)) ?_
    refine o_yes rfl rfl ?_
    refine o_step rfl (s_ld rfl ((RdK.old0 hw.1).ld i 7 hx rfl (by decide) (by omega))) ?_
    refine o_yes rfl rfl ?_
    by_cases hm1 : x.mx = -1
    ·
     have hk2b := hk2 hm1
     refine o_step rfl (step_cast (v' := .bool true) (s_eql rfl rfl) (by rw [decide_eq_true (by omega)])) ?_
     refine o_step rfl (s_pick_f rfl rfl) ?_
     refine o_nil ?_
     refine x_then (hK12 _ _ ?_)
     refine c_true rfl ?_
     refine c_skip ?_
     refine x_then (hK11 _ _ ?_)
     refine c_seq fun _ hK19 => ?_
     refine c_block ?_
     refine c_seq fun _ hK20 => ?_
     refine c_region ?_
     refine o_step rfl (s_move rfl) ?_
     refine o_step rfl (s_move rfl) ?_
     refine o_step rfl (s_add rfl rfl (by omega)) ?_
     refine o_step rfl (s_move rfl) ?_
     refine o_step rfl (s_move rfl) ?_
     refine o_call (ih ra rc re ta tc (i + 1) _ qn.a qn.c qn.xs _ hre hr8 hwl hpk hin0 (hpb k)) rfl rfl rfl (by exact .nil) (fun w st => ⟨(RdK.old0 hw.1).out w st, (RdK.old0 hw.2.1).out w st, (hrn.rdk hw.2.2 hiA).out w st⟩) (fun v59 S59 ⟨a59, c59, l59, hv59, hi59, hr59⟩ => ?_)
     subst hv59
     have hr59 : RdC (.slice qn.a qn.xs.length qn.c) qn.xs (.slice a59 l59.length c59) l59 S59 := hr59
     have hln := hi59.len
     refine o_step rfl (s_assign rfl) ?_
     refine o_nil ?_
     refine x_then (hK20 _ _ ?_)
     refine c_seq fun _ hK21 => ?_
     refine c_region ?_
     refine o_step rfl (s_move rfl) ?_
     refine o_step rfl (s_move rfl) ?_
     refine o_call (both_fn qo.a a59 qo.c c59 qo.xs l59 (by omega) (by omega)) rfl rfl rfl (by exact .nil) (fun w st => ⟨(hro.rdk hw.2.2 hiA).out w st, ((hrn.trans hr59).rdk hw.2.2 hiB).out w st⟩) (fun v63 S63 ⟨a63, c63, hv63, hO63⟩ => ?_)
     subst hv63
     refine o_step rfl (s_move rfl) ?_
     refine o_step rfl (s_extract rfl rfl) ?_
     refine o_step rfl (s_extract rfl rfl) ?_
     refine o_step rfl (s_assign rfl) ?_
     refine o_step rfl (s_assign rfl) ?_
     refine o_nil ?_
     refine x_then (hK21 _ _ ?_)
     refine c_seq fun _ hK22 => ?_
     refine c_seq fun _ hK23 => ?_
     refine c_region ?_
     refine o_step rfl (s_move rfl) ?_
     by_cases hmo : moreB qo.xs l59 = false
     ·
      refine o_step rfl (step_cast (v' := .bool true) (s_not rfl) (by rw [hmo]; rfl)) ?_
      refine o_step rfl (s_move rfl) ?_
      refine o_yes rfl rfl ?_
      refine o_step rfl (s_move rfl) ?_
      refine o_yes rfl rfl ?_
      refine o_step rfl (s_move rfl) ?_
      refine o_yes rfl rfl ?_
      refine o_step rfl (s_idx rfl rfl hsl (by omega)) ?_
      refine o_yes rfl rfl ?_
      refine o_step rfl (s_field rfl rfl (by decide)) ?_
      refine o_yes rfl rfl ?_
      refine o_step rfl (s_ld rfl ((RdK.old0 hw.1).ld i 7 hx rfl (by decide) (by omega))) ?_
      refine o_yes rfl rfl ?_
      by_cases hm2 : x.mx = -1
      ·
       refine o_step rfl (step_cast (v' := .bool true) (s_eql rfl rfl) (by rw [decide_eq_true (by omega)])) ?_
       refine o_step rfl (s_pick_t rfl rfl) ?_
       refine o_nil ?_
       refine x_then (hK23 _ _ ?_)
       refine c_true rfl ?_
       refine c_seq fun _ hK24 => ?_
       refine c_region ?_
       refine o_step rfl (s_move rfl) ?_
       refine o_step rfl (s_assign rfl) ?_
       refine o_nil ?_
       refine x_then (hK24 _ _ ?_)
       refine c_ret ?_
       refine x_then_ret (x_block_ret (x_then_ret (x_then_ret (x_block_ret (x_then_ret (?_))))))
       refine x_sub (Sub.refl _) (H' := Sd) hzB ?_
       exact x_ret rfl (.tmp rfl (.nil)) (⟨_, _, _, rfl, hio.iff fun q _ => rounds_fixed (by omega) hm1 (by omega) hSb hD (fun q hq h => hio.no_more (hi59.iff fun q _ => img_succ) hmo q hq h |> fun h => h) q, hro⟩)
      ·
       refine o_step rfl (step_cast (v' := .bool false) (s_eql rfl rfl) (by rw [decide_eq_false (by omega)])) ?_
       refine o_step rfl (s_pick_t rfl rfl) ?_
       refine o_nil ?_
       refine x_then (hK23 _ _ ?_)
       refine c_false rfl ?_
       refine c_skip ?_
       refine x_then (hK22 _ _ ?_)
       refine c_region ?_
       refine o_step rfl (s_move rfl) ?_
       refine o_step rfl (s_assign rfl) ?_
       refine o_nil ?_
       refine x_block ?_
       refine x_then (hK19 _ _ ?_)
       refine c_region ?_
       refine o_step rfl (s_move rfl) ?_
       refine o_step rfl (s_add rfl rfl (by omega)) ?_
       refine o_step rfl (s_assign rfl) ?_
       refine o_nil ?_
       have hin : IsS l59 w.length (img (pow (der1 w y js) (k + 1)) S) := hi59.iff fun q _ => img_succ
       have hio2 : IsS (orL qo.xs l59) w.length (upTo (der1 w y js) S x.mn.toNat (k + 1)) := (hio.or hin).iff fun q _ => (upTo_succ (by omega)).symm
       have hcf := cf_le (orL qo.xs l59)
       have hol := orL_len qo.xs l59
       exact x_then (x_inv (k + 1, ⟨a59, c59, l59⟩, ⟨a63, c63, orL qo.xs l59⟩, S63 ++ (S59 ++ Sd)) ⟨by omega, fun h => by omega, fun h => by omega, hin, hio2, (hrn.trans hr59).mono hiB, .of (hO63.rds.mono hiA)⟩ (by omega) sbA hzB)
     ·
      have hmo2 : moreB qo.xs l59 = true := by simpa using hmo
      refine o_step rfl (step_cast (v' := .bool false) (s_not rfl) (by rw [hmo2]; rfl)) ?_
      refine o_step rfl (s_move rfl) ?_
      refine o_no rfl rfl rfl rfl ?_
      refine o_no rfl rfl rfl rfl ?_
      refine o_no rfl rfl rfl rfl ?_
      refine o_no rfl rfl rfl rfl ?_
      refine o_no rfl rfl rfl rfl ?_
      refine o_no rfl rfl rfl rfl ?_
      refine o_step rfl (s_pick_f rfl rfl) ?_
      refine o_nil ?_
      refine x_then (hK23 _ _ ?_)
      refine c_false rfl ?_
      refine c_skip ?_
      refine x_then (hK22 _ _ ?_)
      refine c_region ?_
      refine o_step rfl (s_move rfl) ?_
      refine o_step rfl (s_assign rfl) ?_
      refine o_nil ?_
      refine x_block ?_
      refine x_then (hK19 _ _ ?_)
      refine c_region ?_
      refine o_step rfl (s_move rfl) ?_
      refine o_step rfl (s_add rfl rfl (by omega)) ?_
      refine o_step rfl (s_assign rfl) ?_
      refine o_nil ?_
      have hin : IsS l59 w.length (img (pow (der1 w y js) (k + 1)) S) := hi59.iff fun q _ => img_succ
      have hio2 : IsS (orL qo.xs l59) w.length (upTo (der1 w y js) S x.mn.toNat (k + 1)) := (hio.or hin).iff fun q _ => (upTo_succ (by omega)).symm
      have hcf := cf_le (orL qo.xs l59)
      have hol := orL_len qo.xs l59
      exact x_then (x_inv (k + 1, ⟨a59, c59, l59⟩, ⟨a63, c63, orL qo.xs l59⟩, S63 ++ (S59 ++ Sd)) ⟨by omega, fun h => by have := cf_more hmo2; have := hk2 hm1; dsimp only; omega, fun h => absurd hm1 h, hin, hio2, (hrn.trans hr59).mono hiB, .of (hO63.rds.mono hiA)⟩ (by dsimp only; rw [if_pos hm1, if_pos hm1]; exact cf_more hmo2) sbA hzB)
    ·
     have hmk := hk3 hm1
     refine o_step rfl (step_cast (v' := .bool false) (s_eql rfl rfl) (by rw [decide_eq_false (by omega)])) ?_
     refine o_step rfl (s_pick_f rfl rfl) ?_
     refine o_nil ?_
     refine x_then (hK12 _ _ ?_)
     refine c_false rfl ?_
     refine c_exit ?_
     refine x_then_exit ?_
     refine x_then_exit ?_
     refine x_block_exit ?_
     refine x_then (hK9 _ _ ?_)
     refine c_seq fun _ hK25 => ?_
     refine c_region ?_
     refine o_step rfl (s_move rfl) ?_
     refine o_step rfl (s_assign rfl) ?_
     refine o_nil ?_
     refine x_then (hK25 _ _ ?_)
     refine c_ret ?_
     refine ?_
     refine x_sub (Sub.refl _) (H' := Sd) hzB ?_
     exact x_ret rfl (.tmp rfl (.nil)) (⟨_, _, _, rfl, hio.iff fun q _ => rounds_last (by omega) (by omega) q, hro⟩)
end Go.Proofs.YtiggliigookieaaDoor

/- Part of the proofs over this seat: see the text that holds the theorem. Conditions: each theorem bears its own. -/
namespace Go.HL.Kl.Mc
open Go Go.HL Go.HL.Kl
def zN : Nd := ⟨0, 0, 0, 0, 0, 0⟩
theorem En_zero : En zN = [.int .i8 0, .int .u64 0, .int .u64 0, .int .u64 0, .int .u64 0, .int .i64 0, .int .i64 0, .int .i64 0, .int .i64 0] := by
  show _ :: (Ec 0#256 ++ _) = _
  rw [Ec_zero]; rfl
/-- a node without what its kind names -/
def zr (x : Nd) : Nd := ⟨0, if x.op = 1 then 0 else x.set, if x.op = 7 ∨ x.op = 8 then 0 else x.n, if x.op = 6 then 0 else x.mn, if x.op = 6 then 0 else x.mx, 0⟩
theorem zr_iff {x : Nd} : zr x = zN ↔ (x.op = 1 ∨ x.set = 0) ∧ (x.op = 7 ∨ x.op = 8 ∨ x.n = 0) ∧ (x.op = 6 ∨ x.mn = 0 ∧ x.mx = 0) := by
  simp only [zr, zN, Nd.mk.injEq, true_and, and_true]
  by_cases h1 : x.op = 1
  · simp [h1]
  by_cases h6 : x.op = 6
  · simp [h6]
  by_cases h7 : x.op = 7
  · simp [h7]
  by_cases h8 : x.op = 8
  · simp [h8]
  · simp [h1, h6, h7, h8]
theorem ndOk_zr {x : Nd} (h : zr x ≠ zN) : ndOk x = false := by
  cases hb : ndOk x
  · rfl
  exfalso
  apply h
  rw [zr_iff]
  simp only [ndOk, flds, Bool.and_eq_true, Bool.or_eq_true, decide_eq_true_eq] at hb
  obtain ⟨⟨⟨⟨_, h1⟩, h2⟩, h3⟩, _⟩ := hb
  refine ⟨h1, by rcases h2 with h2 | h2 <;> omega, ?_⟩
  by_cases h6 : x.op = 6
  · exact .inl h6
  · rw [if_neg h6] at h3; simp at h3; exact .inr h3
theorem ndOk_kidsOk {x : Nd} (h1 : 1 ≤ x.op ∧ x.op ≤ 8) (h2 : x.op = 6 → 0 ≤ x.mn ∧ x.mn ≤ 255 ∧ (x.mx = -1 ∨ x.mn ≤ x.mx ∧ x.mx ≤ 255)) (hz : zr x = zN) : ndOk x = kidsOk x := by
  rw [zr_iff] at hz
  obtain ⟨a, b, c⟩ := hz
  have : flds x = true := by
    simp only [flds, Bool.and_eq_true, Bool.or_eq_true, decide_eq_true_eq]
    refine ⟨⟨⟨h1, a⟩, by omega⟩, ?_⟩
    by_cases h6 : x.op = 6
    · rw [if_pos h6]; simpa using h2 h6
    · rw [if_neg h6]; simp; omega
  rw [ndOk, this, Bool.true_and]
theorem ndOk_rep {x : Nd} (h6 : x.op = 6) (h : ¬ (0 ≤ x.mn ∧ x.mn ≤ 255 ∧ (x.mx = -1 ∨ x.mn ≤ x.mx ∧ x.mx ≤ 255))) : ndOk x = false := by
  cases hb : ndOk x
  · rfl
  · exact absurd (rep_flds hb h6) h
theorem ndOk_op {x : Nd} (h : ¬ (1 ≤ x.op ∧ x.op ≤ 8)) : ndOk x = false := by
  rw [ndOk, flds, decide_eq_false h]; simp
end Go.HL.Kl.Mc
namespace Go.Proofs.YtiggliigookieaaDoor
open Go Go.HL Go.Proofs Go.HL.Kl Go.HL.Kl.Mc
set_option maxHeartbeats 1000000 in
theorem ndOk_fn (x : Nd) : HL.Fn Tryd.prog 74 [.agg (En x).toArray] (fun _ => True) [] (fun v _ => v = .bool (ndOk x)) := by
  refine fn_of Tryd.func74 rfl rfl rfl fun w0 hw => ?_
  refine c_seq fun _ hK1 => ?_
  refine c_region ?_
  refine o_box rfl rfl rfl fun b1 => ?_
  refine o_step rfl (s_assign rfl) ?_
  refine o_nil ?_
  refine x_then (hK1 _ _ ?_)
  refine c_seq fun _ hK2 => ?_
  refine c_region ?_
  refine o_step rfl (s_ldB rfl (RdPK.cels (.own meA)) lnA) ?_
  refine o_alloc (l := En zN) (by rw [En_zero]; rfl) rfl fun b3 => ?_
  refine o_stW rfl rfl upA lnA lnA onA ?_
  refine o_nil ?_
  refine x_then (hK2 _ _ ?_)
  refine c_seq fun _ hK3 => ?_
  refine c_region ?_
  refine o_step rfl (s_field rfl rfl (by decide)) ?_
  refine o_store rfl rfl rfl upA ltA rfl ?_
  rw [show (En x).set 0 (.int .i8 0) = En (⟨0, x.set, x.n, x.mn, x.mx, x.kids⟩ : Nd) from rfl]
  refine o_step rfl (s_field rfl rfl (by decide)) ?_
  refine o_store rfl rfl rfl upA ltA rfl ?_
  rw [show (En (⟨0, x.set, x.n, x.mn, x.mx, x.kids⟩ : Nd)).set 8 (.int .i64 0) = En (⟨0, x.set, x.n, x.mn, x.mx, 0⟩ : Nd) from rfl]
  refine o_nil ?_
  refine x_then (hK3 _ _ ?_)
  refine c_seqJ (ι := Unit) (fun g => (1 ≤ x.op ∧ x.op ≤ 8) ∧ (x.op = 6 → 0 ≤ x.mn ∧ x.mn ≤ 255 ∧ (x.mx = -1 ∨ x.mn ≤ x.mx ∧ x.mx ≤ 255))) (fun g => []) [(1, _), (3, _)] (fun g => [(b3, .cells (En (zr x)).toArray 70 (0, 0)), (b1, .cells (En x).toArray 70 (0, 0))]) sbA ?_ ?_
  ·
   rintro g hI
   refine c_seq fun _ hK5 => ?_
   refine c_seq fun _ hK6 => ?_
   refine c_region ?_
   refine o_step rfl (s_ldB rfl (RdPK.cels (.own meA)) lnA) ?_
   refine o_step rfl (step_cast (v' := .agg (En zN).toArray) (s_build (cs := [_, _, _, _, _, _, _, _, _]) (vs := []) rfl rfl .nil) (by rw [En_zero])) ?_
   by_cases hz : zr x ≠ zN
   ·
    refine o_step rfl (step_cast (v' := .bool true) (s_neq_nd rfl rfl) (by rw [decide_eq_false hz]; rfl)) ?_
    refine o_nil ?_
    refine x_then (hK6 _ _ ?_)
    refine c_true rfl ?_
    refine c_seq fun _ hK7 => ?_
    refine c_region ?_
    refine o_step rfl (s_assign rfl) ?_
    refine o_nil ?_
    refine x_then (hK7 _ _ ?_)
    refine c_ret ?_
    refine x_then_ret (?_)
    exact x_ret rfl (.tmp rfl (.nil)) ((congrArg Value.bool (ndOk_zr hz).symm))
   ·
    have hk := ndOk_kidsOk hI.1 hI.2 (Decidable.not_not.1 hz)
    unfold kidsOk at hk
    refine o_step rfl (step_cast (v' := .bool false) (s_neq_nd rfl rfl) (by rw [decide_eq_true (Decidable.not_not.1 hz)]; rfl)) ?_
    refine o_nil ?_
    refine x_then (hK6 _ _ ?_)
    refine c_false rfl ?_
    refine c_skip ?_
    refine x_then (hK5 _ _ ?_)
    refine c_seq fun _ hK8 => ?_
    refine c_seq fun _ hK9 => ?_
    refine c_region ?_
    refine o_step rfl (s_field rfl rfl (by decide)) ?_
    refine o_step rfl (s_ld rfl (.own meA rfl)) ?_
    refine o_nil ?_
    refine x_then (hK9 _ _ ?_)
    refine c_block ?_
    refine c_seq fun _ hK10 => ?_
    refine c_seq fun _ hK11 => ?_
    refine c_region ?_
    by_cases k6 : x.op = 6
    ·
     refine o_step rfl (step_cast (v' := .bool true) (s_eql rfl rfl) (by rw [decide_eq_true k6])) ?_
     refine o_step rfl (s_assign rfl) ?_
     refine o_nil ?_
     refine x_then (hK11 _ _ ?_)
     refine c_true rfl ?_
     refine c_skip ?_
     refine x_then (hK10 _ _ ?_)
     refine c_true rfl ?_
     refine c_seq fun _ hK12 => ?_
     refine c_region ?_
     refine o_step rfl (s_field rfl rfl (by decide)) ?_
     refine o_step rfl (s_ld rfl (.own meA rfl)) ?_
     refine o_step rfl (s_eql rfl rfl) ?_
     refine o_step rfl (s_assign rfl) ?_
     refine o_nil ?_
     refine x_then (hK12 _ _ ?_)
     refine c_ret ?_
     refine x_block_ret (x_then_ret (?_))
     exact x_ret rfl (.tmp rfl (.nil)) ((congrArg Value.bool (by rw [hk, if_pos (.inl k6)])))
    ·
     refine o_step rfl (step_cast (v' := .bool false) (s_eql rfl rfl) (by rw [decide_eq_false k6])) ?_
     refine o_step rfl (s_assign rfl) ?_
     refine o_nil ?_
     refine x_then (hK11 _ _ ?_)
     refine c_false rfl ?_
     refine c_region ?_
     by_cases k7 : x.op = 7
     ·
      refine o_step rfl (step_cast (v' := .bool true) (s_eql rfl rfl) (by rw [decide_eq_true k7])) ?_
      refine o_step rfl (s_assign rfl) ?_
      refine o_nil ?_
      refine x_then (hK10 _ _ ?_)
      refine c_true rfl ?_
      refine c_seq fun _ hK13 => ?_
      refine c_region ?_
      refine o_step rfl (s_field rfl rfl (by decide)) ?_
      refine o_step rfl (s_ld rfl (.own meA rfl)) ?_
      refine o_step rfl (s_eql rfl rfl) ?_
      refine o_step rfl (s_assign rfl) ?_
      refine o_nil ?_
      refine x_then (hK13 _ _ ?_)
      refine c_ret ?_
      refine x_block_ret (x_then_ret (?_))
      exact x_ret rfl (.tmp rfl (.nil)) ((congrArg Value.bool (by rw [hk, if_pos (.inr k7)])))
     ·
      refine o_step rfl (step_cast (v' := .bool false) (s_eql rfl rfl) (by rw [decide_eq_false k7])) ?_
      refine o_step rfl (s_assign rfl) ?_
      refine o_nil ?_
      refine x_then (hK10 _ _ ?_)
      refine c_false rfl ?_
      refine c_seq fun _ hK14 => ?_
      refine c_region ?_
      by_cases k5 : x.op = 5
      ·
       refine o_step rfl (step_cast (v' := .bool true) (s_eql rfl rfl) (by rw [decide_eq_true k5])) ?_
       refine o_step rfl (s_assign rfl) ?_
       refine o_nil ?_
       refine x_then (hK14 _ _ ?_)
       refine c_true rfl ?_
       refine c_seq fun _ hK15 => ?_
       refine c_region ?_
       refine o_step rfl (s_field rfl rfl (by decide)) ?_
       refine o_step rfl (s_ld rfl (.own meA rfl)) ?_
       refine o_step rfl (s_geq rfl rfl) ?_
       refine o_step rfl (s_assign rfl) ?_
       refine o_nil ?_
       refine x_then (hK15 _ _ ?_)
       refine c_ret ?_
       refine x_block_ret (x_then_ret (?_))
       exact x_ret rfl (.tmp rfl (.nil)) ((congrArg Value.bool (by rw [hk, if_neg (by omega), if_neg (by omega), if_pos k5])))
      ·
       refine o_step rfl (step_cast (v' := .bool false) (s_eql rfl rfl) (by rw [decide_eq_false k5])) ?_
       refine o_step rfl (s_assign rfl) ?_
       refine o_nil ?_
       refine x_then (hK14 _ _ ?_)
       refine c_false rfl ?_
       refine c_seq fun _ hK16 => ?_
       refine c_region ?_
       by_cases k4 : x.op = 4
       ·
        refine o_step rfl (step_cast (v' := .bool true) (s_eql rfl rfl) (by rw [decide_eq_true k4])) ?_
        refine o_step rfl (s_assign rfl) ?_
        refine o_nil ?_
        refine x_then (hK16 _ _ ?_)
        refine c_true rfl ?_
        refine c_seq fun _ hK17 => ?_
        refine c_region ?_
        refine o_step rfl (s_field rfl rfl (by decide)) ?_
        refine o_step rfl (s_ld rfl (.own meA rfl)) ?_
        by_cases k0 : x.kids = 0
        ·
         refine o_step rfl (step_cast (v' := .bool true) (s_eql rfl rfl) (by rw [decide_eq_true (by omega)])) ?_
         refine o_step rfl (s_move rfl) ?_
         refine o_no rfl rfl rfl rfl ?_
         refine o_no rfl rfl rfl rfl ?_
         refine o_no rfl rfl rfl rfl ?_
         refine o_step rfl (s_pick_t rfl rfl) ?_
         refine o_step rfl (s_assign rfl) ?_
         refine o_nil ?_
         refine x_then (hK17 _ _ ?_)
         refine c_ret ?_
         refine x_block_ret (x_then_ret (?_))
         exact x_ret rfl (.tmp rfl (.nil)) ((congrArg Value.bool (by rw [hk, if_neg (by omega), if_pos k4, decide_eq_true (by omega)])))
        ·
         refine o_step rfl (step_cast (v' := .bool false) (s_eql rfl rfl) (by rw [decide_eq_false (by omega)])) ?_
         refine o_step rfl (s_move rfl) ?_
         refine o_yes rfl rfl ?_
         refine o_step rfl (s_field rfl rfl (by decide)) ?_
         refine o_yes rfl rfl ?_
         refine o_step rfl (s_ld rfl (.own meA rfl)) ?_
         refine o_yes rfl rfl ?_
         refine o_step rfl (s_geq rfl rfl) ?_
         refine o_step rfl (s_pick_f rfl rfl) ?_
         refine o_step rfl (s_assign rfl) ?_
         refine o_nil ?_
         refine x_then (hK17 _ _ ?_)
         refine c_ret ?_
         refine x_block_ret (x_then_ret (?_))
         exact x_ret rfl (.tmp rfl (.nil)) ((congrArg Value.bool (by rw [hk, if_neg (by omega), if_pos k4]; exact decide_eq_decide.2 (by omega))))
       ·
        refine o_step rfl (step_cast (v' := .bool false) (s_eql rfl rfl) (by rw [decide_eq_false k4])) ?_
        refine o_step rfl (s_assign rfl) ?_
        refine o_nil ?_
        refine x_then (hK16 _ _ ?_)
        refine c_false rfl ?_
        refine c_skip ?_
        refine x_block ?_
        refine x_then (hK8 _ _ ?_)
        refine c_seq fun _ hK18 => ?_
        refine c_region ?_
        refine o_step rfl (s_field rfl rfl (by decide)) ?_
        refine o_step rfl (s_ld rfl (.own meA rfl)) ?_
        refine o_step rfl (s_eql rfl rfl) ?_
        refine o_step rfl (s_assign rfl) ?_
        refine o_nil ?_
        refine x_then (hK18 _ _ ?_)
        refine c_ret ?_
        refine ?_
        exact x_ret rfl (.tmp rfl (.nil)) ((congrArg Value.bool (by rw [hk, if_neg (by omega), if_neg (by omega), if_neg (by omega)])))
  ·
   intro _ hJ4
   refine c_seq fun _ hK19 => ?_
   refine c_region ?_
   refine o_step rfl (s_field rfl rfl (by decide)) ?_
   refine o_step rfl (s_ld rfl (.own meA rfl)) ?_
   refine o_nil ?_
   refine x_then (hK19 _ _ ?_)
   refine c_block ?_
   refine c_seq fun _ hK20 => ?_
   refine c_region ?_
   by_cases h1 : x.op = 1
   ·
    refine o_step rfl (step_cast (v' := .bool true) (s_eql rfl rfl) (by rw [decide_eq_true h1])) ?_
    refine o_step rfl (s_assign rfl) ?_
    refine o_nil ?_
    refine x_then (hK20 _ _ ?_)
    refine c_true rfl ?_
    refine c_region ?_
    refine o_step rfl (step_cast (v' := .agg (Ec 0#256).toArray) (s_build0 rfl) (by rw [Ec_zero]; rfl)) ?_
    refine o_step rfl (s_field rfl rfl (by decide)) ?_
    refine o_storeA (l := En (⟨0, x.set, x.n, x.mn, x.mx, 0⟩ : Nd)) (cs := Ec 0#256) rfl rfl rfl (Enc.one _) upA (Nat.le_of_ble_eq_true rfl) (fun _ _ => frz0) ?_
    rw [show splice (En (⟨0, x.set, x.n, x.mn, x.mx, 0⟩ : Nd)) 1 (Ec 0#256) = En (⟨0, 0, x.n, x.mn, x.mx, 0⟩ : Nd) from rfl]
    refine o_nil ?_
    refine x_block ?_
    rw [show (⟨0, 0, x.n, x.mn, x.mx, 0⟩ : Nd) = zr x by rw [zr, if_pos h1, if_neg (by omega), if_neg (by omega), if_neg (by omega)]]
    exact x_then (hJ4 () _ _ ⟨by omega, fun h => absurd h (by omega)⟩ sbA sbA hzB)
   ·
    refine o_step rfl (step_cast (v' := .bool false) (s_eql rfl rfl) (by rw [decide_eq_false h1])) ?_
    refine o_step rfl (s_assign rfl) ?_
    refine o_nil ?_
    refine x_then (hK20 _ _ ?_)
    refine c_false rfl ?_
    refine c_seq fun _ hK21 => ?_
    refine c_seq fun _ hK22 => ?_
    refine c_region ?_
    by_cases h7 : x.op = 7
    ·
     refine o_step rfl (step_cast (v' := .bool true) (s_eql rfl rfl) (by rw [decide_eq_true h7])) ?_
     refine o_step rfl (s_assign rfl) ?_
     refine o_nil ?_
     refine x_then (hK22 _ _ ?_)
     refine c_true rfl ?_
     refine c_skip ?_
     refine x_then (hK21 _ _ ?_)
     refine c_true rfl ?_
     refine c_region ?_
     refine o_step rfl (s_field rfl rfl (by decide)) ?_
     refine o_store rfl rfl rfl upA ltA rfl ?_
     rw [show (En (⟨0, x.set, x.n, x.mn, x.mx, 0⟩ : Nd)).set 5 (.int .i64 0) = En (⟨0, x.set, 0, x.mn, x.mx, 0⟩ : Nd) from rfl]
     refine o_nil ?_
     refine x_block ?_
     rw [show (⟨0, x.set, 0, x.mn, x.mx, 0⟩ : Nd) = zr x by rw [zr, if_neg (by omega), if_pos (.inl h7), if_neg (by omega), if_neg (by omega)]]
     exact x_then (hJ4 () _ _ ⟨by omega, fun h => absurd h (by omega)⟩ sbA sbA hzB)
    ·
     refine o_step rfl (step_cast (v' := .bool false) (s_eql rfl rfl) (by rw [decide_eq_false h7])) ?_
     refine o_step rfl (s_assign rfl) ?_
     refine o_nil ?_
     refine x_then (hK22 _ _ ?_)
     refine c_false rfl ?_
     refine c_region ?_
     by_cases h8 : x.op = 8
     ·
      refine o_step rfl (step_cast (v' := .bool true) (s_eql rfl rfl) (by rw [decide_eq_true h8])) ?_
      refine o_step rfl (s_assign rfl) ?_
      refine o_nil ?_
      refine x_then (hK21 _ _ ?_)
      refine c_true rfl ?_
      refine c_region ?_
      refine o_step rfl (s_field rfl rfl (by decide)) ?_
      refine o_store rfl rfl rfl upA ltA rfl ?_
      rw [show (En (⟨0, x.set, x.n, x.mn, x.mx, 0⟩ : Nd)).set 5 (.int .i64 0) = En (⟨0, x.set, 0, x.mn, x.mx, 0⟩ : Nd) from rfl]
      refine o_nil ?_
      refine x_block ?_
      rw [show (⟨0, x.set, 0, x.mn, x.mx, 0⟩ : Nd) = zr x by rw [zr, if_neg (by omega), if_pos (.inr h8), if_neg (by omega), if_neg (by omega)]]
      exact x_then (hJ4 () _ _ ⟨by omega, fun h => absurd h (by omega)⟩ sbA sbA hzB)
     ·
      refine o_step rfl (step_cast (v' := .bool false) (s_eql rfl rfl) (by rw [decide_eq_false h8])) ?_
      refine o_step rfl (s_assign rfl) ?_
      refine o_nil ?_
      refine x_then (hK21 _ _ ?_)
      refine c_false rfl ?_
      refine c_seq fun _ hK23 => ?_
      refine c_region ?_
      by_cases h6 : x.op = 6
      ·
       refine o_step rfl (step_cast (v' := .bool true) (s_eql rfl rfl) (by rw [decide_eq_true h6])) ?_
       refine o_step rfl (s_assign rfl) ?_
       refine o_nil ?_
       refine x_then (hK23 _ _ ?_)
       refine c_true rfl ?_
       refine c_seq fun _ hK24 => ?_
       refine c_seq fun _ hK25 => ?_
       refine c_region ?_
       refine o_step rfl (s_field rfl rfl (by decide)) ?_
       refine o_step rfl (s_ld rfl (.own meA rfl)) ?_
       by_cases hm1 : x.mn < 0
       ·
        refine o_step rfl (step_cast (v' := .bool true) (s_lss rfl rfl) (by rw [decide_eq_true (by omega)])) ?_
        refine o_step rfl (s_move rfl) ?_
        refine o_no rfl rfl rfl rfl ?_
        refine o_no rfl rfl rfl rfl ?_
        refine o_no rfl rfl rfl rfl ?_
        refine o_step rfl (s_pick_t rfl rfl) ?_
        refine o_step rfl (s_move rfl) ?_
        refine o_no rfl rfl rfl rfl ?_
        refine o_no rfl rfl rfl rfl ?_
        refine o_no rfl rfl rfl rfl ?_
        refine o_no rfl rfl rfl rfl ?_
        refine o_noU rfl rfl rfl ?_
        refine o_noU rfl rfl rfl ?_
        refine o_noU rfl rfl rfl ?_
        refine o_noU rfl rfl rfl ?_
        refine o_noU rfl rfl rfl ?_
        refine o_noU rfl rfl rfl ?_
        refine o_noU rfl rfl rfl ?_
        refine o_noU rfl rfl rfl ?_
        refine o_noU rfl rfl rfl ?_
        refine o_noU rfl rfl rfl ?_
        refine o_no rfl rfl rfl rfl ?_
        refine o_step rfl (s_pick_t rfl rfl) ?_
        refine o_nil ?_
        refine x_then (hK25 _ _ ?_)
        refine c_true rfl ?_
        refine c_seq fun _ hK26 => ?_
        refine c_region ?_
        refine o_step rfl (s_assign rfl) ?_
        refine o_nil ?_
        refine x_then (hK26 _ _ ?_)
        refine c_ret ?_
        refine x_then_ret (x_block_ret (x_then_ret (?_)))
        exact x_ret rfl (.tmp rfl (.nil)) ((congrArg Value.bool (ndOk_rep h6 (by omega)).symm))
       ·
        refine o_step rfl (step_cast (v' := .bool false) (s_lss rfl rfl) (by rw [decide_eq_false (by omega)])) ?_
        refine o_step rfl (s_move rfl) ?_
        refine o_yes rfl rfl ?_
        refine o_step rfl (s_field rfl rfl (by decide)) ?_
        refine o_yes rfl rfl ?_
        refine o_step rfl (s_ld rfl (.own meA rfl)) ?_
        refine o_yes rfl rfl ?_
        by_cases hm2 : x.mn > 255
        ·
         refine o_step rfl (step_cast (v' := .bool true) (s_gtr rfl rfl) (by rw [decide_eq_true (by omega)])) ?_
         refine o_step rfl (s_pick_f rfl rfl) ?_
         refine o_step rfl (s_move rfl) ?_
         refine o_no rfl rfl rfl rfl ?_
         refine o_no rfl rfl rfl rfl ?_
         refine o_no rfl rfl rfl rfl ?_
         refine o_no rfl rfl rfl rfl ?_
         refine o_noU rfl rfl rfl ?_
         refine o_noU rfl rfl rfl ?_
         refine o_noU rfl rfl rfl ?_
         refine o_noU rfl rfl rfl ?_
         refine o_noU rfl rfl rfl ?_
         refine o_noU rfl rfl rfl ?_
         refine o_noU rfl rfl rfl ?_
         refine o_noU rfl rfl rfl ?_
         refine o_noU rfl rfl rfl ?_
         refine o_noU rfl rfl rfl ?_
         refine o_no rfl rfl rfl rfl ?_
         refine o_step rfl (s_pick_t rfl rfl) ?_
         refine o_nil ?_
         refine x_then (hK25 _ _ ?_)
         refine c_true rfl ?_
         refine c_seq fun _ hK27 => ?_
         refine c_region ?_
         refine o_step rfl (s_assign rfl) ?_
         refine o_nil ?_
         refine x_then (hK27 _ _ ?_)
         refine c_ret ?_
         refine x_then_ret (x_block_ret (x_then_ret (?_)))
         exact x_ret rfl (.tmp rfl (.nil)) ((congrArg Value.bool (ndOk_rep h6 (by omega)).symm))
        ·
         refine o_step rfl (step_cast (v' := .bool false) (s_gtr rfl rfl) (by rw [decide_eq_false (by omega)])) ?_
         refine o_step rfl (s_pick_f rfl rfl) ?_
         refine o_step rfl (s_move rfl) ?_
         refine o_yes rfl rfl ?_
         refine o_step rfl (s_field rfl rfl (by decide)) ?_
         refine o_yes rfl rfl ?_
         refine o_step rfl (s_ld rfl (.own meA rfl)) ?_
         refine o_yes rfl rfl ?_
         by_cases hm3 : x.mx ≠ -1
         ·
          refine o_step rfl (step_cast (v' := .bool true) (s_neq rfl rfl) (by rw [decide_eq_true (by omega)])) ?_
          refine o_yes rfl rfl ?_
          refine o_step rfl (s_move rfl) ?_
          refine o_yes rfl rfl ?_
          refine o_step rfl (s_field rfl rfl (by decide)) ?_
          refine o_yes rfl rfl ?_
          refine o_step rfl (s_ld rfl (.own meA rfl)) ?_
          refine o_yes rfl rfl ?_
          refine o_step rfl (s_field rfl rfl (by decide)) ?_
          refine o_yes rfl rfl ?_
          refine o_step rfl (s_ld rfl (.own meA rfl)) ?_
          refine o_yes rfl rfl ?_
          by_cases hm4 : x.mx < x.mn
          ·
           refine o_step rfl (step_cast (v' := .bool true) (s_lss rfl rfl) (by rw [decide_eq_true (by omega)])) ?_
           refine o_yes rfl rfl ?_
           refine o_step rfl (s_move rfl) ?_
           refine o_no rfl rfl rfl rfl ?_
           refine o_no rfl rfl rfl rfl ?_
           refine o_no rfl rfl rfl rfl ?_
           refine o_yes rfl rfl ?_
           refine o_step rfl (s_pick_t rfl rfl) ?_
           refine o_yes rfl rfl ?_
           refine o_step rfl (s_pick_t rfl rfl) ?_
           refine o_step rfl (s_pick_f rfl rfl) ?_
           refine o_nil ?_
           refine x_then (hK25 _ _ ?_)
           refine c_true rfl ?_
           refine c_seq fun _ hK28 => ?_
           refine c_region ?_
           refine o_step rfl (s_assign rfl) ?_
           refine o_nil ?_
           refine x_then (hK28 _ _ ?_)
           refine c_ret ?_
           refine x_then_ret (x_block_ret (x_then_ret (?_)))
           exact x_ret rfl (.tmp rfl (.nil)) ((congrArg Value.bool (ndOk_rep h6 (by omega)).symm))
          ·
           refine o_step rfl (step_cast (v' := .bool false) (s_lss rfl rfl) (by rw [decide_eq_false (by omega)])) ?_
           refine o_yes rfl rfl ?_
           refine o_step rfl (s_move rfl) ?_
           refine o_yes rfl rfl ?_
           refine o_step rfl (s_field rfl rfl (by decide)) ?_
           refine o_yes rfl rfl ?_
           refine o_step rfl (s_ld rfl (.own meA rfl)) ?_
           refine o_yes rfl rfl ?_
           by_cases hm5 : x.mx > 255
           ·
            refine o_step rfl (step_cast (v' := .bool true) (s_gtr rfl rfl) (by rw [decide_eq_true (by omega)])) ?_
            refine o_yes rfl rfl ?_
            refine o_step rfl (s_pick_f rfl rfl) ?_
            refine o_yes rfl rfl ?_
            refine o_step rfl (s_pick_t rfl rfl) ?_
            refine o_step rfl (s_pick_f rfl rfl) ?_
            refine o_nil ?_
            refine x_then (hK25 _ _ ?_)
            refine c_true rfl ?_
            refine c_seq fun _ hK29 => ?_
            refine c_region ?_
            refine o_step rfl (s_assign rfl) ?_
            refine o_nil ?_
            refine x_then (hK29 _ _ ?_)
            refine c_ret ?_
            refine x_then_ret (x_block_ret (x_then_ret (?_)))
            exact x_ret rfl (.tmp rfl (.nil)) ((congrArg Value.bool (ndOk_rep h6 (by omega)).symm))
           ·
            refine o_step rfl (step_cast (v' := .bool false) (s_gtr rfl rfl) (by rw [decide_eq_false (by omega)])) ?_
            refine o_yes rfl rfl ?_
            refine o_step rfl (s_pick_f rfl rfl) ?_
            refine o_yes rfl rfl ?_
            refine o_step rfl (s_pick_t rfl rfl) ?_
            refine o_step rfl (s_pick_f rfl rfl) ?_
            refine o_nil ?_
            refine x_then (hK25 _ _ ?_)
            refine c_false rfl ?_
            refine c_skip ?_
            refine x_then (hK24 _ _ ?_)
            refine c_region ?_
            refine o_step rfl (s_field rfl rfl (by decide)) ?_
            refine o_store rfl rfl rfl upA ltA rfl ?_
            rw [show (En (⟨0, x.set, x.n, x.mn, x.mx, 0⟩ : Nd)).set 6 (.int .i64 0) = En (⟨0, x.set, x.n, 0, x.mx, 0⟩ : Nd) from rfl]
            refine o_step rfl (s_field rfl rfl (by decide)) ?_
            refine o_store rfl rfl rfl upA ltA rfl ?_
            rw [show (En (⟨0, x.set, x.n, 0, x.mx, 0⟩ : Nd)).set 7 (.int .i64 0) = En (⟨0, x.set, x.n, 0, 0, 0⟩ : Nd) from rfl]
            refine o_nil ?_
            refine x_block ?_
            rw [show (⟨0, x.set, x.n, 0, 0, 0⟩ : Nd) = zr x by rw [zr, if_neg (by omega), if_neg (by omega), if_pos h6, if_pos h6]]
            exact x_then (hJ4 () _ _ ⟨by omega, fun h => by omega⟩ sbA sbA hzB)
         ·
          refine o_step rfl (step_cast (v' := .bool false) (s_neq rfl rfl) (by rw [decide_eq_false (by omega)])) ?_
          refine o_yes rfl rfl ?_
          refine o_step rfl (s_move rfl) ?_
          refine o_no rfl rfl rfl rfl ?_
          refine o_no rfl rfl rfl rfl ?_
          refine o_no rfl rfl rfl rfl ?_
          refine o_no rfl rfl rfl rfl ?_
          refine o_no rfl rfl rfl rfl ?_
          refine o_no rfl rfl rfl rfl ?_
          refine o_noU rfl rfl rfl ?_
          refine o_noU rfl rfl rfl ?_
          refine o_noU rfl rfl rfl ?_
          refine o_no rfl rfl rfl rfl ?_
          refine o_yes rfl rfl ?_
          refine o_step rfl (s_pick_f rfl rfl) ?_
          refine o_step rfl (s_pick_f rfl rfl) ?_
          refine o_nil ?_
          refine x_then (hK25 _ _ ?_)
          refine c_false rfl ?_
          refine c_skip ?_
          refine x_then (hK24 _ _ ?_)
          refine c_region ?_
          refine o_step rfl (s_field rfl rfl (by decide)) ?_
          refine o_store rfl rfl rfl upA ltA rfl ?_
          rw [show (En (⟨0, x.set, x.n, x.mn, x.mx, 0⟩ : Nd)).set 6 (.int .i64 0) = En (⟨0, x.set, x.n, 0, x.mx, 0⟩ : Nd) from rfl]
          refine o_step rfl (s_field rfl rfl (by decide)) ?_
          refine o_store rfl rfl rfl upA ltA rfl ?_
          rw [show (En (⟨0, x.set, x.n, 0, x.mx, 0⟩ : Nd)).set 7 (.int .i64 0) = En (⟨0, x.set, x.n, 0, 0, 0⟩ : Nd) from rfl]
          refine o_nil ?_
          refine x_block ?_
          rw [show (⟨0, x.set, x.n, 0, 0, 0⟩ : Nd) = zr x by rw [zr, if_neg (by omega), if_neg (by omega), if_pos h6, if_pos h6]]
          exact x_then (hJ4 () _ _ ⟨by omega, fun h => by omega⟩ sbA sbA hzB)
      ·
       refine o_step rfl (step_cast (v' := .bool false) (s_eql rfl rfl) (by rw [decide_eq_false h6])) ?_
       refine o_step rfl (s_assign rfl) ?_
       refine o_nil ?_
       refine x_then (hK23 _ _ ?_)
       refine c_false rfl ?_
       refine c_seq fun _ hK30 => ?_
       refine c_seq fun _ hK31 => ?_
       refine c_region ?_
       by_cases h2 : x.op = 2
       ·
        refine o_step rfl (step_cast (v' := .bool true) (s_eql rfl rfl) (by rw [decide_eq_true h2])) ?_
        refine o_step rfl (s_assign rfl) ?_
        refine o_nil ?_
        refine x_then (hK31 _ _ ?_)
        refine c_true rfl ?_
        refine c_skip ?_
        refine x_then (hK30 _ _ ?_)
        refine c_true rfl ?_
        refine c_skip ?_
        refine x_block ?_
        rw [show (⟨0, x.set, x.n, x.mn, x.mx, 0⟩ : Nd) = zr x by rw [zr, if_neg (by omega), if_neg (by omega), if_neg (by omega), if_neg (by omega)]]
        exact x_then (hJ4 () _ _ ⟨by omega, fun h => absurd h (by omega)⟩ sbA sbA hzB)
       ·
        refine o_step rfl (step_cast (v' := .bool false) (s_eql rfl rfl) (by rw [decide_eq_false h2])) ?_
        refine o_step rfl (s_assign rfl) ?_
        refine o_nil ?_
        refine x_then (hK31 _ _ ?_)
        refine c_false rfl ?_
        refine c_seq fun _ hK32 => ?_
        refine c_region ?_
        by_cases h3 : x.op = 3
        ·
         refine o_step rfl (step_cast (v' := .bool true) (s_eql rfl rfl) (by rw [decide_eq_true h3])) ?_
         refine o_step rfl (s_assign rfl) ?_
         refine o_nil ?_
         refine x_then (hK32 _ _ ?_)
         refine c_true rfl ?_
         refine c_skip ?_
         refine x_then (hK30 _ _ ?_)
         refine c_true rfl ?_
         refine c_skip ?_
         refine x_block ?_
         rw [show (⟨0, x.set, x.n, x.mn, x.mx, 0⟩ : Nd) = zr x by rw [zr, if_neg (by omega), if_neg (by omega), if_neg (by omega), if_neg (by omega)]]
         exact x_then (hJ4 () _ _ ⟨by omega, fun h => absurd h (by omega)⟩ sbA sbA hzB)
        ·
         refine o_step rfl (step_cast (v' := .bool false) (s_eql rfl rfl) (by rw [decide_eq_false h3])) ?_
         refine o_step rfl (s_assign rfl) ?_
         refine o_nil ?_
         refine x_then (hK32 _ _ ?_)
         refine c_false rfl ?_
         refine c_seq fun _ hK33 => ?_
         refine c_region ?_
         by_cases h4 : x.op = 4
         ·
          refine o_step rfl (step_cast (v' := .bool true) (s_eql rfl rfl) (by rw [decide_eq_true h4])) ?_
          refine o_step rfl (s_assign rfl) ?_
          refine o_nil ?_
          refine x_then (hK33 _ _ ?_)
          refine c_true rfl ?_
          refine c_skip ?_
          refine x_then (hK30 _ _ ?_)
          refine c_true rfl ?_
          refine c_skip ?_
          refine x_block ?_
          rw [show (⟨0, x.set, x.n, x.mn, x.mx, 0⟩ : Nd) = zr x by rw [zr, if_neg (by omega), if_neg (by omega), if_neg (by omega), if_neg (by omega)]]
          exact x_then (hJ4 () _ _ ⟨by omega, fun h => absurd h (by omega)⟩ sbA sbA hzB)
         ·
          refine o_step rfl (step_cast (v' := .bool false) (s_eql rfl rfl) (by rw [decide_eq_false h4])) ?_
          refine o_step rfl (s_assign rfl) ?_
          refine o_nil ?_
          refine x_then (hK33 _ _ ?_)
          refine c_false rfl ?_
          refine c_region ?_
          by_cases h5 : x.op = 5
          ·
           refine o_step rfl (step_cast (v' := .bool true) (s_eql rfl rfl) (by rw [decide_eq_true h5])) ?_
           refine o_step rfl (s_assign rfl) ?_
           refine o_nil ?_
           refine x_then (hK30 _ _ ?_)
           refine c_true rfl ?_
           refine c_skip ?_
           refine x_block ?_
           rw [show (⟨0, x.set, x.n, x.mn, x.mx, 0⟩ : Nd) = zr x by rw [zr, if_neg (by omega), if_neg (by omega), if_neg (by omega), if_neg (by omega)]]
           exact x_then (hJ4 () _ _ ⟨by omega, fun h => absurd h (by omega)⟩ sbA sbA hzB)
          ·
           refine o_step rfl (step_cast (v' := .bool false) (s_eql rfl rfl) (by rw [decide_eq_false h5])) ?_
           refine o_step rfl (s_assign rfl) ?_
           refine o_nil ?_
           refine x_then (hK30 _ _ ?_)
           refine c_false rfl ?_
           refine c_seq fun _ hK34 => ?_
           refine c_region ?_
           refine o_step rfl (s_assign rfl) ?_
           refine o_nil ?_
           refine x_then (hK34 _ _ ?_)
           refine c_ret ?_
           refine x_block_ret (x_then_ret (?_))
           exact x_ret rfl (.tmp rfl (.nil)) ((congrArg Value.bool (ndOk_op (by omega)).symm))
end Go.Proofs.YtiggliigookieaaDoor

/- Part of the proofs over this seat: see the text that holds the theorem. Conditions: each theorem bears its own. -/
namespace Go.Proofs.YtiggliigookieaaDoor
open Go Go.HL Go.Proofs Go.HL.Kl Go.HL.Kl.Mc
theorem rHas_fn (c : Cl) (x : Nat) (hx : x < 256) : HL.Fn Tryd.prog 78 [.agg (Ec c).toArray, .int .u8 x] (fun _ => True) [] (fun v _ => v = .bool (c.getLsbD x)) := by
  refine fn_of Tryd.func78 rfl rfl rfl fun w0 hw => ?_
  refine c_seq fun _ hK1 => ?_
  refine c_region ?_
  refine o_box rfl rfl rfl fun b2 => ?_
  refine o_step rfl (s_assign rfl) ?_
  refine o_nil ?_
  refine x_then (hK1 _ _ ?_)
  refine c_seq fun _ hK2 => ?_
  refine c_region ?_
  refine o_step rfl (s_move rfl) ?_
  refine o_step rfl (step_cast (v' := .int .u8 ((x / 64 : Nat) : Int)) (s_quo rfl rfl (by decide)) (congrArg _ (quo64 hx))) ?_
  refine o_step rfl (s_idx1 rfl rfl (by omega)) ?_
  refine o_step rfl (s_ld rfl ((RdPK.own meA).cel (j := x / 64) (Ec_get _ (by omega)) (by omega))) ?_
  refine o_step rfl (s_move rfl) ?_
  refine o_step rfl (step_cast (v' := .int .u8 ((x % 64 : Nat) : Int)) (s_rem rfl rfl (by decide)) (congrArg _ (rem64 hx))) ?_
  refine o_step rfl (s_shr rfl rfl (by omega)) ?_
  refine o_step rfl (s_and rfl rfl) ?_
  refine o_step rfl (step_cast (v' := .bool (c.getLsbD x)) (s_eql rfl rfl) (congrArg Value.bool (hasB c hx))) ?_
  refine o_step rfl (s_assign rfl) ?_
  refine o_nil ?_
  refine x_then (hK2 _ _ ?_)
  refine c_ret ?_
  refine ?_
  exact x_ret rfl (.tmp rfl (.nil)) (rfl)
end Go.Proofs.YtiggliigookieaaDoor
