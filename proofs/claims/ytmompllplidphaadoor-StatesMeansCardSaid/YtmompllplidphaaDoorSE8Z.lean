/- Part of the proofs over this seat: see the text that holds the theorem. Conditions: each theorem bears its own. -/
import Derived.Test.YtmompllplidphaaDoorSE5Z
import Derived.Test.YtmompllplidphaaDoorHDZ
import Derived.Test.YtmompllplidphaaDoorSM4Z
import Derived.Test.YtmompllplidphaaDoorMT7Z
import Derived.Test.YtmompllplidphaaDoorHlB
import Derived.Test.YtmompllplidphaaDoorSW10Z
import Derived.Test.YtmompllplidphaaDoorRows
import Derived.ProofKit
import Derived.LaidMore
import Derived.Stop.Joined
import Derived.Lib.LaidTab
namespace Go.Proofs.YtmompllplidphaaDoor
open Go Go.HL Go.Proofs Go.HL.Kl Go.HL.Kl.Mc Go.HL.Sts
theorem size_wt : ∀ f : F, f.size ≤ f.weight
  | .nil => Nat.le_refl _
  | .nd x ks r => by
    have h1 := size_wt ks
    have h2 := size_wt r
    have h3 := times_pos x
    have h4 : ks.weight ≤ times x * ks.weight := Nat.le_mul_of_pos_left _ h3
    simp only [F.size, F.weight]
    omega
theorem shp_len {re : List Nd} {x : Nd} {ks : F} (h : Mc.Shp re x ks) (hw : (F.nd x ks .nil).weight ≤ 20) : re.length ≤ 1000 := by
  have h1 := size_wt (F.nd x ks .nil)
  have h2 := F.flat_size (F.nd x ks .nil)
  have h3 : re = (F.nd x ks .nil).flat := by rw [h.flat]; simp [F.flat]
  rw [← h3] at h2
  omega
theorem err_fit {re : List Nd} {e : Int} (h : mkErr re e) (hs : shapedB re = true) (hr : refsB re = false) {n : Nat} (hW : shapedB re = true → ∃ x ks, Mc.Shp re x ks ∧ n = cut ((F.nd x ks .nil).weight)) (hn : n ≤ 20) : e = 51 := by
  obtain ⟨x, ks, hS, rfl⟩ := hW hs
  rcases h with ⟨h1, _⟩ | ⟨_, h1, _⟩ | ⟨n', ks', h1, _, h2, _⟩ | ⟨_, _, _, _, _, _, _, _, rfl⟩
  · rw [hs] at h1; cases h1
  · rw [hr] at h1; cases h1
  · obtain ⟨rfl, rfl⟩ := hS.uniq h1
    unfold cut at hn; omega
  · rfl
theorem ok_fit {re : List Nd} {nd : Nd} {ks : F} (hs : shapedB re = true) (hS : Mc.Shp re nd ks) (hw : (F.nd nd ks .nil).weight ≤ 20) {n : Nat} (hW : shapedB re = true → ∃ x ks, Mc.Shp re x ks ∧ n = cut ((F.nd x ks .nil).weight)) : n ≤ 20 := by
  obtain ⟨x, ks', hS', rfl⟩ := hW hs
  obtain ⟨rfl, rfl⟩ := hS.uniq hS'
  unfold cut; omega
set_option maxHeartbeats 4000000 in
theorem statesMeans_fn (ra : Option Addr) (rc : Nat) (re : List Nd) (hre : ∀ x ∈ re, -128 ≤ x.op ∧ x.op < 128)(xa : Option Addr) (xc : Nat) (rows : List (Sl UInt8)) : HL.Fn Tryd.prog 4 [.slice ra re.length rc, .slice xa rows.length xc] (fun W => Rd En W (.slice ra re.length rc) re ∧ Tb [] W ∧ Rd Esl W (.slice xa rows.length xc) rows ∧ ∀ s ∈ rows, Rd Eb W s.v s.xs) [] (fun v _ => v = .bool true) := by
  refine fn_of Tryd.func4 rfl rfl rfl fun w0 hw => ?_
  have hsx := hw.2.2.1.sl
  refine c_seq fun _ hK1 => ?_
  refine c_region ?_
  refine o_step rfl (s_assign rfl) ?_
  refine o_nil ?_
  refine x_then (hK1 _ _ ?_)
  refine c_seq fun _ hK2 => ?_
  refine c_seq fun _ hK3 => ?_
  refine c_region ?_
  refine o_step rfl (s_move rfl) ?_
  refine o_callP (longRe_fn ra rc re hre) rfl rfl rfl (fun w st => (RdK.old0 hw.1).out w st) (fun v11 ⟨b11, hv11⟩ => ?_)
  subst hv11
  cases b11
  ·
   refine o_step rfl (s_move rfl) ?_
   refine o_yes rfl rfl ?_
   refine o_step rfl (s_move rfl) ?_
   refine o_yes rfl rfl ?_
   refine o_step rfl (s_len rfl) ?_
   refine o_yes rfl rfl ?_
   by_cases hxl : rows.length > 65536
   ·
    refine o_step rfl (step_cast (v' := .bool true) (s_gtr rfl rfl) (congrArg Value.bool (decide_eq_true (by omega)))) ?_
    refine o_step rfl (s_pick_f rfl rfl) ?_
    refine o_nil ?_
    refine x_then (hK3 _ _ ?_)
    refine c_true rfl ?_
    refine c_seq fun _ hK4 => ?_
    refine c_region ?_
    refine o_step rfl (s_assign rfl) ?_
    refine o_nil ?_
    refine x_then (hK4 _ _ ?_)
    refine c_ret ?_
    refine x_then_ret (?_)
    exact x_ret rfl (.tmp rfl (.nil)) (rfl)
   ·
    refine o_step rfl (step_cast (v' := .bool false) (s_gtr rfl rfl) (congrArg Value.bool (decide_eq_false (by omega)))) ?_
    refine o_step rfl (s_pick_f rfl rfl) ?_
    refine o_nil ?_
    refine x_then (hK3 _ _ ?_)
    refine c_false rfl ?_
    refine c_skip ?_
    refine x_then (hK2 _ _ ?_)
    refine c_seq fun _ hK5 => ?_
    refine c_region ?_
    refine o_callP (lives_fn) rfl rfl rfl (fun w st => tb_of hw.2.1 st HSub.nil) (fun v17 hv17 => ?_)
    subst hv17
    refine o_step rfl (s_assign rfl) ?_
    refine o_nil ?_
    refine x_then (hK5 _ _ ?_)
    refine c_seq fun _ hK6 => ?_
    refine c_region ?_
    refine o_step rfl (s_move rfl) ?_
    refine o_call (make_fn ra rc re hre) rfl rfl rfl (by exact .nil) (fun w st => ⟨(RdK.old0 hw.1).out w st, tb_of hw.2.1 st HSub.nil⟩) (fun v20 S20 hM => ?_)
    rcases hM with ⟨he, hv⟩ | ⟨hd, hv, ho⟩
    ·
     subst hv
     have hne := mkErr_ne he
     refine o_step rfl (s_move rfl) ?_
     refine o_step rfl (s_extract rfl rfl) ?_
     refine o_step rfl (s_extract rfl rfl) ?_
     refine o_alloc rfl rfl fun b6 => ?_
     refine o_stW rfl rfl upA lnA lnA onA ?_
     refine o_step rfl (s_assign rfl) ?_
     refine o_nil ?_
     refine x_then (hK6 _ _ ?_)
     refine c_seq fun _ hK7 => ?_
     refine c_seq fun _ hK8 => ?_
     refine c_region ?_
     refine o_step rfl (s_move rfl) ?_
     refine o_step rfl (s_not rfl) ?_
     refine o_nil ?_
     refine x_then (hK8 _ _ ?_)
     refine c_false rfl ?_
     refine c_skip ?_
     refine x_then (hK7 _ _ ?_)
     refine c_seq fun _ hK9 => ?_
     refine c_region ?_
     refine o_step rfl (s_move rfl) ?_
     refine o_callP (rShaped_fn ra rc re hre) rfl rfl rfl (fun w st => (RdK.old0 hw.1).out w st) (fun v26 hv26 => ?_)
     subst hv26
     cases hsb : shapedB re
     ·
      refine o_step rfl (s_move rfl) ?_
      refine o_no rfl rfl rfl rfl ?_
      refine o_no rfl rfl rfl rfl ?_
      refine o_no rfl rfl rfl rfl ?_
      refine o_step rfl (s_pick_f rfl rfl) ?_
      refine o_step rfl (s_move rfl) ?_
      refine o_no rfl rfl rfl rfl ?_
      refine o_no rfl rfl rfl rfl ?_
      refine o_no rfl rfl rfl rfl ?_
      refine o_step rfl (s_pick_f rfl rfl) ?_
      refine o_step rfl (s_assign rfl) ?_
      refine o_nil ?_
      refine x_then (hK9 _ _ ?_)
      refine c_seq fun _ hK10 => ?_
      refine c_seq fun _ hK11 => ?_
      refine c_region ?_
      refine o_step rfl (s_move rfl) ?_
      refine o_step rfl (step_cast (v' := .bool true) (s_neq rfl rfl) (congrArg Value.bool (decide_eq_true hne))) ?_
      refine o_nil ?_
      refine x_then (hK11 _ _ ?_)
      refine c_true rfl ?_
      refine c_seq fun _ hK12 => ?_
      refine c_region ?_
      refine o_step rfl (s_field rfl rfl (by decide)) ?_
      refine o_step rfl (s_ld rfl (.own meA rfl)) ?_
      refine o_step rfl (s_len rfl) ?_
      refine o_step rfl (s_field rfl rfl (by decide)) ?_
      refine o_step rfl (s_ld rfl (.own meA rfl)) ?_
      refine o_step rfl (s_len rfl) ?_
      refine o_step rfl (s_add rfl rfl (by omega)) ?_
      refine o_step rfl (s_field rfl rfl (by decide)) ?_
      refine o_step rfl (s_ld rfl (.own meA rfl)) ?_
      refine o_step rfl (s_len rfl) ?_
      refine o_step rfl (s_add rfl rfl (by omega)) ?_
      refine o_step rfl (step_cast (v' := .bool true) (s_eql rfl rfl) rfl) ?_
      refine o_step rfl (s_move rfl) ?_
      refine o_yes rfl rfl ?_
      refine o_step rfl (s_move rfl) ?_
      refine o_yes rfl rfl ?_
      refine o_step rfl (s_not rfl) ?_
      refine o_yes rfl rfl ?_
      refine o_step rfl (s_move rfl) ?_
      refine o_no rfl rfl rfl rfl ?_
      refine o_no rfl rfl rfl rfl ?_
      refine o_yes rfl rfl ?_
      refine o_step rfl (s_pick_t rfl rfl) ?_
      refine o_step rfl (s_pick_t rfl rfl) ?_
      refine o_step rfl (s_assign rfl) ?_
      refine o_nil ?_
      refine x_then (hK12 _ _ ?_)
      refine c_ret ?_
      refine x_then_ret (?_)
      exact x_ret rfl (.tmp rfl (.nil)) (rfl)
     ·
      refine o_step rfl (s_move rfl) ?_
      refine o_yes rfl rfl ?_
      refine o_step rfl (s_move rfl) ?_
      refine o_yes rfl rfl ?_
      refine o_callP (rRefs_fn ra rc re hre) rfl rfl rfl (fun w st => (RdK.old0 hw.1).out w st) (fun v29 hv29 => ?_)
      subst hv29
      cases hrb : refsB re
      ·
       refine o_yes rfl rfl ?_
       refine o_step rfl (s_not rfl) ?_
       refine o_step rfl (s_pick_t rfl rfl) ?_
       refine o_step rfl (s_move rfl) ?_
       refine o_yes rfl rfl ?_
       refine o_step rfl (s_move rfl) ?_
       refine o_yes rfl rfl ?_
       refine o_callP (rWeightX_fn ra rc re hre) rfl rfl rfl (fun w st => (RdK.old0 hw.1).out w st) (fun v34 ⟨n34, hv34, hn34, hW34⟩ => ?_)
       subst hv34
       refine o_yes rfl rfl ?_
       by_cases hn20 : n34 ≤ 20
       ·
        have he51 := err_fit he hsb hrb hW34 hn20
        refine o_step rfl (step_cast (v' := .bool true) (s_leq rfl rfl) (congrArg Value.bool (decide_eq_true (by omega)))) ?_
        refine o_step rfl (s_pick_t rfl rfl) ?_
        refine o_step rfl (s_assign rfl) ?_
        refine o_nil ?_
        refine x_then (hK9 _ _ ?_)
        refine c_seq fun _ hK13 => ?_
        refine c_seq fun _ hK14 => ?_
        refine c_region ?_
        refine o_step rfl (s_move rfl) ?_
        refine o_step rfl (step_cast (v' := .bool true) (s_neq rfl rfl) (congrArg Value.bool (decide_eq_true hne))) ?_
        refine o_nil ?_
        refine x_then (hK14 _ _ ?_)
        refine c_true rfl ?_
        refine c_seq fun _ hK15 => ?_
        refine c_region ?_
        refine o_step rfl (s_field rfl rfl (by decide)) ?_
        refine o_step rfl (s_ld rfl (.own meA rfl)) ?_
        refine o_step rfl (s_len rfl) ?_
        refine o_step rfl (s_field rfl rfl (by decide)) ?_
        refine o_step rfl (s_ld rfl (.own meA rfl)) ?_
        refine o_step rfl (s_len rfl) ?_
        refine o_step rfl (s_add rfl rfl (by omega)) ?_
        refine o_step rfl (s_field rfl rfl (by decide)) ?_
        refine o_step rfl (s_ld rfl (.own meA rfl)) ?_
        refine o_step rfl (s_len rfl) ?_
        refine o_step rfl (s_add rfl rfl (by omega)) ?_
        refine o_step rfl (step_cast (v' := .bool true) (s_eql rfl rfl) rfl) ?_
        refine o_step rfl (s_move rfl) ?_
        refine o_yes rfl rfl ?_
        refine o_step rfl (s_move rfl) ?_
        refine o_yes rfl rfl ?_
        refine o_step rfl (s_not rfl) ?_
        refine o_yes rfl rfl ?_
        refine o_step rfl (s_move rfl) ?_
        refine o_yes rfl rfl ?_
        refine o_step rfl (s_move rfl) ?_
        refine o_yes rfl rfl ?_
        refine o_step rfl (step_cast (v' := .bool true) (s_eql rfl rfl) (congrArg Value.bool (decide_eq_true he51))) ?_
        refine o_yes rfl rfl ?_
        refine o_step rfl (s_pick_f rfl rfl) ?_
        refine o_step rfl (s_pick_t rfl rfl) ?_
        refine o_step rfl (s_assign rfl) ?_
        refine o_nil ?_
        refine x_then (hK15 _ _ ?_)
        refine c_ret ?_
        refine x_then_ret (?_)
        exact x_ret rfl (.tmp rfl (.nil)) (rfl)
       ·
        refine o_step rfl (step_cast (v' := .bool false) (s_leq rfl rfl) (congrArg Value.bool (decide_eq_false (by omega)))) ?_
        refine o_step rfl (s_pick_t rfl rfl) ?_
        refine o_step rfl (s_assign rfl) ?_
        refine o_nil ?_
        refine x_then (hK9 _ _ ?_)
        refine c_seq fun _ hK16 => ?_
        refine c_seq fun _ hK17 => ?_
        refine c_region ?_
        refine o_step rfl (s_move rfl) ?_
        refine o_step rfl (step_cast (v' := .bool true) (s_neq rfl rfl) (congrArg Value.bool (decide_eq_true hne))) ?_
        refine o_nil ?_
        refine x_then (hK17 _ _ ?_)
        refine c_true rfl ?_
        refine c_seq fun _ hK18 => ?_
        refine c_region ?_
        refine o_step rfl (s_field rfl rfl (by decide)) ?_
        refine o_step rfl (s_ld rfl (.own meA rfl)) ?_
        refine o_step rfl (s_len rfl) ?_
        refine o_step rfl (s_field rfl rfl (by decide)) ?_
        refine o_step rfl (s_ld rfl (.own meA rfl)) ?_
        refine o_step rfl (s_len rfl) ?_
        refine o_step rfl (s_add rfl rfl (by omega)) ?_
        refine o_step rfl (s_field rfl rfl (by decide)) ?_
        refine o_step rfl (s_ld rfl (.own meA rfl)) ?_
        refine o_step rfl (s_len rfl) ?_
        refine o_step rfl (s_add rfl rfl (by omega)) ?_
        refine o_step rfl (step_cast (v' := .bool true) (s_eql rfl rfl) rfl) ?_
        refine o_step rfl (s_move rfl) ?_
        refine o_yes rfl rfl ?_
        refine o_step rfl (s_move rfl) ?_
        refine o_yes rfl rfl ?_
        refine o_step rfl (s_not rfl) ?_
        refine o_yes rfl rfl ?_
        refine o_step rfl (s_move rfl) ?_
        refine o_no rfl rfl rfl rfl ?_
        refine o_no rfl rfl rfl rfl ?_
        refine o_yes rfl rfl ?_
        refine o_step rfl (s_pick_t rfl rfl) ?_
        refine o_step rfl (s_pick_t rfl rfl) ?_
        refine o_step rfl (s_assign rfl) ?_
        refine o_nil ?_
        refine x_then (hK18 _ _ ?_)
        refine c_ret ?_
        refine x_then_ret (?_)
        exact x_ret rfl (.tmp rfl (.nil)) (rfl)
      ·
       refine o_yes rfl rfl ?_
       refine o_step rfl (s_not rfl) ?_
       refine o_step rfl (s_pick_t rfl rfl) ?_
       refine o_step rfl (s_move rfl) ?_
       refine o_no rfl rfl rfl rfl ?_
       refine o_no rfl rfl rfl rfl ?_
       refine o_no rfl rfl rfl rfl ?_
       refine o_step rfl (s_pick_f rfl rfl) ?_
       refine o_step rfl (s_assign rfl) ?_
       refine o_nil ?_
       refine x_then (hK9 _ _ ?_)
       refine c_seq fun _ hK19 => ?_
       refine c_seq fun _ hK20 => ?_
       refine c_region ?_
       refine o_step rfl (s_move rfl) ?_
       refine o_step rfl (step_cast (v' := .bool true) (s_neq rfl rfl) (congrArg Value.bool (decide_eq_true hne))) ?_
       refine o_nil ?_
       refine x_then (hK20 _ _ ?_)
       refine c_true rfl ?_
       refine c_seq fun _ hK21 => ?_
       refine c_region ?_
       refine o_step rfl (s_field rfl rfl (by decide)) ?_
       refine o_step rfl (s_ld rfl (.own meA rfl)) ?_
       refine o_step rfl (s_len rfl) ?_
       refine o_step rfl (s_field rfl rfl (by decide)) ?_
       refine o_step rfl (s_ld rfl (.own meA rfl)) ?_
       refine o_step rfl (s_len rfl) ?_
       refine o_step rfl (s_add rfl rfl (by omega)) ?_
       refine o_step rfl (s_field rfl rfl (by decide)) ?_
       refine o_step rfl (s_ld rfl (.own meA rfl)) ?_
       refine o_step rfl (s_len rfl) ?_
       refine o_step rfl (s_add rfl rfl (by omega)) ?_
       refine o_step rfl (step_cast (v' := .bool true) (s_eql rfl rfl) rfl) ?_
       refine o_step rfl (s_move rfl) ?_
       refine o_yes rfl rfl ?_
       refine o_step rfl (s_move rfl) ?_
       refine o_yes rfl rfl ?_
       refine o_step rfl (s_not rfl) ?_
       refine o_yes rfl rfl ?_
       refine o_step rfl (s_move rfl) ?_
       refine o_no rfl rfl rfl rfl ?_
       refine o_no rfl rfl rfl rfl ?_
       refine o_yes rfl rfl ?_
       refine o_step rfl (s_pick_t rfl rfl) ?_
       refine o_step rfl (s_pick_t rfl rfl) ?_
       refine o_step rfl (s_assign rfl) ?_
       refine o_nil ?_
       refine x_then (hK21 _ _ ?_)
       refine c_ret ?_
       refine x_then_ret (?_)
       exact x_ret rfl (.tmp rfl (.nil)) (rfl)
    ·
     rename_i d dv
     obtain ⟨na1, nc1, rows1, ea1, ec1, aa1, ac1, Sn1, Sq1, Se1, Sa1, rfl, rfl, hR1, hQ1, hx1, hE1, hA1⟩ := ho
     subst hv
     obtain ⟨nd, ks, hSp, hrf, hwt, hSh, hmm⟩ := make_means hd
     have hsb := hd.1
     have hrl := shp_len hSp hwt
     refine o_step rfl (s_move rfl) ?_
     refine o_step rfl (s_extract rfl rfl) ?_
     refine o_step rfl (s_extract rfl rfl) ?_
     refine o_alloc rfl rfl fun b6 => ?_
     refine o_stW rfl rfl upA lnA lnA onA ?_
     refine o_step rfl (s_assign rfl) ?_
     refine o_nil ?_
     refine x_then (hK6 _ _ ?_)
     refine c_seq fun _ hK22 => ?_
     refine c_seq fun _ hK23 => ?_
     refine c_region ?_
     refine o_step rfl (s_move rfl) ?_
     refine o_step rfl (s_not rfl) ?_
     refine o_nil ?_
     refine x_then (hK23 _ _ ?_)
     refine c_false rfl ?_
     refine c_skip ?_
     refine x_then (hK22 _ _ ?_)
     refine c_seq fun _ hK24 => ?_
     refine c_region ?_
     refine o_step rfl (s_move rfl) ?_
     refine o_callP (rShaped_fn ra rc re hre) rfl rfl rfl (fun w st => (RdK.old0 hw.1).out w st) (fun v26 hv26 => ?_)
     rw [hsb] at hv26
     subst hv26
     refine o_step rfl (s_move rfl) ?_
     refine o_yes rfl rfl ?_
     refine o_step rfl (s_move rfl) ?_
     refine o_yes rfl rfl ?_
     refine o_callP (rRefs_fn ra rc re hre) rfl rfl rfl (fun w st => (RdK.old0 hw.1).out w st) (fun v29 hv29 => ?_)
     rw [hrf] at hv29
     subst hv29
     refine o_yes rfl rfl ?_
     refine o_step rfl (s_not rfl) ?_
     refine o_step rfl (s_pick_t rfl rfl) ?_
     refine o_step rfl (s_move rfl) ?_
     refine o_yes rfl rfl ?_
     refine o_step rfl (s_move rfl) ?_
     refine o_yes rfl rfl ?_
     refine o_callP (rWeightX_fn ra rc re hre) rfl rfl rfl (fun w st => (RdK.old0 hw.1).out w st) (fun v34 ⟨n34, hv34, hn34, hW34⟩ => ?_)
     subst hv34
     have hn20 := ok_fit hsb hSp hwt hW34
     refine o_yes rfl rfl ?_
     refine o_step rfl (step_cast (v' := .bool true) (s_leq rfl rfl) (congrArg Value.bool (decide_eq_true (show ((n34 : Nat) : Int) ≤ 20 by omega)))) ?_
     refine o_step rfl (s_pick_t rfl rfl) ?_
     refine o_step rfl (s_assign rfl) ?_
     refine o_nil ?_
     refine x_then (hK24 _ _ ?_)
     refine c_seq fun _ hK25 => ?_
     refine c_seq fun _ hK26 => ?_
     refine c_region ?_
     refine o_step rfl (s_move rfl) ?_
     refine o_step rfl (step_cast (v' := .bool false) (s_neq rfl rfl) rfl) ?_
     refine o_nil ?_
     refine x_then (hK26 _ _ ?_)
     refine c_false rfl ?_
     refine c_skip ?_
     refine x_then (hK25 _ _ ?_)
     refine c_seq fun _ hK27 => ?_
     refine c_seq fun _ hK28 => ?_
     refine c_region ?_
     refine o_step rfl (s_move rfl) ?_
     refine o_step rfl (s_not rfl) ?_
     refine o_step rfl (s_move rfl) ?_
     refine o_yes rfl rfl ?_
     refine o_step rfl (s_ldB rfl (RdPK.cels (.own meA)) lnA) ?_
     refine o_yes rfl rfl ?_
     refine o_callP (shaped2_fn d aa1 ac1 na1 nc1 rows1 ea1 ec1 hx1) rfl rfl rfl (fun w st => ⟨DfO.rdD hR1 hQ1 hx1 hE1 hA1 hiA hiA hiA hiA st, tb_of hw.2.1 st HSub.nil⟩) (fun v63 hv63 => ?_)
     rw [shP_iff.2 hSh] at hv63
     subst hv63
     refine o_yes rfl rfl ?_
     refine o_step rfl (s_not rfl) ?_
     refine o_step rfl (s_pick_f rfl rfl) ?_
     refine o_nil ?_
     refine x_then (hK28 _ _ ?_)
     refine c_false rfl ?_
     refine c_skip ?_
     refine x_then (hK27 _ _ ?_)
     refine c_seq fun _ hK29 => ?_
     refine c_seq fun _ hK30 => ?_
     refine c_region ?_
     refine o_step rfl (s_assign rfl) ?_
     refine o_nil ?_
     refine x_then (hK30 _ _ ?_)
     refine c_block ?_
     -- not carried: 4
     refine c_loopB (fun (k : Nat) => k ≤ rows.length) (fun (k : Nat) => [(9, .int .i64 k)]) [(0, _), (1, _), (6, _)] (fun (k : Nat) => (b6, .cells [.slice aa1 d.atoms.length ac1, .slice na1 rows1.length nc1, .slice ea1 d.ends.length ec1].toArray 26 (0, 0)) :: (Sn1 ++ (Sq1 ++ (Se1 ++ Sa1)))) (fun (k : Nat) => rows.length - k) 0 (by omega) sbA sbA hzB ?_
     rintro k hk
     refine c_seq fun _ hK31 => ?_
     refine c_seq fun _ hK32 => ?_
     refine c_region ?_
     refine o_step rfl (s_move rfl) ?_
     refine o_step rfl (s_move rfl) ?_
     refine o_step rfl (s_len rfl) ?_
     by_cases hlt : k < rows.length
     ·
      obtain ⟨s, hs⟩ : ∃ s, rows[k]? = some s := ⟨_, List.getElem?_eq_getElem (by omega)⟩
      have hsm := List.mem_of_getElem? hs
      have hss := (hw.2.2.2 s hsm).sl
      refine o_step rfl (step_cast (v' := .bool true) (s_lss rfl rfl) (congrArg Value.bool (decide_eq_true (by omega)))) ?_
      refine o_step rfl (s_move rfl) ?_
      refine o_yes rfl rfl ?_
      refine o_step rfl (s_move rfl) ?_
      refine o_yes rfl rfl ?_
      by_cases hk100 : k < 100
      ·
       refine o_step rfl (step_cast (v' := .bool true) (s_lss rfl rfl) (congrArg Value.bool (decide_eq_true (by omega)))) ?_
       refine o_step rfl (s_pick_t rfl rfl) ?_
       refine o_nil ?_
       refine x_then (hK32 _ _ ?_)
       refine c_true rfl ?_
       refine c_skip ?_
       refine x_then (hK31 _ _ ?_)
       refine c_seq fun _ hK33 => ?_
       refine c_block ?_
       refine c_seq fun _ hK34 => ?_
       refine c_drawE ((b6, .cells [.slice aa1 d.atoms.length ac1, .slice na1 rows1.length nc1, .slice ea1 d.ends.length ec1].toArray 26 (0, 0)) :: (Sn1 ++ (Sq1 ++ (Se1 ++ Sa1)))) (fun i => false) ?_
       refine e_pure 0 rfl (by kernel_rfl) (by kernel_rfl) (by kernel_rfl) rfl (s_move rfl) ?_
       refine e_pure 1 rfl (by kernel_rfl) (by kernel_rfl) (by kernel_rfl) rfl (s_move rfl) ?_
       refine e_pure 2 rfl (by kernel_rfl) (by kernel_rfl) (by kernel_rfl) rfl (s_idx rfl rfl hsx (by omega)) ?_
       refine e_take 3 rfl (by kernel_rfl) (by kernel_rfl) (by kernel_rfl) (by kernel_rfl) (fun _ _ => rfl) rfl hzB (s_ld rfl ((RdK.old0 hw.2.2.1).ld k 0 hs rfl (by decide) (by omega))) ?_
       refine e_pure 4 rfl (by kernel_rfl) (by kernel_rfl) (by kernel_rfl) rfl (s_len rfl) ?_
       by_cases h64 : s.xs.length ≤ 64
       ·
        refine e_pure 5 rfl (by kernel_rfl) (by kernel_rfl) (by kernel_rfl) rfl (step_cast (v' := .bool true) (s_leq rfl rfl) (congrArg Value.bool (decide_eq_true (by omega)))) ?_
        refine e_pure 6 rfl (by kernel_rfl) (by kernel_rfl) (by kernel_rfl) rfl (s_move rfl) ?_
        refine e_take 7 rfl (by kernel_rfl) (by kernel_rfl) (by kernel_rfl) (by kernel_rfl) (fun _ fr => by rw [wanted_of fr rfl rfl rfl]; rfl) rfl hzB (s_ldB rfl (RdPK.cels (.own meA)) lnA) ?_
        refine e_take 8 rfl (by kernel_rfl) (by kernel_rfl) (by kernel_rfl) (by kernel_rfl) (fun _ fr => by rw [wanted_of fr rfl rfl rfl]; rfl) rfl hzB (s_move rfl) ?_
        refine e_take 9 rfl (by kernel_rfl) (by kernel_rfl) (by kernel_rfl) (by kernel_rfl) (fun _ fr => by rw [wanted_of fr rfl rfl rfl]; rfl) rfl hzB (s_move rfl) ?_
        refine e_take 10 rfl (by kernel_rfl) (by kernel_rfl) (by kernel_rfl) (by kernel_rfl) (fun _ fr => by rw [wanted_of fr rfl rfl rfl]; rfl) rfl hzB (s_idx rfl rfl hsx (by omega)) ?_
        refine e_take 11 rfl (by kernel_rfl) (by kernel_rfl) (by kernel_rfl) (by kernel_rfl) (fun _ fr => by rw [wanted_of fr rfl rfl rfl]; rfl) rfl hzB (s_ld rfl ((RdK.old0 hw.2.2.1).ld k 0 hs rfl (by decide) (by omega))) ?_
        refine e_take 13 rfl (by kernel_rfl) (by kernel_rfl) (by kernel_rfl) (by kernel_rfl) (fun _ fr => by rw [wanted_of fr rfl rfl rfl]; rfl) rfl hzB (s_move rfl) ?_
        refine e_take 14 rfl (by kernel_rfl) (by kernel_rfl) (by kernel_rfl) (by kernel_rfl) (fun _ fr => by rw [wanted_of fr rfl rfl rfl]; rfl) rfl hzB (s_move rfl) ?_
        refine e_take 15 rfl (by kernel_rfl) (by kernel_rfl) (by kernel_rfl) (by kernel_rfl) (fun _ fr => by rw [wanted_of fr rfl rfl rfl]; rfl) rfl hzB (s_move rfl) ?_
        refine e_take 16 rfl (by kernel_rfl) (by kernel_rfl) (by kernel_rfl) (by kernel_rfl) (fun _ fr => by rw [wanted_of fr rfl rfl rfl]; rfl) rfl hzB (s_idx rfl rfl hsx (by omega)) ?_
        refine e_take 17 rfl (by kernel_rfl) (by kernel_rfl) (by kernel_rfl) (by kernel_rfl) (fun _ fr => by rw [wanted_of fr rfl rfl rfl]; rfl) rfl hzB (s_ld rfl ((RdK.old0 hw.2.2.1).ld k 0 hs rfl (by decide) (by omega))) ?_
        refine e_one 12 rfl (by kernel_rfl) ?_
        refine o_yes rfl rfl ?_
        refine o_callP (takes2_fn d aa1 ac1 na1 nc1 rows1 ea1 ec1 hx1 s.a s.c s.xs) rfl rfl rfl (fun w st => ⟨DfO.rdD hR1 hQ1 hx1 hE1 hA1 hiA hiA hiA hiA st, tb_of hw.2.1 st HSub.nil, (RdK.old0 (hw.2.2.2 s hsm)).out w st⟩) (fun v88 hv88 => ?_)
        subst hv88
        refine o_nil ?_
        refine x_oneS hzB ?_
        refine e_one 18 rfl (by kernel_rfl) ?_
        refine o_yes rfl rfl ?_
        refine o_call (means_fn ra rc re hre hsb hrf nd ks hSp hrl s.a s.c s.xs (by omega)) rfl rfl rfl (by exact .nil) (fun w st => ⟨(RdK.old0 hw.1).out w st, (RdK.old0 (hw.2.2.2 s hsm)).out w st⟩) (fun v94 S94 ⟨b94, hv94, hb94⟩ => ?_)
        subst hv94
        refine o_nil ?_
        refine x_oneS hzB ?_
        refine e_one 19 rfl (by kernel_rfl) ?_
        refine o_yes rfl rfl ?_
        refine o_step rfl (step_cast (v' := .bool false) (s_neq_bool rfl rfl) (congrArg Value.bool (decide_eq_false (fun h => h (Bool.eq_iff_iff.2 ((hmm s.xs).trans hb94.symm)))))) ?_
        refine o_nil ?_
        refine x_oneS hzB ?_
        refine e_one 20 rfl (by kernel_rfl) ?_
        refine o_step rfl (s_pick_t rfl rfl) ?_
        refine o_nil ?_
        refine x_oneS hzB ?_
        refine e_done (by kernel_rfl) ?_
        refine x_then (hK34 _ _ ?_)
        refine c_false rfl ?_
        refine c_skip ?_
        refine x_block ?_
        refine x_then (hK33 _ _ ?_)
        refine c_region ?_
        refine o_step rfl (s_move rfl) ?_
        refine o_step rfl (s_add rfl rfl (by omega)) ?_
        refine o_step rfl (s_assign rfl) ?_
        refine o_nil ?_
        exact x_then (x_inv (k + 1) (by omega) (by first | omega | (dsimp only; omega)) sbA hzB)
       ·
        refine e_pure 5 rfl (by kernel_rfl) (by kernel_rfl) (by kernel_rfl) rfl (step_cast (v' := .bool false) (s_leq rfl rfl) (congrArg Value.bool (decide_eq_false (by omega)))) ?_
        refine e_pure 6 rfl (by kernel_rfl) (by kernel_rfl) (by kernel_rfl) rfl (s_move rfl) ?_
        refine e_skip 7 rfl (by kernel_rfl) (by kernel_rfl) (by kernel_rfl) rfl rfl rfl rfl ?_
        refine e_skip 8 rfl (by kernel_rfl) (by kernel_rfl) (by kernel_rfl) rfl rfl rfl rfl ?_
        refine e_skip 9 rfl (by kernel_rfl) (by kernel_rfl) (by kernel_rfl) rfl rfl rfl rfl ?_
        refine e_skip 10 rfl (by kernel_rfl) (by kernel_rfl) (by kernel_rfl) rfl rfl rfl rfl ?_
        refine e_skip 11 rfl (by kernel_rfl) (by kernel_rfl) (by kernel_rfl) rfl rfl rfl rfl ?_
        refine e_skip 13 rfl (by kernel_rfl) (by kernel_rfl) (by kernel_rfl) rfl rfl rfl rfl ?_
        refine e_skip 14 rfl (by kernel_rfl) (by kernel_rfl) (by kernel_rfl) rfl rfl rfl rfl ?_
        refine e_skip 15 rfl (by kernel_rfl) (by kernel_rfl) (by kernel_rfl) rfl rfl rfl rfl ?_
        refine e_skip 16 rfl (by kernel_rfl) (by kernel_rfl) (by kernel_rfl) rfl rfl rfl rfl ?_
        refine e_skip 17 rfl (by kernel_rfl) (by kernel_rfl) (by kernel_rfl) rfl rfl rfl rfl ?_
        refine e_one 12 rfl (by kernel_rfl) ?_
        refine o_no rfl rfl rfl rfl ?_
        refine o_nil ?_
        refine x_oneS hzB ?_
        refine e_one 18 rfl (by kernel_rfl) ?_
        refine o_no rfl rfl rfl rfl ?_
        refine o_nil ?_
        refine x_oneS hzB ?_
        refine e_one 19 rfl (by kernel_rfl) ?_
        refine o_no rfl rfl rfl rfl ?_
        refine o_nil ?_
        refine x_oneS hzB ?_
        refine e_one 20 rfl (by kernel_rfl) ?_
        refine o_step rfl (s_pick_f rfl rfl) ?_
        refine o_nil ?_
        refine x_oneS hzB ?_
        refine e_done (by kernel_rfl) ?_
        refine x_then (hK34 _ _ ?_)
        refine c_false rfl ?_
        refine c_skip ?_
        refine x_block ?_
        refine x_then (hK33 _ _ ?_)
        refine c_region ?_
        refine o_step rfl (s_move rfl) ?_
        refine o_step rfl (s_add rfl rfl (by omega)) ?_
        refine o_step rfl (s_assign rfl) ?_
        refine o_nil ?_
        exact x_then (x_inv (k + 1) (by omega) (by first | omega | (dsimp only; omega)) sbA hzB)
      ·
       refine o_step rfl (step_cast (v' := .bool false) (s_lss rfl rfl) (congrArg Value.bool (decide_eq_false (by omega)))) ?_
       refine o_step rfl (s_pick_t rfl rfl) ?_
       refine o_nil ?_
       refine x_then (hK32 _ _ ?_)
       refine c_false rfl ?_
       refine c_exit ?_
       refine x_then_exit ?_
       refine x_then_exit ?_
       refine x_block_exit ?_
       refine x_then (hK29 _ _ ?_)
       refine c_seq fun _ hK35 => ?_
       refine c_region ?_
       refine o_step rfl (s_assign rfl) ?_
       refine o_nil ?_
       refine x_then (hK35 _ _ ?_)
       refine c_ret ?_
       refine ?_
       exact x_ret rfl (.tmp rfl (.nil)) (rfl)
     ·
      refine o_step rfl (step_cast (v' := .bool false) (s_lss rfl rfl) (congrArg Value.bool (decide_eq_false (by omega)))) ?_
      refine o_step rfl (s_move rfl) ?_
      refine o_no rfl rfl rfl rfl ?_
      refine o_no rfl rfl rfl rfl ?_
      refine o_step rfl (s_pick_f rfl rfl) ?_
      refine o_nil ?_
      refine x_then (hK32 _ _ ?_)
      refine c_false rfl ?_
      refine c_exit ?_
      refine x_then_exit ?_
      refine x_then_exit ?_
      refine x_block_exit ?_
      refine x_then (hK29 _ _ ?_)
      refine c_seq fun _ hK36 => ?_
      refine c_region ?_
      refine o_step rfl (s_assign rfl) ?_
      refine o_nil ?_
      refine x_then (hK36 _ _ ?_)
      refine c_ret ?_
      refine ?_
      exact x_ret rfl (.tmp rfl (.nil)) (rfl)
  ·
   refine o_step rfl (s_move rfl) ?_
   refine o_no rfl rfl rfl rfl ?_
   refine o_no rfl rfl rfl rfl ?_
   refine o_no rfl rfl rfl rfl ?_
   refine o_step rfl (s_pick_t rfl rfl) ?_
   refine o_nil ?_
   refine x_then (hK3 _ _ ?_)
   refine c_true rfl ?_
   refine c_seq fun _ hK37 => ?_
   refine c_region ?_
   refine o_step rfl (s_assign rfl) ?_
   refine o_nil ?_
   refine x_then (hK37 _ _ ?_)
   refine c_ret ?_
   refine x_then_ret (?_)
   exact x_ret rfl (.tmp rfl (.nil)) (rfl)
theorem own : ownKnob Tryd.prog.godebug = none := by kernel_rfl
theorem laidOut : laidOutB Tryd.prog = true := by kernel_rfl
/-- the door's own heap meets the condition -/
theorem door_met (os : Os) (args : Array Value) : laidMetH Tryd.prog [("math/bits.deBruijn64tab", Rows.laid_math_bits_deBruijn64tab)] ((World.doorLaid Tryd.prog 400 os).forCall (fun _ _ => 0) ⟨#[], args, []⟩).memory :=
  laidMetH_of_parts3 (fuel := 8) (laidMet_of_run' 8 (by kernel_rfl) (by kernel_rfl)) (by kernel_rfl) (by kernel_rfl)
theorem tab_eq : Rows.laid_math_bits_deBruijn64tab = Lib.tabData (H := Unit) .u8 (Lib.deBruijn64tab.map fun n : Nat => (n : Int)) := rfl
theorem tb_laid {W : World} (h : laidMetH Tryd.prog [("math/bits.deBruijn64tab", Rows.laid_math_bits_deBruijn64tab)] W) : Tb [] W := by
  rw [MakeChecks.laidMetH_plain _ _ _ (by kernel_rfl)] at h
  rw [tab_eq] at h
  have ht := Lib.tabIs_of_head (g := 0) (t := 139) (e := 5) (n := 64) (by kernel_rfl) (by kernel_rfl) (by kernel_rfl) (by kernel_rfl) (by kernel_rfl) (by kernel_rfl) h
  have h1 := rdp_of_tab (g := 0) (by kernel_rfl) ht
  rw [List.map_map] at h1
  exact ⟨h1, fun hm => by cases hm⟩
theorem open_nd : Opens Tryd.prog 57 En (fun _ t => -128 ≤ t.op ∧ t.op < 128) :=
  open_struct6 Tryd.underlying57 rfl (by kernel_rfl) (by kernel_rfl) (by kernel_rfl) (by kernel_rfl) (by kernel_rfl) (by kernel_rfl) (open_i8 Tryd.underlying55) (Mc.open_cl Tryd.underlying54 Tryd.underlying52 (by kernel_rfl) (by kernel_rfl)) (open_i64 Tryd.underlying3) (open_i64 Tryd.underlying3) (open_i64 Tryd.underlying3) (open_i64 Tryd.underlying3) fun w a b c d e f ha _ _ _ _ _ => ⟨⟨a, b, c, d, e, f⟩, rfl, ha⟩
/-- a machine as it comes in -/
structure DfV where
  a : Sl Kl.Cl
  n : Sl (Sl Int)
  e : Sl Bool
def EDf (x : DfV) : List Value := [x.a.v, x.n.v, x.e.v]
def DfV.d (x : DfV) : Df := ⟨x.n.xs.map Sl.xs, x.e.xs, x.a.xs⟩
def DfV.ok (w : World) (x : DfV) : Prop := RdD x.d x.a.a x.a.c x.n.a x.n.c x.n.xs x.e.a x.e.c w
end Go.Proofs.YtmompllplidphaaDoor
