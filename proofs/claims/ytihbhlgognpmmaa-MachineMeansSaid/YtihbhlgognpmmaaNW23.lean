/- Part of the proofs over this seat: see the text that holds the theorem. Conditions: each theorem bears its own. -/
import Derived.Test.YtihbhlgognpmmaaNW22
import Derived.Test.YtihbhlgognpmmaaNW17
import Derived.Test.YtihbhlgognpmmaaMT21
namespace Go.Proofs.Ytihbhlgognpmmaa
open Go Go.HL Go.Proofs Go.HL.Kl Go.HL.Kl.Mc
set_option maxHeartbeats 2000000 in
theorem machineMeans_fn (ra : Option Addr) (rc : Nat) (re : List Nd) (hre : ∀ x ∈ re, -128 ≤ x.op ∧ x.op < 128) (ta : Option Addr) (tc : Nat) (w : List UInt8) : HL.Fn Try.prog 3 [.slice ra re.length rc, .slice ta w.length tc] (fun W => Rd En W (.slice ra re.length rc) re ∧ Rd Eb W (.slice ta w.length tc) w) [] (fun v _ => v = .bool true) := by
  refine fn_of Try.func3 rfl rfl rfl fun w0 hw => ?_
  refine c_seq fun _ hK1 => ?_
  refine c_region ?_
  refine o_step rfl (s_assign rfl) ?_
  refine o_nil ?_
  refine x_then (hK1 _ _ ?_)
  refine c_seq fun _ hK2 => ?_
  refine c_region ?_
  refine o_callP (works_fn) rfl rfl rfl (fun _ _ => trivial) (fun v9 hv9 => ?_)
  subst hv9
  refine o_step rfl (s_assign rfl) ?_
  refine o_nil ?_
  refine x_then (hK2 _ _ ?_)
  refine c_seq fun _ hK3 => ?_
  refine c_seq fun _ hK4 => ?_
  refine c_region ?_
  refine o_step rfl (s_move rfl) ?_
  refine o_callP (beyond_fn ra rc re hre) rfl rfl rfl (fun w st => (RdK.old0 hw.1).out w st) (fun v11 ⟨b, hv11⟩ => ?_)
  subst hv11
  cases b
  ·
   refine o_step rfl (s_move rfl) ?_
   refine o_yes rfl rfl ?_
   refine o_step rfl (s_move rfl) ?_
   refine o_yes rfl rfl ?_
   refine o_step rfl (s_len rfl) ?_
   refine o_yes rfl rfl ?_
   by_cases hw4 : (w.length : Int) > 4096
   ·
    refine o_step rfl (step_cast (v' := .bool true) (s_gtr rfl rfl) (by rw [decide_eq_true (by omega)])) ?_
    refine o_step rfl (s_pick_f rfl rfl) ?_
    refine o_nil ?_
    refine x_then (hK4 _ _ ?_)
    refine c_true rfl ?_
    refine c_seq fun _ hK5 => ?_
    refine c_region ?_
    refine o_step rfl (s_move rfl) ?_
    refine o_step rfl (s_assign rfl) ?_
    refine o_nil ?_
    refine x_then (hK5 _ _ ?_)
    refine c_ret ?_
    refine x_then_ret (?_)
    exact x_ret rfl (.tmp rfl (.nil)) (rfl)
   ·
    refine o_step rfl (step_cast (v' := .bool false) (s_gtr rfl rfl) (by rw [decide_eq_false (by omega)])) ?_
    refine o_step rfl (s_pick_f rfl rfl) ?_
    refine o_nil ?_
    refine x_then (hK4 _ _ ?_)
    refine c_false rfl ?_
    refine c_skip ?_
    refine x_then (hK3 _ _ ?_)
    refine c_seq fun _ hK6 => ?_
    refine c_region ?_
    refine o_step rfl (s_move rfl) ?_
    refine o_step rfl (s_move rfl) ?_
    refine o_call (short_fn ra rc re hre ta tc w (by omega) 3 16777216 (by decide) (by decide)) rfl rfl rfl (by exact .nil) (fun w st => ⟨(RdK.old0 hw.1).out w st, (RdK.old0 hw.2).out w st⟩) (fun v20 S20 ⟨n, a20, c20, hv20, hS20⟩ => ?_)
    subst hv20
    have hwn : (w.take n).length ≤ 4096 := by rw [List.length_take]; omega
    refine o_step rfl (s_assign rfl) ?_
    refine o_nil ?_
    refine x_then (hK6 _ _ ?_)
    refine c_seq fun _ hK7 => ?_
    refine c_region ?_
    refine o_step rfl (s_move rfl) ?_
    refine o_call (compile_fn ra rc re hre) rfl rfl rfl (by exact .nil) (fun w st => (RdK.old0 hw.1).out w st) (fun v23 S23 hv23 => ?_)
    rcases hv23 with ⟨hsb, hvv⟩ | ⟨hsb, hrb, hvv⟩ | @⟨x, ks, am, hsb, hrb, hs, hvv, hm⟩
    ·
     subst hvv
     refine o_step rfl (s_move rfl) ?_
     refine o_step rfl (s_extract rfl rfl) ?_
     refine o_step rfl (s_extract rfl rfl) ?_
     refine o_step rfl (s_assign rfl) ?_
     refine o_step rfl (s_assign rfl) ?_
     refine o_nil ?_
     refine x_then (hK7 _ _ ?_)
     refine c_seq fun _ hK8 => ?_
     refine c_seq fun _ hK9 => ?_
     refine c_region ?_
     refine o_step rfl (s_move rfl) ?_
     refine o_step rfl (s_neq_t rfl rfl (by decide)) ?_
     refine o_nil ?_
     refine x_then (hK9 _ _ ?_)
     refine c_true rfl ?_
     refine c_seq fun _ hK10 => ?_
     refine c_region ?_
     refine o_step rfl (s_move rfl) ?_
     refine o_step rfl (s_move rfl) ?_
     refine o_yes rfl rfl ?_
     refine o_step rfl (s_move rfl) ?_
     refine o_yes rfl rfl ?_
     refine o_callP (rShaped_fn ra rc re hre) rfl rfl rfl (fun w st => (RdK.old0 hw.1).out w st) (fun v31 hv31 => ?_)
     rw [hsb] at hv31
     subst hv31
     refine o_yes rfl rfl ?_
     refine o_step rfl (s_not rfl) ?_
     refine o_yes rfl rfl ?_
     refine o_step rfl (s_move rfl) ?_
     refine o_no rfl rfl rfl rfl ?_
     refine o_no rfl rfl rfl rfl ?_
     refine o_yes rfl rfl ?_
     refine o_step rfl (s_pick_t rfl rfl) ?_
     refine o_step rfl (s_pick_t rfl rfl) ?_
     refine o_step rfl (s_assign rfl) ?_
     refine o_nil ?_
     refine x_then (hK10 _ _ ?_)
     refine c_ret ?_
     refine x_then_ret (?_)
     exact x_ret rfl (.tmp rfl (.nil)) (rfl)
    ·
     subst hvv
     refine o_step rfl (s_move rfl) ?_
     refine o_step rfl (s_extract rfl rfl) ?_
     refine o_step rfl (s_extract rfl rfl) ?_
     refine o_step rfl (s_assign rfl) ?_
     refine o_step rfl (s_assign rfl) ?_
     refine o_nil ?_
     refine x_then (hK7 _ _ ?_)
     refine c_seq fun _ hK11 => ?_
     refine c_seq fun _ hK12 => ?_
     refine c_region ?_
     refine o_step rfl (s_move rfl) ?_
     refine o_step rfl (s_neq_t rfl rfl (by decide)) ?_
     refine o_nil ?_
     refine x_then (hK12 _ _ ?_)
     refine c_true rfl ?_
     refine c_seq fun _ hK13 => ?_
     refine c_region ?_
     refine o_step rfl (s_move rfl) ?_
     refine o_step rfl (s_move rfl) ?_
     refine o_yes rfl rfl ?_
     refine o_step rfl (s_move rfl) ?_
     refine o_yes rfl rfl ?_
     refine o_callP (rShaped_fn ra rc re hre) rfl rfl rfl (fun w st => (RdK.old0 hw.1).out w st) (fun v31 hv31 => ?_)
     rw [hsb] at hv31
     subst hv31
     refine o_yes rfl rfl ?_
     refine o_step rfl (s_not rfl) ?_
     refine o_yes rfl rfl ?_
     refine o_step rfl (s_move rfl) ?_
     refine o_yes rfl rfl ?_
     refine o_step rfl (s_move rfl) ?_
     refine o_yes rfl rfl ?_
     refine o_callP (rRefs_fn ra rc re hre) rfl rfl rfl (fun w st => (RdK.old0 hw.1).out w st) (fun v35 hv35 => ?_)
     rw [hrb] at hv35
     subst hv35
     refine o_yes rfl rfl ?_
     refine o_step rfl (s_pick_f rfl rfl) ?_
     refine o_step rfl (s_pick_t rfl rfl) ?_
     refine o_step rfl (s_assign rfl) ?_
     refine o_nil ?_
     refine x_then (hK13 _ _ ?_)
     refine c_ret ?_
     refine x_then_ret (?_)
     exact x_ret rfl (.tmp rfl (.nil)) (rfl)
    ·
     subst hvv
     have hr8 := no_refs hsb hrb
     have hmk := hs.mok
     refine o_step rfl (s_move rfl) ?_
     refine o_step rfl (s_extract rfl rfl) ?_
     refine o_step rfl (s_extract rfl rfl) ?_
     refine o_step rfl (s_assign rfl) ?_
     refine o_step rfl (s_assign rfl) ?_
     refine o_nil ?_
     refine x_then (hK7 _ _ ?_)
     refine c_seq fun _ hK14 => ?_
     refine c_seq fun _ hK15 => ?_
     refine c_region ?_
     refine o_step rfl (s_move rfl) ?_
     refine o_step rfl (s_neq_f rfl rfl (by decide)) ?_
     refine o_nil ?_
     refine x_then (hK15 _ _ ?_)
     refine c_false rfl ?_
     refine c_skip ?_
     refine x_then (hK14 _ _ ?_)
     refine c_seq fun _ hK16 => ?_
     refine c_seq fun _ hK17 => ?_
     refine c_region ?_
     refine o_step rfl (s_move rfl) ?_
     refine o_callP (rMShaped_fn am _ (mach (.nd x ks .nil)) hmk.rng) rfl rfl rfl (fun w st => (hm.rdk hiA).out w st) (fun v39 hv39 => ?_)
     rw [mokB_iff.2 hmk] at hv39
     subst hv39
     refine o_step rfl (s_not rfl) ?_
     refine o_nil ?_
     refine x_then (hK17 _ _ ?_)
     refine c_false rfl ?_
     refine c_skip ?_
     refine x_then (hK16 _ _ ?_)
     refine c_seq fun _ hK18 => ?_
     refine c_seq fun _ hK19 => ?_
     refine c_region ?_
     refine o_step rfl (s_assign rfl) ?_
     refine o_nil ?_
     refine x_then (hK19 _ _ ?_)
     refine c_block ?_
     -- not carried: 4
     refine c_loopB (fun (p : Nat) => p ≤ (w.take n).length + 1) (fun (p : Nat) => [(8, .int .i64 p)]) [(0, _), (1, _), (5, _), (6, _)] (fun (p : Nat) => S23 ++ S20) (fun (p : Nat) => (w.take n).length + 1 - p) 0 (by omega) sbA sbA hzB ?_
     rintro p hp
     refine c_seq fun _ hK20 => ?_
     refine c_seq fun _ hK21 => ?_
     refine c_region ?_
     refine o_step rfl (s_move rfl) ?_
     refine o_step rfl (s_move rfl) ?_
     refine o_step rfl (s_len rfl) ?_
     by_cases hpw : p ≤ (w.take n).length
     ·
      refine o_step rfl (step_cast (v' := .bool true) (s_leq rfl rfl) (by rw [decide_eq_true (by omega)])) ?_
      refine o_nil ?_
      refine x_then (hK21 _ _ ?_)
      refine c_true rfl ?_
      refine c_skip ?_
      refine x_then (hK20 _ _ ?_)
      refine c_seq fun _ hK22 => ?_
      refine c_block ?_
      refine c_seq fun _ hK23 => ?_
      refine c_region ?_
      refine o_step rfl (s_move rfl) ?_
      refine o_step rfl (s_move rfl) ?_
      refine o_step rfl (s_move rfl) ?_
      refine o_call (ends_fn am _ (mach (.nd x ks .nil)) hmk.rng a20 c20 (w.take n) (by omega) p) rfl rfl rfl (by exact .nil) (fun w st => ⟨(hm.rdk hiA).out w st, (hS20.rdk hiA).out w st⟩) (fun v50 S50 ⟨ae, ce, out, hv50, hE, hP⟩ => ?_)
      have hi50 := ends_isS hs.wf hmk hpw hP
      rw [← hP.1] at hv50
      subst hv50
      refine o_step rfl (s_move rfl) ?_
      refine o_step rfl (s_move rfl) ?_
      refine o_step rfl (s_move rfl) ?_
      refine o_call (takes_fn ra rc re x ks hs hre hr8 a20 c20 (w.take n) (by omega) p hpw) rfl rfl rfl (by exact .nil) (fun w st => ⟨(RdK.old0 hw.1).out w st, (hS20.rdk hiA).out w st⟩) (fun v54 S54 ⟨a54, c54, l54, hv54, hi54, hr54⟩ => ?_)
      subst hv54
      obtain rfl := hi50.eq hi54
      refine o_callP (eqBools_fn ae a54 ce c54 out out) rfl rfl rfl (fun w st => ⟨(hE.rdk hiA).out w st, (hr54.rdk hiA).out w st⟩) (fun v55 hv55 => ?_)
      rw [decide_eq_true rfl] at hv55
      subst hv55
      refine o_step rfl (s_not rfl) ?_
      refine o_nil ?_
      refine x_then (hK23 _ _ ?_)
      refine c_false rfl ?_
      refine c_skip ?_
      refine x_block ?_
      refine x_then (hK22 _ _ ?_)
      refine c_region ?_
      refine o_step rfl (s_move rfl) ?_
      refine o_step rfl (s_add rfl rfl (by omega)) ?_
      refine o_step rfl (s_assign rfl) ?_
      refine o_nil ?_
      exact x_then (x_inv (p + 1) (by omega) (by first | omega | (dsimp only; omega)) sbA hzB)
     ·
      refine o_step rfl (step_cast (v' := .bool false) (s_leq rfl rfl) (by rw [decide_eq_false (by omega)])) ?_
      refine o_nil ?_
      refine x_then (hK21 _ _ ?_)
      refine c_false rfl ?_
      refine c_exit ?_
      refine x_then_exit ?_
      refine x_then_exit ?_
      refine x_block_exit ?_
      refine x_then (hK18 _ _ ?_)
      refine c_seq fun _ hK24 => ?_
      refine c_region ?_
      refine o_step rfl (s_move rfl) ?_
      refine o_step rfl (s_assign rfl) ?_
      refine o_nil ?_
      refine x_then (hK24 _ _ ?_)
      refine c_ret ?_
      refine ?_
      exact x_ret rfl (.tmp rfl (.nil)) (rfl)
  ·
   refine o_step rfl (s_move rfl) ?_
   refine o_no rfl rfl rfl rfl ?_
   refine o_no rfl rfl rfl rfl ?_
   refine o_no rfl rfl rfl rfl ?_
   refine o_step rfl (s_pick_t rfl rfl) ?_
   refine o_nil ?_
   refine x_then (hK4 _ _ ?_)
   refine c_true rfl ?_
   refine c_seq fun _ hK25 => ?_
   refine c_region ?_
   refine o_step rfl (s_move rfl) ?_
   refine o_step rfl (s_assign rfl) ?_
   refine o_nil ?_
   refine x_then (hK25 _ _ ?_)
   refine c_ret ?_
   refine x_then_ret (?_)
   exact x_ret rfl (.tmp rfl (.nil)) (rfl)
end Go.Proofs.Ytihbhlgognpmmaa
