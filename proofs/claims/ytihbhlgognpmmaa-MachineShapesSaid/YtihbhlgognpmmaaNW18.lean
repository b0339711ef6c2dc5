/- Part of the proofs over this seat: see the text that holds the theorem. Conditions: each theorem bears its own. -/
import Derived.Test.YtihbhlgognpmmaaNW17
namespace Go.Proofs.Ytihbhlgognpmmaa
open Go Go.HL Go.Proofs Go.HL.Kl Go.HL.Kl.Mc
theorem machineShapes_fn (ra : Option Addr) (rc : Nat) (m : List In) (hmr : ∀ t ∈ m, -128 ≤ t.op ∧ t.op < 128) : HL.Fn Try.prog 4 [.slice ra m.length rc] (fun w => Rd Ein w (.slice ra m.length rc) m) [] (fun v _ => v = .bool true) := by
  refine fn_of Try.func4 rfl rfl rfl fun w0 hw => ?_
  have hsl := hw.sl
  have hbl := hsl.le
  refine c_seq fun _ hK1 => ?_
  refine c_region ?_
  refine o_step rfl (s_assign rfl) ?_
  refine o_nil ?_
  refine x_then (hK1 _ _ ?_)
  refine c_seq fun _ hK2 => ?_
  refine c_region ?_
  refine o_callP (works_fn) rfl rfl rfl (fun _ _ => trivial) (fun v6 hv6 => ?_)
  subst hv6
  refine o_step rfl (s_assign rfl) ?_
  refine o_nil ?_
  refine x_then (hK2 _ _ ?_)
  refine c_seq fun _ hK3 => ?_
  refine c_seq fun _ hK4 => ?_
  refine c_region ?_
  refine o_step rfl (s_move rfl) ?_
  refine o_step rfl (s_len rfl) ?_
  refine o_callP (long_fn m.length) rfl rfl rfl (fun _ _ => trivial) (fun v9 hv9 => ?_)
  subst hv9
  refine o_nil ?_
  refine x_then (hK4 _ _ ?_)
  refine c_if rfl (fun hlong => ?_) (fun hlong => ?_)
  ·
   refine c_seq fun _ hK5 => ?_
   refine c_region ?_
   refine o_step rfl (s_move rfl) ?_
   refine o_step rfl (s_assign rfl) ?_
   refine o_nil ?_
   refine x_then (hK5 _ _ ?_)
   refine c_ret ?_
   refine x_then_ret (?_)
   exact x_ret rfl (.tmp rfl (.nil)) (rfl)
  ·
   refine c_skip ?_
   refine x_then (hK3 _ _ ?_)
   refine c_seq fun _ hK6 => ?_
   refine c_region ?_
   refine o_step rfl (s_move rfl) ?_
   refine o_call (wideIn_fn ra rc m (by omega)) rfl rfl rfl (by exact .nil) (fun w st => (RdK.old0 hw).out w st) (fun v12 S12 ⟨ax, hv12, hS12⟩ => ?_)
   subst hv12
   have hin := hS12.pre m.length (by rw [wdl_len]; omega)
   rw [wdl_take] at hin
   refine o_step rfl (s_assign rfl) ?_
   refine o_nil ?_
   refine x_then (hK6 _ _ ?_)
   refine c_seq fun _ hK7 => ?_
   refine c_region ?_
   refine o_step rfl (s_move rfl) ?_
   refine o_callP (mShaped_fn ax _ m) rfl rfl rfl (fun w st => (hin.rdk hiA).out w st) (fun v14 hv14 => ?_)
   subst hv14
   refine o_step rfl (s_assign rfl) ?_
   refine o_nil ?_
   refine x_then (hK7 _ _ ?_)
   refine c_seq fun _ hK8 => ?_
   refine c_region ?_
   refine o_step rfl (s_move rfl) ?_
   refine o_step rfl (s_move rfl) ?_
   refine o_yes rfl rfl ?_
   refine o_step rfl (s_move rfl) ?_
   refine o_yes rfl rfl ?_
   refine o_step rfl (s_move rfl) ?_
   refine o_yes rfl rfl ?_
   refine o_callP (rMShaped_fn ra rc m hmr) rfl rfl rfl (fun w st => (RdK.old0 hw).out w st) (fun v19 hv19 => ?_)
   subst hv19
   refine o_yes rfl rfl ?_
   refine o_step rfl (step_cast (v' := .bool true) (s_eql_bool rfl rfl) (by rw [decide_eq_true rfl])) ?_
   refine o_step rfl (s_pick_t rfl rfl) ?_
   refine o_step rfl (s_move rfl) ?_
   refine o_yes rfl rfl ?_
   refine o_step rfl (s_move rfl) ?_
   refine o_yes rfl rfl ?_
   refine o_step rfl (s_move rfl) ?_
   refine o_yes rfl rfl ?_
   refine o_callP (eqIn_fn ax ra _ rc m m) rfl rfl rfl (fun w st => ⟨(hin.rdk hiA).out w st, (RdK.old0 hw).out w st⟩) (fun v25 hv25 => ?_)
   rw [decide_eq_true rfl] at hv25
   subst hv25
   refine o_step rfl (s_pick_t rfl rfl) ?_
   refine o_step rfl (s_move rfl) ?_
   refine o_yes rfl rfl ?_
   refine o_step rfl (s_move rfl) ?_
   refine o_yes rfl rfl ?_
   refine o_callP (spareIn_fn ax _ m (by omega)) rfl rfl rfl (fun w st => (hS12.rdk hiA).out w st) (fun v29 hv29 => ?_)
   subst hv29
   refine o_step rfl (s_pick_t rfl rfl) ?_
   refine o_step rfl (s_assign rfl) ?_
   refine o_nil ?_
   refine x_then (hK8 _ _ ?_)
   refine c_ret ?_
   refine ?_
   exact x_ret rfl (.tmp rfl (.nil)) (rfl)
end Go.Proofs.Ytihbhlgognpmmaa
