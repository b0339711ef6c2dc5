/- Part of the proofs over this seat: see the text that holds the theorem. Conditions: each theorem bears its own. -/
import Derived.Test.YtihbhlgognpmmaaNW16
import Derived.Test.YtihbhlgognpmmaaNW15
import Derived.Test.YtihbhlgognpmmaaNW10
import Derived.Test.YtihbhlgognpmmaaNW12
import Derived.Test.YtihbhlgognpmmaaMT19
namespace Go.Proofs.Ytihbhlgognpmmaa
open Go Go.HL Go.Proofs Go.HL.Kl Go.HL.Kl.Mc
set_option maxHeartbeats 1000000 in
theorem works_fn  : HL.Fn Try.prog 7 [] (fun _ => True) [] (fun v _ => v = .bool true) := by
  refine fn_of Try.func7 rfl rfl rfl fun w0 hw => ?_
  refine c_seq fun _ hK1 => ?_
  refine c_region ?_
  refine o_step rfl (s_assign rfl) ?_
  refine o_nil ?_
  refine x_then (hK1 _ _ ?_)
  refine c_seq fun _ hK2 => ?_
  refine c_region ?_
  refine o_step rfl (step_cast (v' := .agg (En starN).toArray) (s_build (cs := [_, _, _, _, _, _, _, _, _]) (vs := [_, _, _]) rfl rfl (.cons rfl rfl rfl rfl rfl (.cons rfl rfl rfl rfl rfl (.cons rfl rfl rfl rfl rfl .nil)))) (by rw [En_star])) ?_
  refine o_callP (letter_fn 97) rfl rfl rfl (fun _ _ => trivial) (fun v6 hv6 => ?_)
  subst hv6
  refine o_bs (E := En) (xs := [starN, letN 97]) (vs := [_, _]) rfl rfl rfl rfl rfl (by decide) (by decide) fun b7 S7 hS7 => ?_
  refine o_call (compile_fn (some ⟨b7, 0, none⟩) 2 reW reW_rng) rfl rfl rfl (by exact .nil) (fun w st => (hS7.rdk hiA).out w st) (fun v8 S8 hv8 => ?_)
  obtain ⟨am, rfl, hm⟩ := compW hv8
  refine o_step rfl (s_move rfl) ?_
  refine o_step rfl (s_extract rfl rfl) ?_
  refine o_step rfl (s_extract rfl rfl) ?_
  refine o_step rfl (s_assign rfl) ?_
  refine o_step rfl (s_assign rfl) ?_
  refine o_nil ?_
  refine x_then (hK2 _ _ ?_)
  refine c_seq fun _ hK3 => ?_
  refine c_seq fun _ hK4 => ?_
  refine c_region ?_
  refine o_step rfl (s_move rfl) ?_
  refine o_step rfl (s_neq_f rfl rfl (by decide)) ?_
  refine o_step rfl (s_move rfl) ?_
  refine o_yes rfl rfl ?_
  refine o_step rfl (s_move rfl) ?_
  refine o_yes rfl rfl ?_
  refine o_callP (mShaped_fn am mW.length mW) rfl rfl rfl (fun w st => (hm.rdk hiA).out w st) (fun v15 hv15 => ?_)
  rw [mokB_iff.2 mokW] at hv15
  subst hv15
  refine o_yes rfl rfl ?_
  refine o_step rfl (s_not rfl) ?_
  refine o_step rfl (s_pick_f rfl rfl) ?_
  refine o_step rfl (s_move rfl) ?_
  refine o_yes rfl rfl ?_
  refine o_step rfl (s_move rfl) ?_
  refine o_yes rfl rfl ?_
  refine o_callP (rMShaped_fn am mW.length mW mokW.rng) rfl rfl rfl (fun w st => (hm.rdk hiA).out w st) (fun v20 hv20 => ?_)
  rw [mokB_iff.2 mokW] at hv20
  subst hv20
  refine o_yes rfl rfl ?_
  refine o_step rfl (s_not rfl) ?_
  refine o_step rfl (s_pick_f rfl rfl) ?_
  refine o_nil ?_
  refine x_then (hK4 _ _ ?_)
  refine c_false rfl ?_
  refine c_skip ?_
  refine x_then (hK3 _ _ ?_)
  refine c_seq fun _ hK5 => ?_
  refine c_region ?_
  refine o_step rfl (s_move rfl) ?_
  refine o_bs (E := Eb) (xs := [97, 97, 98]) (vs := [_, _, _]) rfl rfl rfl rfl rfl (by decide) (by decide) fun b24 S24 hS24 => ?_
  refine o_conv_same rfl hS24 pkA rfl fun S25 hS25 => ?_
  refine o_call (ends_fn am mW.length mW mokW.rng (some ⟨b24, 0, none⟩) 3 wW (by decide) 0) rfl rfl rfl (by exact .nil) (fun w st => ⟨(hm.rdk hiA).out w st, (hS25.rdk hiA).out w st⟩) (fun v26 S26 ⟨ae, ce, out, hv26, hE, hP⟩ => ?_)
  subst hv26
  obtain ⟨e0, e1, e2, e3⟩ := endsW hP
  have hEs := hE.sl
  rw [hP.1] at hEs
  refine o_step rfl (s_assign rfl) ?_
  refine o_nil ?_
  refine x_then (hK5 _ _ ?_)
  refine c_seq fun _ hK6 => ?_
  refine c_region ?_
  refine o_step rfl (s_move rfl) ?_
  refine o_step rfl (s_idx rfl rfl hEs (by decide)) ?_
  refine o_step rfl (step_cast (v' := .bool true) (s_ld rfl ((hE.rdk hiA).ld 0 0 e0 rfl (by decide) rfl)) rfl) ?_
  refine o_step rfl (s_move rfl) ?_
  refine o_yes rfl rfl ?_
  refine o_step rfl (s_move rfl) ?_
  refine o_yes rfl rfl ?_
  refine o_step rfl (s_idx rfl rfl hEs (by decide)) ?_
  refine o_yes rfl rfl ?_
  refine o_step rfl (step_cast (v' := .bool true) (s_ld rfl ((hE.rdk hiA).ld 1 0 e1 rfl (by decide) rfl)) rfl) ?_
  refine o_step rfl (s_pick_t rfl rfl) ?_
  refine o_step rfl (s_move rfl) ?_
  refine o_yes rfl rfl ?_
  refine o_step rfl (s_move rfl) ?_
  refine o_yes rfl rfl ?_
  refine o_step rfl (s_idx rfl rfl hEs (by decide)) ?_
  refine o_yes rfl rfl ?_
  refine o_step rfl (step_cast (v' := .bool true) (s_ld rfl ((hE.rdk hiA).ld 2 0 e2 rfl (by decide) rfl)) rfl) ?_
  refine o_step rfl (s_pick_t rfl rfl) ?_
  refine o_step rfl (s_move rfl) ?_
  refine o_yes rfl rfl ?_
  refine o_step rfl (s_move rfl) ?_
  refine o_yes rfl rfl ?_
  refine o_step rfl (s_idx rfl rfl hEs (by decide)) ?_
  refine o_yes rfl rfl ?_
  refine o_step rfl (step_cast (v' := .bool false) (s_ld rfl ((hE.rdk hiA).ld 3 0 e3 rfl (by decide) rfl)) rfl) ?_
  refine o_yes rfl rfl ?_
  refine o_step rfl (s_not rfl) ?_
  refine o_step rfl (s_pick_t rfl rfl) ?_
  refine o_step rfl (s_assign rfl) ?_
  refine o_nil ?_
  refine x_then (hK6 _ _ ?_)
  refine c_ret ?_
  refine ?_
  exact x_ret rfl (.tmp rfl (.nil)) (rfl)
end Go.Proofs.Ytihbhlgognpmmaa
