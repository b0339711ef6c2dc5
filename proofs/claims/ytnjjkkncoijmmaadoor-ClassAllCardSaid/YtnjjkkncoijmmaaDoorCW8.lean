/- Part of the proofs over this seat: see the text that holds the theorem. Conditions: each theorem bears its own. -/
import Derived.Test.YtnjjkkncoijmmaaDoorCW7
import Derived.Test.YtnjjkkncoijmmaaDoorMC11
namespace Go.Proofs.YtnjjkkncoijmmaaDoor
open Go Go.HL Go.Proofs Go.HL.Kl
theorem has97 : HL.Fn Tryd.prog 21 [.agg (Ec wK).toArray, .int .u8 97] (fun _ => True) [] (fun v _ => v = .bool true) := (has_fn wK 97 (by decide)).weaken (fun _ h => h) fun _ _ h => h.trans (congrArg Value.bool wK97)
theorem has98 : HL.Fn Tryd.prog 21 [.agg (Ec wK).toArray, .int .u8 98] (fun _ => True) [] (fun v _ => v = .bool false) := (has_fn wK 98 (by decide)).weaken (fun _ h => h) fun _ _ h => h.trans (congrArg Value.bool wK98)
theorem size2 : HL.Fn Tryd.prog 29 [.agg (Ec wK).toArray] (fun _ => True) [] (fun v _ => v = .int .i64 2) := (size_fn wK).weaken (fun _ h => h) fun _ _ h => h.trans (by rw [wKsize]; rfl)

theorem works_fn  : HL.Fn Tryd.prog 12 [] (Tb []) [] (fun v _ => v = .bool true) := by
  refine fn_of Tryd.func12 rfl rfl rfl fun w0 hw => ?_
  refine c_seq fun _ hK1 => ?_
  refine c_region ?_
  refine o_step rfl (s_assign rfl) ?_
  refine o_nil ?_
  refine x_then (hK1 _ _ ?_)
  refine c_seq fun _ hK2 => ?_
  refine c_region ?_
  refine o_bs (E := Eb) (xs := [97, 99]) (vs := [_, _]) rfl rfl rfl rfl rfl (by decide) (by decide) fun b4 S4 hS4 => ?_
  refine o_callP (of_fn _ _ [97, 99]) rfl rfl rfl (fun w st => (hS4.rdk (by repeat (first | exact HIn.here | exact HIn.all | exact HIn.one | apply HIn.cons | apply HIn.assoc | apply HIn.app))).out w st) (fun v5 hv5 => ?_)
  subst hv5
  rw [show ofL [97, 99] = wK from rfl]
  refine o_alloc (l := Ec 0#256) (by rw [Ec_zero]; rfl) rfl fun b1 => ?_
  refine o_stW rfl rfl (by repeat (first | exact .here | apply Upd.there | apply Upd.assoc | apply Upd.skip)) (by first | (rw [flat_len, Nat.mul_one]; first | assumption | exact List.length_replicate) | exact List.length_replicate | rfl) (by first | (rw [flat_len, Nat.mul_one]; first | assumption | exact List.length_replicate) | exact List.length_replicate | rfl) (by first | exact Ec_one _ | exact flat_one _ _ | exact one_rep rfl | (simp [Value.oneCell']; done)) ?_
  refine o_nil ?_
  refine x_then (hK2 _ _ ?_)
  refine c_seq fun _ hK3 => ?_
  refine c_region ?_
  refine o_step rfl (s_ldB rfl (RdPK.cels (.own (by repeat (first | exact List.mem_cons_self | apply List.mem_cons_of_mem | apply mem_assoc | apply mem_app)))) (by first | (rw [flat_len, Nat.mul_one]; first | assumption | exact List.length_replicate) | exact List.length_replicate | rfl)) ?_
  refine o_call (runs_fn wK) rfl rfl rfl (by exact .nil) (fun w st => tb_of hw st HSub.nil) (fun v7 S7 ⟨a7, n7, hv7, hS7⟩ => ?_)
  subst hv7
  have hsl7 := hS7.sl
  refine o_step rfl (s_assign rfl) ?_
  refine o_nil ?_
  refine x_then (hK3 _ _ ?_)
  refine c_seq fun _ hK4 => ?_
  refine c_region ?_
  refine o_step rfl (s_ldB rfl (RdPK.cels (.own (by repeat (first | exact List.mem_cons_self | apply List.mem_cons_of_mem | apply mem_assoc | apply mem_app)))) (by first | (rw [flat_len, Nat.mul_one]; first | assumption | exact List.length_replicate) | exact List.length_replicate | rfl)) ?_
  refine o_bs (E := Ec) (xs := [wK]) (vs := [_]) rfl rfl rfl rfl rfl (by decide) (by decide) fun b9 S9 hS9 => ?_
  refine o_call (atoms_fn _ _ [wK]) rfl rfl rfl (by exact .nil) (fun w st => ⟨(hS9.rdk (by repeat (first | exact HIn.here | exact HIn.all | exact HIn.one | apply HIn.cons | apply HIn.assoc | apply HIn.app))).out w st, tb_of hw st HSub.nil⟩) (fun v10 S10 ⟨a10, n10, hv10, hS10⟩ => ?_)
  subst hv10
  have hsl10 := hS10.sl
  refine o_step rfl (s_assign rfl) ?_
  refine o_nil ?_
  refine x_then (hK4 _ _ ?_)
  refine c_seq fun _ hK5 => ?_
  refine c_quiet (by kernel_rfl) ?_
  refine .op rfl (s_ldB rfl (RdPK.cels (.own (by repeat (first | exact List.mem_cons_self | apply List.mem_cons_of_mem | apply mem_assoc | apply mem_app)))) (by first | (rw [flat_len, Nat.mul_one]; first | assumption | exact List.length_replicate) | exact List.length_replicate | rfl)) ?_
  refine .call (fun _ _ => rfl) rfl rfl rfl (has97) (fun _ _ => trivial) ?_
  refine .op rfl (s_move rfl) ?_
  refine .yes rfl rfl rfl (s_ldB rfl (RdPK.cels (.own (by repeat (first | exact List.mem_cons_self | apply List.mem_cons_of_mem | apply mem_assoc | apply mem_app)))) (by first | (rw [flat_len, Nat.mul_one]; first | assumption | exact List.length_replicate) | exact List.length_replicate | rfl)) ?_
  refine .call (fun _ fr => by rw [wanted_of fr rfl rfl rfl]; rfl) rfl rfl rfl (has98) (fun _ _ => trivial) ?_
  refine .yes rfl rfl rfl (s_not rfl) ?_
  refine .op rfl (s_pick_t rfl rfl) ?_
  refine .op rfl (s_move rfl) ?_
  refine .yes rfl rfl rfl (s_ldB rfl (RdPK.cels (.own (by repeat (first | exact List.mem_cons_self | apply List.mem_cons_of_mem | apply mem_assoc | apply mem_app)))) (by first | (rw [flat_len, Nat.mul_one]; first | assumption | exact List.length_replicate) | exact List.length_replicate | rfl)) ?_
  refine .call (fun _ fr => by rw [wanted_of fr rfl rfl rfl]; rfl) rfl rfl rfl (size2) (fun _ _ => trivial) ?_
  refine .yes rfl rfl rfl (s_eql_t rfl rfl (by omega)) ?_
  refine .op rfl (s_pick_t rfl rfl) ?_
  refine .op rfl (s_move rfl) ?_
  refine .yes rfl rfl rfl (s_move rfl) ?_
  refine .yes rfl rfl rfl (step_cast (v' := .int .i64 2) (s_len rfl) (by rw [wKruns]; rfl)) ?_
  refine .yes rfl rfl rfl (s_eql_t rfl rfl (by omega)) ?_
  refine .op rfl (s_pick_t rfl rfl) ?_
  refine .op rfl (s_move rfl) ?_
  refine .yes rfl rfl rfl (s_move rfl) ?_
  refine .yes rfl rfl rfl (s_idx rfl rfl hsl7 (by rw [wKruns]; decide)) ?_
  refine .yes rfl rfl rfl (s_ldB rfl ((hS7.rdk (by repeat (first | exact HIn.here | exact HIn.all | exact HIn.one | apply HIn.cons | apply HIn.assoc | apply HIn.app))).lds 1 (e := (99, 99)) (by rw [wKruns]; rfl) (by omega)) rfl) ?_
  refine .yes rfl rfl rfl (s_build (cs := [_, _]) (vs := [_, _]) rfl rfl (.cons rfl rfl rfl rfl rfl (.cons rfl rfl rfl rfl rfl (.nil)))) ?_
  refine .yes rfl rfl rfl (step_cast (v' := .bool true) (s_eql_st2 rfl rfl) rfl) ?_
  refine .op rfl (s_pick_t rfl rfl) ?_
  refine .op rfl (s_move rfl) ?_
  refine .yes rfl rfl rfl (s_move rfl) ?_
  refine .yes rfl rfl rfl (step_cast (v' := .int .i64 2) (s_len rfl) (by rw [wKatoms]; rfl)) ?_
  refine .yes rfl rfl rfl (s_eql_t rfl rfl (by omega)) ?_
  refine .op rfl (s_pick_t rfl rfl) ?_
  refine .op rfl (s_move rfl) ?_
  refine .yes rfl rfl rfl (s_move rfl) ?_
  refine .yes rfl rfl rfl (s_idx rfl rfl hsl10 (by rw [wKatoms]; decide)) ?_
  refine .yes rfl rfl rfl (s_ldB rfl ((hS10.rdk (by repeat (first | exact HIn.here | exact HIn.all | exact HIn.one | apply HIn.cons | apply HIn.assoc | apply HIn.app))).lds 1 (e := wK) (by rw [wKatoms]; rfl) (by omega)) rfl) ?_
  refine .yes rfl rfl rfl (s_ldB rfl (RdPK.cels (.own (by repeat (first | exact List.mem_cons_self | apply List.mem_cons_of_mem | apply mem_assoc | apply mem_app)))) (by first | (rw [flat_len, Nat.mul_one]; first | assumption | exact List.length_replicate) | exact List.length_replicate | rfl)) ?_
  refine .yes rfl rfl rfl (step_cast (v' := .bool true) (s_eql_cl rfl rfl) (congrArg Value.bool (decide_eq_true rfl))) ?_
  refine .op rfl (s_pick_t rfl rfl) ?_
  refine .op rfl (s_assign rfl) ?_
  refine .nil ?_
  refine x_then (hK5 _ _ ?_)
  refine c_ret ?_
  refine ?_
  exact x_ret rfl (.tmp rfl (.nil)) (rfl)
end Go.Proofs.YtnjjkkncoijmmaaDoor
