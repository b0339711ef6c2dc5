/- Part of the proofs over this seat: see the text that holds the theorem. Conditions: each theorem bears its own. -/
import Derived.Test.YtnjjkkncoijmmaaDoorCW8
import Derived.Test.YtnjjkkncoijmmaaDoorMC12
namespace Go.Proofs.YtnjjkkncoijmmaaDoor
open Go Go.HL Go.Proofs Go.HL.Kl
theorem classSets_fn (a b : Cl) (x : Nat) (hx : x < 256) : HL.Fn Tryd.prog 6 [.agg (Ec a).toArray, .agg (Ec b).toArray, .int .u8 x] (Tb []) [] (fun v _ => v = .bool true) := by
  refine fn_of Tryd.func6 rfl rfl rfl fun w0 hw => ?_
  refine c_seq fun _ hK1 => ?_
  refine c_region ?_
  refine o_box rfl rfl rfl fun b3 => ?_
  refine o_box rfl rfl rfl fun b4 => ?_
  refine o_step rfl (s_assign rfl) ?_
  refine o_nil ?_
  refine x_then (hK1 _ _ ?_)
  refine c_seq fun _ hK2 => ?_
  refine c_region ?_
  refine o_callP (works_fn) rfl rfl rfl (fun w st => tb_of hw st HSub.nil) (fun v10 hv10 => ?_)
  subst hv10
  refine o_step rfl (s_assign rfl) ?_
  refine o_nil ?_
  refine x_then (hK2 _ _ ?_)
  refine c_seq fun _ hK3 => ?_
  refine c_quiet (by kernel_rfl) ?_
  refine .op rfl (s_ldB rfl (RdPK.cels (.own (by repeat (first | exact List.mem_cons_self | apply List.mem_cons_of_mem | apply mem_assoc | apply mem_app)))) (by first | (rw [flat_len, Nat.mul_one]; first | assumption | exact List.length_replicate) | exact List.length_replicate | rfl)) ?_
  refine .op rfl (s_move rfl) ?_
  refine .call (fun _ _ => rfl) rfl rfl rfl (has_fn _ _ hx) (fun _ _ => trivial) ?_
  refine .op rfl (s_ldB rfl (RdPK.cels (.own (by repeat (first | exact List.mem_cons_self | apply List.mem_cons_of_mem | apply mem_assoc | apply mem_app)))) (by first | (rw [flat_len, Nat.mul_one]; first | assumption | exact List.length_replicate) | exact List.length_replicate | rfl)) ?_
  refine .op rfl (s_move rfl) ?_
  refine .call (fun _ _ => rfl) rfl rfl rfl (rHas_fn _ _ hx) (fun _ _ => trivial) ?_
  refine .op rfl (step_cast (v' := .bool true) (s_eql_bool rfl rfl) (congrArg Value.bool (decide_eq_true rfl))) ?_
  refine .op rfl (s_assign rfl) ?_
  refine .nil ?_
  refine x_then (hK3 _ _ ?_)
  refine c_seq fun _ hK4 => ?_
  refine c_quiet (by kernel_rfl) ?_
  refine .op rfl (s_ldB rfl (RdPK.cels (.own (by repeat (first | exact List.mem_cons_self | apply List.mem_cons_of_mem | apply mem_assoc | apply mem_app)))) (by first | (rw [flat_len, Nat.mul_one]; first | assumption | exact List.length_replicate) | exact List.length_replicate | rfl)) ?_
  refine .op rfl (s_ldB rfl (RdPK.cels (.own (by repeat (first | exact List.mem_cons_self | apply List.mem_cons_of_mem | apply mem_assoc | apply mem_app)))) (by first | (rw [flat_len, Nat.mul_one]; first | assumption | exact List.length_replicate) | exact List.length_replicate | rfl)) ?_
  refine .call (fun _ _ => rfl) rfl rfl rfl (or_fn _ _) (fun _ _ => trivial) ?_
  refine .op rfl (s_ldB rfl (RdPK.cels (.own (by repeat (first | exact List.mem_cons_self | apply List.mem_cons_of_mem | apply mem_assoc | apply mem_app)))) (by first | (rw [flat_len, Nat.mul_one]; first | assumption | exact List.length_replicate) | exact List.length_replicate | rfl)) ?_
  refine .op rfl (s_ldB rfl (RdPK.cels (.own (by repeat (first | exact List.mem_cons_self | apply List.mem_cons_of_mem | apply mem_assoc | apply mem_app)))) (by first | (rw [flat_len, Nat.mul_one]; first | assumption | exact List.length_replicate) | exact List.length_replicate | rfl)) ?_
  refine .call (fun _ _ => rfl) rfl rfl rfl (rOr_fn _ _) (fun _ _ => trivial) ?_
  refine .op rfl (step_cast (v' := .bool true) (s_eql_cl rfl rfl) (congrArg Value.bool (decide_eq_true rfl))) ?_
  refine .op rfl (s_move rfl) ?_
  refine .yes rfl rfl rfl (s_ldB rfl (RdPK.cels (.own (by repeat (first | exact List.mem_cons_self | apply List.mem_cons_of_mem | apply mem_assoc | apply mem_app)))) (by first | (rw [flat_len, Nat.mul_one]; first | assumption | exact List.length_replicate) | exact List.length_replicate | rfl)) ?_
  refine .yes rfl rfl rfl (s_ldB rfl (RdPK.cels (.own (by repeat (first | exact List.mem_cons_self | apply List.mem_cons_of_mem | apply mem_assoc | apply mem_app)))) (by first | (rw [flat_len, Nat.mul_one]; first | assumption | exact List.length_replicate) | exact List.length_replicate | rfl)) ?_
  refine .call (fun _ fr => by rw [wanted_of fr rfl rfl rfl]; rfl) rfl rfl rfl (and_fn _ _) (fun _ _ => trivial) ?_
  refine .yes rfl rfl rfl (s_ldB rfl (RdPK.cels (.own (by repeat (first | exact List.mem_cons_self | apply List.mem_cons_of_mem | apply mem_assoc | apply mem_app)))) (by first | (rw [flat_len, Nat.mul_one]; first | assumption | exact List.length_replicate) | exact List.length_replicate | rfl)) ?_
  refine .yes rfl rfl rfl (s_ldB rfl (RdPK.cels (.own (by repeat (first | exact List.mem_cons_self | apply List.mem_cons_of_mem | apply mem_assoc | apply mem_app)))) (by first | (rw [flat_len, Nat.mul_one]; first | assumption | exact List.length_replicate) | exact List.length_replicate | rfl)) ?_
  refine .call (fun _ fr => by rw [wanted_of fr rfl rfl rfl]; rfl) rfl rfl rfl (rAnd_fn _ _) (fun _ _ => trivial) ?_
  refine .yes rfl rfl rfl (step_cast (v' := .bool true) (s_eql_cl rfl rfl) (congrArg Value.bool (decide_eq_true rfl))) ?_
  refine .op rfl (s_pick_t rfl rfl) ?_
  refine .op rfl (s_assign rfl) ?_
  refine .nil ?_
  refine x_then (hK4 _ _ ?_)
  refine c_seq fun _ hK5 => ?_
  refine c_quiet (by kernel_rfl) ?_
  refine .op rfl (s_move rfl) ?_
  refine .op rfl (s_move rfl) ?_
  refine .yes rfl rfl rfl (s_move rfl) ?_
  refine .op rfl (s_pick_t rfl rfl) ?_
  refine .op rfl (s_move rfl) ?_
  refine .yes rfl rfl rfl (s_move rfl) ?_
  refine .op rfl (s_pick_t rfl rfl) ?_
  refine .op rfl (s_move rfl) ?_
  refine .yes rfl rfl rfl (s_ldB rfl (RdPK.cels (.own (by repeat (first | exact List.mem_cons_self | apply List.mem_cons_of_mem | apply mem_assoc | apply mem_app)))) (by first | (rw [flat_len, Nat.mul_one]; first | assumption | exact List.length_replicate) | exact List.length_replicate | rfl)) ?_
  refine .call (fun _ fr => by rw [wanted_of fr rfl rfl rfl]; rfl) rfl rfl rfl (not_fn _) (fun _ _ => trivial) ?_
  refine .yes rfl rfl rfl (s_ldB rfl (RdPK.cels (.own (by repeat (first | exact List.mem_cons_self | apply List.mem_cons_of_mem | apply mem_assoc | apply mem_app)))) (by first | (rw [flat_len, Nat.mul_one]; first | assumption | exact List.length_replicate) | exact List.length_replicate | rfl)) ?_
  refine .call (fun _ fr => by rw [wanted_of fr rfl rfl rfl]; rfl) rfl rfl rfl (rNot_fn _) (fun _ _ => trivial) ?_
  refine .yes rfl rfl rfl (step_cast (v' := .bool true) (s_eql_cl rfl rfl) (congrArg Value.bool (decide_eq_true rfl))) ?_
  refine .op rfl (s_pick_t rfl rfl) ?_
  refine .op rfl (s_move rfl) ?_
  refine .yes rfl rfl rfl (s_ldB rfl (RdPK.cels (.own (by repeat (first | exact List.mem_cons_self | apply List.mem_cons_of_mem | apply mem_assoc | apply mem_app)))) (by first | (rw [flat_len, Nat.mul_one]; first | assumption | exact List.length_replicate) | exact List.length_replicate | rfl)) ?_
  refine .call (fun _ fr => by rw [wanted_of fr rfl rfl rfl]; rfl) rfl rfl rfl (size_fn _) (fun _ _ => trivial) ?_
  refine .yes rfl rfl rfl (s_ldB rfl (RdPK.cels (.own (by repeat (first | exact List.mem_cons_self | apply List.mem_cons_of_mem | apply mem_assoc | apply mem_app)))) (by first | (rw [flat_len, Nat.mul_one]; first | assumption | exact List.length_replicate) | exact List.length_replicate | rfl)) ?_
  refine .call (fun _ fr => by rw [wanted_of fr rfl rfl rfl]; rfl) rfl rfl rfl (rSize_fn _) (fun _ _ => trivial) ?_
  refine .yes rfl rfl rfl (step_cast (v' := .bool true) (s_eql rfl rfl) (congrArg Value.bool (decide_eq_true rfl))) ?_
  refine .op rfl (s_pick_t rfl rfl) ?_
  refine .op rfl (s_assign rfl) ?_
  refine .nil ?_
  refine x_then (hK5 _ _ ?_)
  refine c_ret ?_
  refine ?_
  exact x_ret rfl (.tmp rfl (.nil)) (rfl)

theorem classAlgebra_fn (a b c : Cl) : HL.Fn Tryd.prog 7 [.agg (Ec a).toArray, .agg (Ec b).toArray, .agg (Ec c).toArray] (Tb []) [] (fun v _ => v = .bool true) := by
  refine fn_of Tryd.func7 rfl rfl rfl fun w0 hw => ?_
  have hsa := sizeTo_le (a ||| b) 256
  have hsb := sizeTo_le (a &&& b) 256
  have hsc := sizeTo_le a 256
  have hsd := sizeTo_le b 256
  have hse := sizeTo_le (~~~a) 256
  change size _ ≤ 256 at hsa hsb hsc hsd hse
  refine c_seq fun _ hK1 => ?_
  refine c_region ?_
  refine o_box rfl rfl rfl fun b3 => ?_
  refine o_box rfl rfl rfl fun b4 => ?_
  refine o_box rfl rfl rfl fun b5 => ?_
  refine o_step rfl (s_assign rfl) ?_
  refine o_nil ?_
  refine x_then (hK1 _ _ ?_)
  refine c_seq fun _ hK2 => ?_
  refine c_region ?_
  refine o_callP (works_fn) rfl rfl rfl (fun w st => tb_of hw st HSub.nil) (fun v14 hv14 => ?_)
  subst hv14
  refine o_step rfl (s_assign rfl) ?_
  refine o_nil ?_
  refine x_then (hK2 _ _ ?_)
  refine c_seq fun _ hK3 => ?_
  refine c_region ?_
  refine o_step rfl (step_cast (v' := .agg (Ec 0#256).toArray) (s_build0 rfl) (by rw [Ec_zero]; rfl)) ?_
  refine o_alloc (l := Ec 0#256) (by rw [Ec_zero]; rfl) rfl fun b8 => ?_
  refine o_stW rfl rfl (by repeat (first | exact .here | apply Upd.there | apply Upd.assoc | apply Upd.skip)) (by first | (rw [flat_len, Nat.mul_one]; first | assumption | exact List.length_replicate) | exact List.length_replicate | rfl) (by first | (rw [flat_len, Nat.mul_one]; first | assumption | exact List.length_replicate) | exact List.length_replicate | rfl) (by first | exact Ec_one _ | exact flat_one _ _ | exact one_rep rfl | (simp [Value.oneCell']; done)) ?_
  refine o_nil ?_
  refine x_then (hK3 _ _ ?_)
  refine c_seq fun _ hK4 => ?_
  refine c_region ?_
  refine o_callP (range_fn 0 255 (by decide) (by decide)) rfl rfl rfl (fun _ _ => trivial) (fun v16 hv16 => ?_)
  subst hv16
  refine o_alloc (l := Ec 0#256) (by rw [Ec_zero]; rfl) rfl fun b9 => ?_
  refine o_stW rfl rfl (by repeat (first | exact .here | apply Upd.there | apply Upd.assoc | apply Upd.skip)) (by first | (rw [flat_len, Nat.mul_one]; first | assumption | exact List.length_replicate) | exact List.length_replicate | rfl) (by first | (rw [flat_len, Nat.mul_one]; first | assumption | exact List.length_replicate) | exact List.length_replicate | rfl) (by first | exact Ec_one _ | exact flat_one _ _ | exact one_rep rfl | (simp [Value.oneCell']; done)) ?_
  refine o_nil ?_
  refine x_then (hK4 _ _ ?_)
  refine c_seq fun _ hK5 => ?_
  refine c_quiet (by kernel_rfl) ?_
  refine .op rfl (s_ldB rfl (RdPK.cels (.own (by repeat (first | exact List.mem_cons_self | apply List.mem_cons_of_mem | apply mem_assoc | apply mem_app)))) (by first | (rw [flat_len, Nat.mul_one]; first | assumption | exact List.length_replicate) | exact List.length_replicate | rfl)) ?_
  refine .op rfl (s_ldB rfl (RdPK.cels (.own (by repeat (first | exact List.mem_cons_self | apply List.mem_cons_of_mem | apply mem_assoc | apply mem_app)))) (by first | (rw [flat_len, Nat.mul_one]; first | assumption | exact List.length_replicate) | exact List.length_replicate | rfl)) ?_
  refine .call (fun _ _ => rfl) rfl rfl rfl (or_fn _ _) (fun _ _ => trivial) ?_
  refine .call (fun _ _ => rfl) rfl rfl rfl (not_fn _) (fun _ _ => trivial) ?_
  refine .op rfl (s_ldB rfl (RdPK.cels (.own (by repeat (first | exact List.mem_cons_self | apply List.mem_cons_of_mem | apply mem_assoc | apply mem_app)))) (by first | (rw [flat_len, Nat.mul_one]; first | assumption | exact List.length_replicate) | exact List.length_replicate | rfl)) ?_
  refine .call (fun _ _ => rfl) rfl rfl rfl (not_fn _) (fun _ _ => trivial) ?_
  refine .op rfl (s_ldB rfl (RdPK.cels (.own (by repeat (first | exact List.mem_cons_self | apply List.mem_cons_of_mem | apply mem_assoc | apply mem_app)))) (by first | (rw [flat_len, Nat.mul_one]; first | assumption | exact List.length_replicate) | exact List.length_replicate | rfl)) ?_
  refine .call (fun _ _ => rfl) rfl rfl rfl (not_fn _) (fun _ _ => trivial) ?_
  refine .call (fun _ _ => rfl) rfl rfl rfl (and_fn _ _) (fun _ _ => trivial) ?_
  refine .op rfl (step_cast (v' := .bool true) (s_eql_cl rfl rfl) (congrArg Value.bool (decide_eq_true (not_or a b)))) ?_
  refine .op rfl (s_move rfl) ?_
  refine .yes rfl rfl rfl (s_ldB rfl (RdPK.cels (.own (by repeat (first | exact List.mem_cons_self | apply List.mem_cons_of_mem | apply mem_assoc | apply mem_app)))) (by first | (rw [flat_len, Nat.mul_one]; first | assumption | exact List.length_replicate) | exact List.length_replicate | rfl)) ?_
  refine .call (fun _ fr => by rw [wanted_of fr rfl rfl rfl]; rfl) rfl rfl rfl (not_fn _) (fun _ _ => trivial) ?_
  refine .call (fun _ fr => by rw [wanted_of fr rfl rfl rfl]; rfl) rfl rfl rfl (not_fn _) (fun _ _ => trivial) ?_
  refine .yes rfl rfl rfl (s_ldB rfl (RdPK.cels (.own (by repeat (first | exact List.mem_cons_self | apply List.mem_cons_of_mem | apply mem_assoc | apply mem_app)))) (by first | (rw [flat_len, Nat.mul_one]; first | assumption | exact List.length_replicate) | exact List.length_replicate | rfl)) ?_
  refine .yes rfl rfl rfl (step_cast (v' := .bool true) (s_eql_cl rfl rfl) (congrArg Value.bool (decide_eq_true (not_not a)))) ?_
  refine .op rfl (s_pick_t rfl rfl) ?_
  refine .op rfl (s_assign rfl) ?_
  refine .nil ?_
  refine x_then (hK5 _ _ ?_)
  refine c_seq fun _ hK6 => ?_
  refine c_quiet (by kernel_rfl) ?_
  refine .op rfl (s_ldB rfl (RdPK.cels (.own (by repeat (first | exact List.mem_cons_self | apply List.mem_cons_of_mem | apply mem_assoc | apply mem_app)))) (by first | (rw [flat_len, Nat.mul_one]; first | assumption | exact List.length_replicate) | exact List.length_replicate | rfl)) ?_
  refine .op rfl (s_ldB rfl (RdPK.cels (.own (by repeat (first | exact List.mem_cons_self | apply List.mem_cons_of_mem | apply mem_assoc | apply mem_app)))) (by first | (rw [flat_len, Nat.mul_one]; first | assumption | exact List.length_replicate) | exact List.length_replicate | rfl)) ?_
  refine .op rfl (s_ldB rfl (RdPK.cels (.own (by repeat (first | exact List.mem_cons_self | apply List.mem_cons_of_mem | apply mem_assoc | apply mem_app)))) (by first | (rw [flat_len, Nat.mul_one]; first | assumption | exact List.length_replicate) | exact List.length_replicate | rfl)) ?_
  refine .call (fun _ _ => rfl) rfl rfl rfl (or_fn _ _) (fun _ _ => trivial) ?_
  refine .call (fun _ _ => rfl) rfl rfl rfl (and_fn _ _) (fun _ _ => trivial) ?_
  refine .op rfl (s_ldB rfl (RdPK.cels (.own (by repeat (first | exact List.mem_cons_self | apply List.mem_cons_of_mem | apply mem_assoc | apply mem_app)))) (by first | (rw [flat_len, Nat.mul_one]; first | assumption | exact List.length_replicate) | exact List.length_replicate | rfl)) ?_
  refine .op rfl (s_ldB rfl (RdPK.cels (.own (by repeat (first | exact List.mem_cons_self | apply List.mem_cons_of_mem | apply mem_assoc | apply mem_app)))) (by first | (rw [flat_len, Nat.mul_one]; first | assumption | exact List.length_replicate) | exact List.length_replicate | rfl)) ?_
  refine .call (fun _ _ => rfl) rfl rfl rfl (and_fn _ _) (fun _ _ => trivial) ?_
  refine .op rfl (s_ldB rfl (RdPK.cels (.own (by repeat (first | exact List.mem_cons_self | apply List.mem_cons_of_mem | apply mem_assoc | apply mem_app)))) (by first | (rw [flat_len, Nat.mul_one]; first | assumption | exact List.length_replicate) | exact List.length_replicate | rfl)) ?_
  refine .op rfl (s_ldB rfl (RdPK.cels (.own (by repeat (first | exact List.mem_cons_self | apply List.mem_cons_of_mem | apply mem_assoc | apply mem_app)))) (by first | (rw [flat_len, Nat.mul_one]; first | assumption | exact List.length_replicate) | exact List.length_replicate | rfl)) ?_
  refine .call (fun _ _ => rfl) rfl rfl rfl (and_fn _ _) (fun _ _ => trivial) ?_
  refine .call (fun _ _ => rfl) rfl rfl rfl (or_fn _ _) (fun _ _ => trivial) ?_
  refine .op rfl (step_cast (v' := .bool true) (s_eql_cl rfl rfl) (congrArg Value.bool (decide_eq_true (and_or a b c)))) ?_
  refine .op rfl (s_move rfl) ?_
  refine .yes rfl rfl rfl (s_ldB rfl (RdPK.cels (.own (by repeat (first | exact List.mem_cons_self | apply List.mem_cons_of_mem | apply mem_assoc | apply mem_app)))) (by first | (rw [flat_len, Nat.mul_one]; first | assumption | exact List.length_replicate) | exact List.length_replicate | rfl)) ?_
  refine .yes rfl rfl rfl (s_ldB rfl (RdPK.cels (.own (by repeat (first | exact List.mem_cons_self | apply List.mem_cons_of_mem | apply mem_assoc | apply mem_app)))) (by first | (rw [flat_len, Nat.mul_one]; first | assumption | exact List.length_replicate) | exact List.length_replicate | rfl)) ?_
  refine .call (fun _ fr => by rw [wanted_of fr rfl rfl rfl]; rfl) rfl rfl rfl (or_fn _ _) (fun _ _ => trivial) ?_
  refine .yes rfl rfl rfl (s_ldB rfl (RdPK.cels (.own (by repeat (first | exact List.mem_cons_self | apply List.mem_cons_of_mem | apply mem_assoc | apply mem_app)))) (by first | (rw [flat_len, Nat.mul_one]; first | assumption | exact List.length_replicate) | exact List.length_replicate | rfl)) ?_
  refine .yes rfl rfl rfl (s_ldB rfl (RdPK.cels (.own (by repeat (first | exact List.mem_cons_self | apply List.mem_cons_of_mem | apply mem_assoc | apply mem_app)))) (by first | (rw [flat_len, Nat.mul_one]; first | assumption | exact List.length_replicate) | exact List.length_replicate | rfl)) ?_
  refine .call (fun _ fr => by rw [wanted_of fr rfl rfl rfl]; rfl) rfl rfl rfl (or_fn _ _) (fun _ _ => trivial) ?_
  refine .yes rfl rfl rfl (step_cast (v' := .bool true) (s_eql_cl rfl rfl) (congrArg Value.bool (decide_eq_true (or_comm a b)))) ?_
  refine .op rfl (s_pick_t rfl rfl) ?_
  refine .op rfl (s_assign rfl) ?_
  refine .nil ?_
  refine x_then (hK6 _ _ ?_)
  refine c_seq fun _ hK7 => ?_
  refine c_quiet (by kernel_rfl) ?_
  refine .op rfl (s_ldB rfl (RdPK.cels (.own (by repeat (first | exact List.mem_cons_self | apply List.mem_cons_of_mem | apply mem_assoc | apply mem_app)))) (by first | (rw [flat_len, Nat.mul_one]; first | assumption | exact List.length_replicate) | exact List.length_replicate | rfl)) ?_
  refine .op rfl (s_ldB rfl (RdPK.cels (.own (by repeat (first | exact List.mem_cons_self | apply List.mem_cons_of_mem | apply mem_assoc | apply mem_app)))) (by first | (rw [flat_len, Nat.mul_one]; first | assumption | exact List.length_replicate) | exact List.length_replicate | rfl)) ?_
  refine .call (fun _ _ => rfl) rfl rfl rfl (or_fn _ _) (fun _ _ => trivial) ?_
  refine .op rfl (s_ldB rfl (RdPK.cels (.own (by repeat (first | exact List.mem_cons_self | apply List.mem_cons_of_mem | apply mem_assoc | apply mem_app)))) (by first | (rw [flat_len, Nat.mul_one]; first | assumption | exact List.length_replicate) | exact List.length_replicate | rfl)) ?_
  refine .op rfl (step_cast (v' := .bool true) (s_eql_cl rfl rfl) (congrArg Value.bool (decide_eq_true (or_zero a)))) ?_
  refine .op rfl (s_move rfl) ?_
  refine .yes rfl rfl rfl (s_ldB rfl (RdPK.cels (.own (by repeat (first | exact List.mem_cons_self | apply List.mem_cons_of_mem | apply mem_assoc | apply mem_app)))) (by first | (rw [flat_len, Nat.mul_one]; first | assumption | exact List.length_replicate) | exact List.length_replicate | rfl)) ?_
  refine .yes rfl rfl rfl (s_ldB rfl (RdPK.cels (.own (by repeat (first | exact List.mem_cons_self | apply List.mem_cons_of_mem | apply mem_assoc | apply mem_app)))) (by first | (rw [flat_len, Nat.mul_one]; first | assumption | exact List.length_replicate) | exact List.length_replicate | rfl)) ?_
  refine .call (fun _ fr => by rw [wanted_of fr rfl rfl rfl]; rfl) rfl rfl rfl (and_fn _ _) (fun _ _ => trivial) ?_
  refine .yes rfl rfl rfl (s_ldB rfl (RdPK.cels (.own (by repeat (first | exact List.mem_cons_self | apply List.mem_cons_of_mem | apply mem_assoc | apply mem_app)))) (by first | (rw [flat_len, Nat.mul_one]; first | assumption | exact List.length_replicate) | exact List.length_replicate | rfl)) ?_
  refine .yes rfl rfl rfl (step_cast (v' := .bool true) (s_eql_cl rfl rfl) (congrArg Value.bool (decide_eq_true (and_rng a)))) ?_
  refine .op rfl (s_pick_t rfl rfl) ?_
  refine .op rfl (s_move rfl) ?_
  refine .yes rfl rfl rfl (s_ldB rfl (RdPK.cels (.own (by repeat (first | exact List.mem_cons_self | apply List.mem_cons_of_mem | apply mem_assoc | apply mem_app)))) (by first | (rw [flat_len, Nat.mul_one]; first | assumption | exact List.length_replicate) | exact List.length_replicate | rfl)) ?_
  refine .yes rfl rfl rfl (s_ldB rfl (RdPK.cels (.own (by repeat (first | exact List.mem_cons_self | apply List.mem_cons_of_mem | apply mem_assoc | apply mem_app)))) (by first | (rw [flat_len, Nat.mul_one]; first | assumption | exact List.length_replicate) | exact List.length_replicate | rfl)) ?_
  refine .call (fun _ fr => by rw [wanted_of fr rfl rfl rfl]; rfl) rfl rfl rfl (not_fn _) (fun _ _ => trivial) ?_
  refine .call (fun _ fr => by rw [wanted_of fr rfl rfl rfl]; rfl) rfl rfl rfl (and_fn _ _) (fun _ _ => trivial) ?_
  refine .yes rfl rfl rfl (s_ldB rfl (RdPK.cels (.own (by repeat (first | exact List.mem_cons_self | apply List.mem_cons_of_mem | apply mem_assoc | apply mem_app)))) (by first | (rw [flat_len, Nat.mul_one]; first | assumption | exact List.length_replicate) | exact List.length_replicate | rfl)) ?_
  refine .yes rfl rfl rfl (step_cast (v' := .bool true) (s_eql_cl rfl rfl) (congrArg Value.bool (decide_eq_true (and_not a)))) ?_
  refine .op rfl (s_pick_t rfl rfl) ?_
  refine .op rfl (s_move rfl) ?_
  refine .yes rfl rfl rfl (s_ldB rfl (RdPK.cels (.own (by repeat (first | exact List.mem_cons_self | apply List.mem_cons_of_mem | apply mem_assoc | apply mem_app)))) (by first | (rw [flat_len, Nat.mul_one]; first | assumption | exact List.length_replicate) | exact List.length_replicate | rfl)) ?_
  refine .yes rfl rfl rfl (s_ldB rfl (RdPK.cels (.own (by repeat (first | exact List.mem_cons_self | apply List.mem_cons_of_mem | apply mem_assoc | apply mem_app)))) (by first | (rw [flat_len, Nat.mul_one]; first | assumption | exact List.length_replicate) | exact List.length_replicate | rfl)) ?_
  refine .call (fun _ fr => by rw [wanted_of fr rfl rfl rfl]; rfl) rfl rfl rfl (not_fn _) (fun _ _ => trivial) ?_
  refine .call (fun _ fr => by rw [wanted_of fr rfl rfl rfl]; rfl) rfl rfl rfl (or_fn _ _) (fun _ _ => trivial) ?_
  refine .yes rfl rfl rfl (s_ldB rfl (RdPK.cels (.own (by repeat (first | exact List.mem_cons_self | apply List.mem_cons_of_mem | apply mem_assoc | apply mem_app)))) (by first | (rw [flat_len, Nat.mul_one]; first | assumption | exact List.length_replicate) | exact List.length_replicate | rfl)) ?_
  refine .yes rfl rfl rfl (step_cast (v' := .bool true) (s_eql_cl rfl rfl) (congrArg Value.bool (decide_eq_true (or_not a)))) ?_
  refine .op rfl (s_pick_t rfl rfl) ?_
  refine .op rfl (s_assign rfl) ?_
  refine .nil ?_
  refine x_then (hK7 _ _ ?_)
  refine c_seq fun _ hK8 => ?_
  refine c_quiet (by kernel_rfl) ?_
  refine .op rfl (s_ldB rfl (RdPK.cels (.own (by repeat (first | exact List.mem_cons_self | apply List.mem_cons_of_mem | apply mem_assoc | apply mem_app)))) (by first | (rw [flat_len, Nat.mul_one]; first | assumption | exact List.length_replicate) | exact List.length_replicate | rfl)) ?_
  refine .op rfl (s_ldB rfl (RdPK.cels (.own (by repeat (first | exact List.mem_cons_self | apply List.mem_cons_of_mem | apply mem_assoc | apply mem_app)))) (by first | (rw [flat_len, Nat.mul_one]; first | assumption | exact List.length_replicate) | exact List.length_replicate | rfl)) ?_
  refine .call (fun _ _ => rfl) rfl rfl rfl (or_fn _ _) (fun _ _ => trivial) ?_
  refine .call (fun _ _ => rfl) rfl rfl rfl (size_fn _) (fun _ _ => trivial) ?_
  refine .op rfl (s_ldB rfl (RdPK.cels (.own (by repeat (first | exact List.mem_cons_self | apply List.mem_cons_of_mem | apply mem_assoc | apply mem_app)))) (by first | (rw [flat_len, Nat.mul_one]; first | assumption | exact List.length_replicate) | exact List.length_replicate | rfl)) ?_
  refine .op rfl (s_ldB rfl (RdPK.cels (.own (by repeat (first | exact List.mem_cons_self | apply List.mem_cons_of_mem | apply mem_assoc | apply mem_app)))) (by first | (rw [flat_len, Nat.mul_one]; first | assumption | exact List.length_replicate) | exact List.length_replicate | rfl)) ?_
  refine .call (fun _ _ => rfl) rfl rfl rfl (and_fn _ _) (fun _ _ => trivial) ?_
  refine .call (fun _ _ => rfl) rfl rfl rfl (size_fn _) (fun _ _ => trivial) ?_
  refine .op rfl (s_add rfl rfl (by omega)) ?_
  refine .op rfl (s_assign rfl) ?_
  refine .nil ?_
  refine x_then (hK8 _ _ ?_)
  refine c_seq fun _ hK9 => ?_
  refine c_quiet (by kernel_rfl) ?_
  refine .op rfl (s_move rfl) ?_
  refine .op rfl (s_move rfl) ?_
  refine .yes rfl rfl rfl (s_move rfl) ?_
  refine .op rfl (s_pick_t rfl rfl) ?_
  refine .op rfl (s_move rfl) ?_
  refine .yes rfl rfl rfl (s_move rfl) ?_
  refine .op rfl (s_pick_t rfl rfl) ?_
  refine .op rfl (s_move rfl) ?_
  refine .yes rfl rfl rfl (s_move rfl) ?_
  refine .op rfl (s_pick_t rfl rfl) ?_
  refine .op rfl (s_move rfl) ?_
  refine .yes rfl rfl rfl (s_move rfl) ?_
  refine .yes rfl rfl rfl (s_ldB rfl (RdPK.cels (.own (by repeat (first | exact List.mem_cons_self | apply List.mem_cons_of_mem | apply mem_assoc | apply mem_app)))) (by first | (rw [flat_len, Nat.mul_one]; first | assumption | exact List.length_replicate) | exact List.length_replicate | rfl)) ?_
  refine .call (fun _ fr => by rw [wanted_of fr rfl rfl rfl]; rfl) rfl rfl rfl (size_fn _) (fun _ _ => trivial) ?_
  refine .yes rfl rfl rfl (s_ldB rfl (RdPK.cels (.own (by repeat (first | exact List.mem_cons_self | apply List.mem_cons_of_mem | apply mem_assoc | apply mem_app)))) (by first | (rw [flat_len, Nat.mul_one]; first | assumption | exact List.length_replicate) | exact List.length_replicate | rfl)) ?_
  refine .call (fun _ fr => by rw [wanted_of fr rfl rfl rfl]; rfl) rfl rfl rfl (size_fn _) (fun _ _ => trivial) ?_
  refine .yes rfl rfl rfl (s_add rfl rfl (by omega)) ?_
  refine .yes rfl rfl rfl (step_cast (v' := .bool true) (s_eql rfl rfl) (congrArg Value.bool (decide_eq_true (size_or_and a b)))) ?_
  refine .op rfl (s_pick_t rfl rfl) ?_
  refine .op rfl (s_move rfl) ?_
  refine .yes rfl rfl rfl (s_ldB rfl (RdPK.cels (.own (by repeat (first | exact List.mem_cons_self | apply List.mem_cons_of_mem | apply mem_assoc | apply mem_app)))) (by first | (rw [flat_len, Nat.mul_one]; first | assumption | exact List.length_replicate) | exact List.length_replicate | rfl)) ?_
  refine .call (fun _ fr => by rw [wanted_of fr rfl rfl rfl]; rfl) rfl rfl rfl (size_fn _) (fun _ _ => trivial) ?_
  refine .yes rfl rfl rfl (s_ldB rfl (RdPK.cels (.own (by repeat (first | exact List.mem_cons_self | apply List.mem_cons_of_mem | apply mem_assoc | apply mem_app)))) (by first | (rw [flat_len, Nat.mul_one]; first | assumption | exact List.length_replicate) | exact List.length_replicate | rfl)) ?_
  refine .call (fun _ fr => by rw [wanted_of fr rfl rfl rfl]; rfl) rfl rfl rfl (not_fn _) (fun _ _ => trivial) ?_
  refine .call (fun _ fr => by rw [wanted_of fr rfl rfl rfl]; rfl) rfl rfl rfl (size_fn _) (fun _ _ => trivial) ?_
  refine .yes rfl rfl rfl (s_add rfl rfl (by omega)) ?_
  refine .yes rfl rfl rfl (step_cast (v' := .bool true) (s_eql rfl rfl) (congrArg Value.bool (decide_eq_true (size_not a)))) ?_
  refine .op rfl (s_pick_t rfl rfl) ?_
  refine .op rfl (s_assign rfl) ?_
  refine .nil ?_
  refine x_then (hK9 _ _ ?_)
  refine c_ret ?_
  refine ?_
  exact x_ret rfl (.tmp rfl (.nil)) (rfl)
end Go.Proofs.YtnjjkkncoijmmaaDoor
