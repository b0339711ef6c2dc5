/- Part of the proofs over this seat: see the text that holds the theorem. Conditions: each theorem bears its own. -/
import Derived.Test.YtnjjkkncoijmmaaDoorCW2
namespace Go.Proofs.YtnjjkkncoijmmaaDoor
open Go Go.HL Go.Proofs Go.HL.Kl
theorem rOr_fn (a b : Cl) : HL.Fn Tryd.prog 24 [.agg (Ec a).toArray, .agg (Ec b).toArray] (fun _ => True) [] (fun v _ => v = .agg (Ec (a ||| b)).toArray) := by
  refine fn_of Tryd.func24 rfl rfl rfl fun w0 hw => ?_
  refine c_seq fun _ hK1 => ?_
  refine c_region ?_
  refine o_box rfl rfl rfl fun b2 => ?_
  refine o_box rfl rfl rfl fun b3 => ?_
  refine o_alloc (l := Ec 0#256) (by rw [Ec_zero]; rfl) rfl fun b4 => ?_
  refine o_nil ?_
  refine x_then (hK1 _ _ ?_)
  refine c_seq fun _ hK2 => ?_
  refine c_region ?_
  refine o_step rfl (step_cast (v' := .agg (Ec 0#256).toArray) (s_build0 rfl) (by rw [Ec_zero]; rfl)) ?_
  refine o_alloc (l := Ec 0#256) (by rw [Ec_zero]; rfl) rfl fun b5 => ?_
  refine o_stW rfl rfl (by repeat (first | exact .here | apply Upd.there | apply Upd.assoc | apply Upd.skip)) (by first | (rw [flat_len, Nat.mul_one]; first | assumption | exact List.length_replicate) | exact List.length_replicate | rfl) (by first | (rw [flat_len, Nat.mul_one]; first | assumption | exact List.length_replicate) | exact List.length_replicate | rfl) (by first | exact Ec_one _ | exact flat_one _ _ | exact one_rep rfl | (simp [Value.oneCell']; done)) ?_
  refine o_nil ?_
  refine x_then (hK2 _ _ ?_)
  refine c_seq fun _ hK3 => ?_
  refine c_seq fun _ hK4 => ?_
  refine c_region ?_
  refine o_step rfl (s_assign rfl) ?_
  refine o_nil ?_
  refine x_then (hK4 _ _ ?_)
  refine c_block ?_
  refine c_loop2 (fun (i : Nat) (c : Cl) => i ≤ 256 ∧ Part (fun j => a.getLsbD j || b.getLsbD j) i c) (fun (i : Nat) (c : Cl) => [(6, .int .i64 i)]) [(2, _), (3, _), (4, _), (5, _)] (fun (i : Nat) (c : Cl) => [(b5, .cells (Ec c).toArray 24 (0, 0)), (b4, .cells (Ec 0#256).toArray 24 (0, 0)), (b3, .cells (Ec b).toArray 24 (0, 0)), (b2, .cells (Ec a).toArray 24 (0, 0))]) (fun (i : Nat) (c : Cl) => 256 - i) 0 0#256 ⟨by omega, .zero⟩ (by repeat (first | exact Sub.nil | refine Sub.cons rfl ?_)) (by repeat (first | exact Sub.nil | refine Sub.cons rfl ?_)) (by repeat (first | exact HSub.refl _ | exact HSub.nil | refine HSub.takeC (by first | ((repeat (first | exact .one | exact .here | exact .all | apply Pick.cons | apply Pick.app)); done) | ((repeat (first | exact .one | exact .here | exact .all | apply Pick.cons | apply Pick.assoc | apply Pick.app)); done) | exact Pick.takeA (by repeat (first | exact .one | exact .here | exact .all | apply Pick.cons | apply Pick.assoc | apply Pick.app)) (by repeat (first | exact .one | exact .here | exact .all | apply Pick.cons | apply Pick.assoc | apply Pick.app))) ?_ | refine HSub.take (by first | ((repeat (first | exact .one | exact .here | exact .all | apply Pick.cons | apply Pick.app)); done) | ((repeat (first | exact .one | exact .here | exact .all | apply Pick.cons | apply Pick.assoc | apply Pick.app)); done) | exact Pick.takeA (by repeat (first | exact .one | exact .here | exact .all | apply Pick.cons | apply Pick.assoc | apply Pick.app)) (by repeat (first | exact .one | exact .here | exact .all | apply Pick.cons | apply Pick.assoc | apply Pick.app))) ?_ | exact HSub.of_pick (by first | ((repeat (first | exact .one | exact .here | exact .all | apply Pick.cons | apply Pick.app)); done) | ((repeat (first | exact .one | exact .here | exact .all | apply Pick.cons | apply Pick.assoc | apply Pick.app)); done) | exact Pick.takeA (by repeat (first | exact .one | exact .here | exact .all | apply Pick.cons | apply Pick.assoc | apply Pick.app)) (by repeat (first | exact .one | exact .here | exact .all | apply Pick.cons | apply Pick.assoc | apply Pick.app))))) ?_
  rintro i c ⟨hi, hp⟩
  refine c_seq fun _ hK5 => ?_
  refine c_seq fun _ hK6 => ?_
  refine c_region ?_
  refine o_step rfl (s_move rfl) ?_
  refine o_step rfl (s_lss rfl rfl) ?_
  refine o_nil ?_
  refine x_then (hK6 _ _ ?_)
  refine c_if rfl (fun hlt => ?_) (fun hlt => ?_)
  · skip
    refine c_skip ?_
    refine x_then (hK5 _ _ ?_)
    refine c_seq fun _ hK7 => ?_
    refine c_block ?_
    refine c_seq fun _ hK8 => ?_
    refine c_region ?_
    refine o_step rfl (s_ldB rfl (RdPK.cels (.own (by repeat (first | exact List.mem_cons_self | apply List.mem_cons_of_mem | apply mem_assoc | apply mem_app)))) (by first | (rw [flat_len, Nat.mul_one]; first | assumption | exact List.length_replicate) | exact List.length_replicate | rfl)) ?_
    refine o_step rfl (s_move rfl) ?_
    refine o_step rfl (step_cast (v' := .int .u8 ((i : Nat) : Int)) (s_conv rfl) (congrArg _ (conv8 (by omega)))) ?_
    refine o_callP (rHas_fn a i (by omega)) rfl rfl rfl (fun _ _ => trivial) (fun v15 hv15 => ?_)
    cases ha : BitVec.getLsbD a i
    · skip
      rw [ha] at hv15
      subst hv15
      refine o_step rfl (s_move rfl) ?_
      refine o_yes rfl rfl ?_
      refine o_step rfl (s_ldB rfl (RdPK.cels (.own (by repeat (first | exact List.mem_cons_self | apply List.mem_cons_of_mem | apply mem_assoc | apply mem_app)))) (by first | (rw [flat_len, Nat.mul_one]; first | assumption | exact List.length_replicate) | exact List.length_replicate | rfl)) ?_
      refine o_yes rfl rfl ?_
      refine o_step rfl (s_move rfl) ?_
      refine o_yes rfl rfl ?_
      refine o_step rfl (step_cast (v' := .int .u8 ((i : Nat) : Int)) (s_conv rfl) (congrArg _ (conv8 (by omega)))) ?_
      refine o_yes rfl rfl ?_
      refine o_callP (rHas_fn b i (by omega)) rfl rfl rfl (fun _ _ => trivial) (fun v20 hv20 => ?_)
      cases hb : BitVec.getLsbD b i
      · skip
        rw [hb] at hv20
        subst hv20
        refine o_step rfl (s_pick_f rfl rfl) ?_
        refine o_nil ?_
        refine x_then (hK8 _ _ ?_)
        refine c_false rfl ?_
        refine c_skip ?_
        refine x_block ?_
        refine x_then (hK7 _ _ ?_)
        refine c_region ?_
        refine o_step rfl (s_move rfl) ?_
        refine o_step rfl (s_add rfl rfl (by omega)) ?_
        refine o_step rfl (s_assign rfl) ?_
        refine o_nil ?_
        exact x_then (x_inv (i + 1, _) ⟨by omega, hp.no (by simp [*])⟩ (by first | omega | (dsimp only; omega)) (by repeat (first | exact Sub.nil | refine Sub.cons rfl ?_)) (by repeat (first | exact HSub.refl _ | exact HSub.nil | refine HSub.takeC (by first | ((repeat (first | exact .one | exact .here | exact .all | apply Pick.cons | apply Pick.app)); done) | ((repeat (first | exact .one | exact .here | exact .all | apply Pick.cons | apply Pick.assoc | apply Pick.app)); done) | exact Pick.takeA (by repeat (first | exact .one | exact .here | exact .all | apply Pick.cons | apply Pick.assoc | apply Pick.app)) (by repeat (first | exact .one | exact .here | exact .all | apply Pick.cons | apply Pick.assoc | apply Pick.app))) ?_ | refine HSub.take (by first | ((repeat (first | exact .one | exact .here | exact .all | apply Pick.cons | apply Pick.app)); done) | ((repeat (first | exact .one | exact .here | exact .all | apply Pick.cons | apply Pick.assoc | apply Pick.app)); done) | exact Pick.takeA (by repeat (first | exact .one | exact .here | exact .all | apply Pick.cons | apply Pick.assoc | apply Pick.app)) (by repeat (first | exact .one | exact .here | exact .all | apply Pick.cons | apply Pick.assoc | apply Pick.app))) ?_ | exact HSub.of_pick (by first | ((repeat (first | exact .one | exact .here | exact .all | apply Pick.cons | apply Pick.app)); done) | ((repeat (first | exact .one | exact .here | exact .all | apply Pick.cons | apply Pick.assoc | apply Pick.app)); done) | exact Pick.takeA (by repeat (first | exact .one | exact .here | exact .all | apply Pick.cons | apply Pick.assoc | apply Pick.app)) (by repeat (first | exact .one | exact .here | exact .all | apply Pick.cons | apply Pick.assoc | apply Pick.app))))))
      · skip
        rw [hb] at hv20
        subst hv20
        refine o_step rfl (s_pick_f rfl rfl) ?_
        refine o_nil ?_
        refine x_then (hK8 _ _ ?_)
        refine c_true rfl ?_
        refine c_region ?_
        refine o_step rfl (s_ldB rfl (RdPK.cels (.own (by repeat (first | exact List.mem_cons_self | apply List.mem_cons_of_mem | apply mem_assoc | apply mem_app)))) (by first | (rw [flat_len, Nat.mul_one]; first | assumption | exact List.length_replicate) | exact List.length_replicate | rfl)) ?_
        refine o_step rfl (s_move rfl) ?_
        refine o_step rfl (step_cast (v' := .int .u8 ((i : Nat) : Int)) (s_conv rfl) (congrArg _ (conv8 (by omega)))) ?_
        refine o_callP (with_fn c i (by omega)) rfl rfl rfl (fun _ _ => trivial) (fun v25 hv25 => ?_)
        subst hv25
        refine o_stW rfl rfl (by repeat (first | exact .here | apply Upd.there | apply Upd.assoc | apply Upd.skip)) (by first | (rw [flat_len, Nat.mul_one]; first | assumption | exact List.length_replicate) | exact List.length_replicate | rfl) (by first | (rw [flat_len, Nat.mul_one]; first | assumption | exact List.length_replicate) | exact List.length_replicate | rfl) (by first | exact Ec_one _ | exact flat_one _ _ | exact one_rep rfl | (simp [Value.oneCell']; done)) ?_
        refine o_nil ?_
        refine x_block ?_
        refine x_then (hK7 _ _ ?_)
        refine c_region ?_
        refine o_step rfl (s_move rfl) ?_
        refine o_step rfl (s_add rfl rfl (by omega)) ?_
        refine o_step rfl (s_assign rfl) ?_
        refine o_nil ?_
        exact x_then (x_inv (i + 1, _) ⟨by omega, hp.yes (by simp [*])⟩ (by first | omega | (dsimp only; omega)) (by repeat (first | exact Sub.nil | refine Sub.cons rfl ?_)) (by repeat (first | exact HSub.refl _ | exact HSub.nil | refine HSub.takeC (by first | ((repeat (first | exact .one | exact .here | exact .all | apply Pick.cons | apply Pick.app)); done) | ((repeat (first | exact .one | exact .here | exact .all | apply Pick.cons | apply Pick.assoc | apply Pick.app)); done) | exact Pick.takeA (by repeat (first | exact .one | exact .here | exact .all | apply Pick.cons | apply Pick.assoc | apply Pick.app)) (by repeat (first | exact .one | exact .here | exact .all | apply Pick.cons | apply Pick.assoc | apply Pick.app))) ?_ | refine HSub.take (by first | ((repeat (first | exact .one | exact .here | exact .all | apply Pick.cons | apply Pick.app)); done) | ((repeat (first | exact .one | exact .here | exact .all | apply Pick.cons | apply Pick.assoc | apply Pick.app)); done) | exact Pick.takeA (by repeat (first | exact .one | exact .here | exact .all | apply Pick.cons | apply Pick.assoc | apply Pick.app)) (by repeat (first | exact .one | exact .here | exact .all | apply Pick.cons | apply Pick.assoc | apply Pick.app))) ?_ | exact HSub.of_pick (by first | ((repeat (first | exact .one | exact .here | exact .all | apply Pick.cons | apply Pick.app)); done) | ((repeat (first | exact .one | exact .here | exact .all | apply Pick.cons | apply Pick.assoc | apply Pick.app)); done) | exact Pick.takeA (by repeat (first | exact .one | exact .here | exact .all | apply Pick.cons | apply Pick.assoc | apply Pick.app)) (by repeat (first | exact .one | exact .here | exact .all | apply Pick.cons | apply Pick.assoc | apply Pick.app))))))
    · skip
      rw [ha] at hv15
      subst hv15
      refine o_step rfl (s_move rfl) ?_
      refine o_no rfl rfl rfl rfl ?_
      refine o_no rfl rfl rfl rfl ?_
      refine o_no rfl rfl rfl rfl ?_
      refine o_no rfl rfl rfl rfl ?_
      refine o_step rfl (s_pick_t rfl rfl) ?_
      refine o_nil ?_
      refine x_then (hK8 _ _ ?_)
      refine c_true rfl ?_
      refine c_region ?_
      refine o_step rfl (s_ldB rfl (RdPK.cels (.own (by repeat (first | exact List.mem_cons_self | apply List.mem_cons_of_mem | apply mem_assoc | apply mem_app)))) (by first | (rw [flat_len, Nat.mul_one]; first | assumption | exact List.length_replicate) | exact List.length_replicate | rfl)) ?_
      refine o_step rfl (s_move rfl) ?_
      refine o_step rfl (step_cast (v' := .int .u8 ((i : Nat) : Int)) (s_conv rfl) (congrArg _ (conv8 (by omega)))) ?_
      refine o_callP (with_fn c i (by omega)) rfl rfl rfl (fun _ _ => trivial) (fun v25 hv25 => ?_)
      subst hv25
      refine o_stW rfl rfl (by repeat (first | exact .here | apply Upd.there | apply Upd.assoc | apply Upd.skip)) (by first | (rw [flat_len, Nat.mul_one]; first | assumption | exact List.length_replicate) | exact List.length_replicate | rfl) (by first | (rw [flat_len, Nat.mul_one]; first | assumption | exact List.length_replicate) | exact List.length_replicate | rfl) (by first | exact Ec_one _ | exact flat_one _ _ | exact one_rep rfl | (simp [Value.oneCell']; done)) ?_
      refine o_nil ?_
      refine x_block ?_
      refine x_then (hK7 _ _ ?_)
      refine c_region ?_
      refine o_step rfl (s_move rfl) ?_
      refine o_step rfl (s_add rfl rfl (by omega)) ?_
      refine o_step rfl (s_assign rfl) ?_
      refine o_nil ?_
      exact x_then (x_inv (i + 1, _) ⟨by omega, hp.yes (by simp [*])⟩ (by first | omega | (dsimp only; omega)) (by repeat (first | exact Sub.nil | refine Sub.cons rfl ?_)) (by repeat (first | exact HSub.refl _ | exact HSub.nil | refine HSub.takeC (by first | ((repeat (first | exact .one | exact .here | exact .all | apply Pick.cons | apply Pick.app)); done) | ((repeat (first | exact .one | exact .here | exact .all | apply Pick.cons | apply Pick.assoc | apply Pick.app)); done) | exact Pick.takeA (by repeat (first | exact .one | exact .here | exact .all | apply Pick.cons | apply Pick.assoc | apply Pick.app)) (by repeat (first | exact .one | exact .here | exact .all | apply Pick.cons | apply Pick.assoc | apply Pick.app))) ?_ | refine HSub.take (by first | ((repeat (first | exact .one | exact .here | exact .all | apply Pick.cons | apply Pick.app)); done) | ((repeat (first | exact .one | exact .here | exact .all | apply Pick.cons | apply Pick.assoc | apply Pick.app)); done) | exact Pick.takeA (by repeat (first | exact .one | exact .here | exact .all | apply Pick.cons | apply Pick.assoc | apply Pick.app)) (by repeat (first | exact .one | exact .here | exact .all | apply Pick.cons | apply Pick.assoc | apply Pick.app))) ?_ | exact HSub.of_pick (by first | ((repeat (first | exact .one | exact .here | exact .all | apply Pick.cons | apply Pick.app)); done) | ((repeat (first | exact .one | exact .here | exact .all | apply Pick.cons | apply Pick.assoc | apply Pick.app)); done) | exact Pick.takeA (by repeat (first | exact .one | exact .here | exact .all | apply Pick.cons | apply Pick.assoc | apply Pick.app)) (by repeat (first | exact .one | exact .here | exact .all | apply Pick.cons | apply Pick.assoc | apply Pick.app))))))
  · skip
    obtain rfl := hp.or (by omega)
    refine c_exit ?_
    refine x_then_exit ?_
    refine x_then_exit ?_
    refine x_block_exit ?_
    refine x_then (hK3 _ _ ?_)
    refine c_seq fun _ hK9 => ?_
    refine c_region ?_
    refine o_step rfl (s_ldB rfl (RdPK.cels (.own (by repeat (first | exact List.mem_cons_self | apply List.mem_cons_of_mem | apply mem_assoc | apply mem_app)))) (by first | (rw [flat_len, Nat.mul_one]; first | assumption | exact List.length_replicate) | exact List.length_replicate | rfl)) ?_
    refine o_stW rfl rfl (by repeat (first | exact .here | apply Upd.there | apply Upd.assoc | apply Upd.skip)) (by first | (rw [flat_len, Nat.mul_one]; first | assumption | exact List.length_replicate) | exact List.length_replicate | rfl) (by first | (rw [flat_len, Nat.mul_one]; first | assumption | exact List.length_replicate) | exact List.length_replicate | rfl) (by first | exact Ec_one _ | exact flat_one _ _ | exact one_rep rfl | (simp [Value.oneCell']; done)) ?_
    refine o_nil ?_
    refine x_then (hK9 _ _ ?_)
    refine c_ret ?_
    refine ?_
    exact x_ret rfl (.agg inferInstance inferInstance rfl (RdPK.cels (.own (by repeat (first | exact List.mem_cons_self | apply List.mem_cons_of_mem | apply mem_assoc | apply mem_app)))) (by first | (rw [flat_len, Nat.mul_one]; first | assumption | exact List.length_replicate) | exact List.length_replicate | rfl) (.nil)) (rfl)

theorem rAnd_fn (a b : Cl) : HL.Fn Tryd.prog 26 [.agg (Ec a).toArray, .agg (Ec b).toArray] (fun _ => True) [] (fun v _ => v = .agg (Ec (a &&& b)).toArray) := by
  refine fn_of Tryd.func26 rfl rfl rfl fun w0 hw => ?_
  refine c_seq fun _ hK1 => ?_
  refine c_region ?_
  refine o_box rfl rfl rfl fun b2 => ?_
  refine o_box rfl rfl rfl fun b3 => ?_
  refine o_alloc (l := Ec 0#256) (by rw [Ec_zero]; rfl) rfl fun b4 => ?_
  refine o_nil ?_
  refine x_then (hK1 _ _ ?_)
  refine c_seq fun _ hK2 => ?_
  refine c_region ?_
  refine o_step rfl (step_cast (v' := .agg (Ec 0#256).toArray) (s_build0 rfl) (by rw [Ec_zero]; rfl)) ?_
  refine o_alloc (l := Ec 0#256) (by rw [Ec_zero]; rfl) rfl fun b5 => ?_
  refine o_stW rfl rfl (by repeat (first | exact .here | apply Upd.there | apply Upd.assoc | apply Upd.skip)) (by first | (rw [flat_len, Nat.mul_one]; first | assumption | exact List.length_replicate) | exact List.length_replicate | rfl) (by first | (rw [flat_len, Nat.mul_one]; first | assumption | exact List.length_replicate) | exact List.length_replicate | rfl) (by first | exact Ec_one _ | exact flat_one _ _ | exact one_rep rfl | (simp [Value.oneCell']; done)) ?_
  refine o_nil ?_
  refine x_then (hK2 _ _ ?_)
  refine c_seq fun _ hK3 => ?_
  refine c_seq fun _ hK4 => ?_
  refine c_region ?_
  refine o_step rfl (s_assign rfl) ?_
  refine o_nil ?_
  refine x_then (hK4 _ _ ?_)
  refine c_block ?_
  refine c_loop2 (fun (i : Nat) (c : Cl) => i ≤ 256 ∧ Part (fun j => a.getLsbD j && b.getLsbD j) i c) (fun (i : Nat) (c : Cl) => [(6, .int .i64 i)]) [(2, _), (3, _), (4, _), (5, _)] (fun (i : Nat) (c : Cl) => [(b5, .cells (Ec c).toArray 24 (0, 0)), (b4, .cells (Ec 0#256).toArray 24 (0, 0)), (b3, .cells (Ec b).toArray 24 (0, 0)), (b2, .cells (Ec a).toArray 24 (0, 0))]) (fun (i : Nat) (c : Cl) => 256 - i) 0 0#256 ⟨by omega, .zero⟩ (by repeat (first | exact Sub.nil | refine Sub.cons rfl ?_)) (by repeat (first | exact Sub.nil | refine Sub.cons rfl ?_)) (by repeat (first | exact HSub.refl _ | exact HSub.nil | refine HSub.takeC (by first | ((repeat (first | exact .one | exact .here | exact .all | apply Pick.cons | apply Pick.app)); done) | ((repeat (first | exact .one | exact .here | exact .all | apply Pick.cons | apply Pick.assoc | apply Pick.app)); done) | exact Pick.takeA (by repeat (first | exact .one | exact .here | exact .all | apply Pick.cons | apply Pick.assoc | apply Pick.app)) (by repeat (first | exact .one | exact .here | exact .all | apply Pick.cons | apply Pick.assoc | apply Pick.app))) ?_ | refine HSub.take (by first | ((repeat (first | exact .one | exact .here | exact .all | apply Pick.cons | apply Pick.app)); done) | ((repeat (first | exact .one | exact .here | exact .all | apply Pick.cons | apply Pick.assoc | apply Pick.app)); done) | exact Pick.takeA (by repeat (first | exact .one | exact .here | exact .all | apply Pick.cons | apply Pick.assoc | apply Pick.app)) (by repeat (first | exact .one | exact .here | exact .all | apply Pick.cons | apply Pick.assoc | apply Pick.app))) ?_ | exact HSub.of_pick (by first | ((repeat (first | exact .one | exact .here | exact .all | apply Pick.cons | apply Pick.app)); done) | ((repeat (first | exact .one | exact .here | exact .all | apply Pick.cons | apply Pick.assoc | apply Pick.app)); done) | exact Pick.takeA (by repeat (first | exact .one | exact .here | exact .all | apply Pick.cons | apply Pick.assoc | apply Pick.app)) (by repeat (first | exact .one | exact .here | exact .all | apply Pick.cons | apply Pick.assoc | apply Pick.app))))) ?_
  rintro i c ⟨hi, hp⟩
  refine c_seq fun _ hK5 => ?_
  refine c_seq fun _ hK6 => ?_
  refine c_region ?_
  refine o_step rfl (s_move rfl) ?_
  refine o_step rfl (s_lss rfl rfl) ?_
  refine o_nil ?_
  refine x_then (hK6 _ _ ?_)
  refine c_if rfl (fun hlt => ?_) (fun hlt => ?_)
  · skip
    refine c_skip ?_
    refine x_then (hK5 _ _ ?_)
    refine c_seq fun _ hK7 => ?_
    refine c_block ?_
    refine c_seq fun _ hK8 => ?_
    refine c_region ?_
    refine o_step rfl (s_ldB rfl (RdPK.cels (.own (by repeat (first | exact List.mem_cons_self | apply List.mem_cons_of_mem | apply mem_assoc | apply mem_app)))) (by first | (rw [flat_len, Nat.mul_one]; first | assumption | exact List.length_replicate) | exact List.length_replicate | rfl)) ?_
    refine o_step rfl (s_move rfl) ?_
    refine o_step rfl (step_cast (v' := .int .u8 ((i : Nat) : Int)) (s_conv rfl) (congrArg _ (conv8 (by omega)))) ?_
    refine o_callP (rHas_fn a i (by omega)) rfl rfl rfl (fun _ _ => trivial) (fun v15 hv15 => ?_)
    cases ha : BitVec.getLsbD a i
    · skip
      rw [ha] at hv15
      subst hv15
      refine o_step rfl (s_move rfl) ?_
      refine o_no rfl rfl rfl rfl ?_
      refine o_no rfl rfl rfl rfl ?_
      refine o_no rfl rfl rfl rfl ?_
      refine o_no rfl rfl rfl rfl ?_
      refine o_step rfl (s_pick_f rfl rfl) ?_
      refine o_nil ?_
      refine x_then (hK8 _ _ ?_)
      refine c_false rfl ?_
      refine c_skip ?_
      refine x_block ?_
      refine x_then (hK7 _ _ ?_)
      refine c_region ?_
      refine o_step rfl (s_move rfl) ?_
      refine o_step rfl (s_add rfl rfl (by omega)) ?_
      refine o_step rfl (s_assign rfl) ?_
      refine o_nil ?_
      exact x_then (x_inv (i + 1, _) ⟨by omega, hp.no (by simp [*])⟩ (by first | omega | (dsimp only; omega)) (by repeat (first | exact Sub.nil | refine Sub.cons rfl ?_)) (by repeat (first | exact HSub.refl _ | exact HSub.nil | refine HSub.takeC (by first | ((repeat (first | exact .one | exact .here | exact .all | apply Pick.cons | apply Pick.app)); done) | ((repeat (first | exact .one | exact .here | exact .all | apply Pick.cons | apply Pick.assoc | apply Pick.app)); done) | exact Pick.takeA (by repeat (first | exact .one | exact .here | exact .all | apply Pick.cons | apply Pick.assoc | apply Pick.app)) (by repeat (first | exact .one | exact .here | exact .all | apply Pick.cons | apply Pick.assoc | apply Pick.app))) ?_ | refine HSub.take (by first | ((repeat (first | exact .one | exact .here | exact .all | apply Pick.cons | apply Pick.app)); done) | ((repeat (first | exact .one | exact .here | exact .all | apply Pick.cons | apply Pick.assoc | apply Pick.app)); done) | exact Pick.takeA (by repeat (first | exact .one | exact .here | exact .all | apply Pick.cons | apply Pick.assoc | apply Pick.app)) (by repeat (first | exact .one | exact .here | exact .all | apply Pick.cons | apply Pick.assoc | apply Pick.app))) ?_ | exact HSub.of_pick (by first | ((repeat (first | exact .one | exact .here | exact .all | apply Pick.cons | apply Pick.app)); done) | ((repeat (first | exact .one | exact .here | exact .all | apply Pick.cons | apply Pick.assoc | apply Pick.app)); done) | exact Pick.takeA (by repeat (first | exact .one | exact .here | exact .all | apply Pick.cons | apply Pick.assoc | apply Pick.app)) (by repeat (first | exact .one | exact .here | exact .all | apply Pick.cons | apply Pick.assoc | apply Pick.app))))))
    · skip
      rw [ha] at hv15
      subst hv15
      refine o_step rfl (s_move rfl) ?_
      refine o_yes rfl rfl ?_
      refine o_step rfl (s_ldB rfl (RdPK.cels (.own (by repeat (first | exact List.mem_cons_self | apply List.mem_cons_of_mem | apply mem_assoc | apply mem_app)))) (by first | (rw [flat_len, Nat.mul_one]; first | assumption | exact List.length_replicate) | exact List.length_replicate | rfl)) ?_
      refine o_yes rfl rfl ?_
      refine o_step rfl (s_move rfl) ?_
      refine o_yes rfl rfl ?_
      refine o_step rfl (step_cast (v' := .int .u8 ((i : Nat) : Int)) (s_conv rfl) (congrArg _ (conv8 (by omega)))) ?_
      refine o_yes rfl rfl ?_
      refine o_callP (rHas_fn b i (by omega)) rfl rfl rfl (fun _ _ => trivial) (fun v20 hv20 => ?_)
      cases hb : BitVec.getLsbD b i
      · skip
        rw [hb] at hv20
        subst hv20
        refine o_step rfl (s_pick_t rfl rfl) ?_
        refine o_nil ?_
        refine x_then (hK8 _ _ ?_)
        refine c_false rfl ?_
        refine c_skip ?_
        refine x_block ?_
        refine x_then (hK7 _ _ ?_)
        refine c_region ?_
        refine o_step rfl (s_move rfl) ?_
        refine o_step rfl (s_add rfl rfl (by omega)) ?_
        refine o_step rfl (s_assign rfl) ?_
        refine o_nil ?_
        exact x_then (x_inv (i + 1, _) ⟨by omega, hp.no (by simp [*])⟩ (by first | omega | (dsimp only; omega)) (by repeat (first | exact Sub.nil | refine Sub.cons rfl ?_)) (by repeat (first | exact HSub.refl _ | exact HSub.nil | refine HSub.takeC (by first | ((repeat (first | exact .one | exact .here | exact .all | apply Pick.cons | apply Pick.app)); done) | ((repeat (first | exact .one | exact .here | exact .all | apply Pick.cons | apply Pick.assoc | apply Pick.app)); done) | exact Pick.takeA (by repeat (first | exact .one | exact .here | exact .all | apply Pick.cons | apply Pick.assoc | apply Pick.app)) (by repeat (first | exact .one | exact .here | exact .all | apply Pick.cons | apply Pick.assoc | apply Pick.app))) ?_ | refine HSub.take (by first | ((repeat (first | exact .one | exact .here | exact .all | apply Pick.cons | apply Pick.app)); done) | ((repeat (first | exact .one | exact .here | exact .all | apply Pick.cons | apply Pick.assoc | apply Pick.app)); done) | exact Pick.takeA (by repeat (first | exact .one | exact .here | exact .all | apply Pick.cons | apply Pick.assoc | apply Pick.app)) (by repeat (first | exact .one | exact .here | exact .all | apply Pick.cons | apply Pick.assoc | apply Pick.app))) ?_ | exact HSub.of_pick (by first | ((repeat (first | exact .one | exact .here | exact .all | apply Pick.cons | apply Pick.app)); done) | ((repeat (first | exact .one | exact .here | exact .all | apply Pick.cons | apply Pick.assoc | apply Pick.app)); done) | exact Pick.takeA (by repeat (first | exact .one | exact .here | exact .all | apply Pick.cons | apply Pick.assoc | apply Pick.app)) (by repeat (first | exact .one | exact .here | exact .all | apply Pick.cons | apply Pick.assoc | apply Pick.app))))))
      · skip
        rw [hb] at hv20
        subst hv20
        refine o_step rfl (s_pick_t rfl rfl) ?_
        refine o_nil ?_
        refine x_then (hK8 _ _ ?_)
        refine c_true rfl ?_
        refine c_region ?_
        refine o_step rfl (s_ldB rfl (RdPK.cels (.own (by repeat (first | exact List.mem_cons_self | apply List.mem_cons_of_mem | apply mem_assoc | apply mem_app)))) (by first | (rw [flat_len, Nat.mul_one]; first | assumption | exact List.length_replicate) | exact List.length_replicate | rfl)) ?_
        refine o_step rfl (s_move rfl) ?_
        refine o_step rfl (step_cast (v' := .int .u8 ((i : Nat) : Int)) (s_conv rfl) (congrArg _ (conv8 (by omega)))) ?_
        refine o_callP (with_fn c i (by omega)) rfl rfl rfl (fun _ _ => trivial) (fun v25 hv25 => ?_)
        subst hv25
        refine o_stW rfl rfl (by repeat (first | exact .here | apply Upd.there | apply Upd.assoc | apply Upd.skip)) (by first | (rw [flat_len, Nat.mul_one]; first | assumption | exact List.length_replicate) | exact List.length_replicate | rfl) (by first | (rw [flat_len, Nat.mul_one]; first | assumption | exact List.length_replicate) | exact List.length_replicate | rfl) (by first | exact Ec_one _ | exact flat_one _ _ | exact one_rep rfl | (simp [Value.oneCell']; done)) ?_
        refine o_nil ?_
        refine x_block ?_
        refine x_then (hK7 _ _ ?_)
        refine c_region ?_
        refine o_step rfl (s_move rfl) ?_
        refine o_step rfl (s_add rfl rfl (by omega)) ?_
        refine o_step rfl (s_assign rfl) ?_
        refine o_nil ?_
        exact x_then (x_inv (i + 1, _) ⟨by omega, hp.yes (by simp [*])⟩ (by first | omega | (dsimp only; omega)) (by repeat (first | exact Sub.nil | refine Sub.cons rfl ?_)) (by repeat (first | exact HSub.refl _ | exact HSub.nil | refine HSub.takeC (by first | ((repeat (first | exact .one | exact .here | exact .all | apply Pick.cons | apply Pick.app)); done) | ((repeat (first | exact .one | exact .here | exact .all | apply Pick.cons | apply Pick.assoc | apply Pick.app)); done) | exact Pick.takeA (by repeat (first | exact .one | exact .here | exact .all | apply Pick.cons | apply Pick.assoc | apply Pick.app)) (by repeat (first | exact .one | exact .here | exact .all | apply Pick.cons | apply Pick.assoc | apply Pick.app))) ?_ | refine HSub.take (by first | ((repeat (first | exact .one | exact .here | exact .all | apply Pick.cons | apply Pick.app)); done) | ((repeat (first | exact .one | exact .here | exact .all | apply Pick.cons | apply Pick.assoc | apply Pick.app)); done) | exact Pick.takeA (by repeat (first | exact .one | exact .here | exact .all | apply Pick.cons | apply Pick.assoc | apply Pick.app)) (by repeat (first | exact .one | exact .here | exact .all | apply Pick.cons | apply Pick.assoc | apply Pick.app))) ?_ | exact HSub.of_pick (by first | ((repeat (first | exact .one | exact .here | exact .all | apply Pick.cons | apply Pick.app)); done) | ((repeat (first | exact .one | exact .here | exact .all | apply Pick.cons | apply Pick.assoc | apply Pick.app)); done) | exact Pick.takeA (by repeat (first | exact .one | exact .here | exact .all | apply Pick.cons | apply Pick.assoc | apply Pick.app)) (by repeat (first | exact .one | exact .here | exact .all | apply Pick.cons | apply Pick.assoc | apply Pick.app))))))
  · skip
    obtain rfl := hp.and (by omega)
    refine c_exit ?_
    refine x_then_exit ?_
    refine x_then_exit ?_
    refine x_block_exit ?_
    refine x_then (hK3 _ _ ?_)
    refine c_seq fun _ hK9 => ?_
    refine c_region ?_
    refine o_step rfl (s_ldB rfl (RdPK.cels (.own (by repeat (first | exact List.mem_cons_self | apply List.mem_cons_of_mem | apply mem_assoc | apply mem_app)))) (by first | (rw [flat_len, Nat.mul_one]; first | assumption | exact List.length_replicate) | exact List.length_replicate | rfl)) ?_
    refine o_stW rfl rfl (by repeat (first | exact .here | apply Upd.there | apply Upd.assoc | apply Upd.skip)) (by first | (rw [flat_len, Nat.mul_one]; first | assumption | exact List.length_replicate) | exact List.length_replicate | rfl) (by first | (rw [flat_len, Nat.mul_one]; first | assumption | exact List.length_replicate) | exact List.length_replicate | rfl) (by first | exact Ec_one _ | exact flat_one _ _ | exact one_rep rfl | (simp [Value.oneCell']; done)) ?_
    refine o_nil ?_
    refine x_then (hK9 _ _ ?_)
    refine c_ret ?_
    refine ?_
    exact x_ret rfl (.agg inferInstance inferInstance rfl (RdPK.cels (.own (by repeat (first | exact List.mem_cons_self | apply List.mem_cons_of_mem | apply mem_assoc | apply mem_app)))) (by first | (rw [flat_len, Nat.mul_one]; first | assumption | exact List.length_replicate) | exact List.length_replicate | rfl) (.nil)) (rfl)

theorem rNot_fn (a : Cl) : HL.Fn Tryd.prog 28 [.agg (Ec a).toArray] (fun _ => True) [] (fun v _ => v = .agg (Ec (~~~a)).toArray) := by
  refine fn_of Tryd.func28 rfl rfl rfl fun w0 hw => ?_
  refine c_seq fun _ hK1 => ?_
  refine c_region ?_
  refine o_box rfl rfl rfl fun b1 => ?_
  refine o_alloc (l := Ec 0#256) (by rw [Ec_zero]; rfl) rfl fun b2 => ?_
  refine o_nil ?_
  refine x_then (hK1 _ _ ?_)
  refine c_seq fun _ hK2 => ?_
  refine c_region ?_
  refine o_step rfl (step_cast (v' := .agg (Ec 0#256).toArray) (s_build0 rfl) (by rw [Ec_zero]; rfl)) ?_
  refine o_alloc (l := Ec 0#256) (by rw [Ec_zero]; rfl) rfl fun b3 => ?_
  refine o_stW rfl rfl (by repeat (first | exact .here | apply Upd.there | apply Upd.assoc | apply Upd.skip)) (by first | (rw [flat_len, Nat.mul_one]; first | assumption | exact List.length_replicate) | exact List.length_replicate | rfl) (by first | (rw [flat_len, Nat.mul_one]; first | assumption | exact List.length_replicate) | exact List.length_replicate | rfl) (by first | exact Ec_one _ | exact flat_one _ _ | exact one_rep rfl | (simp [Value.oneCell']; done)) ?_
  refine o_nil ?_
  refine x_then (hK2 _ _ ?_)
  refine c_seq fun _ hK3 => ?_
  refine c_seq fun _ hK4 => ?_
  refine c_region ?_
  refine o_step rfl (s_assign rfl) ?_
  refine o_nil ?_
  refine x_then (hK4 _ _ ?_)
  refine c_block ?_
  refine c_loop2 (fun (i : Nat) (c : Cl) => i ≤ 256 ∧ Part (fun j => !a.getLsbD j) i c) (fun (i : Nat) (c : Cl) => [(4, .int .i64 i)]) [(1, _), (2, _), (3, _)] (fun (i : Nat) (c : Cl) => [(b3, .cells (Ec c).toArray 24 (0, 0)), (b2, .cells (Ec 0#256).toArray 24 (0, 0)), (b1, .cells (Ec a).toArray 24 (0, 0))]) (fun (i : Nat) (c : Cl) => 256 - i) 0 0#256 ⟨by omega, .zero⟩ (by repeat (first | exact Sub.nil | refine Sub.cons rfl ?_)) (by repeat (first | exact Sub.nil | refine Sub.cons rfl ?_)) (by repeat (first | exact HSub.refl _ | exact HSub.nil | refine HSub.takeC (by first | ((repeat (first | exact .one | exact .here | exact .all | apply Pick.cons | apply Pick.app)); done) | ((repeat (first | exact .one | exact .here | exact .all | apply Pick.cons | apply Pick.assoc | apply Pick.app)); done) | exact Pick.takeA (by repeat (first | exact .one | exact .here | exact .all | apply Pick.cons | apply Pick.assoc | apply Pick.app)) (by repeat (first | exact .one | exact .here | exact .all | apply Pick.cons | apply Pick.assoc | apply Pick.app))) ?_ | refine HSub.take (by first | ((repeat (first | exact .one | exact .here | exact .all | apply Pick.cons | apply Pick.app)); done) | ((repeat (first | exact .one | exact .here | exact .all | apply Pick.cons | apply Pick.assoc | apply Pick.app)); done) | exact Pick.takeA (by repeat (first | exact .one | exact .here | exact .all | apply Pick.cons | apply Pick.assoc | apply Pick.app)) (by repeat (first | exact .one | exact .here | exact .all | apply Pick.cons | apply Pick.assoc | apply Pick.app))) ?_ | exact HSub.of_pick (by first | ((repeat (first | exact .one | exact .here | exact .all | apply Pick.cons | apply Pick.app)); done) | ((repeat (first | exact .one | exact .here | exact .all | apply Pick.cons | apply Pick.assoc | apply Pick.app)); done) | exact Pick.takeA (by repeat (first | exact .one | exact .here | exact .all | apply Pick.cons | apply Pick.assoc | apply Pick.app)) (by repeat (first | exact .one | exact .here | exact .all | apply Pick.cons | apply Pick.assoc | apply Pick.app))))) ?_
  rintro i c ⟨hi, hp⟩
  refine c_seq fun _ hK5 => ?_
  refine c_seq fun _ hK6 => ?_
  refine c_region ?_
  refine o_step rfl (s_move rfl) ?_
  refine o_step rfl (s_lss rfl rfl) ?_
  refine o_nil ?_
  refine x_then (hK6 _ _ ?_)
  refine c_if rfl (fun hlt => ?_) (fun hlt => ?_)
  · skip
    refine c_skip ?_
    refine x_then (hK5 _ _ ?_)
    refine c_seq fun _ hK7 => ?_
    refine c_block ?_
    refine c_seq fun _ hK8 => ?_
    refine c_region ?_
    refine o_step rfl (s_ldB rfl (RdPK.cels (.own (by repeat (first | exact List.mem_cons_self | apply List.mem_cons_of_mem | apply mem_assoc | apply mem_app)))) (by first | (rw [flat_len, Nat.mul_one]; first | assumption | exact List.length_replicate) | exact List.length_replicate | rfl)) ?_
    refine o_step rfl (s_move rfl) ?_
    refine o_step rfl (step_cast (v' := .int .u8 ((i : Nat) : Int)) (s_conv rfl) (congrArg _ (conv8 (by omega)))) ?_
    refine o_callP (rHas_fn a i (by omega)) rfl rfl rfl (fun _ _ => trivial) (fun v13 hv13 => ?_)
    cases ha : BitVec.getLsbD a i
    · skip
      rw [ha] at hv13
      subst hv13
      refine o_step rfl (s_not rfl) ?_
      refine o_nil ?_
      refine x_then (hK8 _ _ ?_)
      refine c_true rfl ?_
      refine c_region ?_
      refine o_step rfl (s_ldB rfl (RdPK.cels (.own (by repeat (first | exact List.mem_cons_self | apply List.mem_cons_of_mem | apply mem_assoc | apply mem_app)))) (by first | (rw [flat_len, Nat.mul_one]; first | assumption | exact List.length_replicate) | exact List.length_replicate | rfl)) ?_
      refine o_step rfl (s_move rfl) ?_
      refine o_step rfl (step_cast (v' := .int .u8 ((i : Nat) : Int)) (s_conv rfl) (congrArg _ (conv8 (by omega)))) ?_
      refine o_callP (with_fn c i (by omega)) rfl rfl rfl (fun _ _ => trivial) (fun v18 hv18 => ?_)
      subst hv18
      refine o_stW rfl rfl (by repeat (first | exact .here | apply Upd.there | apply Upd.assoc | apply Upd.skip)) (by first | (rw [flat_len, Nat.mul_one]; first | assumption | exact List.length_replicate) | exact List.length_replicate | rfl) (by first | (rw [flat_len, Nat.mul_one]; first | assumption | exact List.length_replicate) | exact List.length_replicate | rfl) (by first | exact Ec_one _ | exact flat_one _ _ | exact one_rep rfl | (simp [Value.oneCell']; done)) ?_
      refine o_nil ?_
      refine x_block ?_
      refine x_then (hK7 _ _ ?_)
      refine c_region ?_
      refine o_step rfl (s_move rfl) ?_
      refine o_step rfl (s_add rfl rfl (by omega)) ?_
      refine o_step rfl (s_assign rfl) ?_
      refine o_nil ?_
      exact x_then (x_inv (i + 1, _) ⟨by omega, hp.yes (by simp [*])⟩ (by first | omega | (dsimp only; omega)) (by repeat (first | exact Sub.nil | refine Sub.cons rfl ?_)) (by repeat (first | exact HSub.refl _ | exact HSub.nil | refine HSub.takeC (by first | ((repeat (first | exact .one | exact .here | exact .all | apply Pick.cons | apply Pick.app)); done) | ((repeat (first | exact .one | exact .here | exact .all | apply Pick.cons | apply Pick.assoc | apply Pick.app)); done) | exact Pick.takeA (by repeat (first | exact .one | exact .here | exact .all | apply Pick.cons | apply Pick.assoc | apply Pick.app)) (by repeat (first | exact .one | exact .here | exact .all | apply Pick.cons | apply Pick.assoc | apply Pick.app))) ?_ | refine HSub.take (by first | ((repeat (first | exact .one | exact .here | exact .all | apply Pick.cons | apply Pick.app)); done) | ((repeat (first | exact .one | exact .here | exact .all | apply Pick.cons | apply Pick.assoc | apply Pick.app)); done) | exact Pick.takeA (by repeat (first | exact .one | exact .here | exact .all | apply Pick.cons | apply Pick.assoc | apply Pick.app)) (by repeat (first | exact .one | exact .here | exact .all | apply Pick.cons | apply Pick.assoc | apply Pick.app))) ?_ | exact HSub.of_pick (by first | ((repeat (first | exact .one | exact .here | exact .all | apply Pick.cons | apply Pick.app)); done) | ((repeat (first | exact .one | exact .here | exact .all | apply Pick.cons | apply Pick.assoc | apply Pick.app)); done) | exact Pick.takeA (by repeat (first | exact .one | exact .here | exact .all | apply Pick.cons | apply Pick.assoc | apply Pick.app)) (by repeat (first | exact .one | exact .here | exact .all | apply Pick.cons | apply Pick.assoc | apply Pick.app))))))
    · skip
      rw [ha] at hv13
      subst hv13
      refine o_step rfl (s_not rfl) ?_
      refine o_nil ?_
      refine x_then (hK8 _ _ ?_)
      refine c_false rfl ?_
      refine c_skip ?_
      refine x_block ?_
      refine x_then (hK7 _ _ ?_)
      refine c_region ?_
      refine o_step rfl (s_move rfl) ?_
      refine o_step rfl (s_add rfl rfl (by omega)) ?_
      refine o_step rfl (s_assign rfl) ?_
      refine o_nil ?_
      exact x_then (x_inv (i + 1, _) ⟨by omega, hp.no (by simp [*])⟩ (by first | omega | (dsimp only; omega)) (by repeat (first | exact Sub.nil | refine Sub.cons rfl ?_)) (by repeat (first | exact HSub.refl _ | exact HSub.nil | refine HSub.takeC (by first | ((repeat (first | exact .one | exact .here | exact .all | apply Pick.cons | apply Pick.app)); done) | ((repeat (first | exact .one | exact .here | exact .all | apply Pick.cons | apply Pick.assoc | apply Pick.app)); done) | exact Pick.takeA (by repeat (first | exact .one | exact .here | exact .all | apply Pick.cons | apply Pick.assoc | apply Pick.app)) (by repeat (first | exact .one | exact .here | exact .all | apply Pick.cons | apply Pick.assoc | apply Pick.app))) ?_ | refine HSub.take (by first | ((repeat (first | exact .one | exact .here | exact .all | apply Pick.cons | apply Pick.app)); done) | ((repeat (first | exact .one | exact .here | exact .all | apply Pick.cons | apply Pick.assoc | apply Pick.app)); done) | exact Pick.takeA (by repeat (first | exact .one | exact .here | exact .all | apply Pick.cons | apply Pick.assoc | apply Pick.app)) (by repeat (first | exact .one | exact .here | exact .all | apply Pick.cons | apply Pick.assoc | apply Pick.app))) ?_ | exact HSub.of_pick (by first | ((repeat (first | exact .one | exact .here | exact .all | apply Pick.cons | apply Pick.app)); done) | ((repeat (first | exact .one | exact .here | exact .all | apply Pick.cons | apply Pick.assoc | apply Pick.app)); done) | exact Pick.takeA (by repeat (first | exact .one | exact .here | exact .all | apply Pick.cons | apply Pick.assoc | apply Pick.app)) (by repeat (first | exact .one | exact .here | exact .all | apply Pick.cons | apply Pick.assoc | apply Pick.app))))))
  · skip
    obtain rfl := hp.not (by omega)
    refine c_exit ?_
    refine x_then_exit ?_
    refine x_then_exit ?_
    refine x_block_exit ?_
    refine x_then (hK3 _ _ ?_)
    refine c_seq fun _ hK9 => ?_
    refine c_region ?_
    refine o_step rfl (s_ldB rfl (RdPK.cels (.own (by repeat (first | exact List.mem_cons_self | apply List.mem_cons_of_mem | apply mem_assoc | apply mem_app)))) (by first | (rw [flat_len, Nat.mul_one]; first | assumption | exact List.length_replicate) | exact List.length_replicate | rfl)) ?_
    refine o_stW rfl rfl (by repeat (first | exact .here | apply Upd.there | apply Upd.assoc | apply Upd.skip)) (by first | (rw [flat_len, Nat.mul_one]; first | assumption | exact List.length_replicate) | exact List.length_replicate | rfl) (by first | (rw [flat_len, Nat.mul_one]; first | assumption | exact List.length_replicate) | exact List.length_replicate | rfl) (by first | exact Ec_one _ | exact flat_one _ _ | exact one_rep rfl | (simp [Value.oneCell']; done)) ?_
    refine o_nil ?_
    refine x_then (hK9 _ _ ?_)
    refine c_ret ?_
    refine ?_
    exact x_ret rfl (.agg inferInstance inferInstance rfl (RdPK.cels (.own (by repeat (first | exact List.mem_cons_self | apply List.mem_cons_of_mem | apply mem_assoc | apply mem_app)))) (by first | (rw [flat_len, Nat.mul_one]; first | assumption | exact List.length_replicate) | exact List.length_replicate | rfl) (.nil)) (rfl)

theorem rSize_fn (c : Cl) : HL.Fn Tryd.prog 30 [.agg (Ec c).toArray] (fun _ => True) [] (fun v _ => v = .int .i64 (size c)) := by
  refine fn_of Tryd.func30 rfl rfl rfl fun w0 hw => ?_
  refine c_seq fun _ hK1 => ?_
  refine c_region ?_
  refine o_box rfl rfl rfl fun b1 => ?_
  refine o_step rfl (s_assign rfl) ?_
  refine o_nil ?_
  refine x_then (hK1 _ _ ?_)
  refine c_seq fun _ hK2 => ?_
  refine c_region ?_
  refine o_step rfl (s_assign rfl) ?_
  refine o_nil ?_
  refine x_then (hK2 _ _ ?_)
  refine c_seq fun _ hK3 => ?_
  refine c_seq fun _ hK4 => ?_
  refine c_region ?_
  refine o_step rfl (s_assign rfl) ?_
  refine o_nil ?_
  refine x_then (hK4 _ _ ?_)
  refine c_block ?_
  refine c_loopB (fun (i : Nat) => i ≤ 256) (fun (i : Nat) => [(4, .int .i64 i), (3, .int .i64 (sizeTo c i))]) [(1, _), (2, _)] (fun (i : Nat) => [(b1, .cells (Ec c).toArray 24 (0, 0))]) (fun (i : Nat) => 256 - i) 0 (by omega) (by repeat (first | exact Sub.nil | refine Sub.cons rfl ?_)) (by repeat (first | exact Sub.nil | refine Sub.cons rfl ?_)) (by repeat (first | exact HSub.refl _ | exact HSub.nil | refine HSub.takeC (by first | ((repeat (first | exact .one | exact .here | exact .all | apply Pick.cons | apply Pick.app)); done) | ((repeat (first | exact .one | exact .here | exact .all | apply Pick.cons | apply Pick.assoc | apply Pick.app)); done) | exact Pick.takeA (by repeat (first | exact .one | exact .here | exact .all | apply Pick.cons | apply Pick.assoc | apply Pick.app)) (by repeat (first | exact .one | exact .here | exact .all | apply Pick.cons | apply Pick.assoc | apply Pick.app))) ?_ | refine HSub.take (by first | ((repeat (first | exact .one | exact .here | exact .all | apply Pick.cons | apply Pick.app)); done) | ((repeat (first | exact .one | exact .here | exact .all | apply Pick.cons | apply Pick.assoc | apply Pick.app)); done) | exact Pick.takeA (by repeat (first | exact .one | exact .here | exact .all | apply Pick.cons | apply Pick.assoc | apply Pick.app)) (by repeat (first | exact .one | exact .here | exact .all | apply Pick.cons | apply Pick.assoc | apply Pick.app))) ?_ | exact HSub.of_pick (by first | ((repeat (first | exact .one | exact .here | exact .all | apply Pick.cons | apply Pick.app)); done) | ((repeat (first | exact .one | exact .here | exact .all | apply Pick.cons | apply Pick.assoc | apply Pick.app)); done) | exact Pick.takeA (by repeat (first | exact .one | exact .here | exact .all | apply Pick.cons | apply Pick.assoc | apply Pick.app)) (by repeat (first | exact .one | exact .here | exact .all | apply Pick.cons | apply Pick.assoc | apply Pick.app))))) ?_
  rintro i hi
  have hsz := sizeTo_le c i
  have hst := sizeTo_step c i
  refine c_seq fun _ hK5 => ?_
  refine c_seq fun _ hK6 => ?_
  refine c_region ?_
  refine o_step rfl (s_move rfl) ?_
  refine o_step rfl (s_lss rfl rfl) ?_
  refine o_nil ?_
  refine x_then (hK6 _ _ ?_)
  refine c_if rfl (fun hlt => ?_) (fun hlt => ?_)
  · skip
    refine c_skip ?_
    refine x_then (hK5 _ _ ?_)
    refine c_seq fun _ hK7 => ?_
    refine c_block ?_
    refine c_seq fun _ hK8 => ?_
    refine c_region ?_
    refine o_step rfl (s_ldB rfl (RdPK.cels (.own (by repeat (first | exact List.mem_cons_self | apply List.mem_cons_of_mem | apply mem_assoc | apply mem_app)))) (by first | (rw [flat_len, Nat.mul_one]; first | assumption | exact List.length_replicate) | exact List.length_replicate | rfl)) ?_
    refine o_step rfl (s_move rfl) ?_
    refine o_step rfl (step_cast (v' := .int .u8 ((i : Nat) : Int)) (s_conv rfl) (congrArg _ (conv8 (by omega)))) ?_
    refine o_callP (rHas_fn c i (by omega)) rfl rfl rfl (fun _ _ => trivial) (fun v12 hv12 => ?_)
    cases ha : BitVec.getLsbD c i
    · skip
      rw [ha] at hv12
      subst hv12
      refine o_nil ?_
      refine x_then (hK8 _ _ ?_)
      refine c_false rfl ?_
      refine c_skip ?_
      refine x_block ?_
      refine x_then (hK7 _ _ ?_)
      refine c_region ?_
      refine o_step rfl (s_move rfl) ?_
      refine o_step rfl (s_add rfl rfl (by omega)) ?_
      refine o_step rfl (s_assign rfl) ?_
      refine o_nil ?_
      exact x_then (x_inv (i + 1) (by omega) (by first | omega | (dsimp only; omega)) (by refine Sub.cons rfl (Sub.cons' rfl (by rw [hst, ha]; rfl) (by repeat (first | exact Sub.nil | refine Sub.cons rfl ?_)))) (by repeat (first | exact HSub.refl _ | exact HSub.nil | refine HSub.takeC (by first | ((repeat (first | exact .one | exact .here | exact .all | apply Pick.cons | apply Pick.app)); done) | ((repeat (first | exact .one | exact .here | exact .all | apply Pick.cons | apply Pick.assoc | apply Pick.app)); done) | exact Pick.takeA (by repeat (first | exact .one | exact .here | exact .all | apply Pick.cons | apply Pick.assoc | apply Pick.app)) (by repeat (first | exact .one | exact .here | exact .all | apply Pick.cons | apply Pick.assoc | apply Pick.app))) ?_ | refine HSub.take (by first | ((repeat (first | exact .one | exact .here | exact .all | apply Pick.cons | apply Pick.app)); done) | ((repeat (first | exact .one | exact .here | exact .all | apply Pick.cons | apply Pick.assoc | apply Pick.app)); done) | exact Pick.takeA (by repeat (first | exact .one | exact .here | exact .all | apply Pick.cons | apply Pick.assoc | apply Pick.app)) (by repeat (first | exact .one | exact .here | exact .all | apply Pick.cons | apply Pick.assoc | apply Pick.app))) ?_ | exact HSub.of_pick (by first | ((repeat (first | exact .one | exact .here | exact .all | apply Pick.cons | apply Pick.app)); done) | ((repeat (first | exact .one | exact .here | exact .all | apply Pick.cons | apply Pick.assoc | apply Pick.app)); done) | exact Pick.takeA (by repeat (first | exact .one | exact .here | exact .all | apply Pick.cons | apply Pick.assoc | apply Pick.app)) (by repeat (first | exact .one | exact .here | exact .all | apply Pick.cons | apply Pick.assoc | apply Pick.app))))))
    · skip
      rw [ha] at hv12
      subst hv12
      refine o_nil ?_
      refine x_then (hK8 _ _ ?_)
      refine c_true rfl ?_
      refine c_region ?_
      refine o_step rfl (s_move rfl) ?_
      refine o_step rfl (s_add rfl rfl (by omega)) ?_
      refine o_step rfl (s_assign rfl) ?_
      refine o_nil ?_
      refine x_block ?_
      refine x_then (hK7 _ _ ?_)
      refine c_region ?_
      refine o_step rfl (s_move rfl) ?_
      refine o_step rfl (s_add rfl rfl (by omega)) ?_
      refine o_step rfl (s_assign rfl) ?_
      refine o_nil ?_
      exact x_then (x_inv (i + 1) (by omega) (by first | omega | (dsimp only; omega)) (by refine Sub.cons rfl (Sub.cons' rfl (by rw [hst, ha]; rfl) (by repeat (first | exact Sub.nil | refine Sub.cons rfl ?_)))) (by repeat (first | exact HSub.refl _ | exact HSub.nil | refine HSub.takeC (by first | ((repeat (first | exact .one | exact .here | exact .all | apply Pick.cons | apply Pick.app)); done) | ((repeat (first | exact .one | exact .here | exact .all | apply Pick.cons | apply Pick.assoc | apply Pick.app)); done) | exact Pick.takeA (by repeat (first | exact .one | exact .here | exact .all | apply Pick.cons | apply Pick.assoc | apply Pick.app)) (by repeat (first | exact .one | exact .here | exact .all | apply Pick.cons | apply Pick.assoc | apply Pick.app))) ?_ | refine HSub.take (by first | ((repeat (first | exact .one | exact .here | exact .all | apply Pick.cons | apply Pick.app)); done) | ((repeat (first | exact .one | exact .here | exact .all | apply Pick.cons | apply Pick.assoc | apply Pick.app)); done) | exact Pick.takeA (by repeat (first | exact .one | exact .here | exact .all | apply Pick.cons | apply Pick.assoc | apply Pick.app)) (by repeat (first | exact .one | exact .here | exact .all | apply Pick.cons | apply Pick.assoc | apply Pick.app))) ?_ | exact HSub.of_pick (by first | ((repeat (first | exact .one | exact .here | exact .all | apply Pick.cons | apply Pick.app)); done) | ((repeat (first | exact .one | exact .here | exact .all | apply Pick.cons | apply Pick.assoc | apply Pick.app)); done) | exact Pick.takeA (by repeat (first | exact .one | exact .here | exact .all | apply Pick.cons | apply Pick.assoc | apply Pick.app)) (by repeat (first | exact .one | exact .here | exact .all | apply Pick.cons | apply Pick.assoc | apply Pick.app))))))
  · skip
    obtain rfl : i = 256 := by omega
    refine c_exit ?_
    refine x_then_exit ?_
    refine x_then_exit ?_
    refine x_block_exit ?_
    refine x_then (hK3 _ _ ?_)
    refine c_seq fun _ hK9 => ?_
    refine c_region ?_
    refine o_step rfl (s_move rfl) ?_
    refine o_step rfl (s_assign rfl) ?_
    refine o_nil ?_
    refine x_then (hK9 _ _ ?_)
    refine c_ret ?_
    refine ?_
    exact x_ret rfl (.tmp rfl (.nil)) (rfl)

theorem bytes_fn (c : Cl) : HL.Fn Tryd.prog 13 [.agg (Ec c).toArray] (fun _ => True) [] (fun v S' => ∃ a n, v = .slice a (mems c).length n ∧ OwnS Eby 1 5 (.slice a (mems c).length n) (mems c) S') := by
  refine fn_of Tryd.func13 rfl rfl rfl fun w0 hw => ?_
  refine c_seq fun _ hK1 => ?_
  refine c_region ?_
  refine o_box rfl rfl rfl fun b1 => ?_
  refine o_step rfl (s_assign rfl) ?_
  refine o_nil ?_
  refine x_then (hK1 _ _ ?_)
  refine c_seq fun _ hK2 => ?_
  refine c_region ?_
  refine o_step rfl (s_assign rfl) ?_
  refine o_nil ?_
  refine x_then (hK2 _ _ ?_)
  refine c_seq fun _ hK3 => ?_
  refine c_seq fun _ hK4 => ?_
  refine c_region ?_
  refine o_step rfl (s_assign rfl) ?_
  refine o_nil ?_
  refine x_then (hK4 _ _ ?_)
  refine c_block ?_
  refine c_loop4 (fun (i : Nat) (a : Option Addr) (n : Nat) (S : Hp) => i ≤ 256 ∧ OwnS Eby 1 5 (.slice a (memsTo c i).length n) (memsTo c i) S) (fun (i : Nat) (a : Option Addr) (n : Nat) (S : Hp) => [(4, .int .i64 i), (3, .slice a (memsTo c i).length n)]) [(1, _), (2, _)] (fun (i : Nat) (a : Option Addr) (n : Nat) (S : Hp) => S ++ [(b1, .cells (Ec c).toArray 24 (0, 0))]) (fun (i : Nat) (a : Option Addr) (n : Nat) (S : Hp) => 256 - i) 0 none 0 [] ⟨by omega, .nil⟩ (by repeat (first | exact Sub.nil | refine Sub.cons rfl ?_)) (by repeat (first | exact Sub.nil | refine Sub.cons rfl ?_)) (by repeat (first | exact HSub.refl _ | exact HSub.nil | refine HSub.takeC (by first | ((repeat (first | exact .one | exact .here | exact .all | apply Pick.cons | apply Pick.app)); done) | ((repeat (first | exact .one | exact .here | exact .all | apply Pick.cons | apply Pick.assoc | apply Pick.app)); done) | exact Pick.takeA (by repeat (first | exact .one | exact .here | exact .all | apply Pick.cons | apply Pick.assoc | apply Pick.app)) (by repeat (first | exact .one | exact .here | exact .all | apply Pick.cons | apply Pick.assoc | apply Pick.app))) ?_ | refine HSub.take (by first | ((repeat (first | exact .one | exact .here | exact .all | apply Pick.cons | apply Pick.app)); done) | ((repeat (first | exact .one | exact .here | exact .all | apply Pick.cons | apply Pick.assoc | apply Pick.app)); done) | exact Pick.takeA (by repeat (first | exact .one | exact .here | exact .all | apply Pick.cons | apply Pick.assoc | apply Pick.app)) (by repeat (first | exact .one | exact .here | exact .all | apply Pick.cons | apply Pick.assoc | apply Pick.app))) ?_ | exact HSub.of_pick (by first | ((repeat (first | exact .one | exact .here | exact .all | apply Pick.cons | apply Pick.app)); done) | ((repeat (first | exact .one | exact .here | exact .all | apply Pick.cons | apply Pick.assoc | apply Pick.app)); done) | exact Pick.takeA (by repeat (first | exact .one | exact .here | exact .all | apply Pick.cons | apply Pick.assoc | apply Pick.app)) (by repeat (first | exact .one | exact .here | exact .all | apply Pick.cons | apply Pick.assoc | apply Pick.app))))) ?_
  rintro i a n S ⟨hi, hS⟩
  have hbl := memsTo_len c i
  refine c_seq fun _ hK5 => ?_
  refine c_seq fun _ hK6 => ?_
  refine c_region ?_
  refine o_step rfl (s_move rfl) ?_
  refine o_step rfl (s_lss rfl rfl) ?_
  refine o_nil ?_
  refine x_then (hK6 _ _ ?_)
  refine c_if rfl (fun hlt => ?_) (fun hlt => ?_)
  · skip
    refine c_skip ?_
    refine x_then (hK5 _ _ ?_)
    refine c_seq fun _ hK7 => ?_
    refine c_block ?_
    refine c_seq fun _ hK8 => ?_
    refine c_region ?_
    refine o_step rfl (s_ldB rfl (RdPK.cels (.own (by repeat (first | exact List.mem_cons_self | apply List.mem_cons_of_mem | apply mem_assoc | apply mem_app)))) (by first | (rw [flat_len, Nat.mul_one]; first | assumption | exact List.length_replicate) | exact List.length_replicate | rfl)) ?_
    refine o_step rfl (s_move rfl) ?_
    refine o_step rfl (step_cast (v' := .int .u8 ((i : Nat) : Int)) (s_conv rfl) (congrArg _ (conv8 (by omega)))) ?_
    refine o_callP (rHas_fn c i (by omega)) rfl rfl rfl (fun _ _ => trivial) (fun v12 hv12 => ?_)
    cases ha : BitVec.getLsbD c i
    · skip
      rw [ha] at hv12
      subst hv12
      refine o_nil ?_
      refine x_then (hK8 _ _ ?_)
      refine c_false rfl ?_
      refine c_skip ?_
      refine x_block ?_
      refine x_then (hK7 _ _ ?_)
      refine c_region ?_
      refine o_step rfl (s_move rfl) ?_
      refine o_step rfl (s_add rfl rfl (by omega)) ?_
      refine o_step rfl (s_assign rfl) ?_
      refine o_nil ?_
      have hno := memsTo_no ha
      skip
      exact x_then (x_inv (i + 1, a, n, S) ⟨by omega, hno ▸ hS⟩ (by first | omega | (dsimp only; omega)) (by refine Sub.cons rfl (Sub.cons' rfl (by rw [hno]) (by repeat (first | exact Sub.nil | refine Sub.cons rfl ?_)))) (by repeat (first | exact HSub.refl _ | exact HSub.nil | refine HSub.takeC (by first | ((repeat (first | exact .one | exact .here | exact .all | apply Pick.cons | apply Pick.app)); done) | ((repeat (first | exact .one | exact .here | exact .all | apply Pick.cons | apply Pick.assoc | apply Pick.app)); done) | exact Pick.takeA (by repeat (first | exact .one | exact .here | exact .all | apply Pick.cons | apply Pick.assoc | apply Pick.app)) (by repeat (first | exact .one | exact .here | exact .all | apply Pick.cons | apply Pick.assoc | apply Pick.app))) ?_ | refine HSub.take (by first | ((repeat (first | exact .one | exact .here | exact .all | apply Pick.cons | apply Pick.app)); done) | ((repeat (first | exact .one | exact .here | exact .all | apply Pick.cons | apply Pick.assoc | apply Pick.app)); done) | exact Pick.takeA (by repeat (first | exact .one | exact .here | exact .all | apply Pick.cons | apply Pick.assoc | apply Pick.app)) (by repeat (first | exact .one | exact .here | exact .all | apply Pick.cons | apply Pick.assoc | apply Pick.app))) ?_ | exact HSub.of_pick (by first | ((repeat (first | exact .one | exact .here | exact .all | apply Pick.cons | apply Pick.app)); done) | ((repeat (first | exact .one | exact .here | exact .all | apply Pick.cons | apply Pick.assoc | apply Pick.app)); done) | exact Pick.takeA (by repeat (first | exact .one | exact .here | exact .all | apply Pick.cons | apply Pick.assoc | apply Pick.app)) (by repeat (first | exact .one | exact .here | exact .all | apply Pick.cons | apply Pick.assoc | apply Pick.app))))))
    · skip
      rw [ha] at hv12
      subst hv12
      refine o_nil ?_
      refine x_then (hK8 _ _ ?_)
      refine c_true rfl ?_
      refine c_region ?_
      refine o_step rfl (s_move rfl) ?_
      refine o_step rfl (s_move rfl) ?_
      refine o_step rfl (step_cast (v' := .int .u8 ((i : Nat) : Int)) (s_conv rfl) (congrArg _ (conv8 (by omega)))) ?_
      refine o_bs (E := Eby) (xs := [i]) (vs := [_]) rfl rfl rfl rfl rfl (by decide) (by decide) fun b16 S16 hS16 => ?_
      refine o_app hS (hS16.rdk (by repeat (first | exact HIn.here | exact HIn.all | exact HIn.one | apply HIn.cons | apply HIn.assoc | apply HIn.app))) rfl rfl rfl rfl (by show ((memsTo c i).length + 1) * 1 ≤ _; omega) (by show (memsTo c i).length + 1 ≤ _; omega) rfl (by first | ((repeat (first | exact .one | exact .here | exact .all | apply Pick.cons | apply Pick.app)); done) | ((repeat (first | exact .one | exact .here | exact .all | apply Pick.cons | apply Pick.assoc | apply Pick.app)); done) | exact Pick.takeA (by repeat (first | exact .one | exact .here | exact .all | apply Pick.cons | apply Pick.assoc | apply Pick.app)) (by repeat (first | exact .one | exact .here | exact .all | apply Pick.cons | apply Pick.assoc | apply Pick.app))) fun a17 c17 S17 hS17 => ?_
      refine o_step rfl (s_assign rfl) ?_
      refine o_nil ?_
      refine x_block ?_
      refine x_then (hK7 _ _ ?_)
      refine c_region ?_
      refine o_step rfl (s_move rfl) ?_
      refine o_step rfl (s_add rfl rfl (by omega)) ?_
      refine o_step rfl (s_assign rfl) ?_
      refine o_nil ?_
      have hyes := memsTo_yes ha
      exact x_then (x_inv (i + 1, a17, c17, S17) ⟨by omega, hyes ▸ hS17⟩ (by first | omega | (dsimp only; omega)) (by refine Sub.cons rfl (Sub.cons' rfl (by rw [hyes]) (by repeat (first | exact Sub.nil | refine Sub.cons rfl ?_)))) (by repeat (first | exact HSub.refl _ | exact HSub.nil | refine HSub.takeC (by first | ((repeat (first | exact .one | exact .here | exact .all | apply Pick.cons | apply Pick.app)); done) | ((repeat (first | exact .one | exact .here | exact .all | apply Pick.cons | apply Pick.assoc | apply Pick.app)); done) | exact Pick.takeA (by repeat (first | exact .one | exact .here | exact .all | apply Pick.cons | apply Pick.assoc | apply Pick.app)) (by repeat (first | exact .one | exact .here | exact .all | apply Pick.cons | apply Pick.assoc | apply Pick.app))) ?_ | refine HSub.take (by first | ((repeat (first | exact .one | exact .here | exact .all | apply Pick.cons | apply Pick.app)); done) | ((repeat (first | exact .one | exact .here | exact .all | apply Pick.cons | apply Pick.assoc | apply Pick.app)); done) | exact Pick.takeA (by repeat (first | exact .one | exact .here | exact .all | apply Pick.cons | apply Pick.assoc | apply Pick.app)) (by repeat (first | exact .one | exact .here | exact .all | apply Pick.cons | apply Pick.assoc | apply Pick.app))) ?_ | exact HSub.of_pick (by first | ((repeat (first | exact .one | exact .here | exact .all | apply Pick.cons | apply Pick.app)); done) | ((repeat (first | exact .one | exact .here | exact .all | apply Pick.cons | apply Pick.assoc | apply Pick.app)); done) | exact Pick.takeA (by repeat (first | exact .one | exact .here | exact .all | apply Pick.cons | apply Pick.assoc | apply Pick.app)) (by repeat (first | exact .one | exact .here | exact .all | apply Pick.cons | apply Pick.assoc | apply Pick.app))))))
  · skip
    obtain rfl : i = 256 := by omega
    refine c_exit ?_
    refine x_then_exit ?_
    refine x_then_exit ?_
    refine x_block_exit ?_
    refine x_then (hK3 _ _ ?_)
    refine c_seq fun _ hK9 => ?_
    refine c_region ?_
    refine o_step rfl (s_move rfl) ?_
    refine o_step rfl (s_assign rfl) ?_
    refine o_nil ?_
    refine x_then (hK9 _ _ ?_)
    refine c_ret ?_
    refine ?_
    refine x_sub (Sub.refl _) (H' := S) (by repeat (first | exact HSub.refl _ | exact HSub.nil | refine HSub.takeC (by first | ((repeat (first | exact .one | exact .here | exact .all | apply Pick.cons | apply Pick.app)); done) | ((repeat (first | exact .one | exact .here | exact .all | apply Pick.cons | apply Pick.assoc | apply Pick.app)); done) | exact Pick.takeA (by repeat (first | exact .one | exact .here | exact .all | apply Pick.cons | apply Pick.assoc | apply Pick.app)) (by repeat (first | exact .one | exact .here | exact .all | apply Pick.cons | apply Pick.assoc | apply Pick.app))) ?_ | refine HSub.take (by first | ((repeat (first | exact .one | exact .here | exact .all | apply Pick.cons | apply Pick.app)); done) | ((repeat (first | exact .one | exact .here | exact .all | apply Pick.cons | apply Pick.assoc | apply Pick.app)); done) | exact Pick.takeA (by repeat (first | exact .one | exact .here | exact .all | apply Pick.cons | apply Pick.assoc | apply Pick.app)) (by repeat (first | exact .one | exact .here | exact .all | apply Pick.cons | apply Pick.assoc | apply Pick.app))) ?_ | exact HSub.of_pick (by first | ((repeat (first | exact .one | exact .here | exact .all | apply Pick.cons | apply Pick.app)); done) | ((repeat (first | exact .one | exact .here | exact .all | apply Pick.cons | apply Pick.assoc | apply Pick.app)); done) | exact Pick.takeA (by repeat (first | exact .one | exact .here | exact .all | apply Pick.cons | apply Pick.assoc | apply Pick.app)) (by repeat (first | exact .one | exact .here | exact .all | apply Pick.cons | apply Pick.assoc | apply Pick.app))))) ?_
    exact x_ret rfl (.tmp rfl (.nil)) (⟨_, _, rfl, hS⟩)
end Go.Proofs.YtnjjkkncoijmmaaDoor
