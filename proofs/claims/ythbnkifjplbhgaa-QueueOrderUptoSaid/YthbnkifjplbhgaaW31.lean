/- Part of the proofs over this seat: see the text that holds the theorem. Conditions: each theorem bears its own. -/
import Derived.Test.YthbnkifjplbhgaaW29
import Derived.Test.YthbnkifjplbhgaaW30
namespace Go.Proofs.Ythbnkifjplbhgaa
open Go Go.HL Go.Proofs Go.Tab
set_option maxHeartbeats 4000000 in
theorem queueOrder_fn (a : Option Addr) (c : Nat) (things : List OpQ) (fail : Int) (hlen : things.length ≤ 1048576) (hbl : ∀ o ∈ things, o.b.xs.length ≤ 1048576 ∧ o.n.size ≤ 140737488355328) : HL.Fn Try.prog 3 [.slice a things.length c, .int .i64 fail] (fun w => Rd Eopq w (.slice a things.length c) things ∧ ∀ o ∈ things, Rd Eb w o.b.v o.b.xs) [] (fun v _ => v = .bool true) := by
  refine fn_of Try.func3 rfl rfl rfl fun w0 hw => ?_
  obtain ⟨hth, hbr⟩ := hw
  have hst := hth.sl
  have hbt := hst.le
  refine c_seq fun _ hK1 => ?_
  refine c_region ?_
  refine o_step rfl (s_assign rfl) ?_
  refine o_nil ?_
  refine x_then (hK1 _ _ ?_)
  refine c_seq fun _ hK2 => ?_
  refine c_seq fun _ hK3 => ?_
  refine c_region ?_
  refine o_step rfl (s_move rfl) ?_
  refine o_callP (beyondQ_fn a c things (fun o ho => by have := hbl o ho; omega)) rfl rfl rfl (fun w st => (RdK.old0 hth).out w st) (fun v19 ⟨b19, hv19⟩ => ?_)
  subst hv19
  cases b19
  · skip
    refine o_nil ?_
    refine x_then (hK3 _ _ ?_)
    refine c_false rfl ?_
    refine c_skip ?_
    refine x_then (hK2 _ _ ?_)
    refine c_seq fun _ hK4 => ?_
    refine c_region ?_
    refine o_callP (qlives_fn) rfl rfl rfl (fun _ _ => trivial) (fun v20 hv20 => ?_)
    subst hv20
    refine o_step rfl (s_assign rfl) ?_
    refine o_nil ?_
    refine x_then (hK4 _ _ ?_)
    refine c_seq fun _ hK5 => ?_
    refine c_region ?_
    refine o_call (queueNew_fn) rfl rfl rfl (by exact .nil) (fun _ _ => trivial) (fun v21 S21 ⟨bq, hv21, hS21⟩ => ?_)
    subst hv21
    subst hS21
    refine o_step rfl (s_assign rfl) ?_
    refine o_nil ?_
    refine x_then (hK5 _ _ ?_)
    refine c_seq fun _ hK6 => ?_
    refine c_seq fun _ hK7 => ?_
    refine c_region ?_
    refine o_step rfl (s_move rfl) ?_
    refine o_step rfl (s_not rfl) ?_
    refine o_step rfl (s_move rfl) ?_
    refine o_yes rfl rfl ?_
    refine o_step rfl (s_move rfl) ?_
    refine o_yes rfl rfl ?_
    refine o_step rfl (step_cast (v' := .bool false) (s_eql_nilp rfl rfl) rfl) ?_
    refine o_step rfl (s_pick_f rfl rfl) ?_
    refine o_nil ?_
    refine x_then (hK7 _ _ ?_)
    refine c_false rfl ?_
    refine c_skip ?_
    refine x_then (hK6 _ _ ?_)
    refine c_seq fun _ hK8 => ?_
    refine c_region ?_
    refine o_step rfl (s_move rfl) ?_
    refine o_step rfl (s_build (cs := [_, _, _, _, _, _, _, _, _, _, _, _, _, _, _, _, _, _, _, _, _, _, _, _, _]) (vs := [_, _]) rfl rfl (.cons rfl rfl rfl rfl rfl (.cons rfl rfl rfl rfl rfl (.nil)))) ?_
    refine o_step rfl (s_build (cs := [_, _, _, _, _, _, _, _, _, _, _, _, _, _, _, _, _, _, _, _, _, _, _, _, _, _, _, _, _, _]) (vs := [_]) rfl rfl (.cons rfl rfl rfl rfl rfl (.nil))) ?_
    refine o_box rfl rfl rfl fun b31 => ?_
    refine o_step rfl (s_assign rfl) ?_
    refine o_nil ?_
    refine x_then (hK8 _ _ ?_)
    refine c_seq fun _ hK9 => ?_
    refine c_region ?_
    refine o_step rfl (s_assign rfl) ?_
    refine o_nil ?_
    refine x_then (hK9 _ _ ?_)
    refine c_seq fun _ hK10 => ?_
    refine c_region ?_
    refine o_step rfl (s_assign rfl) ?_
    refine o_nil ?_
    refine x_then (hK10 _ _ ?_)
    refine c_seq fun _ hK11 => ?_
    refine c_region ?_
    refine o_step rfl (s_assign rfl) ?_
    refine o_nil ?_
    refine x_then (hK11 _ _ ?_)
    refine c_seq fun _ hK12 => ?_
    refine c_seq fun _ hK13 => ?_
    refine c_region ?_
    refine o_step rfl (s_assign rfl) ?_
    refine o_nil ?_
    refine x_then (hK13 _ _ ?_)
    refine c_block ?_
    refine c_loop6 (fun (i : Nat) (q : Sl IV) (So : Hp) (Si : Hp) (f : Sl FileV) (Sf : Hp) => i ≤ things.length ∧ OwnS Eiv 1 106 (.slice q.a q.xs.length q.c) q.xs So ∧ Items q.xs (thingsOf (things.take i)) Si ∧ OwnS Efile 3 46 (.slice f.a f.xs.length f.c) f.xs Sf ∧ f.xs = filesOf (things.take i)) (fun (i : Nat) (q : Sl IV) (So : Hp) (Si : Hp) (f : Sl FileV) (Sf : Hp) => [(11, .int .i64 i), (10, .int .i64 q.xs.length)]) [(0, _), (1, _), (4, _), (6, _), (7, _), (8, _), (9, _)] (fun (i : Nat) (q : Sl IV) (So : Hp) (Si : Hp) (f : Sl FileV) (Sf : Hp) => (bq, .cells [.bool true, .slice q.a q.xs.length q.c].toArray 58 (0, 0)) :: (b31, .cells [.slice none 0 0, .pointer none, .pointer none, .pointer none, .slice f.a f.xs.length f.c, .int .i64 fail, .int .i64 22, .int .i64 0, .int .i64 0, .pointer none, .slice none 0 0, .string ⟨#[]⟩, .bool false, .bool false, .bool false, .bool false, .int .i64 0, .int .i64 0, .int .i64 0, .slice none 0 0, .string ⟨#[]⟩, .slice none 0 0, .slice none 0 0, .slice none 0 0, .slice none 0 0, .pointer none, .int .i64 0, .slice none 0 0, .string ⟨#[]⟩, .slice none 0 0].toArray 40 (0, 0)) :: (So ++ (Si ++ Sf))) (fun (i : Nat) (q : Sl IV) (So : Hp) (Si : Hp) (f : Sl FileV) (Sf : Hp) => things.length - i) 0 ⟨none, 0, []⟩ [] [] ⟨none, 0, []⟩ [] ⟨by omega, .nil, ⟨rfl, fun j q h => by simp [thingsOf] at h⟩, .nil, rfl⟩ (by repeat (first | exact Sub.nil | refine Sub.cons rfl ?_)) (by repeat (first | exact Sub.nil | refine Sub.cons rfl ?_)) (by repeat (first | exact HSub.refl _ | exact HSub.nil | refine HSub.takeC (by first | ((repeat (first | exact .one | exact .here | exact .all | apply Pick.cons | apply Pick.app)); done) | ((repeat (first | exact .one | exact .here | exact .all | apply Pick.cons | apply Pick.assoc | apply Pick.app)); done) | exact Pick.takeA (by repeat (first | exact .one | exact .here | exact .all | apply Pick.cons | apply Pick.assoc | apply Pick.app)) (by repeat (first | exact .one | exact .here | exact .all | apply Pick.cons | apply Pick.assoc | apply Pick.app))) ?_ | refine HSub.take (by first | ((repeat (first | exact .one | exact .here | exact .all | apply Pick.cons | apply Pick.app)); done) | ((repeat (first | exact .one | exact .here | exact .all | apply Pick.cons | apply Pick.assoc | apply Pick.app)); done) | exact Pick.takeA (by repeat (first | exact .one | exact .here | exact .all | apply Pick.cons | apply Pick.assoc | apply Pick.app)) (by repeat (first | exact .one | exact .here | exact .all | apply Pick.cons | apply Pick.assoc | apply Pick.app))) ?_ | exact HSub.of_pick (by first | ((repeat (first | exact .one | exact .here | exact .all | apply Pick.cons | apply Pick.app)); done) | ((repeat (first | exact .one | exact .here | exact .all | apply Pick.cons | apply Pick.assoc | apply Pick.app)); done) | exact Pick.takeA (by repeat (first | exact .one | exact .here | exact .all | apply Pick.cons | apply Pick.assoc | apply Pick.app)) (by repeat (first | exact .one | exact .here | exact .all | apply Pick.cons | apply Pick.assoc | apply Pick.app))))) ?_
    rintro i q So Si f Sf ⟨hi, hQ, hI, hF, hfx⟩
    have hqn : q.xs.length ≤ 1048576 := by have h1 := hI.len; have h2 := thingsOf_len (things.take i); have h3 : (things.take i).length ≤ things.length := (by rw [List.length_take]; omega); omega
    have hfn : f.xs.length ≤ 1048576 := by have h2 := filesOf_len (things.take i); have h3 : (things.take i).length ≤ things.length := (by rw [List.length_take]; omega); rw [← hfx] at h2; omega
    refine c_seq fun _ hK14 => ?_
    refine c_seq fun _ hK15 => ?_
    refine c_region ?_
    refine o_step rfl (s_move rfl) ?_
    refine o_step rfl (s_move rfl) ?_
    refine o_step rfl (s_len rfl) ?_
    refine o_step rfl (s_lss rfl rfl) ?_
    refine o_nil ?_
    refine x_then (hK15 _ _ ?_)
    refine c_if rfl (fun hlt => ?_) (fun hlt => ?_)
    · skip
      have hil : i < things.length := by omega
      obtain ⟨x, hx⟩ : ∃ x, x = things.getD i oz := ⟨_, rfl⟩
      have hxm : x ∈ things := hx ▸ gd_mem hil
      have hxg : things[i]? = some x := hx ▸ gd_get hil
      have hob := hbl x hxm
      have hxr := hbr x hxm
      refine c_skip ?_
      refine x_then (hK14 _ _ ?_)
      refine c_seq fun _ hK16 => ?_
      refine c_block ?_
      refine c_seq fun _ hK17 => ?_
      refine c_region ?_
      refine o_step rfl (s_move rfl) ?_
      refine o_step rfl (s_move rfl) ?_
      refine o_step rfl (s_idx rfl rfl (by assumption) (by omega)) ?_
      refine o_step rfl (s_ldB rfl ((RdK.old0 hth).lds i hxg (by omega)) rfl) ?_
      refine o_alloc rfl rfl fun b12 => ?_
      refine o_stW rfl rfl (by repeat (first | exact .here | apply Upd.there | apply Upd.assoc | apply Upd.skip)) rfl (by first | (rw [flat_len, Nat.mul_one]; first | assumption | exact List.length_replicate) | exact List.length_replicate | rfl) (by simp [Eopq, Value.oneCell', Sl.v]) ?_
      refine o_nil ?_
      refine x_then (hK17 _ _ ?_)
      refine c_seq fun _ hK18 => ?_
      refine c_region ?_
      refine o_step rfl (s_field rfl rfl (by decide)) ?_
      refine o_step rfl (s_ld rfl (.own (by repeat (first | exact List.mem_cons_self | apply List.mem_cons_of_mem | apply mem_assoc | apply mem_app)) rfl)) ?_
      refine o_nil ?_
      refine x_then (hK18 _ _ ?_)
      refine c_block ?_
      refine c_seq fun _ hK19 => ?_
      refine c_region ?_
      refine o_step rfl (s_eql rfl rfl) ?_
      refine o_step rfl (s_assign rfl) ?_
      refine o_nil ?_
      refine x_then (hK19 _ _ ?_)
      refine c_if rfl (fun hk0 => ?_) (fun hk0 => ?_)
      · skip
        refine c_seq fun _ hK20 => ?_
        refine c_region ?_
        refine o_step rfl (s_move rfl) ?_
        refine o_step rfl (s_field rfl rfl (by decide)) ?_
        refine o_step rfl (s_ld rfl (.own (by repeat (first | exact List.mem_cons_self | apply List.mem_cons_of_mem | apply mem_assoc | apply mem_app)) rfl)) ?_
        refine o_call (text_fn bq q.a q.c q.xs So hQ (by omega) x.b.a x.b.c x.b.xs) rfl rfl rfl ((Pick.takeC (by first | ((repeat (first | exact .one | exact .here | exact .all | apply Pick.cons | apply Pick.app)); done) | ((repeat (first | exact .one | exact .here | exact .all | apply Pick.cons | apply Pick.assoc | apply Pick.app)); done) | exact Pick.takeA (by repeat (first | exact .one | exact .here | exact .all | apply Pick.cons | apply Pick.assoc | apply Pick.app)) (by repeat (first | exact .one | exact .here | exact .all | apply Pick.cons | apply Pick.assoc | apply Pick.app))) (by first | ((repeat (first | exact .one | exact .here | exact .all | apply Pick.cons | apply Pick.app)); done) | ((repeat (first | exact .one | exact .here | exact .all | apply Pick.cons | apply Pick.assoc | apply Pick.app)); done) | exact Pick.takeA (by repeat (first | exact .one | exact .here | exact .all | apply Pick.cons | apply Pick.assoc | apply Pick.app)) (by repeat (first | exact .one | exact .here | exact .all | apply Pick.cons | apply Pick.assoc | apply Pick.app))))) (fun w st => ⟨(RdK.old0 hxr).out w st, St.apart_old st (hin_sub (by repeat (first | exact HSub.refl _ | exact HSub.nil | refine HSub.takeC (by first | ((repeat (first | exact .one | exact .here | exact .all | apply Pick.cons | apply Pick.app)); done) | ((repeat (first | exact .one | exact .here | exact .all | apply Pick.cons | apply Pick.assoc | apply Pick.app)); done) | exact Pick.takeA (by repeat (first | exact .one | exact .here | exact .all | apply Pick.cons | apply Pick.assoc | apply Pick.app)) (by repeat (first | exact .one | exact .here | exact .all | apply Pick.cons | apply Pick.assoc | apply Pick.app))) ?_ | refine HSub.take (by first | ((repeat (first | exact .one | exact .here | exact .all | apply Pick.cons | apply Pick.app)); done) | ((repeat (first | exact .one | exact .here | exact .all | apply Pick.cons | apply Pick.assoc | apply Pick.app)); done) | exact Pick.takeA (by repeat (first | exact .one | exact .here | exact .all | apply Pick.cons | apply Pick.assoc | apply Pick.app)) (by repeat (first | exact .one | exact .here | exact .all | apply Pick.cons | apply Pick.assoc | apply Pick.app))) ?_ | exact HSub.of_pick (by first | ((repeat (first | exact .one | exact .here | exact .all | apply Pick.cons | apply Pick.app)); done) | ((repeat (first | exact .one | exact .here | exact .all | apply Pick.cons | apply Pick.assoc | apply Pick.app)); done) | exact Pick.takeA (by repeat (first | exact .one | exact .here | exact .all | apply Pick.cons | apply Pick.assoc | apply Pick.app)) (by repeat (first | exact .one | exact .here | exact .all | apply Pick.cons | apply Pick.assoc | apply Pick.app)))))) hxr (by decide)⟩) (fun v49 S49 ⟨hv49, qa49, qc49, a49, c49, So49, Sx49, hS49, hO49, hX49⟩ => ?_)
        subst hv49
        subst hS49
        refine o_nil ?_
        refine x_then (hK20 _ _ ?_)
        refine c_region ?_
        refine o_step rfl (s_move rfl) ?_
        refine o_step rfl (step_cast (v' := .int .i64 ((q.xs ++ [(⟨103, .slice a49 x.b.xs.length c49⟩ : IV)]).length : Nat)) (s_add rfl rfl (by omega)) (by simp)) ?_
        refine o_step rfl (s_assign rfl) ?_
        refine o_nil ?_
        refine x_block ?_
        refine x_block ?_
        refine x_then (hK16 _ _ ?_)
        refine c_region ?_
        refine o_step rfl (s_move rfl) ?_
        refine o_step rfl (s_add rfl rfl (by omega)) ?_
        refine o_step rfl (s_assign rfl) ?_
        refine o_nil ?_
        exact x_then (x_inv (i + 1, ⟨qa49, qc49, q.xs ++ [(⟨103, .slice a49 x.b.xs.length c49⟩ : IV)]⟩, So49, Sx49 ++ Si, f, Sf) ⟨by omega, hO49, by rw [thingsOf_take hil, ← hx, if_pos hk0]; exact hI.text hX49, hF, by rw [filesOf_take hil, ← hx, if_neg (by omega), List.append_nil]; exact hfx⟩ (by first | omega | (dsimp only; omega)) (by repeat (first | exact Sub.nil | refine Sub.cons rfl ?_)) (by repeat (first | exact HSub.refl _ | exact HSub.nil | refine HSub.takeC (by first | ((repeat (first | exact .one | exact .here | exact .all | apply Pick.cons | apply Pick.app)); done) | ((repeat (first | exact .one | exact .here | exact .all | apply Pick.cons | apply Pick.assoc | apply Pick.app)); done) | exact Pick.takeA (by repeat (first | exact .one | exact .here | exact .all | apply Pick.cons | apply Pick.assoc | apply Pick.app)) (by repeat (first | exact .one | exact .here | exact .all | apply Pick.cons | apply Pick.assoc | apply Pick.app))) ?_ | refine HSub.take (by first | ((repeat (first | exact .one | exact .here | exact .all | apply Pick.cons | apply Pick.app)); done) | ((repeat (first | exact .one | exact .here | exact .all | apply Pick.cons | apply Pick.assoc | apply Pick.app)); done) | exact Pick.takeA (by repeat (first | exact .one | exact .here | exact .all | apply Pick.cons | apply Pick.assoc | apply Pick.app)) (by repeat (first | exact .one | exact .here | exact .all | apply Pick.cons | apply Pick.assoc | apply Pick.app))) ?_ | exact HSub.of_pick (by first | ((repeat (first | exact .one | exact .here | exact .all | apply Pick.cons | apply Pick.app)); done) | ((repeat (first | exact .one | exact .here | exact .all | apply Pick.cons | apply Pick.assoc | apply Pick.app)); done) | exact Pick.takeA (by repeat (first | exact .one | exact .here | exact .all | apply Pick.cons | apply Pick.assoc | apply Pick.app)) (by repeat (first | exact .one | exact .here | exact .all | apply Pick.cons | apply Pick.assoc | apply Pick.app))))))
      · skip
        refine c_seq fun _ hK21 => ?_
        refine c_region ?_
        refine o_step rfl (s_eql rfl rfl) ?_
        refine o_step rfl (s_assign rfl) ?_
        refine o_nil ?_
        refine x_then (hK21 _ _ ?_)
        refine c_if rfl (fun hk1 => ?_) (fun hk1 => ?_)
        · skip
          refine c_seq fun _ hK22 => ?_
          refine c_region ?_
          refine o_step rfl (s_move rfl) ?_
          refine o_step rfl (s_field rfl rfl (by decide)) ?_
          refine o_step rfl (s_ld rfl (.own (by repeat (first | exact List.mem_cons_self | apply List.mem_cons_of_mem | apply mem_assoc | apply mem_app)) rfl)) ?_
          refine o_call (file_fn bq q.a q.c q.xs So hQ (by omega) x.n) rfl rfl rfl ((Pick.takeC (by first | ((repeat (first | exact .one | exact .here | exact .all | apply Pick.cons | apply Pick.app)); done) | ((repeat (first | exact .one | exact .here | exact .all | apply Pick.cons | apply Pick.assoc | apply Pick.app)); done) | exact Pick.takeA (by repeat (first | exact .one | exact .here | exact .all | apply Pick.cons | apply Pick.assoc | apply Pick.app)) (by repeat (first | exact .one | exact .here | exact .all | apply Pick.cons | apply Pick.assoc | apply Pick.app))) (by first | ((repeat (first | exact .one | exact .here | exact .all | apply Pick.cons | apply Pick.app)); done) | ((repeat (first | exact .one | exact .here | exact .all | apply Pick.cons | apply Pick.assoc | apply Pick.app)); done) | exact Pick.takeA (by repeat (first | exact .one | exact .here | exact .all | apply Pick.cons | apply Pick.assoc | apply Pick.app)) (by repeat (first | exact .one | exact .here | exact .all | apply Pick.cons | apply Pick.assoc | apply Pick.app))))) (fun _ _ => trivial) (fun v57 S57 ⟨hv57, qa57, qc57, So57, hS57, hO57⟩ => ?_)
          subst hv57
          subst hS57
          refine o_nil ?_
          refine x_then (hK22 _ _ ?_)
          refine c_seq fun _ hK23 => ?_
          refine c_drawE ([(b31, .cells [.slice none 0 0, .pointer none, .pointer none, .pointer none, .slice f.a f.xs.length f.c, .int .i64 fail, .int .i64 22, .int .i64 0, .int .i64 0, .pointer none, .slice none 0 0, .string ⟨#[]⟩, .bool false, .bool false, .bool false, .bool false, .int .i64 0, .int .i64 0, .int .i64 0, .slice none 0 0, .string ⟨#[]⟩, .slice none 0 0, .slice none 0 0, .slice none 0 0, .slice none 0 0, .pointer none, .int .i64 0, .slice none 0 0, .string ⟨#[]⟩, .slice none 0 0].toArray 40 (0, 0)), (b12, .cells (Eopq x).toArray 42 (0, 0))]) (fun i => Nat.beq i 16) ?_
          refine e_take 0 rfl (by kernel_rfl) (by kernel_rfl) (by kernel_rfl) (by kernel_rfl) (fun _ _ => rfl) rfl (by repeat (first | exact HSub.refl _ | exact HSub.nil | refine HSub.takeC (by first | ((repeat (first | exact .one | exact .here | exact .all | apply Pick.cons | apply Pick.app)); done) | ((repeat (first | exact .one | exact .here | exact .all | apply Pick.cons | apply Pick.assoc | apply Pick.app)); done) | exact Pick.takeA (by repeat (first | exact .one | exact .here | exact .all | apply Pick.cons | apply Pick.assoc | apply Pick.app)) (by repeat (first | exact .one | exact .here | exact .all | apply Pick.cons | apply Pick.assoc | apply Pick.app))) ?_ | refine HSub.take (by first | ((repeat (first | exact .one | exact .here | exact .all | apply Pick.cons | apply Pick.app)); done) | ((repeat (first | exact .one | exact .here | exact .all | apply Pick.cons | apply Pick.assoc | apply Pick.app)); done) | exact Pick.takeA (by repeat (first | exact .one | exact .here | exact .all | apply Pick.cons | apply Pick.assoc | apply Pick.app)) (by repeat (first | exact .one | exact .here | exact .all | apply Pick.cons | apply Pick.assoc | apply Pick.app))) ?_ | exact HSub.of_pick (by first | ((repeat (first | exact .one | exact .here | exact .all | apply Pick.cons | apply Pick.app)); done) | ((repeat (first | exact .one | exact .here | exact .all | apply Pick.cons | apply Pick.assoc | apply Pick.app)); done) | exact Pick.takeA (by repeat (first | exact .one | exact .here | exact .all | apply Pick.cons | apply Pick.assoc | apply Pick.app)) (by repeat (first | exact .one | exact .here | exact .all | apply Pick.cons | apply Pick.assoc | apply Pick.app))))) (s_move rfl) ?_
          refine e_take 1 rfl (by kernel_rfl) (by kernel_rfl) (by kernel_rfl) (by kernel_rfl) (fun _ _ => rfl) rfl (by repeat (first | exact HSub.refl _ | exact HSub.nil | refine HSub.takeC (by first | ((repeat (first | exact .one | exact .here | exact .all | apply Pick.cons | apply Pick.app)); done) | ((repeat (first | exact .one | exact .here | exact .all | apply Pick.cons | apply Pick.assoc | apply Pick.app)); done) | exact Pick.takeA (by repeat (first | exact .one | exact .here | exact .all | apply Pick.cons | apply Pick.assoc | apply Pick.app)) (by repeat (first | exact .one | exact .here | exact .all | apply Pick.cons | apply Pick.assoc | apply Pick.app))) ?_ | refine HSub.take (by first | ((repeat (first | exact .one | exact .here | exact .all | apply Pick.cons | apply Pick.app)); done) | ((repeat (first | exact .one | exact .here | exact .all | apply Pick.cons | apply Pick.assoc | apply Pick.app)); done) | exact Pick.takeA (by repeat (first | exact .one | exact .here | exact .all | apply Pick.cons | apply Pick.assoc | apply Pick.app)) (by repeat (first | exact .one | exact .here | exact .all | apply Pick.cons | apply Pick.assoc | apply Pick.app))) ?_ | exact HSub.of_pick (by first | ((repeat (first | exact .one | exact .here | exact .all | apply Pick.cons | apply Pick.app)); done) | ((repeat (first | exact .one | exact .here | exact .all | apply Pick.cons | apply Pick.assoc | apply Pick.app)); done) | exact Pick.takeA (by repeat (first | exact .one | exact .here | exact .all | apply Pick.cons | apply Pick.assoc | apply Pick.app)) (by repeat (first | exact .one | exact .here | exact .all | apply Pick.cons | apply Pick.assoc | apply Pick.app))))) (s_move rfl) ?_
          refine e_take 2 rfl (by kernel_rfl) (by kernel_rfl) (by kernel_rfl) (by kernel_rfl) (fun _ _ => rfl) rfl (by repeat (first | exact HSub.refl _ | exact HSub.nil | refine HSub.takeC (by first | ((repeat (first | exact .one | exact .here | exact .all | apply Pick.cons | apply Pick.app)); done) | ((repeat (first | exact .one | exact .here | exact .all | apply Pick.cons | apply Pick.assoc | apply Pick.app)); done) | exact Pick.takeA (by repeat (first | exact .one | exact .here | exact .all | apply Pick.cons | apply Pick.assoc | apply Pick.app)) (by repeat (first | exact .one | exact .here | exact .all | apply Pick.cons | apply Pick.assoc | apply Pick.app))) ?_ | refine HSub.take (by first | ((repeat (first | exact .one | exact .here | exact .all | apply Pick.cons | apply Pick.app)); done) | ((repeat (first | exact .one | exact .here | exact .all | apply Pick.cons | apply Pick.assoc | apply Pick.app)); done) | exact Pick.takeA (by repeat (first | exact .one | exact .here | exact .all | apply Pick.cons | apply Pick.assoc | apply Pick.app)) (by repeat (first | exact .one | exact .here | exact .all | apply Pick.cons | apply Pick.assoc | apply Pick.app))) ?_ | exact HSub.of_pick (by first | ((repeat (first | exact .one | exact .here | exact .all | apply Pick.cons | apply Pick.app)); done) | ((repeat (first | exact .one | exact .here | exact .all | apply Pick.cons | apply Pick.assoc | apply Pick.app)); done) | exact Pick.takeA (by repeat (first | exact .one | exact .here | exact .all | apply Pick.cons | apply Pick.assoc | apply Pick.app)) (by repeat (first | exact .one | exact .here | exact .all | apply Pick.cons | apply Pick.assoc | apply Pick.app))))) (s_nil rfl) ?_
          refine e_take 3 rfl (by kernel_rfl) (by kernel_rfl) (by kernel_rfl) (by kernel_rfl) (fun _ _ => rfl) rfl (by repeat (first | exact HSub.refl _ | exact HSub.nil | refine HSub.takeC (by first | ((repeat (first | exact .one | exact .here | exact .all | apply Pick.cons | apply Pick.app)); done) | ((repeat (first | exact .one | exact .here | exact .all | apply Pick.cons | apply Pick.assoc | apply Pick.app)); done) | exact Pick.takeA (by repeat (first | exact .one | exact .here | exact .all | apply Pick.cons | apply Pick.assoc | apply Pick.app)) (by repeat (first | exact .one | exact .here | exact .all | apply Pick.cons | apply Pick.assoc | apply Pick.app))) ?_ | refine HSub.take (by first | ((repeat (first | exact .one | exact .here | exact .all | apply Pick.cons | apply Pick.app)); done) | ((repeat (first | exact .one | exact .here | exact .all | apply Pick.cons | apply Pick.assoc | apply Pick.app)); done) | exact Pick.takeA (by repeat (first | exact .one | exact .here | exact .all | apply Pick.cons | apply Pick.assoc | apply Pick.app)) (by repeat (first | exact .one | exact .here | exact .all | apply Pick.cons | apply Pick.assoc | apply Pick.app))) ?_ | exact HSub.of_pick (by first | ((repeat (first | exact .one | exact .here | exact .all | apply Pick.cons | apply Pick.app)); done) | ((repeat (first | exact .one | exact .here | exact .all | apply Pick.cons | apply Pick.assoc | apply Pick.app)); done) | exact Pick.takeA (by repeat (first | exact .one | exact .here | exact .all | apply Pick.cons | apply Pick.assoc | apply Pick.app)) (by repeat (first | exact .one | exact .here | exact .all | apply Pick.cons | apply Pick.assoc | apply Pick.app))))) (s_field rfl rfl (by decide)) ?_
          refine e_take 4 rfl (by kernel_rfl) (by kernel_rfl) (by kernel_rfl) (by kernel_rfl) (fun _ _ => rfl) rfl (by repeat (first | exact HSub.refl _ | exact HSub.nil | refine HSub.takeC (by first | ((repeat (first | exact .one | exact .here | exact .all | apply Pick.cons | apply Pick.app)); done) | ((repeat (first | exact .one | exact .here | exact .all | apply Pick.cons | apply Pick.assoc | apply Pick.app)); done) | exact Pick.takeA (by repeat (first | exact .one | exact .here | exact .all | apply Pick.cons | apply Pick.assoc | apply Pick.app)) (by repeat (first | exact .one | exact .here | exact .all | apply Pick.cons | apply Pick.assoc | apply Pick.app))) ?_ | refine HSub.take (by first | ((repeat (first | exact .one | exact .here | exact .all | apply Pick.cons | apply Pick.app)); done) | ((repeat (first | exact .one | exact .here | exact .all | apply Pick.cons | apply Pick.assoc | apply Pick.app)); done) | exact Pick.takeA (by repeat (first | exact .one | exact .here | exact .all | apply Pick.cons | apply Pick.assoc | apply Pick.app)) (by repeat (first | exact .one | exact .here | exact .all | apply Pick.cons | apply Pick.assoc | apply Pick.app))) ?_ | exact HSub.of_pick (by first | ((repeat (first | exact .one | exact .here | exact .all | apply Pick.cons | apply Pick.app)); done) | ((repeat (first | exact .one | exact .here | exact .all | apply Pick.cons | apply Pick.assoc | apply Pick.app)); done) | exact Pick.takeA (by repeat (first | exact .one | exact .here | exact .all | apply Pick.cons | apply Pick.assoc | apply Pick.app)) (by repeat (first | exact .one | exact .here | exact .all | apply Pick.cons | apply Pick.assoc | apply Pick.app))))) (s_field rfl rfl (by decide)) ?_
          refine e_take 5 rfl (by kernel_rfl) (by kernel_rfl) (by kernel_rfl) (by kernel_rfl) (fun _ _ => rfl) rfl (by repeat (first | exact HSub.refl _ | exact HSub.nil | refine HSub.takeC (by first | ((repeat (first | exact .one | exact .here | exact .all | apply Pick.cons | apply Pick.app)); done) | ((repeat (first | exact .one | exact .here | exact .all | apply Pick.cons | apply Pick.assoc | apply Pick.app)); done) | exact Pick.takeA (by repeat (first | exact .one | exact .here | exact .all | apply Pick.cons | apply Pick.assoc | apply Pick.app)) (by repeat (first | exact .one | exact .here | exact .all | apply Pick.cons | apply Pick.assoc | apply Pick.app))) ?_ | refine HSub.take (by first | ((repeat (first | exact .one | exact .here | exact .all | apply Pick.cons | apply Pick.app)); done) | ((repeat (first | exact .one | exact .here | exact .all | apply Pick.cons | apply Pick.assoc | apply Pick.app)); done) | exact Pick.takeA (by repeat (first | exact .one | exact .here | exact .all | apply Pick.cons | apply Pick.assoc | apply Pick.app)) (by repeat (first | exact .one | exact .here | exact .all | apply Pick.cons | apply Pick.assoc | apply Pick.app))) ?_ | exact HSub.of_pick (by first | ((repeat (first | exact .one | exact .here | exact .all | apply Pick.cons | apply Pick.app)); done) | ((repeat (first | exact .one | exact .here | exact .all | apply Pick.cons | apply Pick.assoc | apply Pick.app)); done) | exact Pick.takeA (by repeat (first | exact .one | exact .here | exact .all | apply Pick.cons | apply Pick.assoc | apply Pick.app)) (by repeat (first | exact .one | exact .here | exact .all | apply Pick.cons | apply Pick.assoc | apply Pick.app))))) (s_ld rfl (.own (by repeat (first | exact List.mem_cons_self | apply List.mem_cons_of_mem | apply mem_assoc | apply mem_app)) rfl)) ?_
          refine e_take 6 rfl (by kernel_rfl) (by kernel_rfl) (by kernel_rfl) (by kernel_rfl) (fun _ _ => rfl) rfl (by repeat (first | exact HSub.refl _ | exact HSub.nil | refine HSub.takeC (by first | ((repeat (first | exact .one | exact .here | exact .all | apply Pick.cons | apply Pick.app)); done) | ((repeat (first | exact .one | exact .here | exact .all | apply Pick.cons | apply Pick.assoc | apply Pick.app)); done) | exact Pick.takeA (by repeat (first | exact .one | exact .here | exact .all | apply Pick.cons | apply Pick.assoc | apply Pick.app)) (by repeat (first | exact .one | exact .here | exact .all | apply Pick.cons | apply Pick.assoc | apply Pick.app))) ?_ | refine HSub.take (by first | ((repeat (first | exact .one | exact .here | exact .all | apply Pick.cons | apply Pick.app)); done) | ((repeat (first | exact .one | exact .here | exact .all | apply Pick.cons | apply Pick.assoc | apply Pick.app)); done) | exact Pick.takeA (by repeat (first | exact .one | exact .here | exact .all | apply Pick.cons | apply Pick.assoc | apply Pick.app)) (by repeat (first | exact .one | exact .here | exact .all | apply Pick.cons | apply Pick.assoc | apply Pick.app))) ?_ | exact HSub.of_pick (by first | ((repeat (first | exact .one | exact .here | exact .all | apply Pick.cons | apply Pick.app)); done) | ((repeat (first | exact .one | exact .here | exact .all | apply Pick.cons | apply Pick.assoc | apply Pick.app)); done) | exact Pick.takeA (by repeat (first | exact .one | exact .here | exact .all | apply Pick.cons | apply Pick.assoc | apply Pick.app)) (by repeat (first | exact .one | exact .here | exact .all | apply Pick.cons | apply Pick.assoc | apply Pick.app))))) (s_field rfl rfl (by decide)) ?_
          refine e_take 7 rfl (by kernel_rfl) (by kernel_rfl) (by kernel_rfl) (by kernel_rfl) (fun _ _ => rfl) rfl (by repeat (first | exact HSub.refl _ | exact HSub.nil | refine HSub.takeC (by first | ((repeat (first | exact .one | exact .here | exact .all | apply Pick.cons | apply Pick.app)); done) | ((repeat (first | exact .one | exact .here | exact .all | apply Pick.cons | apply Pick.assoc | apply Pick.app)); done) | exact Pick.takeA (by repeat (first | exact .one | exact .here | exact .all | apply Pick.cons | apply Pick.assoc | apply Pick.app)) (by repeat (first | exact .one | exact .here | exact .all | apply Pick.cons | apply Pick.assoc | apply Pick.app))) ?_ | refine HSub.take (by first | ((repeat (first | exact .one | exact .here | exact .all | apply Pick.cons | apply Pick.app)); done) | ((repeat (first | exact .one | exact .here | exact .all | apply Pick.cons | apply Pick.assoc | apply Pick.app)); done) | exact Pick.takeA (by repeat (first | exact .one | exact .here | exact .all | apply Pick.cons | apply Pick.assoc | apply Pick.app)) (by repeat (first | exact .one | exact .here | exact .all | apply Pick.cons | apply Pick.assoc | apply Pick.app))) ?_ | exact HSub.of_pick (by first | ((repeat (first | exact .one | exact .here | exact .all | apply Pick.cons | apply Pick.app)); done) | ((repeat (first | exact .one | exact .here | exact .all | apply Pick.cons | apply Pick.assoc | apply Pick.app)); done) | exact Pick.takeA (by repeat (first | exact .one | exact .here | exact .all | apply Pick.cons | apply Pick.assoc | apply Pick.app)) (by repeat (first | exact .one | exact .here | exact .all | apply Pick.cons | apply Pick.assoc | apply Pick.app))))) (s_ld rfl (.own (by repeat (first | exact List.mem_cons_self | apply List.mem_cons_of_mem | apply mem_assoc | apply mem_app)) rfl)) ?_
          refine e_take 8 rfl (by kernel_rfl) (by kernel_rfl) (by kernel_rfl) (by kernel_rfl) (fun _ _ => rfl) rfl (by repeat (first | exact HSub.refl _ | exact HSub.nil | refine HSub.takeC (by first | ((repeat (first | exact .one | exact .here | exact .all | apply Pick.cons | apply Pick.app)); done) | ((repeat (first | exact .one | exact .here | exact .all | apply Pick.cons | apply Pick.assoc | apply Pick.app)); done) | exact Pick.takeA (by repeat (first | exact .one | exact .here | exact .all | apply Pick.cons | apply Pick.assoc | apply Pick.app)) (by repeat (first | exact .one | exact .here | exact .all | apply Pick.cons | apply Pick.assoc | apply Pick.app))) ?_ | refine HSub.take (by first | ((repeat (first | exact .one | exact .here | exact .all | apply Pick.cons | apply Pick.app)); done) | ((repeat (first | exact .one | exact .here | exact .all | apply Pick.cons | apply Pick.assoc | apply Pick.app)); done) | exact Pick.takeA (by repeat (first | exact .one | exact .here | exact .all | apply Pick.cons | apply Pick.assoc | apply Pick.app)) (by repeat (first | exact .one | exact .here | exact .all | apply Pick.cons | apply Pick.assoc | apply Pick.app))) ?_ | exact HSub.of_pick (by first | ((repeat (first | exact .one | exact .here | exact .all | apply Pick.cons | apply Pick.app)); done) | ((repeat (first | exact .one | exact .here | exact .all | apply Pick.cons | apply Pick.assoc | apply Pick.app)); done) | exact Pick.takeA (by repeat (first | exact .one | exact .here | exact .all | apply Pick.cons | apply Pick.assoc | apply Pick.app)) (by repeat (first | exact .one | exact .here | exact .all | apply Pick.cons | apply Pick.assoc | apply Pick.app))))) (s_field rfl rfl (by decide)) ?_
          refine e_take 9 rfl (by kernel_rfl) (by kernel_rfl) (by kernel_rfl) (by kernel_rfl) (fun _ _ => rfl) rfl (by repeat (first | exact HSub.refl _ | exact HSub.nil | refine HSub.takeC (by first | ((repeat (first | exact .one | exact .here | exact .all | apply Pick.cons | apply Pick.app)); done) | ((repeat (first | exact .one | exact .here | exact .all | apply Pick.cons | apply Pick.assoc | apply Pick.app)); done) | exact Pick.takeA (by repeat (first | exact .one | exact .here | exact .all | apply Pick.cons | apply Pick.assoc | apply Pick.app)) (by repeat (first | exact .one | exact .here | exact .all | apply Pick.cons | apply Pick.assoc | apply Pick.app))) ?_ | refine HSub.take (by first | ((repeat (first | exact .one | exact .here | exact .all | apply Pick.cons | apply Pick.app)); done) | ((repeat (first | exact .one | exact .here | exact .all | apply Pick.cons | apply Pick.assoc | apply Pick.app)); done) | exact Pick.takeA (by repeat (first | exact .one | exact .here | exact .all | apply Pick.cons | apply Pick.assoc | apply Pick.app)) (by repeat (first | exact .one | exact .here | exact .all | apply Pick.cons | apply Pick.assoc | apply Pick.app))) ?_ | exact HSub.of_pick (by first | ((repeat (first | exact .one | exact .here | exact .all | apply Pick.cons | apply Pick.app)); done) | ((repeat (first | exact .one | exact .here | exact .all | apply Pick.cons | apply Pick.assoc | apply Pick.app)); done) | exact Pick.takeA (by repeat (first | exact .one | exact .here | exact .all | apply Pick.cons | apply Pick.assoc | apply Pick.app)) (by repeat (first | exact .one | exact .here | exact .all | apply Pick.cons | apply Pick.assoc | apply Pick.app))))) (s_ld rfl (.own (by repeat (first | exact List.mem_cons_self | apply List.mem_cons_of_mem | apply mem_assoc | apply mem_app)) rfl)) ?_
          refine e_one 10 rfl (by kernel_rfl) ?_
          refine o_step rfl (s_build (cs := [_, _, _]) (vs := [_, _]) rfl rfl (.cons rfl rfl rfl rfl rfl (.cons rfl rfl rfl rfl rfl (.nil)))) ?_
          refine o_nil ?_
          refine x_oneS (by repeat (first | exact HSub.refl _ | exact HSub.nil | refine HSub.takeC (by first | ((repeat (first | exact .one | exact .here | exact .all | apply Pick.cons | apply Pick.app)); done) | ((repeat (first | exact .one | exact .here | exact .all | apply Pick.cons | apply Pick.assoc | apply Pick.app)); done) | exact Pick.takeA (by repeat (first | exact .one | exact .here | exact .all | apply Pick.cons | apply Pick.assoc | apply Pick.app)) (by repeat (first | exact .one | exact .here | exact .all | apply Pick.cons | apply Pick.assoc | apply Pick.app))) ?_ | refine HSub.take (by first | ((repeat (first | exact .one | exact .here | exact .all | apply Pick.cons | apply Pick.app)); done) | ((repeat (first | exact .one | exact .here | exact .all | apply Pick.cons | apply Pick.assoc | apply Pick.app)); done) | exact Pick.takeA (by repeat (first | exact .one | exact .here | exact .all | apply Pick.cons | apply Pick.assoc | apply Pick.app)) (by repeat (first | exact .one | exact .here | exact .all | apply Pick.cons | apply Pick.assoc | apply Pick.app))) ?_ | exact HSub.of_pick (by first | ((repeat (first | exact .one | exact .here | exact .all | apply Pick.cons | apply Pick.app)); done) | ((repeat (first | exact .one | exact .here | exact .all | apply Pick.cons | apply Pick.assoc | apply Pick.app)); done) | exact Pick.takeA (by repeat (first | exact .one | exact .here | exact .all | apply Pick.cons | apply Pick.assoc | apply Pick.app)) (by repeat (first | exact .one | exact .here | exact .all | apply Pick.cons | apply Pick.assoc | apply Pick.app))))) ?_
          refine e_one 11 rfl (by kernel_rfl) ?_
          refine o_bs (E := Efile) (xs := [(⟨x.n, x.b⟩ : FileV)]) (vs := [_]) rfl rfl rfl rfl rfl (by decide) (by decide) fun b69 S69 hS69 => ?_
          refine o_nil ?_
          refine x_oneS (by repeat (first | exact HSub.refl _ | exact HSub.nil | refine HSub.takeC (by first | ((repeat (first | exact .one | exact .here | exact .all | apply Pick.cons | apply Pick.app)); done) | ((repeat (first | exact .one | exact .here | exact .all | apply Pick.cons | apply Pick.assoc | apply Pick.app)); done) | exact Pick.takeA (by repeat (first | exact .one | exact .here | exact .all | apply Pick.cons | apply Pick.assoc | apply Pick.app)) (by repeat (first | exact .one | exact .here | exact .all | apply Pick.cons | apply Pick.assoc | apply Pick.app))) ?_ | refine HSub.take (by first | ((repeat (first | exact .one | exact .here | exact .all | apply Pick.cons | apply Pick.app)); done) | ((repeat (first | exact .one | exact .here | exact .all | apply Pick.cons | apply Pick.assoc | apply Pick.app)); done) | exact Pick.takeA (by repeat (first | exact .one | exact .here | exact .all | apply Pick.cons | apply Pick.assoc | apply Pick.app)) (by repeat (first | exact .one | exact .here | exact .all | apply Pick.cons | apply Pick.assoc | apply Pick.app))) ?_ | exact HSub.of_pick (by first | ((repeat (first | exact .one | exact .here | exact .all | apply Pick.cons | apply Pick.app)); done) | ((repeat (first | exact .one | exact .here | exact .all | apply Pick.cons | apply Pick.assoc | apply Pick.app)); done) | exact Pick.takeA (by repeat (first | exact .one | exact .here | exact .all | apply Pick.cons | apply Pick.assoc | apply Pick.app)) (by repeat (first | exact .one | exact .here | exact .all | apply Pick.cons | apply Pick.assoc | apply Pick.app))))) ?_
          refine e_one 12 rfl (by kernel_rfl) ?_
          refine o_app hF (hS69.rdk (by repeat (first | exact HIn.here | exact HIn.all | exact HIn.one | apply HIn.cons | apply HIn.assoc | apply HIn.app))) rfl rfl rfl rfl (by show (f.xs.length + 1) * 48 ≤ _; omega) (by show f.xs.length + 1 ≤ _; omega) rfl (by first | ((repeat (first | exact .one | exact .here | exact .all | apply Pick.cons | apply Pick.app)); done) | ((repeat (first | exact .one | exact .here | exact .all | apply Pick.cons | apply Pick.assoc | apply Pick.app)); done) | exact Pick.takeA (by repeat (first | exact .one | exact .here | exact .all | apply Pick.cons | apply Pick.assoc | apply Pick.app)) (by repeat (first | exact .one | exact .here | exact .all | apply Pick.cons | apply Pick.assoc | apply Pick.app))) fun a70 c70 S70 hS70 => ?_
          refine o_nil ?_
          refine x_oneS (by repeat (first | exact HSub.refl _ | exact HSub.nil | refine HSub.takeC (by first | ((repeat (first | exact .one | exact .here | exact .all | apply Pick.cons | apply Pick.app)); done) | ((repeat (first | exact .one | exact .here | exact .all | apply Pick.cons | apply Pick.assoc | apply Pick.app)); done) | exact Pick.takeA (by repeat (first | exact .one | exact .here | exact .all | apply Pick.cons | apply Pick.assoc | apply Pick.app)) (by repeat (first | exact .one | exact .here | exact .all | apply Pick.cons | apply Pick.assoc | apply Pick.app))) ?_ | refine HSub.take (by first | ((repeat (first | exact .one | exact .here | exact .all | apply Pick.cons | apply Pick.app)); done) | ((repeat (first | exact .one | exact .here | exact .all | apply Pick.cons | apply Pick.assoc | apply Pick.app)); done) | exact Pick.takeA (by repeat (first | exact .one | exact .here | exact .all | apply Pick.cons | apply Pick.assoc | apply Pick.app)) (by repeat (first | exact .one | exact .here | exact .all | apply Pick.cons | apply Pick.assoc | apply Pick.app))) ?_ | exact HSub.of_pick (by first | ((repeat (first | exact .one | exact .here | exact .all | apply Pick.cons | apply Pick.app)); done) | ((repeat (first | exact .one | exact .here | exact .all | apply Pick.cons | apply Pick.assoc | apply Pick.app)); done) | exact Pick.takeA (by repeat (first | exact .one | exact .here | exact .all | apply Pick.cons | apply Pick.assoc | apply Pick.app)) (by repeat (first | exact .one | exact .here | exact .all | apply Pick.cons | apply Pick.assoc | apply Pick.app))))) ?_
          refine e_one 13 rfl (by kernel_rfl) ?_
          refine o_step rfl (s_nil rfl) ?_
          refine o_nil ?_
          refine x_oneS (by repeat (first | exact HSub.refl _ | exact HSub.nil | refine HSub.takeC (by first | ((repeat (first | exact .one | exact .here | exact .all | apply Pick.cons | apply Pick.app)); done) | ((repeat (first | exact .one | exact .here | exact .all | apply Pick.cons | apply Pick.assoc | apply Pick.app)); done) | exact Pick.takeA (by repeat (first | exact .one | exact .here | exact .all | apply Pick.cons | apply Pick.assoc | apply Pick.app)) (by repeat (first | exact .one | exact .here | exact .all | apply Pick.cons | apply Pick.assoc | apply Pick.app))) ?_ | refine HSub.take (by first | ((repeat (first | exact .one | exact .here | exact .all | apply Pick.cons | apply Pick.app)); done) | ((repeat (first | exact .one | exact .here | exact .all | apply Pick.cons | apply Pick.assoc | apply Pick.app)); done) | exact Pick.takeA (by repeat (first | exact .one | exact .here | exact .all | apply Pick.cons | apply Pick.assoc | apply Pick.app)) (by repeat (first | exact .one | exact .here | exact .all | apply Pick.cons | apply Pick.assoc | apply Pick.app))) ?_ | exact HSub.of_pick (by first | ((repeat (first | exact .one | exact .here | exact .all | apply Pick.cons | apply Pick.app)); done) | ((repeat (first | exact .one | exact .here | exact .all | apply Pick.cons | apply Pick.assoc | apply Pick.app)); done) | exact Pick.takeA (by repeat (first | exact .one | exact .here | exact .all | apply Pick.cons | apply Pick.assoc | apply Pick.app)) (by repeat (first | exact .one | exact .here | exact .all | apply Pick.cons | apply Pick.assoc | apply Pick.app))))) ?_
          refine e_one 14 rfl (by kernel_rfl) ?_
          refine o_step rfl (s_field rfl rfl (by decide)) ?_
          refine o_nil ?_
          refine x_oneS (by repeat (first | exact HSub.refl _ | exact HSub.nil | refine HSub.takeC (by first | ((repeat (first | exact .one | exact .here | exact .all | apply Pick.cons | apply Pick.app)); done) | ((repeat (first | exact .one | exact .here | exact .all | apply Pick.cons | apply Pick.assoc | apply Pick.app)); done) | exact Pick.takeA (by repeat (first | exact .one | exact .here | exact .all | apply Pick.cons | apply Pick.assoc | apply Pick.app)) (by repeat (first | exact .one | exact .here | exact .all | apply Pick.cons | apply Pick.assoc | apply Pick.app))) ?_ | refine HSub.take (by first | ((repeat (first | exact .one | exact .here | exact .all | apply Pick.cons | apply Pick.app)); done) | ((repeat (first | exact .one | exact .here | exact .all | apply Pick.cons | apply Pick.assoc | apply Pick.app)); done) | exact Pick.takeA (by repeat (first | exact .one | exact .here | exact .all | apply Pick.cons | apply Pick.assoc | apply Pick.app)) (by repeat (first | exact .one | exact .here | exact .all | apply Pick.cons | apply Pick.assoc | apply Pick.app))) ?_ | exact HSub.of_pick (by first | ((repeat (first | exact .one | exact .here | exact .all | apply Pick.cons | apply Pick.app)); done) | ((repeat (first | exact .one | exact .here | exact .all | apply Pick.cons | apply Pick.assoc | apply Pick.app)); done) | exact Pick.takeA (by repeat (first | exact .one | exact .here | exact .all | apply Pick.cons | apply Pick.assoc | apply Pick.app)) (by repeat (first | exact .one | exact .here | exact .all | apply Pick.cons | apply Pick.assoc | apply Pick.app))))) ?_
          refine e_one 15 rfl (by kernel_rfl) ?_
          refine o_step rfl (s_field rfl rfl (by decide)) ?_
          refine o_nil ?_
          refine x_oneS (by repeat (first | exact HSub.refl _ | exact HSub.nil | refine HSub.takeC (by first | ((repeat (first | exact .one | exact .here | exact .all | apply Pick.cons | apply Pick.app)); done) | ((repeat (first | exact .one | exact .here | exact .all | apply Pick.cons | apply Pick.assoc | apply Pick.app)); done) | exact Pick.takeA (by repeat (first | exact .one | exact .here | exact .all | apply Pick.cons | apply Pick.assoc | apply Pick.app)) (by repeat (first | exact .one | exact .here | exact .all | apply Pick.cons | apply Pick.assoc | apply Pick.app))) ?_ | refine HSub.take (by first | ((repeat (first | exact .one | exact .here | exact .all | apply Pick.cons | apply Pick.app)); done) | ((repeat (first | exact .one | exact .here | exact .all | apply Pick.cons | apply Pick.assoc | apply Pick.app)); done) | exact Pick.takeA (by repeat (first | exact .one | exact .here | exact .all | apply Pick.cons | apply Pick.assoc | apply Pick.app)) (by repeat (first | exact .one | exact .here | exact .all | apply Pick.cons | apply Pick.assoc | apply Pick.app))) ?_ | exact HSub.of_pick (by first | ((repeat (first | exact .one | exact .here | exact .all | apply Pick.cons | apply Pick.app)); done) | ((repeat (first | exact .one | exact .here | exact .all | apply Pick.cons | apply Pick.assoc | apply Pick.app)); done) | exact Pick.takeA (by repeat (first | exact .one | exact .here | exact .all | apply Pick.cons | apply Pick.assoc | apply Pick.app)) (by repeat (first | exact .one | exact .here | exact .all | apply Pick.cons | apply Pick.assoc | apply Pick.app))))) ?_
          refine e_one 16 rfl (by kernel_rfl) ?_
          refine o_store rfl rfl rfl (by repeat (first | exact .here | apply Upd.there | apply Upd.assoc | apply Upd.skip)) (by first | decide | omega | (simp; done) | (simp; omega)) rfl ?_
          refine o_nil ?_
          refine x_oneL rfl ?_
          refine e_done (by kernel_rfl) ?_
          refine x_then (hK23 _ _ ?_)
          refine c_region ?_
          refine o_step rfl (s_move rfl) ?_
          refine o_step rfl (step_cast (v' := .int .i64 ((q.xs ++ [(⟨104, .string x.n⟩ : IV)]).length : Nat)) (s_add rfl rfl (by omega)) (by simp)) ?_
          refine o_step rfl (s_assign rfl) ?_
          refine o_nil ?_
          refine x_block ?_
          refine x_block ?_
          refine x_then (hK16 _ _ ?_)
          refine c_region ?_
          refine o_step rfl (s_move rfl) ?_
          refine o_step rfl (s_add rfl rfl (by omega)) ?_
          refine o_step rfl (s_assign rfl) ?_
          refine o_nil ?_
          exact x_then (x_inv (i + 1, ⟨qa57, qc57, q.xs ++ [(⟨104, .string x.n⟩ : IV)]⟩, So57, Si, ⟨a70, c70, f.xs ++ [(⟨x.n, x.b⟩ : FileV)]⟩, S70) ⟨by omega, hO57, by rw [thingsOf_take hil, ← hx, if_neg hk0, if_pos hk1]; exact hI.file, hS70, by rw [filesOf_take hil, ← hx, if_pos hk1, hfx]⟩ (by first | omega | (dsimp only; omega)) (by repeat (first | exact Sub.nil | refine Sub.cons rfl ?_)) (by repeat (first | exact HSub.refl _ | exact HSub.nil | refine HSub.takeC (by first | ((repeat (first | exact .one | exact .here | exact .all | apply Pick.cons | apply Pick.app)); done) | ((repeat (first | exact .one | exact .here | exact .all | apply Pick.cons | apply Pick.assoc | apply Pick.app)); done) | exact Pick.takeA (by repeat (first | exact .one | exact .here | exact .all | apply Pick.cons | apply Pick.assoc | apply Pick.app)) (by repeat (first | exact .one | exact .here | exact .all | apply Pick.cons | apply Pick.assoc | apply Pick.app))) ?_ | refine HSub.take (by first | ((repeat (first | exact .one | exact .here | exact .all | apply Pick.cons | apply Pick.app)); done) | ((repeat (first | exact .one | exact .here | exact .all | apply Pick.cons | apply Pick.assoc | apply Pick.app)); done) | exact Pick.takeA (by repeat (first | exact .one | exact .here | exact .all | apply Pick.cons | apply Pick.assoc | apply Pick.app)) (by repeat (first | exact .one | exact .here | exact .all | apply Pick.cons | apply Pick.assoc | apply Pick.app))) ?_ | exact HSub.of_pick (by first | ((repeat (first | exact .one | exact .here | exact .all | apply Pick.cons | apply Pick.app)); done) | ((repeat (first | exact .one | exact .here | exact .all | apply Pick.cons | apply Pick.assoc | apply Pick.app)); done) | exact Pick.takeA (by repeat (first | exact .one | exact .here | exact .all | apply Pick.cons | apply Pick.assoc | apply Pick.app)) (by repeat (first | exact .one | exact .here | exact .all | apply Pick.cons | apply Pick.assoc | apply Pick.app))))))
        · skip
          refine c_skip ?_
          refine x_block ?_
          refine x_block ?_
          refine x_then (hK16 _ _ ?_)
          refine c_region ?_
          refine o_step rfl (s_move rfl) ?_
          refine o_step rfl (s_add rfl rfl (by omega)) ?_
          refine o_step rfl (s_assign rfl) ?_
          refine o_nil ?_
          exact x_then (x_inv (i + 1, q, So, Si, f, Sf) ⟨by omega, hQ, by rw [thingsOf_take hil, ← hx, if_neg hk0, if_neg hk1, List.append_nil]; exact hI, hF, by rw [filesOf_take hil, ← hx, if_neg hk1, List.append_nil]; exact hfx⟩ (by first | omega | (dsimp only; omega)) (by repeat (first | exact Sub.nil | refine Sub.cons rfl ?_)) (by repeat (first | exact HSub.refl _ | exact HSub.nil | refine HSub.takeC (by first | ((repeat (first | exact .one | exact .here | exact .all | apply Pick.cons | apply Pick.app)); done) | ((repeat (first | exact .one | exact .here | exact .all | apply Pick.cons | apply Pick.assoc | apply Pick.app)); done) | exact Pick.takeA (by repeat (first | exact .one | exact .here | exact .all | apply Pick.cons | apply Pick.assoc | apply Pick.app)) (by repeat (first | exact .one | exact .here | exact .all | apply Pick.cons | apply Pick.assoc | apply Pick.app))) ?_ | refine HSub.take (by first | ((repeat (first | exact .one | exact .here | exact .all | apply Pick.cons | apply Pick.app)); done) | ((repeat (first | exact .one | exact .here | exact .all | apply Pick.cons | apply Pick.assoc | apply Pick.app)); done) | exact Pick.takeA (by repeat (first | exact .one | exact .here | exact .all | apply Pick.cons | apply Pick.assoc | apply Pick.app)) (by repeat (first | exact .one | exact .here | exact .all | apply Pick.cons | apply Pick.assoc | apply Pick.app))) ?_ | exact HSub.of_pick (by first | ((repeat (first | exact .one | exact .here | exact .all | apply Pick.cons | apply Pick.app)); done) | ((repeat (first | exact .one | exact .here | exact .all | apply Pick.cons | apply Pick.assoc | apply Pick.app)); done) | exact Pick.takeA (by repeat (first | exact .one | exact .here | exact .all | apply Pick.cons | apply Pick.assoc | apply Pick.app)) (by repeat (first | exact .one | exact .here | exact .all | apply Pick.cons | apply Pick.assoc | apply Pick.app))))))
    · skip
      have ei : things.take i = things := List.take_of_length_le (by omega)
      rw [ei] at hI hfx
      have hfb : ∀ f1 ∈ f.xs, f1.b.xs.length ≤ 1048576 := fun f1 h1 => by rw [hfx] at h1; obtain ⟨o, ho, rfl⟩ := filesOf_mem h1; exact (hbl o ho).1
      have hold : ∀ p ∈ f.xs.map FileV.b, Rd Eb w0 p.v p.xs := fun p h1 => by obtain ⟨f1, h2, rfl⟩ := List.mem_map.1 h1; rw [hfx] at h2; obtain ⟨o, ho, rfl⟩ := filesOf_mem h2; exact hbr o ho
      have htx : ∀ b, QI.text b ∈ thingsOf things → b.length ≤ 1048576 := fun b h1 => by obtain ⟨o, ho, rfl⟩ := thingsOf_mem h1; exact (hbl o ho).1
      refine c_exit ?_
      refine x_then_exit ?_
      refine x_then_exit ?_
      refine x_block_exit ?_
      refine x_then (hK12 _ _ ?_)
      refine c_seq fun _ hK24 => ?_
      refine c_seq fun _ hK25 => ?_
      refine c_region ?_
      refine o_step rfl (s_assign rfl) ?_
      refine o_nil ?_
      refine x_then (hK25 _ _ ?_)
      refine c_block ?_
      refine c_loop5 (fun (j : Nat) (w : Sl CallV) (Sw : Hp) (Sk : Hp) (s : QS) => j ≤ things.length ∧ OwnS Ecall 3 49 (.slice w.a w.xs.length w.c) w.xs Sw ∧ w.xs.map CallV.abs = s.calls ∧ (∀ y ∈ w.xs, Rd Eb w0 y.b.v y.b.xs ∨ RdS Eb y.b.v y.b.xs Sk) ∧ s = wantsQ f.xs fail (things.take j)) (fun (j : Nat) (w : Sl CallV) (Sw : Hp) (Sk : Hp) (s : QS) => [(13, .int .i64 j), (9, .int .i64 s.outs), (8, .slice w.a w.xs.length w.c)]) [(0, _), (1, _), (4, _), (6, _), (7, _), (10, _)] (fun (j : Nat) (w : Sl CallV) (Sw : Hp) (Sk : Hp) (s : QS) => (bq, .cells [.bool true, .slice q.a q.xs.length q.c].toArray 58 (0, 0)) :: (b31, .cells [.slice none 0 0, .pointer none, .pointer none, .pointer none, .slice f.a f.xs.length f.c, .int .i64 fail, .int .i64 22, .int .i64 0, .int .i64 0, .pointer none, .slice none 0 0, .string ⟨#[]⟩, .bool false, .bool false, .bool false, .bool false, .int .i64 0, .int .i64 0, .int .i64 0, .slice none 0 0, .string ⟨#[]⟩, .slice none 0 0, .slice none 0 0, .slice none 0 0, .slice none 0 0, .pointer none, .int .i64 0, .slice none 0 0, .string ⟨#[]⟩, .slice none 0 0].toArray 40 (0, 0)) :: (So ++ (Si ++ (Sf ++ (Sw ++ Sk))))) (fun (j : Nat) (w : Sl CallV) (Sw : Hp) (Sk : Hp) (s : QS) => things.length - j) 0 ⟨none, 0, []⟩ [] [] ⟨[], 0⟩ ⟨by omega, .nil, rfl, fun y h => by simp at h, rfl⟩ (by repeat (first | exact Sub.nil | refine Sub.cons rfl ?_)) (by repeat (first | exact Sub.nil | refine Sub.cons rfl ?_)) (by repeat (first | exact HSub.refl _ | exact HSub.nil | refine HSub.takeC (by first | ((repeat (first | exact .one | exact .here | exact .all | apply Pick.cons | apply Pick.app)); done) | ((repeat (first | exact .one | exact .here | exact .all | apply Pick.cons | apply Pick.assoc | apply Pick.app)); done) | exact Pick.takeA (by repeat (first | exact .one | exact .here | exact .all | apply Pick.cons | apply Pick.assoc | apply Pick.app)) (by repeat (first | exact .one | exact .here | exact .all | apply Pick.cons | apply Pick.assoc | apply Pick.app))) ?_ | refine HSub.take (by first | ((repeat (first | exact .one | exact .here | exact .all | apply Pick.cons | apply Pick.app)); done) | ((repeat (first | exact .one | exact .here | exact .all | apply Pick.cons | apply Pick.assoc | apply Pick.app)); done) | exact Pick.takeA (by repeat (first | exact .one | exact .here | exact .all | apply Pick.cons | apply Pick.assoc | apply Pick.app)) (by repeat (first | exact .one | exact .here | exact .all | apply Pick.cons | apply Pick.assoc | apply Pick.app))) ?_ | exact HSub.of_pick (by first | ((repeat (first | exact .one | exact .here | exact .all | apply Pick.cons | apply Pick.app)); done) | ((repeat (first | exact .one | exact .here | exact .all | apply Pick.cons | apply Pick.assoc | apply Pick.app)); done) | exact Pick.takeA (by repeat (first | exact .one | exact .here | exact .all | apply Pick.cons | apply Pick.assoc | apply Pick.app)) (by repeat (first | exact .one | exact .here | exact .all | apply Pick.cons | apply Pick.assoc | apply Pick.app))))) ?_
      rintro j w Sw Sk s ⟨hj, hW, hwa, hwr, hs⟩
      have hwl : w.xs.length ≤ 2097152 ∧ s.outs ≤ 1048576 := by have h1 := want_len (fs := f.xs) (fail := fail) (things.take j) ⟨[], 0⟩; have h3 : (things.take j).length ≤ things.length := (by rw [List.length_take]; omega); have h4 : w.xs.length = s.calls.length := (by rw [← hwa, List.length_map]); change (wantsQ f.xs fail (things.take j)).calls.length ≤ _ ∧ (wantsQ f.xs fail (things.take j)).outs ≤ _ at h1; rw [← hs] at h1; simp only [List.length_nil] at h1; omega
      refine c_seq fun _ hK26 => ?_
      refine c_seq fun _ hK27 => ?_
      refine c_region ?_
      refine o_step rfl (s_move rfl) ?_
      refine o_step rfl (s_move rfl) ?_
      refine o_step rfl (s_len rfl) ?_
      refine o_step rfl (s_lss rfl rfl) ?_
      refine o_nil ?_
      refine x_then (hK27 _ _ ?_)
      refine c_if rfl (fun hlt2 => ?_) (fun hlt2 => ?_)
      · skip
        have hil : j < things.length := by omega
        obtain ⟨x, hx⟩ : ∃ x, x = things.getD j oz := ⟨_, rfl⟩
        have hxm : x ∈ things := hx ▸ gd_mem hil
        have hxg : things[j]? = some x := hx ▸ gd_get hil
        have hob := hbl x hxm
        have hxr := hbr x hxm
        refine c_skip ?_
        refine x_then (hK26 _ _ ?_)
        refine c_seq fun _ hK28 => ?_
        refine c_block ?_
        refine c_seq fun _ hK29 => ?_
        refine c_region ?_
        refine o_step rfl (s_move rfl) ?_
        refine o_step rfl (s_move rfl) ?_
        refine o_step rfl (s_idx rfl rfl (by assumption) (by omega)) ?_
        refine o_step rfl (s_ldB rfl ((RdK.old0 hth).lds j hxg (by omega)) rfl) ?_
        refine o_alloc rfl rfl fun b14 => ?_
        refine o_stW rfl rfl (by repeat (first | exact .here | apply Upd.there | apply Upd.assoc | apply Upd.skip)) rfl (by first | (rw [flat_len, Nat.mul_one]; first | assumption | exact List.length_replicate) | exact List.length_replicate | rfl) (by simp [Eopq, Value.oneCell', Sl.v]) ?_
        refine o_nil ?_
        refine x_then (hK29 _ _ ?_)
        refine c_seq fun _ hK30 => ?_
        refine c_seqJ (ι := Bool) (fun b => (b = true ↔ ((x.k ≠ 0 ∧ x.k ≠ 1) ∨ (0 < fail ∧ (s.outs : Int) = fail)))) (fun b => [(102, .bool b)]) [(0, _), (1, _), (4, _), (6, _), (7, _), (8, _), (9, _), (10, _), (13, _), (14, _), (76, _), (77, _), (78, _), (79, _), (82, _), (83, _), (84, _), (85, _)] (fun b => (bq, .cells [.bool true, .slice q.a q.xs.length q.c].toArray 58 (0, 0)) :: (b31, .cells [.slice none 0 0, .pointer none, .pointer none, .pointer none, .slice f.a f.xs.length f.c, .int .i64 fail, .int .i64 22, .int .i64 0, .int .i64 0, .pointer none, .slice none 0 0, .string ⟨#[]⟩, .bool false, .bool false, .bool false, .bool false, .int .i64 0, .int .i64 0, .int .i64 0, .slice none 0 0, .string ⟨#[]⟩, .slice none 0 0, .slice none 0 0, .slice none 0 0, .slice none 0 0, .pointer none, .int .i64 0, .slice none 0 0, .string ⟨#[]⟩, .slice none 0 0].toArray 40 (0, 0)) :: (b14, .cells (Eopq x).toArray 42 (0, 0)) :: (So ++ (Si ++ (Sf ++ (Sw ++ Sk))))) (by repeat (first | exact Sub.nil | refine Sub.cons rfl ?_)) ?_ ?_
        · rintro b hJb
          refine c_cond rfl (fun hb => ?_) (fun hb => ?_)
          · skip
            have hskip := hJb.1 hb
            refine c_exit ?_
            refine x_then_exit ?_
            refine x_block_exit ?_
            refine x_then (hK28 _ _ ?_)
            refine c_region ?_
            refine o_step rfl (s_move rfl) ?_
            refine o_step rfl (s_add rfl rfl (by omega)) ?_
            refine o_step rfl (s_assign rfl) ?_
            refine o_nil ?_
            exact x_then (x_inv (j + 1, w, Sw, Sk, s) ⟨by omega, hW, hwa, hwr, by rw [wantsQ_take hil, ← hs, ← hx, wantQ, if_pos hskip]⟩ (by first | omega | (dsimp only; omega)) (by repeat (first | exact Sub.nil | refine Sub.cons rfl ?_)) (by repeat (first | exact HSub.refl _ | exact HSub.nil | refine HSub.takeC (by first | ((repeat (first | exact .one | exact .here | exact .all | apply Pick.cons | apply Pick.app)); done) | ((repeat (first | exact .one | exact .here | exact .all | apply Pick.cons | apply Pick.assoc | apply Pick.app)); done) | exact Pick.takeA (by repeat (first | exact .one | exact .here | exact .all | apply Pick.cons | apply Pick.assoc | apply Pick.app)) (by repeat (first | exact .one | exact .here | exact .all | apply Pick.cons | apply Pick.assoc | apply Pick.app))) ?_ | refine HSub.take (by first | ((repeat (first | exact .one | exact .here | exact .all | apply Pick.cons | apply Pick.app)); done) | ((repeat (first | exact .one | exact .here | exact .all | apply Pick.cons | apply Pick.assoc | apply Pick.app)); done) | exact Pick.takeA (by repeat (first | exact .one | exact .here | exact .all | apply Pick.cons | apply Pick.assoc | apply Pick.app)) (by repeat (first | exact .one | exact .here | exact .all | apply Pick.cons | apply Pick.assoc | apply Pick.app))) ?_ | exact HSub.of_pick (by first | ((repeat (first | exact .one | exact .here | exact .all | apply Pick.cons | apply Pick.app)); done) | ((repeat (first | exact .one | exact .here | exact .all | apply Pick.cons | apply Pick.assoc | apply Pick.app)); done) | exact Pick.takeA (by repeat (first | exact .one | exact .here | exact .all | apply Pick.cons | apply Pick.assoc | apply Pick.app)) (by repeat (first | exact .one | exact .here | exact .all | apply Pick.cons | apply Pick.assoc | apply Pick.app))))))
          · skip
            have hskip : ¬ ((x.k ≠ 0 ∧ x.k ≠ 1) ∨ (0 < fail ∧ (s.outs : Int) = fail)) := fun h => by rw [hJb.2 h] at hb; cases hb
            refine c_skip ?_
            refine x_then (hK30 _ _ ?_)
            refine c_seq fun _ hK32 => ?_
            refine c_region ?_
            refine o_step rfl (s_field rfl rfl (by decide)) ?_
            refine o_step rfl (s_ld rfl (.own (by repeat (first | exact List.mem_cons_self | apply List.mem_cons_of_mem | apply mem_assoc | apply mem_app)) rfl)) ?_
            refine o_call (copy_fn x.b.a x.b.c x.b.xs) rfl rfl rfl (by exact .nil) (fun w st => (RdK.old0 hxr).out w st) (fun v105 S105 ⟨a105, c105, hv105, hS105⟩ => ?_)
            subst hv105
            refine o_step rfl (s_assign rfl) ?_
            refine o_nil ?_
            refine x_then (hK32 _ _ ?_)
            refine c_seq fun _ hK33 => ?_
            refine c_seq fun _ hK34 => ?_
            refine c_region ?_
            refine o_step rfl (s_field rfl rfl (by decide)) ?_
            refine o_step rfl (s_ld rfl (.own (by repeat (first | exact List.mem_cons_self | apply List.mem_cons_of_mem | apply mem_assoc | apply mem_app)) rfl)) ?_
            refine o_step rfl (s_eql rfl rfl) ?_
            refine o_nil ?_
            refine x_then (hK34 _ _ ?_)
            refine c_if rfl (fun hk1 => ?_) (fun hk1 => ?_)
            · skip
              refine c_seq fun _ hK35 => ?_
              refine c_region ?_
              refine o_step rfl (s_move rfl) ?_
              refine o_step rfl (s_field rfl rfl (by decide)) ?_
              refine o_step rfl (s_ld rfl (.own (by repeat (first | exact List.mem_cons_self | apply List.mem_cons_of_mem | apply mem_assoc | apply mem_app)) rfl)) ?_
              refine o_step rfl (s_build (cs := [_, _, _]) (vs := [_, _]) rfl rfl (.cons rfl rfl rfl rfl rfl (.cons rfl rfl rfl rfl rfl (.nil)))) ?_
              refine o_bs (E := Ecall) (xs := [(⟨3, x.n, ⟨none, 0, []⟩⟩ : CallV)]) (vs := [_]) rfl rfl rfl rfl rfl (by decide) (by decide) fun b113 S113 hS113 => ?_
              refine o_app hW (hS113.rdk (by repeat (first | exact HIn.here | exact HIn.all | exact HIn.one | apply HIn.cons | apply HIn.assoc | apply HIn.app))) rfl rfl rfl rfl (by show (w.xs.length + 1) * 48 ≤ _; omega) (by show w.xs.length + 1 ≤ _; omega) rfl (by first | ((repeat (first | exact .one | exact .here | exact .all | apply Pick.cons | apply Pick.app)); done) | ((repeat (first | exact .one | exact .here | exact .all | apply Pick.cons | apply Pick.assoc | apply Pick.app)); done) | exact Pick.takeA (by repeat (first | exact .one | exact .here | exact .all | apply Pick.cons | apply Pick.assoc | apply Pick.app)) (by repeat (first | exact .one | exact .here | exact .all | apply Pick.cons | apply Pick.assoc | apply Pick.app))) fun a114 c114 S114 hS114 => ?_
              refine o_step rfl (s_assign rfl) ?_
              refine o_nil ?_
              refine x_then (hK35 _ _ ?_)
              refine c_seq fun _ hK36 => ?_
              refine c_region ?_
              refine o_step rfl (s_assign rfl) ?_
              refine o_nil ?_
              refine x_then (hK36 _ _ ?_)
              refine c_seq fun _ hK37 => ?_
              refine c_seq fun _ hK38 => ?_
              refine c_region ?_
              refine o_step rfl (s_assign rfl) ?_
              refine o_nil ?_
              refine x_then (hK38 _ _ ?_)
              refine c_block ?_
              refine c_loop2 (fun (k : Nat) (sl : Sl UInt8) => k ≤ things.length ∧ sl.xs = look (filesOf (things.take k)) x.n ∧ Rd Eb w0 sl.v sl.xs) (fun (k : Nat) (sl : Sl UInt8) => [(16, .int .i64 k), (15, .slice sl.a sl.xs.length sl.c)]) [(0, _), (1, _), (4, _), (6, _), (7, _), (8, _), (9, _), (10, _), (13, _), (14, _), (76, _), (77, _), (78, _), (79, _), (82, _), (83, _), (84, _), (85, _), (102, _), (103, _), (104, _), (105, _), (106, _), (107, _), (108, _), (109, _), (110, _), (111, _), (112, _), (113, _), (114, _)] (fun (k : Nat) (sl : Sl UInt8) => (bq, .cells [.bool true, .slice q.a q.xs.length q.c].toArray 58 (0, 0)) :: (b31, .cells [.slice none 0 0, .pointer none, .pointer none, .pointer none, .slice f.a f.xs.length f.c, .int .i64 fail, .int .i64 22, .int .i64 0, .int .i64 0, .pointer none, .slice none 0 0, .string ⟨#[]⟩, .bool false, .bool false, .bool false, .bool false, .int .i64 0, .int .i64 0, .int .i64 0, .slice none 0 0, .string ⟨#[]⟩, .slice none 0 0, .slice none 0 0, .slice none 0 0, .slice none 0 0, .pointer none, .int .i64 0, .slice none 0 0, .string ⟨#[]⟩, .slice none 0 0].toArray 40 (0, 0)) :: (b14, .cells (Eopq x).toArray 42 (0, 0)) :: (So ++ (Si ++ (Sf ++ (S114 ++ Sk))))) (fun (k : Nat) (sl : Sl UInt8) => things.length - k) 0 ⟨none, 0, []⟩ ⟨by omega, rfl, Rd.nil Eb w0⟩ (by repeat (first | exact Sub.nil | refine Sub.cons rfl ?_)) (by repeat (first | exact Sub.nil | refine Sub.cons rfl ?_)) (by repeat (first | exact HSub.refl _ | exact HSub.nil | refine HSub.takeC (by first | ((repeat (first | exact .one | exact .here | exact .all | apply Pick.cons | apply Pick.app)); done) | ((repeat (first | exact .one | exact .here | exact .all | apply Pick.cons | apply Pick.assoc | apply Pick.app)); done) | exact Pick.takeA (by repeat (first | exact .one | exact .here | exact .all | apply Pick.cons | apply Pick.assoc | apply Pick.app)) (by repeat (first | exact .one | exact .here | exact .all | apply Pick.cons | apply Pick.assoc | apply Pick.app))) ?_ | refine HSub.take (by first | ((repeat (first | exact .one | exact .here | exact .all | apply Pick.cons | apply Pick.app)); done) | ((repeat (first | exact .one | exact .here | exact .all | apply Pick.cons | apply Pick.assoc | apply Pick.app)); done) | exact Pick.takeA (by repeat (first | exact .one | exact .here | exact .all | apply Pick.cons | apply Pick.assoc | apply Pick.app)) (by repeat (first | exact .one | exact .here | exact .all | apply Pick.cons | apply Pick.assoc | apply Pick.app))) ?_ | exact HSub.of_pick (by first | ((repeat (first | exact .one | exact .here | exact .all | apply Pick.cons | apply Pick.app)); done) | ((repeat (first | exact .one | exact .here | exact .all | apply Pick.cons | apply Pick.assoc | apply Pick.app)); done) | exact Pick.takeA (by repeat (first | exact .one | exact .here | exact .all | apply Pick.cons | apply Pick.assoc | apply Pick.app)) (by repeat (first | exact .one | exact .here | exact .all | apply Pick.cons | apply Pick.assoc | apply Pick.app))))) ?_
              rintro k sl ⟨hk, hsl, hslr⟩
              refine c_seq fun _ hK39 => ?_
              refine c_seq fun _ hK40 => ?_
              refine c_region ?_
              refine o_step rfl (s_move rfl) ?_
              refine o_step rfl (s_move rfl) ?_
              refine o_step rfl (s_len rfl) ?_
              refine o_step rfl (s_lss rfl rfl) ?_
              refine o_nil ?_
              refine x_then (hK40 _ _ ?_)
              refine c_if rfl (fun hlt3 => ?_) (fun hlt3 => ?_)
              · skip
                have hkl : k < things.length := by omega
                obtain ⟨y, hy⟩ : ∃ y, y = things.getD k oz := ⟨_, rfl⟩
                have hym : y ∈ things := hy ▸ gd_mem hkl
                have hyg : things[k]? = some y := hy ▸ gd_get hkl
                have hyr := hbr y hym
                refine c_skip ?_
                refine x_then (hK39 _ _ ?_)
                refine c_seq fun _ hK41 => ?_
                refine c_block ?_
                refine c_seq fun _ hK42 => ?_
                refine c_quiet (by kernel_rfl) ?_
                refine .op rfl (s_move rfl) ?_
                refine .op rfl (s_move rfl) ?_
                refine .op rfl (s_idx rfl rfl (by assumption) (by omega)) ?_
                refine .op rfl (s_field rfl rfl (by decide)) ?_
                refine .op rfl (s_ld rfl ((RdK.old0 hth).ld k 0 hyg rfl (by decide) (by omega))) ?_
                by_cases hy1 : y.k = 1
                · skip
                  refine .op rfl (step_cast (v' := .bool true) (s_eql rfl rfl) (by rw [decide_eq_true (by omega)])) ?_
                  refine .op rfl (s_move rfl) ?_
                  refine .yes rfl rfl rfl (s_move rfl) ?_
                  refine .yes rfl rfl rfl (s_move rfl) ?_
                  refine .yes rfl rfl rfl (s_idx rfl rfl (by assumption) (by omega)) ?_
                  refine .yes rfl rfl rfl (s_field rfl rfl (by decide)) ?_
                  refine .yes rfl rfl rfl (s_ld rfl ((RdK.old0 hth).ld k 2 hyg rfl (by decide) (by omega))) ?_
                  refine .yes rfl rfl rfl (s_field rfl rfl (by decide)) ?_
                  refine .yes rfl rfl rfl (s_ld rfl (.own (by repeat (first | exact List.mem_cons_self | apply List.mem_cons_of_mem | apply mem_assoc | apply mem_app)) rfl)) ?_
                  refine .yes rfl rfl rfl (s_eql_str rfl rfl) ?_
                  refine .op rfl (s_pick_t rfl rfl) ?_
                  refine .nil ?_
                  refine x_then (hK42 _ _ ?_)
                  refine c_if rfl (fun hyn => ?_) (fun hyn => ?_)
                  · skip
                    refine c_region ?_
                    refine o_step rfl (s_move rfl) ?_
                    refine o_step rfl (s_move rfl) ?_
                    refine o_step rfl (s_idx rfl rfl (by assumption) (by omega)) ?_
                    refine o_step rfl (s_field rfl rfl (by decide)) ?_
                    refine o_step rfl (s_ld rfl ((RdK.old0 hth).ld k 1 hyg rfl (by decide) (by omega))) ?_
                    refine o_step rfl (s_assign rfl) ?_
                    refine o_nil ?_
                    refine x_block ?_
                    refine x_then (hK41 _ _ ?_)
                    refine c_region ?_
                    refine o_step rfl (s_move rfl) ?_
                    refine o_step rfl (s_add rfl rfl (by omega)) ?_
                    refine o_step rfl (s_assign rfl) ?_
                    refine o_nil ?_
                    exact x_then (x_inv (k + 1, y.b) ⟨by omega, by rw [filesOf_take hkl, ← hy, if_pos hy1, look_snoc, if_pos hyn], hyr⟩ (by first | omega | (dsimp only; omega)) (by repeat (first | exact Sub.nil | refine Sub.cons rfl ?_)) (by repeat (first | exact HSub.refl _ | exact HSub.nil | refine HSub.takeC (by first | ((repeat (first | exact .one | exact .here | exact .all | apply Pick.cons | apply Pick.app)); done) | ((repeat (first | exact .one | exact .here | exact .all | apply Pick.cons | apply Pick.assoc | apply Pick.app)); done) | exact Pick.takeA (by repeat (first | exact .one | exact .here | exact .all | apply Pick.cons | apply Pick.assoc | apply Pick.app)) (by repeat (first | exact .one | exact .here | exact .all | apply Pick.cons | apply Pick.assoc | apply Pick.app))) ?_ | refine HSub.take (by first | ((repeat (first | exact .one | exact .here | exact .all | apply Pick.cons | apply Pick.app)); done) | ((repeat (first | exact .one | exact .here | exact .all | apply Pick.cons | apply Pick.assoc | apply Pick.app)); done) | exact Pick.takeA (by repeat (first | exact .one | exact .here | exact .all | apply Pick.cons | apply Pick.assoc | apply Pick.app)) (by repeat (first | exact .one | exact .here | exact .all | apply Pick.cons | apply Pick.assoc | apply Pick.app))) ?_ | exact HSub.of_pick (by first | ((repeat (first | exact .one | exact .here | exact .all | apply Pick.cons | apply Pick.app)); done) | ((repeat (first | exact .one | exact .here | exact .all | apply Pick.cons | apply Pick.assoc | apply Pick.app)); done) | exact Pick.takeA (by repeat (first | exact .one | exact .here | exact .all | apply Pick.cons | apply Pick.assoc | apply Pick.app)) (by repeat (first | exact .one | exact .here | exact .all | apply Pick.cons | apply Pick.assoc | apply Pick.app))))))
                  · skip
                    refine c_skip ?_
                    refine x_block ?_
                    refine x_then (hK41 _ _ ?_)
                    refine c_region ?_
                    refine o_step rfl (s_move rfl) ?_
                    refine o_step rfl (s_add rfl rfl (by omega)) ?_
                    refine o_step rfl (s_assign rfl) ?_
                    refine o_nil ?_
                    exact x_then (x_inv (k + 1, sl) ⟨by omega, by rw [filesOf_take hkl, ← hy, if_pos hy1, look_snoc, if_neg hyn]; exact hsl, hslr⟩ (by first | omega | (dsimp only; omega)) (by repeat (first | exact Sub.nil | refine Sub.cons rfl ?_)) (by repeat (first | exact HSub.refl _ | exact HSub.nil | refine HSub.takeC (by first | ((repeat (first | exact .one | exact .here | exact .all | apply Pick.cons | apply Pick.app)); done) | ((repeat (first | exact .one | exact .here | exact .all | apply Pick.cons | apply Pick.assoc | apply Pick.app)); done) | exact Pick.takeA (by repeat (first | exact .one | exact .here | exact .all | apply Pick.cons | apply Pick.assoc | apply Pick.app)) (by repeat (first | exact .one | exact .here | exact .all | apply Pick.cons | apply Pick.assoc | apply Pick.app))) ?_ | refine HSub.take (by first | ((repeat (first | exact .one | exact .here | exact .all | apply Pick.cons | apply Pick.app)); done) | ((repeat (first | exact .one | exact .here | exact .all | apply Pick.cons | apply Pick.assoc | apply Pick.app)); done) | exact Pick.takeA (by repeat (first | exact .one | exact .here | exact .all | apply Pick.cons | apply Pick.assoc | apply Pick.app)) (by repeat (first | exact .one | exact .here | exact .all | apply Pick.cons | apply Pick.assoc | apply Pick.app))) ?_ | exact HSub.of_pick (by first | ((repeat (first | exact .one | exact .here | exact .all | apply Pick.cons | apply Pick.app)); done) | ((repeat (first | exact .one | exact .here | exact .all | apply Pick.cons | apply Pick.assoc | apply Pick.app)); done) | exact Pick.takeA (by repeat (first | exact .one | exact .here | exact .all | apply Pick.cons | apply Pick.assoc | apply Pick.app)) (by repeat (first | exact .one | exact .here | exact .all | apply Pick.cons | apply Pick.assoc | apply Pick.app))))))
                · skip
                  refine .op rfl (step_cast (v' := .bool false) (s_eql rfl rfl) (by rw [decide_eq_false (by omega)])) ?_
                  refine .op rfl (s_move rfl) ?_
                  refine .no rfl rfl rfl rfl ?_
                  refine .no rfl rfl rfl rfl ?_
                  refine .no rfl rfl rfl rfl ?_
                  refine .no rfl rfl rfl rfl ?_
                  refine .no rfl rfl rfl rfl ?_
                  refine .no rfl rfl rfl rfl ?_
                  refine .no rfl rfl rfl rfl ?_
                  refine .no rfl rfl rfl rfl ?_
                  refine .op rfl (s_pick_f rfl rfl) ?_
                  refine .nil ?_
                  refine x_then (hK42 _ _ ?_)
                  refine c_false rfl ?_
                  refine c_skip ?_
                  refine x_block ?_
                  refine x_then (hK41 _ _ ?_)
                  refine c_region ?_
                  refine o_step rfl (s_move rfl) ?_
                  refine o_step rfl (s_add rfl rfl (by omega)) ?_
                  refine o_step rfl (s_assign rfl) ?_
                  refine o_nil ?_
                  exact x_then (x_inv (k + 1, sl) ⟨by omega, by rw [filesOf_take hkl, ← hy, if_neg hy1, List.append_nil]; exact hsl, hslr⟩ (by first | omega | (dsimp only; omega)) (by repeat (first | exact Sub.nil | refine Sub.cons rfl ?_)) (by repeat (first | exact HSub.refl _ | exact HSub.nil | refine HSub.takeC (by first | ((repeat (first | exact .one | exact .here | exact .all | apply Pick.cons | apply Pick.app)); done) | ((repeat (first | exact .one | exact .here | exact .all | apply Pick.cons | apply Pick.assoc | apply Pick.app)); done) | exact Pick.takeA (by repeat (first | exact .one | exact .here | exact .all | apply Pick.cons | apply Pick.assoc | apply Pick.app)) (by repeat (first | exact .one | exact .here | exact .all | apply Pick.cons | apply Pick.assoc | apply Pick.app))) ?_ | refine HSub.take (by first | ((repeat (first | exact .one | exact .here | exact .all | apply Pick.cons | apply Pick.app)); done) | ((repeat (first | exact .one | exact .here | exact .all | apply Pick.cons | apply Pick.assoc | apply Pick.app)); done) | exact Pick.takeA (by repeat (first | exact .one | exact .here | exact .all | apply Pick.cons | apply Pick.assoc | apply Pick.app)) (by repeat (first | exact .one | exact .here | exact .all | apply Pick.cons | apply Pick.assoc | apply Pick.app))) ?_ | exact HSub.of_pick (by first | ((repeat (first | exact .one | exact .here | exact .all | apply Pick.cons | apply Pick.app)); done) | ((repeat (first | exact .one | exact .here | exact .all | apply Pick.cons | apply Pick.assoc | apply Pick.app)); done) | exact Pick.takeA (by repeat (first | exact .one | exact .here | exact .all | apply Pick.cons | apply Pick.assoc | apply Pick.app)) (by repeat (first | exact .one | exact .here | exact .all | apply Pick.cons | apply Pick.assoc | apply Pick.app))))))
              · skip
                have ek : things.take k = things := List.take_of_length_le (by omega)
                rw [ek, ← hfx] at hsl
                refine c_exit ?_
                refine x_then_exit ?_
                refine x_then_exit ?_
                refine x_block_exit ?_
                refine x_then (hK37 _ _ ?_)
                refine c_seq fun _ hK43 => ?_
                refine c_region ?_
                refine o_step rfl (s_move rfl) ?_
                refine o_step rfl (s_len rfl) ?_
                refine o_step rfl (s_eql rfl rfl) ?_
                refine o_nil ?_
                refine x_then (hK43 _ _ ?_)
                refine c_if rfl (fun hsl0 => ?_) (fun hsl0 => ?_)
                · skip
                  have hlk0 : look f.xs x.n = [] := by rw [← hsl]; exact List.eq_nil_of_length_eq_zero (by omega)
                  refine c_exit ?_
                  refine x_then_exit ?_
                  refine x_block_exit ?_
                  refine x_then (hK28 _ _ ?_)
                  refine c_region ?_
                  refine o_step rfl (s_move rfl) ?_
                  refine o_step rfl (s_add rfl rfl (by omega)) ?_
                  refine o_step rfl (s_assign rfl) ?_
                  refine o_nil ?_
                  exact x_then (x_inv (j + 1, ⟨a114, c114, w.xs ++ [(⟨3, x.n, ⟨none, 0, []⟩⟩ : CallV)]⟩, S114, Sk, ⟨s.calls ++ [⟨3, x.n, []⟩], s.outs⟩) ⟨by omega, hS114, by simp [hwa, CallV.abs], fun y hy => (List.mem_append.1 hy).elim (hwr y) fun h => by rw [List.mem_singleton.1 h]; exact .inr RdS.nil, by rw [wantsQ_take hil, ← hs, ← hx, wantQ, if_neg hskip, if_pos hk1, if_pos hlk0]⟩ (by first | omega | (dsimp only; omega)) (by repeat (first | exact Sub.nil | refine Sub.cons rfl ?_)) (by repeat (first | exact HSub.refl _ | exact HSub.nil | refine HSub.takeC (by first | ((repeat (first | exact .one | exact .here | exact .all | apply Pick.cons | apply Pick.app)); done) | ((repeat (first | exact .one | exact .here | exact .all | apply Pick.cons | apply Pick.assoc | apply Pick.app)); done) | exact Pick.takeA (by repeat (first | exact .one | exact .here | exact .all | apply Pick.cons | apply Pick.assoc | apply Pick.app)) (by repeat (first | exact .one | exact .here | exact .all | apply Pick.cons | apply Pick.assoc | apply Pick.app))) ?_ | refine HSub.take (by first | ((repeat (first | exact .one | exact .here | exact .all | apply Pick.cons | apply Pick.app)); done) | ((repeat (first | exact .one | exact .here | exact .all | apply Pick.cons | apply Pick.assoc | apply Pick.app)); done) | exact Pick.takeA (by repeat (first | exact .one | exact .here | exact .all | apply Pick.cons | apply Pick.assoc | apply Pick.app)) (by repeat (first | exact .one | exact .here | exact .all | apply Pick.cons | apply Pick.assoc | apply Pick.app))) ?_ | exact HSub.of_pick (by first | ((repeat (first | exact .one | exact .here | exact .all | apply Pick.cons | apply Pick.app)); done) | ((repeat (first | exact .one | exact .here | exact .all | apply Pick.cons | apply Pick.assoc | apply Pick.app)); done) | exact Pick.takeA (by repeat (first | exact .one | exact .here | exact .all | apply Pick.cons | apply Pick.assoc | apply Pick.app)) (by repeat (first | exact .one | exact .here | exact .all | apply Pick.cons | apply Pick.assoc | apply Pick.app))))))
                · skip
                  have hlk0 : look f.xs x.n ≠ [] := by rw [← hsl]; intro h; rw [h] at hsl0; exact hsl0 rfl
                  refine c_skip ?_
                  refine x_then (hK33 _ _ ?_)
                  refine c_seq fun _ hK44 => ?_
                  refine c_region ?_
                  refine o_step rfl (s_move rfl) ?_
                  refine o_step rfl (s_move rfl) ?_
                  refine o_step rfl (s_build (cs := [_, _, _]) (vs := [_, _]) rfl rfl (.cons rfl rfl rfl rfl rfl (.cons rfl rfl rfl rfl rfl (.nil)))) ?_
                  refine o_bs (E := Ecall) (xs := [(⟨1, ⟨#[]⟩, sl⟩ : CallV)]) (vs := [_]) rfl rfl rfl rfl rfl (by decide) (by decide) fun b151 S151 hS151 => ?_
                  refine o_app hS114 (hS151.rdk (by repeat (first | exact HIn.here | exact HIn.all | exact HIn.one | apply HIn.cons | apply HIn.assoc | apply HIn.app))) rfl rfl rfl rfl (by simp; omega) (by simp; omega) rfl (by first | ((repeat (first | exact .one | exact .here | exact .all | apply Pick.cons | apply Pick.app)); done) | ((repeat (first | exact .one | exact .here | exact .all | apply Pick.cons | apply Pick.assoc | apply Pick.app)); done) | exact Pick.takeA (by repeat (first | exact .one | exact .here | exact .all | apply Pick.cons | apply Pick.assoc | apply Pick.app)) (by repeat (first | exact .one | exact .here | exact .all | apply Pick.cons | apply Pick.assoc | apply Pick.app))) fun a152 c152 S152 hS152 => ?_
                  refine o_step rfl (s_assign rfl) ?_
                  refine o_nil ?_
                  refine x_then (hK44 _ _ ?_)
                  refine c_region ?_
                  refine o_step rfl (s_move rfl) ?_
                  refine o_step rfl (s_add rfl rfl (by omega)) ?_
                  refine o_step rfl (s_assign rfl) ?_
                  refine o_nil ?_
                  refine x_block ?_
                  refine x_then (hK28 _ _ ?_)
                  refine c_region ?_
                  refine o_step rfl (s_move rfl) ?_
                  refine o_step rfl (s_add rfl rfl (by omega)) ?_
                  refine o_step rfl (s_assign rfl) ?_
                  refine o_nil ?_
                  exact x_then (x_inv (j + 1, ⟨a152, c152, w.xs ++ [(⟨3, x.n, ⟨none, 0, []⟩⟩ : CallV)] ++ [(⟨1, ⟨#[]⟩, sl⟩ : CallV)]⟩, S152, Sk, ⟨s.calls ++ [⟨3, x.n, []⟩] ++ [⟨1, ⟨#[]⟩, sl.xs⟩], s.outs + 1⟩) ⟨by omega, hS152, by simp [hwa, CallV.abs], fun y hy => by rcases List.mem_append.1 hy with hy | h; exact (List.mem_append.1 hy).elim (hwr y) fun h => (by rw [List.mem_singleton.1 h]; exact .inr RdS.nil); rw [List.mem_singleton.1 h]; exact .inl hslr, by rw [wantsQ_take hil, ← hs, ← hx, wantQ, if_neg hskip, if_pos hk1, if_neg hlk0, hsl]⟩ (by first | omega | (dsimp only; omega)) (by repeat (first | exact Sub.nil | refine Sub.cons rfl ?_)) (by repeat (first | exact HSub.refl _ | exact HSub.nil | refine HSub.takeC (by first | ((repeat (first | exact .one | exact .here | exact .all | apply Pick.cons | apply Pick.app)); done) | ((repeat (first | exact .one | exact .here | exact .all | apply Pick.cons | apply Pick.assoc | apply Pick.app)); done) | exact Pick.takeA (by repeat (first | exact .one | exact .here | exact .all | apply Pick.cons | apply Pick.assoc | apply Pick.app)) (by repeat (first | exact .one | exact .here | exact .all | apply Pick.cons | apply Pick.assoc | apply Pick.app))) ?_ | refine HSub.take (by first | ((repeat (first | exact .one | exact .here | exact .all | apply Pick.cons | apply Pick.app)); done) | ((repeat (first | exact .one | exact .here | exact .all | apply Pick.cons | apply Pick.assoc | apply Pick.app)); done) | exact Pick.takeA (by repeat (first | exact .one | exact .here | exact .all | apply Pick.cons | apply Pick.assoc | apply Pick.app)) (by repeat (first | exact .one | exact .here | exact .all | apply Pick.cons | apply Pick.assoc | apply Pick.app))) ?_ | exact HSub.of_pick (by first | ((repeat (first | exact .one | exact .here | exact .all | apply Pick.cons | apply Pick.app)); done) | ((repeat (first | exact .one | exact .here | exact .all | apply Pick.cons | apply Pick.assoc | apply Pick.app)); done) | exact Pick.takeA (by repeat (first | exact .one | exact .here | exact .all | apply Pick.cons | apply Pick.assoc | apply Pick.app)) (by repeat (first | exact .one | exact .here | exact .all | apply Pick.cons | apply Pick.assoc | apply Pick.app))))))
            · skip
              skip
              · skip
                have hk0 : x.k = 0 := by omega
                refine c_region ?_
                refine o_step rfl (s_move rfl) ?_
                refine o_bs (E := Eb) (xs := [10]) (vs := [_]) rfl rfl rfl rfl rfl (by decide) (by decide) fun b146 S146 hS146 => ?_
                refine o_app hS105 (hS146.rdk (by repeat (first | exact HIn.here | exact HIn.all | exact HIn.one | apply HIn.cons | apply HIn.assoc | apply HIn.app))) rfl rfl rfl rfl (by show (x.b.xs.length + 1) * 1 ≤ _; omega) (by show x.b.xs.length + 1 ≤ _; omega) rfl (by first | ((repeat (first | exact .one | exact .here | exact .all | apply Pick.cons | apply Pick.app)); done) | ((repeat (first | exact .one | exact .here | exact .all | apply Pick.cons | apply Pick.assoc | apply Pick.app)); done) | exact Pick.takeA (by repeat (first | exact .one | exact .here | exact .all | apply Pick.cons | apply Pick.assoc | apply Pick.app)) (by repeat (first | exact .one | exact .here | exact .all | apply Pick.cons | apply Pick.assoc | apply Pick.app))) fun a147 c147 S147 hS147 => ?_
                refine o_step rfl (s_assign rfl) ?_
                refine o_nil ?_
                refine x_then (hK33 _ _ ?_)
                refine c_seq fun _ hK45 => ?_
                refine c_region ?_
                refine o_step rfl (s_move rfl) ?_
                refine o_step rfl (s_move rfl) ?_
                refine o_step rfl (s_build (cs := [_, _, _]) (vs := [_, _]) rfl rfl (.cons rfl rfl rfl rfl rfl (.cons rfl rfl rfl rfl rfl (.nil)))) ?_
                refine o_bs (E := Ecall) (xs := [(⟨1, ⟨#[]⟩, ⟨a147, c147, x.b.xs ++ [10]⟩⟩ : CallV)]) (vs := [_]) rfl rfl rfl rfl rfl (by decide) (by decide) fun b151 S151 hS151 => ?_
                refine o_app hW (hS151.rdk (by repeat (first | exact HIn.here | exact HIn.all | exact HIn.one | apply HIn.cons | apply HIn.assoc | apply HIn.app))) rfl rfl rfl rfl (by show (w.xs.length + 1) * 48 ≤ _; omega) (by show w.xs.length + 1 ≤ _; omega) rfl (by first | ((repeat (first | exact .one | exact .here | exact .all | apply Pick.cons | apply Pick.app)); done) | ((repeat (first | exact .one | exact .here | exact .all | apply Pick.cons | apply Pick.assoc | apply Pick.app)); done) | exact Pick.takeA (by repeat (first | exact .one | exact .here | exact .all | apply Pick.cons | apply Pick.assoc | apply Pick.app)) (by repeat (first | exact .one | exact .here | exact .all | apply Pick.cons | apply Pick.assoc | apply Pick.app))) fun a152 c152 S152 hS152 => ?_
                refine o_step rfl (s_assign rfl) ?_
                refine o_nil ?_
                refine x_then (hK45 _ _ ?_)
                refine c_region ?_
                refine o_step rfl (s_move rfl) ?_
                refine o_step rfl (s_add rfl rfl (by omega)) ?_
                refine o_step rfl (s_assign rfl) ?_
                refine o_nil ?_
                refine x_block ?_
                refine x_then (hK28 _ _ ?_)
                refine c_region ?_
                refine o_step rfl (s_move rfl) ?_
                refine o_step rfl (s_add rfl rfl (by omega)) ?_
                refine o_step rfl (s_assign rfl) ?_
                refine o_nil ?_
                exact x_then (x_inv (j + 1, ⟨a152, c152, w.xs ++ [(⟨1, ⟨#[]⟩, ⟨a147, c147, x.b.xs ++ [10]⟩⟩ : CallV)]⟩, S152, S147 ++ Sk, ⟨s.calls ++ [⟨1, ⟨#[]⟩, x.b.xs ++ [10]⟩], s.outs + 1⟩) ⟨by omega, hS152, by simp [hwa, CallV.abs], fun y hy => (List.mem_append.1 hy).elim (fun h => (hwr y h).imp id fun h => h.mono HIn.appR) fun h => by rw [List.mem_singleton.1 h]; exact .inr (hS147.rds.mono HIn.appL), by rw [wantsQ_take hil, ← hs, ← hx, wantQ, if_neg hskip, if_neg hk1]⟩ (by first | omega | (dsimp only; omega)) (by repeat (first | exact Sub.nil | refine Sub.cons rfl ?_)) (by repeat (first | exact HSub.refl _ | exact HSub.nil | refine HSub.takeC (by first | ((repeat (first | exact .one | exact .here | exact .all | apply Pick.cons | apply Pick.app)); done) | ((repeat (first | exact .one | exact .here | exact .all | apply Pick.cons | apply Pick.assoc | apply Pick.app)); done) | exact Pick.takeA (by repeat (first | exact .one | exact .here | exact .all | apply Pick.cons | apply Pick.assoc | apply Pick.app)) (by repeat (first | exact .one | exact .here | exact .all | apply Pick.cons | apply Pick.assoc | apply Pick.app))) ?_ | refine HSub.take (by first | ((repeat (first | exact .one | exact .here | exact .all | apply Pick.cons | apply Pick.app)); done) | ((repeat (first | exact .one | exact .here | exact .all | apply Pick.cons | apply Pick.assoc | apply Pick.app)); done) | exact Pick.takeA (by repeat (first | exact .one | exact .here | exact .all | apply Pick.cons | apply Pick.assoc | apply Pick.app)) (by repeat (first | exact .one | exact .here | exact .all | apply Pick.cons | apply Pick.assoc | apply Pick.app))) ?_ | exact HSub.of_pick (by first | ((repeat (first | exact .one | exact .here | exact .all | apply Pick.cons | apply Pick.app)); done) | ((repeat (first | exact .one | exact .here | exact .all | apply Pick.cons | apply Pick.assoc | apply Pick.app)); done) | exact Pick.takeA (by repeat (first | exact .one | exact .here | exact .all | apply Pick.cons | apply Pick.assoc | apply Pick.app)) (by repeat (first | exact .one | exact .here | exact .all | apply Pick.cons | apply Pick.assoc | apply Pick.app))))))
        · intro _ hJ31
          refine c_region ?_
          refine o_step rfl (s_field rfl rfl (by decide)) ?_
          refine o_step rfl (s_ld rfl (.own (by repeat (first | exact List.mem_cons_self | apply List.mem_cons_of_mem | apply mem_assoc | apply mem_app)) rfl)) ?_
          by_cases hn0 : x.k ≠ 0
          · skip
            refine o_step rfl (step_cast (v' := .bool true) (s_neq rfl rfl) (by rw [decide_eq_true hn0])) ?_
            refine o_step rfl (s_move rfl) ?_
            refine o_yes rfl rfl ?_
            refine o_step rfl (s_field rfl rfl (by decide)) ?_
            refine o_yes rfl rfl ?_
            refine o_step rfl (s_ld rfl (.own (by repeat (first | exact List.mem_cons_self | apply List.mem_cons_of_mem | apply mem_assoc | apply mem_app)) rfl)) ?_
            refine o_yes rfl rfl ?_
            by_cases hn1 : x.k ≠ 1
            · skip
              refine o_step rfl (step_cast (v' := .bool true) (s_neq rfl rfl) (by rw [decide_eq_true hn1])) ?_
              refine o_step rfl (s_pick_t rfl rfl) ?_
              refine o_step rfl (s_move rfl) ?_
              refine o_no rfl rfl rfl rfl ?_
              refine o_no rfl rfl rfl rfl ?_
              refine o_no rfl rfl rfl rfl ?_
              refine o_noU rfl rfl rfl ?_
              refine o_noU rfl rfl rfl ?_
              refine o_noU rfl rfl rfl ?_
              refine o_no rfl rfl rfl rfl ?_
              refine o_step rfl (s_pick_t rfl rfl) ?_
              refine o_nil ?_
              exact x_then (hJ31 true _ _ ⟨fun _ => (by omega), fun _ => rfl⟩ (by repeat (first | exact Sub.nil | refine Sub.cons rfl ?_)) (by repeat (first | exact Sub.nil | refine Sub.cons rfl ?_)) (by repeat (first | exact HSub.refl _ | exact HSub.nil | refine HSub.takeC (by first | ((repeat (first | exact .one | exact .here | exact .all | apply Pick.cons | apply Pick.app)); done) | ((repeat (first | exact .one | exact .here | exact .all | apply Pick.cons | apply Pick.assoc | apply Pick.app)); done) | exact Pick.takeA (by repeat (first | exact .one | exact .here | exact .all | apply Pick.cons | apply Pick.assoc | apply Pick.app)) (by repeat (first | exact .one | exact .here | exact .all | apply Pick.cons | apply Pick.assoc | apply Pick.app))) ?_ | refine HSub.take (by first | ((repeat (first | exact .one | exact .here | exact .all | apply Pick.cons | apply Pick.app)); done) | ((repeat (first | exact .one | exact .here | exact .all | apply Pick.cons | apply Pick.assoc | apply Pick.app)); done) | exact Pick.takeA (by repeat (first | exact .one | exact .here | exact .all | apply Pick.cons | apply Pick.assoc | apply Pick.app)) (by repeat (first | exact .one | exact .here | exact .all | apply Pick.cons | apply Pick.assoc | apply Pick.app))) ?_ | exact HSub.of_pick (by first | ((repeat (first | exact .one | exact .here | exact .all | apply Pick.cons | apply Pick.app)); done) | ((repeat (first | exact .one | exact .here | exact .all | apply Pick.cons | apply Pick.assoc | apply Pick.app)); done) | exact Pick.takeA (by repeat (first | exact .one | exact .here | exact .all | apply Pick.cons | apply Pick.assoc | apply Pick.app)) (by repeat (first | exact .one | exact .here | exact .all | apply Pick.cons | apply Pick.assoc | apply Pick.app))))))
            · skip
              refine o_step rfl (step_cast (v' := .bool false) (s_neq rfl rfl) (by rw [decide_eq_false hn1])) ?_
              refine o_step rfl (s_pick_t rfl rfl) ?_
              refine o_step rfl (s_move rfl) ?_
              refine o_yes rfl rfl ?_
              refine o_step rfl (s_move rfl) ?_
              refine o_yes rfl rfl ?_
              by_cases hf0 : 0 < fail
              · skip
                refine o_step rfl (step_cast (v' := .bool true) (s_gtr rfl rfl) (by rw [decide_eq_true (by omega)])) ?_
                refine o_yes rfl rfl ?_
                refine o_step rfl (s_move rfl) ?_
                refine o_yes rfl rfl ?_
                refine o_step rfl (s_move rfl) ?_
                refine o_yes rfl rfl ?_
                refine o_step rfl (s_move rfl) ?_
                refine o_yes rfl rfl ?_
                by_cases ho0 : (s.outs : Int) = fail
                · skip
                  refine o_step rfl (step_cast (v' := .bool true) (s_eql rfl rfl) (by rw [decide_eq_true (by omega)])) ?_
                  refine o_yes rfl rfl ?_
                  refine o_step rfl (s_pick_t rfl rfl) ?_
                  refine o_step rfl (s_pick_f rfl rfl) ?_
                  refine o_nil ?_
                  exact x_then (hJ31 true _ _ ⟨fun _ => (by omega), fun _ => rfl⟩ (by repeat (first | exact Sub.nil | refine Sub.cons rfl ?_)) (by repeat (first | exact Sub.nil | refine Sub.cons rfl ?_)) (by repeat (first | exact HSub.refl _ | exact HSub.nil | refine HSub.takeC (by first | ((repeat (first | exact .one | exact .here | exact .all | apply Pick.cons | apply Pick.app)); done) | ((repeat (first | exact .one | exact .here | exact .all | apply Pick.cons | apply Pick.assoc | apply Pick.app)); done) | exact Pick.takeA (by repeat (first | exact .one | exact .here | exact .all | apply Pick.cons | apply Pick.assoc | apply Pick.app)) (by repeat (first | exact .one | exact .here | exact .all | apply Pick.cons | apply Pick.assoc | apply Pick.app))) ?_ | refine HSub.take (by first | ((repeat (first | exact .one | exact .here | exact .all | apply Pick.cons | apply Pick.app)); done) | ((repeat (first | exact .one | exact .here | exact .all | apply Pick.cons | apply Pick.assoc | apply Pick.app)); done) | exact Pick.takeA (by repeat (first | exact .one | exact .here | exact .all | apply Pick.cons | apply Pick.assoc | apply Pick.app)) (by repeat (first | exact .one | exact .here | exact .all | apply Pick.cons | apply Pick.assoc | apply Pick.app))) ?_ | exact HSub.of_pick (by first | ((repeat (first | exact .one | exact .here | exact .all | apply Pick.cons | apply Pick.app)); done) | ((repeat (first | exact .one | exact .here | exact .all | apply Pick.cons | apply Pick.assoc | apply Pick.app)); done) | exact Pick.takeA (by repeat (first | exact .one | exact .here | exact .all | apply Pick.cons | apply Pick.assoc | apply Pick.app)) (by repeat (first | exact .one | exact .here | exact .all | apply Pick.cons | apply Pick.assoc | apply Pick.app))))))
                · skip
                  refine o_step rfl (step_cast (v' := .bool false) (s_eql rfl rfl) (by rw [decide_eq_false (by omega)])) ?_
                  refine o_yes rfl rfl ?_
                  refine o_step rfl (s_pick_t rfl rfl) ?_
                  refine o_step rfl (s_pick_f rfl rfl) ?_
                  refine o_nil ?_
                  exact x_then (hJ31 false _ _ ⟨fun h => (by cases h), fun h => (by omega)⟩ (by repeat (first | exact Sub.nil | refine Sub.cons rfl ?_)) (by repeat (first | exact Sub.nil | refine Sub.cons rfl ?_)) (by repeat (first | exact HSub.refl _ | exact HSub.nil | refine HSub.takeC (by first | ((repeat (first | exact .one | exact .here | exact .all | apply Pick.cons | apply Pick.app)); done) | ((repeat (first | exact .one | exact .here | exact .all | apply Pick.cons | apply Pick.assoc | apply Pick.app)); done) | exact Pick.takeA (by repeat (first | exact .one | exact .here | exact .all | apply Pick.cons | apply Pick.assoc | apply Pick.app)) (by repeat (first | exact .one | exact .here | exact .all | apply Pick.cons | apply Pick.assoc | apply Pick.app))) ?_ | refine HSub.take (by first | ((repeat (first | exact .one | exact .here | exact .all | apply Pick.cons | apply Pick.app)); done) | ((repeat (first | exact .one | exact .here | exact .all | apply Pick.cons | apply Pick.assoc | apply Pick.app)); done) | exact Pick.takeA (by repeat (first | exact .one | exact .here | exact .all | apply Pick.cons | apply Pick.assoc | apply Pick.app)) (by repeat (first | exact .one | exact .here | exact .all | apply Pick.cons | apply Pick.assoc | apply Pick.app))) ?_ | exact HSub.of_pick (by first | ((repeat (first | exact .one | exact .here | exact .all | apply Pick.cons | apply Pick.app)); done) | ((repeat (first | exact .one | exact .here | exact .all | apply Pick.cons | apply Pick.assoc | apply Pick.app)); done) | exact Pick.takeA (by repeat (first | exact .one | exact .here | exact .all | apply Pick.cons | apply Pick.assoc | apply Pick.app)) (by repeat (first | exact .one | exact .here | exact .all | apply Pick.cons | apply Pick.assoc | apply Pick.app))))))
              · skip
                refine o_step rfl (step_cast (v' := .bool false) (s_gtr rfl rfl) (by rw [decide_eq_false (by omega)])) ?_
                refine o_yes rfl rfl ?_
                refine o_step rfl (s_move rfl) ?_
                refine o_no rfl rfl rfl rfl ?_
                refine o_no rfl rfl rfl rfl ?_
                refine o_no rfl rfl rfl rfl ?_
                refine o_yes rfl rfl ?_
                refine o_step rfl (s_pick_f rfl rfl) ?_
                refine o_step rfl (s_pick_f rfl rfl) ?_
                refine o_nil ?_
                exact x_then (hJ31 false _ _ ⟨fun h => (by cases h), fun h => (by omega)⟩ (by repeat (first | exact Sub.nil | refine Sub.cons rfl ?_)) (by repeat (first | exact Sub.nil | refine Sub.cons rfl ?_)) (by repeat (first | exact HSub.refl _ | exact HSub.nil | refine HSub.takeC (by first | ((repeat (first | exact .one | exact .here | exact .all | apply Pick.cons | apply Pick.app)); done) | ((repeat (first | exact .one | exact .here | exact .all | apply Pick.cons | apply Pick.assoc | apply Pick.app)); done) | exact Pick.takeA (by repeat (first | exact .one | exact .here | exact .all | apply Pick.cons | apply Pick.assoc | apply Pick.app)) (by repeat (first | exact .one | exact .here | exact .all | apply Pick.cons | apply Pick.assoc | apply Pick.app))) ?_ | refine HSub.take (by first | ((repeat (first | exact .one | exact .here | exact .all | apply Pick.cons | apply Pick.app)); done) | ((repeat (first | exact .one | exact .here | exact .all | apply Pick.cons | apply Pick.assoc | apply Pick.app)); done) | exact Pick.takeA (by repeat (first | exact .one | exact .here | exact .all | apply Pick.cons | apply Pick.assoc | apply Pick.app)) (by repeat (first | exact .one | exact .here | exact .all | apply Pick.cons | apply Pick.assoc | apply Pick.app))) ?_ | exact HSub.of_pick (by first | ((repeat (first | exact .one | exact .here | exact .all | apply Pick.cons | apply Pick.app)); done) | ((repeat (first | exact .one | exact .here | exact .all | apply Pick.cons | apply Pick.assoc | apply Pick.app)); done) | exact Pick.takeA (by repeat (first | exact .one | exact .here | exact .all | apply Pick.cons | apply Pick.assoc | apply Pick.app)) (by repeat (first | exact .one | exact .here | exact .all | apply Pick.cons | apply Pick.assoc | apply Pick.app))))))
          · skip
            refine o_step rfl (step_cast (v' := .bool false) (s_neq rfl rfl) (by rw [decide_eq_false hn0])) ?_
            refine o_step rfl (s_move rfl) ?_
            refine o_no rfl rfl rfl rfl ?_
            refine o_no rfl rfl rfl rfl ?_
            refine o_no rfl rfl rfl rfl ?_
            refine o_step rfl (s_pick_f rfl rfl) ?_
            refine o_step rfl (s_move rfl) ?_
            refine o_yes rfl rfl ?_
            refine o_step rfl (s_move rfl) ?_
            refine o_yes rfl rfl ?_
            by_cases hf0 : 0 < fail
            · skip
              refine o_step rfl (step_cast (v' := .bool true) (s_gtr rfl rfl) (by rw [decide_eq_true (by omega)])) ?_
              refine o_yes rfl rfl ?_
              refine o_step rfl (s_move rfl) ?_
              refine o_yes rfl rfl ?_
              refine o_step rfl (s_move rfl) ?_
              refine o_yes rfl rfl ?_
              refine o_step rfl (s_move rfl) ?_
              refine o_yes rfl rfl ?_
              by_cases ho0 : (s.outs : Int) = fail
              · skip
                refine o_step rfl (step_cast (v' := .bool true) (s_eql rfl rfl) (by rw [decide_eq_true (by omega)])) ?_
                refine o_yes rfl rfl ?_
                refine o_step rfl (s_pick_t rfl rfl) ?_
                refine o_step rfl (s_pick_f rfl rfl) ?_
                refine o_nil ?_
                exact x_then (hJ31 true _ _ ⟨fun _ => (by omega), fun _ => rfl⟩ (by repeat (first | exact Sub.nil | refine Sub.cons rfl ?_)) (by repeat (first | exact Sub.nil | refine Sub.cons rfl ?_)) (by repeat (first | exact HSub.refl _ | exact HSub.nil | refine HSub.takeC (by first | ((repeat (first | exact .one | exact .here | exact .all | apply Pick.cons | apply Pick.app)); done) | ((repeat (first | exact .one | exact .here | exact .all | apply Pick.cons | apply Pick.assoc | apply Pick.app)); done) | exact Pick.takeA (by repeat (first | exact .one | exact .here | exact .all | apply Pick.cons | apply Pick.assoc | apply Pick.app)) (by repeat (first | exact .one | exact .here | exact .all | apply Pick.cons | apply Pick.assoc | apply Pick.app))) ?_ | refine HSub.take (by first | ((repeat (first | exact .one | exact .here | exact .all | apply Pick.cons | apply Pick.app)); done) | ((repeat (first | exact .one | exact .here | exact .all | apply Pick.cons | apply Pick.assoc | apply Pick.app)); done) | exact Pick.takeA (by repeat (first | exact .one | exact .here | exact .all | apply Pick.cons | apply Pick.assoc | apply Pick.app)) (by repeat (first | exact .one | exact .here | exact .all | apply Pick.cons | apply Pick.assoc | apply Pick.app))) ?_ | exact HSub.of_pick (by first | ((repeat (first | exact .one | exact .here | exact .all | apply Pick.cons | apply Pick.app)); done) | ((repeat (first | exact .one | exact .here | exact .all | apply Pick.cons | apply Pick.assoc | apply Pick.app)); done) | exact Pick.takeA (by repeat (first | exact .one | exact .here | exact .all | apply Pick.cons | apply Pick.assoc | apply Pick.app)) (by repeat (first | exact .one | exact .here | exact .all | apply Pick.cons | apply Pick.assoc | apply Pick.app))))))
              · skip
                refine o_step rfl (step_cast (v' := .bool false) (s_eql rfl rfl) (by rw [decide_eq_false (by omega)])) ?_
                refine o_yes rfl rfl ?_
                refine o_step rfl (s_pick_t rfl rfl) ?_
                refine o_step rfl (s_pick_f rfl rfl) ?_
                refine o_nil ?_
                exact x_then (hJ31 false _ _ ⟨fun h => (by cases h), fun h => (by omega)⟩ (by repeat (first | exact Sub.nil | refine Sub.cons rfl ?_)) (by repeat (first | exact Sub.nil | refine Sub.cons rfl ?_)) (by repeat (first | exact HSub.refl _ | exact HSub.nil | refine HSub.takeC (by first | ((repeat (first | exact .one | exact .here | exact .all | apply Pick.cons | apply Pick.app)); done) | ((repeat (first | exact .one | exact .here | exact .all | apply Pick.cons | apply Pick.assoc | apply Pick.app)); done) | exact Pick.takeA (by repeat (first | exact .one | exact .here | exact .all | apply Pick.cons | apply Pick.assoc | apply Pick.app)) (by repeat (first | exact .one | exact .here | exact .all | apply Pick.cons | apply Pick.assoc | apply Pick.app))) ?_ | refine HSub.take (by first | ((repeat (first | exact .one | exact .here | exact .all | apply Pick.cons | apply Pick.app)); done) | ((repeat (first | exact .one | exact .here | exact .all | apply Pick.cons | apply Pick.assoc | apply Pick.app)); done) | exact Pick.takeA (by repeat (first | exact .one | exact .here | exact .all | apply Pick.cons | apply Pick.assoc | apply Pick.app)) (by repeat (first | exact .one | exact .here | exact .all | apply Pick.cons | apply Pick.assoc | apply Pick.app))) ?_ | exact HSub.of_pick (by first | ((repeat (first | exact .one | exact .here | exact .all | apply Pick.cons | apply Pick.app)); done) | ((repeat (first | exact .one | exact .here | exact .all | apply Pick.cons | apply Pick.assoc | apply Pick.app)); done) | exact Pick.takeA (by repeat (first | exact .one | exact .here | exact .all | apply Pick.cons | apply Pick.assoc | apply Pick.app)) (by repeat (first | exact .one | exact .here | exact .all | apply Pick.cons | apply Pick.assoc | apply Pick.app))))))
            · skip
              refine o_step rfl (step_cast (v' := .bool false) (s_gtr rfl rfl) (by rw [decide_eq_false (by omega)])) ?_
              refine o_yes rfl rfl ?_
              refine o_step rfl (s_move rfl) ?_
              refine o_no rfl rfl rfl rfl ?_
              refine o_no rfl rfl rfl rfl ?_
              refine o_no rfl rfl rfl rfl ?_
              refine o_yes rfl rfl ?_
              refine o_step rfl (s_pick_f rfl rfl) ?_
              refine o_step rfl (s_pick_f rfl rfl) ?_
              refine o_nil ?_
              exact x_then (hJ31 false _ _ ⟨fun h => (by cases h), fun h => (by omega)⟩ (by repeat (first | exact Sub.nil | refine Sub.cons rfl ?_)) (by repeat (first | exact Sub.nil | refine Sub.cons rfl ?_)) (by repeat (first | exact HSub.refl _ | exact HSub.nil | refine HSub.takeC (by first | ((repeat (first | exact .one | exact .here | exact .all | apply Pick.cons | apply Pick.app)); done) | ((repeat (first | exact .one | exact .here | exact .all | apply Pick.cons | apply Pick.assoc | apply Pick.app)); done) | exact Pick.takeA (by repeat (first | exact .one | exact .here | exact .all | apply Pick.cons | apply Pick.assoc | apply Pick.app)) (by repeat (first | exact .one | exact .here | exact .all | apply Pick.cons | apply Pick.assoc | apply Pick.app))) ?_ | refine HSub.take (by first | ((repeat (first | exact .one | exact .here | exact .all | apply Pick.cons | apply Pick.app)); done) | ((repeat (first | exact .one | exact .here | exact .all | apply Pick.cons | apply Pick.assoc | apply Pick.app)); done) | exact Pick.takeA (by repeat (first | exact .one | exact .here | exact .all | apply Pick.cons | apply Pick.assoc | apply Pick.app)) (by repeat (first | exact .one | exact .here | exact .all | apply Pick.cons | apply Pick.assoc | apply Pick.app))) ?_ | exact HSub.of_pick (by first | ((repeat (first | exact .one | exact .here | exact .all | apply Pick.cons | apply Pick.app)); done) | ((repeat (first | exact .one | exact .here | exact .all | apply Pick.cons | apply Pick.assoc | apply Pick.app)); done) | exact Pick.takeA (by repeat (first | exact .one | exact .here | exact .all | apply Pick.cons | apply Pick.assoc | apply Pick.app)) (by repeat (first | exact .one | exact .here | exact .all | apply Pick.cons | apply Pick.assoc | apply Pick.app))))))
      · skip
        have ej : things.take j = things := List.take_of_length_le (by omega)
        rw [ej] at hs
        refine c_exit ?_
        refine x_then_exit ?_
        refine x_then_exit ?_
        refine x_block_exit ?_
        refine x_then (hK24 _ _ ?_)
        refine c_seq fun _ hK46 => ?_
        refine c_seq fun _ hK47 => ?_
        refine c_region ?_
        refine o_step rfl (s_move rfl) ?_
        refine o_callP (len_fn bq (.bool true) q.a q.xs.length q.c) rfl rfl rfl (fun w st => (RdPK.own (by repeat (first | exact List.mem_cons_self | apply List.mem_cons_of_mem | apply mem_assoc | apply mem_app))).out w st) (fun v156 hv156 => ?_)
        subst hv156
        refine o_step rfl (s_move rfl) ?_
        refine o_step rfl (s_neq_f rfl rfl (by omega)) ?_
        refine o_nil ?_
        refine x_then (hK47 _ _ ?_)
        refine c_false rfl ?_
        refine c_skip ?_
        refine x_then (hK46 _ _ ?_)
        refine c_seq fun _ hK48 => ?_
        refine c_region ?_
        refine o_step rfl (s_move rfl) ?_
        refine o_step rfl (s_move rfl) ?_
        refine o_step rfl (s_func (us := [_]) (vs := []) rfl rfl) ?_
        refine o_step rfl (s_move rfl) ?_
        refine o_step rfl (s_func (us := [_]) (vs := []) rfl rfl) ?_
        refine o_call (qflushL_fn (f.xs.map FileV.b) (sdR f.xs) (sdO fail 22) sdKR sdKO (SideQ bq b31 f.xs fail 22 0) 22 23 [.pointer (some ⟨b31, 0, none⟩)] [] [.pointer (some ⟨b31, 0, none⟩)] [] (fun s S n h1 h2 => sdRQ_fn bq b31 f.xs fail 22 0 (by omega) hfb s S n h1 h2) (fun s S b Sb a c h1 h2 h3 => sdOQ_fn bq b31 f.xs fail 22 0 (by omega) s S b Sb a c h1 h2 h3) bq q.a q.c q.xs So Si ((b31, .cells [.slice none 0 0, .pointer none, .pointer none, .pointer none, .slice f.a f.xs.length f.c, .int .i64 fail, .int .i64 22, .int .i64 0, .int .i64 0, .pointer none, .slice none 0 0, .string ⟨#[]⟩, .bool false, .bool false, .bool false, .bool false, .int .i64 0, .int .i64 0, .int .i64 0, .slice none 0 0, .string ⟨#[]⟩, .slice none 0 0, .slice none 0 0, .slice none 0 0, .slice none 0 0, .pointer none, .int .i64 0, .slice none 0 0, .string ⟨#[]⟩, .slice none 0 0].toArray 40 (0, 0)) :: Sf) hQ (thingsOf things) hI ⟨[], 0⟩ (sideQ0 hF) (sdFits hfb (thingsOf things) _ htx (by have := thingsOf_len things; simp; omega) (by have := thingsOf_len things; simp; omega))) rfl rfl rfl ((Pick.takeC (by first | ((repeat (first | exact .one | exact .here | exact .all | apply Pick.cons | apply Pick.app)); done) | ((repeat (first | exact .one | exact .here | exact .all | apply Pick.cons | apply Pick.assoc | apply Pick.app)); done) | exact Pick.takeA (by repeat (first | exact .one | exact .here | exact .all | apply Pick.cons | apply Pick.assoc | apply Pick.app)) (by repeat (first | exact .one | exact .here | exact .all | apply Pick.cons | apply Pick.assoc | apply Pick.app))) (Pick.takeA (by first | ((repeat (first | exact .one | exact .here | exact .all | apply Pick.cons | apply Pick.app)); done) | ((repeat (first | exact .one | exact .here | exact .all | apply Pick.cons | apply Pick.assoc | apply Pick.app)); done) | exact Pick.takeA (by repeat (first | exact .one | exact .here | exact .all | apply Pick.cons | apply Pick.assoc | apply Pick.app)) (by repeat (first | exact .one | exact .here | exact .all | apply Pick.cons | apply Pick.assoc | apply Pick.app))) (Pick.takeA (by first | ((repeat (first | exact .one | exact .here | exact .all | apply Pick.cons | apply Pick.app)); done) | ((repeat (first | exact .one | exact .here | exact .all | apply Pick.cons | apply Pick.assoc | apply Pick.app)); done) | exact Pick.takeA (by repeat (first | exact .one | exact .here | exact .all | apply Pick.cons | apply Pick.assoc | apply Pick.app)) (by repeat (first | exact .one | exact .here | exact .all | apply Pick.cons | apply Pick.assoc | apply Pick.app))) (Pick.takeC (by first | ((repeat (first | exact .one | exact .here | exact .all | apply Pick.cons | apply Pick.app)); done) | ((repeat (first | exact .one | exact .here | exact .all | apply Pick.cons | apply Pick.assoc | apply Pick.app)); done) | exact Pick.takeA (by repeat (first | exact .one | exact .here | exact .all | apply Pick.cons | apply Pick.assoc | apply Pick.app)) (by repeat (first | exact .one | exact .here | exact .all | apply Pick.cons | apply Pick.assoc | apply Pick.app))) (by first | ((repeat (first | exact .one | exact .here | exact .all | apply Pick.cons | apply Pick.app)); done) | ((repeat (first | exact .one | exact .here | exact .all | apply Pick.cons | apply Pick.assoc | apply Pick.app)); done) | exact Pick.takeA (by repeat (first | exact .one | exact .here | exact .all | apply Pick.cons | apply Pick.assoc | apply Pick.app)) (by repeat (first | exact .one | exact .here | exact .all | apply Pick.cons | apply Pick.assoc | apply Pick.app)))))))) (fun w st => OldL.top hold st (hin_sub (by repeat (first | exact HSub.refl _ | exact HSub.nil | refine HSub.takeC (by first | ((repeat (first | exact .one | exact .here | exact .all | apply Pick.cons | apply Pick.app)); done) | ((repeat (first | exact .one | exact .here | exact .all | apply Pick.cons | apply Pick.assoc | apply Pick.app)); done) | exact Pick.takeA (by repeat (first | exact .one | exact .here | exact .all | apply Pick.cons | apply Pick.assoc | apply Pick.app)) (by repeat (first | exact .one | exact .here | exact .all | apply Pick.cons | apply Pick.assoc | apply Pick.app))) ?_ | refine HSub.take (by first | ((repeat (first | exact .one | exact .here | exact .all | apply Pick.cons | apply Pick.app)); done) | ((repeat (first | exact .one | exact .here | exact .all | apply Pick.cons | apply Pick.assoc | apply Pick.app)); done) | exact Pick.takeA (by repeat (first | exact .one | exact .here | exact .all | apply Pick.cons | apply Pick.assoc | apply Pick.app)) (by repeat (first | exact .one | exact .here | exact .all | apply Pick.cons | apply Pick.assoc | apply Pick.app))) ?_ | exact HSub.of_pick (by first | ((repeat (first | exact .one | exact .here | exact .all | apply Pick.cons | apply Pick.app)); done) | ((repeat (first | exact .one | exact .here | exact .all | apply Pick.cons | apply Pick.assoc | apply Pick.app)); done) | exact Pick.takeA (by repeat (first | exact .one | exact .here | exact .all | apply Pick.cons | apply Pick.assoc | apply Pick.app)) (by repeat (first | exact .one | exact .here | exact .all | apply Pick.cons | apply Pick.assoc | apply Pick.app))))))) (fun v164 S164 ⟨hv164, hH164⟩ => ?_)
        rw [flush_want (by decide) things ⟨[], 0⟩ (by dsimp only; omega)] at hv164 hH164
        change v164 = .int .i64 (errQ fail 22 (wantsQ f.xs fail things)) at hv164
        change SideQ bq b31 f.xs fail 22 0 (wantsQ f.xs fail things) S164 at hH164
        rw [← hs] at hv164 hH164
        obtain ⟨S1, hp1, d, hp2, ok⟩ := hH164
        have hsplit : S164.Perm ((bq, .cells [.bool true, .slice none 0 0].toArray 58 (0, 0)) :: (b31, .cells [.slice none 0 0, .pointer none, .pointer none, .pointer none, .slice d.fa f.xs.length d.fc, .int .i64 fail, .int .i64 22, .int .i64 0, .int .i64 0, .pointer none, .slice none 0 0, .string ⟨#[]⟩, .bool false, .bool false, .bool false, .bool false, .int .i64 0, .int .i64 s.outs, .int .i64 d.sum, .slice d.aa d.al.length d.ac, .string ⟨#[]⟩, .slice d.ca d.cl.length d.cc, .slice d.ga d.gl.length d.gc, .slice d.la d.ll.length d.lc, .slice d.wa d.wl.length d.wc, .pointer none, .int .i64 0, .slice none 0 0, .string ⟨#[]⟩, .slice d.sa d.sl.length d.sc].toArray 40 (0, 0)) :: (d.Sf ++ (d.Sa ++ (d.Sc ++ (d.Sg ++ (d.Sn ++ (d.Sw ++ (d.Ss ++ d.Sx)))))))) := hp1.trans (List.Perm.cons _ hp2)
        refine o_sk (HSub.trans (HSub.of_perm (Pick.perm (S := S164) (by first | ((repeat (first | exact .one | exact .here | exact .all | apply Pick.cons | apply Pick.app)); done) | ((repeat (first | exact .one | exact .here | exact .all | apply Pick.cons | apply Pick.assoc | apply Pick.app)); done) | exact Pick.takeA (by repeat (first | exact .one | exact .here | exact .all | apply Pick.cons | apply Pick.assoc | apply Pick.app)) (by repeat (first | exact .one | exact .here | exact .all | apply Pick.cons | apply Pick.assoc | apply Pick.app))))) (hsub_app (HSub.of_perm hsplit))) ?_
        by_cases hst : 0 < fail ∧ (s.outs : Int) = fail
        · skip
          rw [errQ_t hst] at hv164
          subst hv164
          refine o_step rfl (s_assign rfl) ?_
          refine o_nil ?_
          refine x_then (hK48 _ _ ?_)
          refine c_seq fun _ hK49 => ?_
          refine c_seq fun _ hK50 => ?_
          refine c_region ?_
          refine o_step rfl (s_move rfl) ?_
          refine o_step rfl (s_eql_t rfl rfl (by omega)) ?_
          refine o_step rfl (s_move rfl) ?_
          refine o_step rfl (s_gtr_t rfl rfl (by omega)) ?_
          refine o_step rfl (s_move rfl) ?_
          refine o_yes rfl rfl ?_
          refine o_step rfl (s_move rfl) ?_
          refine o_yes rfl rfl ?_
          refine o_step rfl (s_move rfl) ?_
          refine o_yes rfl rfl ?_
          refine o_step rfl (s_eql_t rfl rfl (by omega)) ?_
          refine o_step rfl (s_pick_t rfl rfl) ?_
          refine o_step rfl (step_cast (v' := .bool false) (s_neq_bool rfl rfl) rfl) ?_
          refine o_step rfl (s_move rfl) ?_
          refine o_yes rfl rfl ?_
          refine o_step rfl (s_move rfl) ?_
          refine o_yes rfl rfl ?_
          refine o_step rfl (s_neq_f rfl rfl (by omega)) ?_
          refine o_yes rfl rfl ?_
          refine o_step rfl (s_move rfl) ?_
          refine o_no rfl rfl rfl rfl ?_
          refine o_no rfl rfl rfl rfl ?_
          refine o_yes rfl rfl ?_
          refine o_step rfl (s_pick_f rfl rfl) ?_
          refine o_step rfl (s_pick_f rfl rfl) ?_
          refine o_step rfl (s_move rfl) ?_
          refine o_yes rfl rfl ?_
          refine o_step rfl (s_move rfl) ?_
          refine o_yes rfl rfl ?_
          refine o_step rfl (s_nil rfl) ?_
          refine o_yes rfl rfl ?_
          refine o_step rfl (s_field rfl rfl (by decide)) ?_
          refine o_yes rfl rfl ?_
          refine o_step rfl (s_field rfl rfl (by decide)) ?_
          refine o_yes rfl rfl ?_
          refine o_step rfl (s_ld rfl (.own (by repeat (first | exact List.mem_cons_self | apply List.mem_cons_of_mem | apply mem_assoc | apply mem_app)) rfl)) ?_
          refine o_yes rfl rfl ?_
          refine o_step rfl (s_move rfl) ?_
          refine o_yes rfl rfl ?_
          refine o_callP (sameCalls_fn d.ca w.a d.cc w.c d.cl w.xs (ok.hci.abs.trans hwa.symm)) rfl rfl rfl (fun w st => ⟨(ok.hc.rdk (by repeat (first | exact HIn.here | exact HIn.all | exact HIn.one | apply HIn.cons | apply HIn.assoc | apply HIn.app))).out w st, (hW.rdk (by repeat (first | exact HIn.here | exact HIn.all | exact HIn.one | apply HIn.cons | apply HIn.assoc | apply HIn.app))).out w st, fun x hx => ((ok.hci.rd x hx).rdk (by repeat (first | exact HIn.here | exact HIn.all | exact HIn.one | apply HIn.cons | apply HIn.assoc | apply HIn.app))).out w st, fun y hy => (hwr y hy).elim (fun h => (RdK.old0 h).out w st) (fun h => (h.rdk (by repeat (first | exact HIn.here | exact HIn.all | exact HIn.one | apply HIn.cons | apply HIn.assoc | apply HIn.app))).out w st)⟩) (fun v190 hv190 => ?_)
          subst hv190
          refine o_yes rfl rfl ?_
          refine o_step rfl (s_not rfl) ?_
          refine o_step rfl (s_pick_f rfl rfl) ?_
          refine o_step rfl (s_move rfl) ?_
          refine o_yes rfl rfl ?_
          refine o_step rfl (s_move rfl) ?_
          refine o_yes rfl rfl ?_
          refine o_callP (len_fn bq (.bool true) none 0 0) rfl rfl rfl (fun w st => (RdPK.own (by repeat (first | exact List.mem_cons_self | apply List.mem_cons_of_mem | apply mem_assoc | apply mem_app))).out w st) (fun v195 hv195 => ?_)
          subst hv195
          refine o_yes rfl rfl ?_
          refine o_step rfl (s_neq_f rfl rfl (by decide)) ?_
          refine o_step rfl (s_pick_f rfl rfl) ?_
          refine o_nil ?_
          refine x_then (hK50 _ _ ?_)
          refine c_false rfl ?_
          refine c_skip ?_
          refine x_then (hK49 _ _ ?_)
          refine c_seq fun _ hK51 => ?_
          refine c_region ?_
          refine o_step rfl (s_move rfl) ?_
          refine o_step rfl (s_nil rfl) ?_
          refine o_step rfl (s_field rfl rfl (by decide)) ?_
          refine o_step rfl (s_field rfl rfl (by decide)) ?_
          refine o_store rfl rfl rfl (by repeat (first | exact .here | apply Upd.there | apply Upd.assoc | apply Upd.skip)) (by first | decide | omega | (simp; done) | (simp; omega)) rfl ?_
          refine o_nil ?_
          refine x_then (hK51 _ _ ?_)
          refine c_seq fun _ hK52 => ?_
          refine c_region ?_
          refine o_step rfl (s_move rfl) ?_
          refine o_step rfl (s_move rfl) ?_
          refine o_step rfl (s_func (us := [_]) (vs := []) rfl rfl) ?_
          refine o_step rfl (s_move rfl) ?_
          refine o_step rfl (s_func (us := [_]) (vs := []) rfl rfl) ?_
          have hsc : s.calls.length ≤ 4194304 := by rw [← hwa, List.length_map]; omega
          refine o_call (qflushL_fn (f.xs.map FileV.b) (sdR f.xs) (sdO fail 22) sdKR sdKO (SideQ bq b31 f.xs fail 22 s.calls.length) 22 23 [.pointer (some ⟨b31, 0, none⟩)] [] [.pointer (some ⟨b31, 0, none⟩)] [] (fun t S n h1 h2 => sdRQ_fn bq b31 f.xs fail 22 s.calls.length hsc hfb t S n h1 h2) (fun t S b Sb a c h1 h2 h3 => sdOQ_fn bq b31 f.xs fail 22 s.calls.length hsc t S b Sb a c h1 h2 h3) bq none 0 [] [] [] ((b31, .cells [.slice none 0 0, .pointer none, .pointer none, .pointer none, .slice d.fa f.xs.length d.fc, .int .i64 fail, .int .i64 22, .int .i64 0, .int .i64 0, .pointer none, .slice none 0 0, .string ⟨#[]⟩, .bool false, .bool false, .bool false, .bool false, .int .i64 0, .int .i64 s.outs, .int .i64 d.sum, .slice d.aa d.al.length d.ac, .string ⟨#[]⟩, .slice none 0 0, .slice d.ga d.gl.length d.gc, .slice d.la d.ll.length d.lc, .slice d.wa d.wl.length d.wc, .pointer none, .int .i64 0, .slice none 0 0, .string ⟨#[]⟩, .slice d.sa d.sl.length d.sc].toArray 40 (0, 0)) :: (d.Sf ++ (d.Sa ++ (d.Sg ++ (d.Sn ++ (d.Sw ++ (d.Ss ++ d.Sx))))))) .nil [] ⟨rfl, fun j q h => by simp at h⟩ ⟨[], s.outs⟩ (sideQ1 ok) trivial) rfl rfl rfl (by exact Pick.takeC (by first | ((repeat (first | exact .one | exact .here | exact .all | apply Pick.cons | apply Pick.app)); done) | ((repeat (first | exact .one | exact .here | exact .all | apply Pick.cons | apply Pick.assoc | apply Pick.app)); done) | exact Pick.takeA (by repeat (first | exact .one | exact .here | exact .all | apply Pick.cons | apply Pick.assoc | apply Pick.app)) (by repeat (first | exact .one | exact .here | exact .all | apply Pick.cons | apply Pick.assoc | apply Pick.app))) (Pick.takeA .nil (Pick.takeA .nil (Pick.takeC (by first | ((repeat (first | exact .one | exact .here | exact .all | apply Pick.cons | apply Pick.app)); done) | ((repeat (first | exact .one | exact .here | exact .all | apply Pick.cons | apply Pick.assoc | apply Pick.app)); done) | exact Pick.takeA (by repeat (first | exact .one | exact .here | exact .all | apply Pick.cons | apply Pick.assoc | apply Pick.app)) (by repeat (first | exact .one | exact .here | exact .all | apply Pick.cons | apply Pick.assoc | apply Pick.app))) (Pick.takeA (by first | ((repeat (first | exact .one | exact .here | exact .all | apply Pick.cons | apply Pick.app)); done) | ((repeat (first | exact .one | exact .here | exact .all | apply Pick.cons | apply Pick.assoc | apply Pick.app)); done) | exact Pick.takeA (by repeat (first | exact .one | exact .here | exact .all | apply Pick.cons | apply Pick.assoc | apply Pick.app)) (by repeat (first | exact .one | exact .here | exact .all | apply Pick.cons | apply Pick.assoc | apply Pick.app))) (Pick.takeA (by first | ((repeat (first | exact .one | exact .here | exact .all | apply Pick.cons | apply Pick.app)); done) | ((repeat (first | exact .one | exact .here | exact .all | apply Pick.cons | apply Pick.assoc | apply Pick.app)); done) | exact Pick.takeA (by repeat (first | exact .one | exact .here | exact .all | apply Pick.cons | apply Pick.assoc | apply Pick.app)) (by repeat (first | exact .one | exact .here | exact .all | apply Pick.cons | apply Pick.assoc | apply Pick.app))) (Pick.takeA (by first | ((repeat (first | exact .one | exact .here | exact .all | apply Pick.cons | apply Pick.app)); done) | ((repeat (first | exact .one | exact .here | exact .all | apply Pick.cons | apply Pick.assoc | apply Pick.app)); done) | exact Pick.takeA (by repeat (first | exact .one | exact .here | exact .all | apply Pick.cons | apply Pick.assoc | apply Pick.app)) (by repeat (first | exact .one | exact .here | exact .all | apply Pick.cons | apply Pick.assoc | apply Pick.app))) (Pick.takeA (by first | ((repeat (first | exact .one | exact .here | exact .all | apply Pick.cons | apply Pick.app)); done) | ((repeat (first | exact .one | exact .here | exact .all | apply Pick.cons | apply Pick.assoc | apply Pick.app)); done) | exact Pick.takeA (by repeat (first | exact .one | exact .here | exact .all | apply Pick.cons | apply Pick.assoc | apply Pick.app)) (by repeat (first | exact .one | exact .here | exact .all | apply Pick.cons | apply Pick.assoc | apply Pick.app))) (Pick.takeA (by first | ((repeat (first | exact .one | exact .here | exact .all | apply Pick.cons | apply Pick.app)); done) | ((repeat (first | exact .one | exact .here | exact .all | apply Pick.cons | apply Pick.assoc | apply Pick.app)); done) | exact Pick.takeA (by repeat (first | exact .one | exact .here | exact .all | apply Pick.cons | apply Pick.assoc | apply Pick.app)) (by repeat (first | exact .one | exact .here | exact .all | apply Pick.cons | apply Pick.assoc | apply Pick.app))) (Pick.takeA (by first | ((repeat (first | exact .one | exact .here | exact .all | apply Pick.cons | apply Pick.app)); done) | ((repeat (first | exact .one | exact .here | exact .all | apply Pick.cons | apply Pick.assoc | apply Pick.app)); done) | exact Pick.takeA (by repeat (first | exact .one | exact .here | exact .all | apply Pick.cons | apply Pick.assoc | apply Pick.app)) (by repeat (first | exact .one | exact .here | exact .all | apply Pick.cons | apply Pick.assoc | apply Pick.app))) (by first | ((repeat (first | exact .one | exact .here | exact .all | apply Pick.cons | apply Pick.app)); done) | ((repeat (first | exact .one | exact .here | exact .all | apply Pick.cons | apply Pick.assoc | apply Pick.app)); done) | exact Pick.takeA (by repeat (first | exact .one | exact .here | exact .all | apply Pick.cons | apply Pick.assoc | apply Pick.app)) (by repeat (first | exact .one | exact .here | exact .all | apply Pick.cons | apply Pick.assoc | apply Pick.app))))))))))))) (fun w st => OldL.top hold st (hin_sub (by repeat (first | exact HSub.refl _ | exact HSub.nil | refine HSub.takeC (by first | ((repeat (first | exact .one | exact .here | exact .all | apply Pick.cons | apply Pick.app)); done) | ((repeat (first | exact .one | exact .here | exact .all | apply Pick.cons | apply Pick.assoc | apply Pick.app)); done) | exact Pick.takeA (by repeat (first | exact .one | exact .here | exact .all | apply Pick.cons | apply Pick.assoc | apply Pick.app)) (by repeat (first | exact .one | exact .here | exact .all | apply Pick.cons | apply Pick.assoc | apply Pick.app))) ?_ | refine HSub.take (by first | ((repeat (first | exact .one | exact .here | exact .all | apply Pick.cons | apply Pick.app)); done) | ((repeat (first | exact .one | exact .here | exact .all | apply Pick.cons | apply Pick.assoc | apply Pick.app)); done) | exact Pick.takeA (by repeat (first | exact .one | exact .here | exact .all | apply Pick.cons | apply Pick.assoc | apply Pick.app)) (by repeat (first | exact .one | exact .here | exact .all | apply Pick.cons | apply Pick.assoc | apply Pick.app))) ?_ | exact HSub.of_pick (by first | ((repeat (first | exact .one | exact .here | exact .all | apply Pick.cons | apply Pick.app)); done) | ((repeat (first | exact .one | exact .here | exact .all | apply Pick.cons | apply Pick.assoc | apply Pick.app)); done) | exact Pick.takeA (by repeat (first | exact .one | exact .here | exact .all | apply Pick.cons | apply Pick.assoc | apply Pick.app)) (by repeat (first | exact .one | exact .here | exact .all | apply Pick.cons | apply Pick.assoc | apply Pick.app))))))) (fun v207 S207 ⟨hv207, hH207⟩ => ?_)
          change v207 = .int .i64 0 at hv207
          subst hv207
          change SideQ bq b31 f.xs fail 22 s.calls.length ⟨[], s.outs⟩ S207 at hH207
          obtain ⟨S2, hp3, d2, hp4, ok2⟩ := hH207
          have hcl2 : d2.cl.length = 0 := ok2.hci.len
          have hsplit2 : S207.Perm ((bq, .cells [.bool true, .slice none 0 0].toArray 58 (0, 0)) :: (b31, .cells [.slice none 0 0, .pointer none, .pointer none, .pointer none, .slice d2.fa f.xs.length d2.fc, .int .i64 fail, .int .i64 22, .int .i64 0, .int .i64 0, .pointer none, .slice none 0 0, .string ⟨#[]⟩, .bool false, .bool false, .bool false, .bool false, .int .i64 0, .int .i64 s.outs, .int .i64 d2.sum, .slice d2.aa d2.al.length d2.ac, .string ⟨#[]⟩, .slice d2.ca d2.cl.length d2.cc, .slice d2.ga d2.gl.length d2.gc, .slice d2.la d2.ll.length d2.lc, .slice d2.wa d2.wl.length d2.wc, .pointer none, .int .i64 0, .slice none 0 0, .string ⟨#[]⟩, .slice d2.sa d2.sl.length d2.sc].toArray 40 (0, 0)) :: (d2.Sf ++ (d2.Sa ++ (d2.Sc ++ (d2.Sg ++ (d2.Sn ++ (d2.Sw ++ (d2.Ss ++ d2.Sx)))))))) := hp3.trans (List.Perm.cons _ hp4)
          refine o_sk (HSub.trans (HSub.of_perm (Pick.perm (S := S207) (by first | ((repeat (first | exact .one | exact .here | exact .all | apply Pick.cons | apply Pick.app)); done) | ((repeat (first | exact .one | exact .here | exact .all | apply Pick.cons | apply Pick.assoc | apply Pick.app)); done) | exact Pick.takeA (by repeat (first | exact .one | exact .here | exact .all | apply Pick.cons | apply Pick.assoc | apply Pick.app)) (by repeat (first | exact .one | exact .here | exact .all | apply Pick.cons | apply Pick.assoc | apply Pick.app))))) (hsub_app (HSub.of_perm hsplit2))) ?_
          refine o_step rfl (s_eql_t rfl rfl (by decide)) ?_
          refine o_step rfl (s_move rfl) ?_
          refine o_yes rfl rfl ?_
          refine o_step rfl (s_move rfl) ?_
          refine o_yes rfl rfl ?_
          refine o_step rfl (s_nil rfl) ?_
          refine o_yes rfl rfl ?_
          refine o_step rfl (s_field rfl rfl (by decide)) ?_
          refine o_yes rfl rfl ?_
          refine o_step rfl (s_field rfl rfl (by decide)) ?_
          refine o_yes rfl rfl ?_
          refine o_step rfl (s_ld rfl (.own (by repeat (first | exact List.mem_cons_self | apply List.mem_cons_of_mem | apply mem_assoc | apply mem_app)) rfl)) ?_
          refine o_yes rfl rfl ?_
          refine o_step rfl (s_len rfl) ?_
          refine o_yes rfl rfl ?_
          refine o_step rfl (s_eql_t rfl rfl (by omega)) ?_
          refine o_step rfl (s_pick_t rfl rfl) ?_
          refine o_step rfl (s_assign rfl) ?_
          refine o_nil ?_
          refine x_then (hK52 _ _ ?_)
          refine c_ret ?_
          refine ?_
          exact x_ret rfl (.tmp rfl (.nil)) (rfl)
        · skip
          rw [errQ_f hst] at hv164
          subst hv164
          refine o_step rfl (s_assign rfl) ?_
          refine o_nil ?_
          refine x_then (hK48 _ _ ?_)
          refine c_seq fun _ hK53 => ?_
          refine c_seq fun _ hK54 => ?_
          refine c_region ?_
          refine o_step rfl (s_move rfl) ?_
          refine o_step rfl (s_eql_f rfl rfl (by omega)) ?_
          refine o_step rfl (s_move rfl) ?_
          by_cases hf1 : 0 < fail
          · skip
            refine o_step rfl (step_cast (v' := .bool true) (s_gtr rfl rfl) (by rw [decide_eq_true (by omega)])) ?_
            refine o_step rfl (s_move rfl) ?_
            refine o_yes rfl rfl ?_
            refine o_step rfl (s_move rfl) ?_
            refine o_yes rfl rfl ?_
            refine o_step rfl (s_move rfl) ?_
            refine o_yes rfl rfl ?_
            refine o_step rfl (s_eql_f rfl rfl (by omega)) ?_
            refine o_step rfl (s_pick_t rfl rfl) ?_
            refine o_step rfl (step_cast (v' := .bool false) (s_neq_bool rfl rfl) rfl) ?_
            refine o_step rfl (s_move rfl) ?_
            refine o_yes rfl rfl ?_
            refine o_step rfl (s_move rfl) ?_
            refine o_yes rfl rfl ?_
            refine o_step rfl (s_neq_t rfl rfl (by omega)) ?_
            refine o_yes rfl rfl ?_
            refine o_step rfl (s_move rfl) ?_
            refine o_yes rfl rfl ?_
            refine o_step rfl (s_move rfl) ?_
            refine o_yes rfl rfl ?_
            refine o_step rfl (s_neq_f rfl rfl (by omega)) ?_
            refine o_yes rfl rfl ?_
            refine o_step rfl (s_pick_t rfl rfl) ?_
            refine o_step rfl (s_pick_f rfl rfl) ?_
            refine o_step rfl (s_move rfl) ?_
            refine o_yes rfl rfl ?_
            refine o_step rfl (s_move rfl) ?_
            refine o_yes rfl rfl ?_
            refine o_step rfl (s_nil rfl) ?_
            refine o_yes rfl rfl ?_
            refine o_step rfl (s_field rfl rfl (by decide)) ?_
            refine o_yes rfl rfl ?_
            refine o_step rfl (s_field rfl rfl (by decide)) ?_
            refine o_yes rfl rfl ?_
            refine o_step rfl (s_ld rfl (.own (by repeat (first | exact List.mem_cons_self | apply List.mem_cons_of_mem | apply mem_assoc | apply mem_app)) rfl)) ?_
            refine o_yes rfl rfl ?_
            refine o_step rfl (s_move rfl) ?_
            refine o_yes rfl rfl ?_
            refine o_callP (sameCalls_fn d.ca w.a d.cc w.c d.cl w.xs (ok.hci.abs.trans hwa.symm)) rfl rfl rfl (fun w st => ⟨(ok.hc.rdk (by repeat (first | exact HIn.here | exact HIn.all | exact HIn.one | apply HIn.cons | apply HIn.assoc | apply HIn.app))).out w st, (hW.rdk (by repeat (first | exact HIn.here | exact HIn.all | exact HIn.one | apply HIn.cons | apply HIn.assoc | apply HIn.app))).out w st, fun x hx => ((ok.hci.rd x hx).rdk (by repeat (first | exact HIn.here | exact HIn.all | exact HIn.one | apply HIn.cons | apply HIn.assoc | apply HIn.app))).out w st, fun y hy => (hwr y hy).elim (fun h => (RdK.old0 h).out w st) (fun h => (h.rdk (by repeat (first | exact HIn.here | exact HIn.all | exact HIn.one | apply HIn.cons | apply HIn.assoc | apply HIn.app))).out w st)⟩) (fun v190 hv190 => ?_)
            subst hv190
            refine o_yes rfl rfl ?_
            refine o_step rfl (s_not rfl) ?_
            refine o_step rfl (s_pick_f rfl rfl) ?_
            refine o_step rfl (s_move rfl) ?_
            refine o_yes rfl rfl ?_
            refine o_step rfl (s_move rfl) ?_
            refine o_yes rfl rfl ?_
            refine o_callP (len_fn bq (.bool true) none 0 0) rfl rfl rfl (fun w st => (RdPK.own (by repeat (first | exact List.mem_cons_self | apply List.mem_cons_of_mem | apply mem_assoc | apply mem_app))).out w st) (fun v195 hv195 => ?_)
            subst hv195
            refine o_yes rfl rfl ?_
            refine o_step rfl (s_neq_f rfl rfl (by decide)) ?_
            refine o_step rfl (s_pick_f rfl rfl) ?_
            refine o_nil ?_
            refine x_then (hK54 _ _ ?_)
            refine c_false rfl ?_
            refine c_skip ?_
            refine x_then (hK53 _ _ ?_)
            refine c_seq fun _ hK55 => ?_
            refine c_region ?_
            refine o_step rfl (s_move rfl) ?_
            refine o_step rfl (s_nil rfl) ?_
            refine o_step rfl (s_field rfl rfl (by decide)) ?_
            refine o_step rfl (s_field rfl rfl (by decide)) ?_
            refine o_store rfl rfl rfl (by repeat (first | exact .here | apply Upd.there | apply Upd.assoc | apply Upd.skip)) (by first | decide | omega | (simp; done) | (simp; omega)) rfl ?_
            refine o_nil ?_
            refine x_then (hK55 _ _ ?_)
            refine c_seq fun _ hK56 => ?_
            refine c_region ?_
            refine o_step rfl (s_move rfl) ?_
            refine o_step rfl (s_move rfl) ?_
            refine o_step rfl (s_func (us := [_]) (vs := []) rfl rfl) ?_
            refine o_step rfl (s_move rfl) ?_
            refine o_step rfl (s_func (us := [_]) (vs := []) rfl rfl) ?_
            have hsc : s.calls.length ≤ 4194304 := by rw [← hwa, List.length_map]; omega
            refine o_call (qflushL_fn (f.xs.map FileV.b) (sdR f.xs) (sdO fail 22) sdKR sdKO (SideQ bq b31 f.xs fail 22 s.calls.length) 22 23 [.pointer (some ⟨b31, 0, none⟩)] [] [.pointer (some ⟨b31, 0, none⟩)] [] (fun t S n h1 h2 => sdRQ_fn bq b31 f.xs fail 22 s.calls.length hsc hfb t S n h1 h2) (fun t S b Sb a c h1 h2 h3 => sdOQ_fn bq b31 f.xs fail 22 s.calls.length hsc t S b Sb a c h1 h2 h3) bq none 0 [] [] [] ((b31, .cells [.slice none 0 0, .pointer none, .pointer none, .pointer none, .slice d.fa f.xs.length d.fc, .int .i64 fail, .int .i64 22, .int .i64 0, .int .i64 0, .pointer none, .slice none 0 0, .string ⟨#[]⟩, .bool false, .bool false, .bool false, .bool false, .int .i64 0, .int .i64 s.outs, .int .i64 d.sum, .slice d.aa d.al.length d.ac, .string ⟨#[]⟩, .slice none 0 0, .slice d.ga d.gl.length d.gc, .slice d.la d.ll.length d.lc, .slice d.wa d.wl.length d.wc, .pointer none, .int .i64 0, .slice none 0 0, .string ⟨#[]⟩, .slice d.sa d.sl.length d.sc].toArray 40 (0, 0)) :: (d.Sf ++ (d.Sa ++ (d.Sg ++ (d.Sn ++ (d.Sw ++ (d.Ss ++ d.Sx))))))) .nil [] ⟨rfl, fun j q h => by simp at h⟩ ⟨[], s.outs⟩ (sideQ1 ok) trivial) rfl rfl rfl (by exact Pick.takeC (by first | ((repeat (first | exact .one | exact .here | exact .all | apply Pick.cons | apply Pick.app)); done) | ((repeat (first | exact .one | exact .here | exact .all | apply Pick.cons | apply Pick.assoc | apply Pick.app)); done) | exact Pick.takeA (by repeat (first | exact .one | exact .here | exact .all | apply Pick.cons | apply Pick.assoc | apply Pick.app)) (by repeat (first | exact .one | exact .here | exact .all | apply Pick.cons | apply Pick.assoc | apply Pick.app))) (Pick.takeA .nil (Pick.takeA .nil (Pick.takeC (by first | ((repeat (first | exact .one | exact .here | exact .all | apply Pick.cons | apply Pick.app)); done) | ((repeat (first | exact .one | exact .here | exact .all | apply Pick.cons | apply Pick.assoc | apply Pick.app)); done) | exact Pick.takeA (by repeat (first | exact .one | exact .here | exact .all | apply Pick.cons | apply Pick.assoc | apply Pick.app)) (by repeat (first | exact .one | exact .here | exact .all | apply Pick.cons | apply Pick.assoc | apply Pick.app))) (Pick.takeA (by first | ((repeat (first | exact .one | exact .here | exact .all | apply Pick.cons | apply Pick.app)); done) | ((repeat (first | exact .one | exact .here | exact .all | apply Pick.cons | apply Pick.assoc | apply Pick.app)); done) | exact Pick.takeA (by repeat (first | exact .one | exact .here | exact .all | apply Pick.cons | apply Pick.assoc | apply Pick.app)) (by repeat (first | exact .one | exact .here | exact .all | apply Pick.cons | apply Pick.assoc | apply Pick.app))) (Pick.takeA (by first | ((repeat (first | exact .one | exact .here | exact .all | apply Pick.cons | apply Pick.app)); done) | ((repeat (first | exact .one | exact .here | exact .all | apply Pick.cons | apply Pick.assoc | apply Pick.app)); done) | exact Pick.takeA (by repeat (first | exact .one | exact .here | exact .all | apply Pick.cons | apply Pick.assoc | apply Pick.app)) (by repeat (first | exact .one | exact .here | exact .all | apply Pick.cons | apply Pick.assoc | apply Pick.app))) (Pick.takeA (by first | ((repeat (first | exact .one | exact .here | exact .all | apply Pick.cons | apply Pick.app)); done) | ((repeat (first | exact .one | exact .here | exact .all | apply Pick.cons | apply Pick.assoc | apply Pick.app)); done) | exact Pick.takeA (by repeat (first | exact .one | exact .here | exact .all | apply Pick.cons | apply Pick.assoc | apply Pick.app)) (by repeat (first | exact .one | exact .here | exact .all | apply Pick.cons | apply Pick.assoc | apply Pick.app))) (Pick.takeA (by first | ((repeat (first | exact .one | exact .here | exact .all | apply Pick.cons | apply Pick.app)); done) | ((repeat (first | exact .one | exact .here | exact .all | apply Pick.cons | apply Pick.assoc | apply Pick.app)); done) | exact Pick.takeA (by repeat (first | exact .one | exact .here | exact .all | apply Pick.cons | apply Pick.assoc | apply Pick.app)) (by repeat (first | exact .one | exact .here | exact .all | apply Pick.cons | apply Pick.assoc | apply Pick.app))) (Pick.takeA (by first | ((repeat (first | exact .one | exact .here | exact .all | apply Pick.cons | apply Pick.app)); done) | ((repeat (first | exact .one | exact .here | exact .all | apply Pick.cons | apply Pick.assoc | apply Pick.app)); done) | exact Pick.takeA (by repeat (first | exact .one | exact .here | exact .all | apply Pick.cons | apply Pick.assoc | apply Pick.app)) (by repeat (first | exact .one | exact .here | exact .all | apply Pick.cons | apply Pick.assoc | apply Pick.app))) (Pick.takeA (by first | ((repeat (first | exact .one | exact .here | exact .all | apply Pick.cons | apply Pick.app)); done) | ((repeat (first | exact .one | exact .here | exact .all | apply Pick.cons | apply Pick.assoc | apply Pick.app)); done) | exact Pick.takeA (by repeat (first | exact .one | exact .here | exact .all | apply Pick.cons | apply Pick.assoc | apply Pick.app)) (by repeat (first | exact .one | exact .here | exact .all | apply Pick.cons | apply Pick.assoc | apply Pick.app))) (by first | ((repeat (first | exact .one | exact .here | exact .all | apply Pick.cons | apply Pick.app)); done) | ((repeat (first | exact .one | exact .here | exact .all | apply Pick.cons | apply Pick.assoc | apply Pick.app)); done) | exact Pick.takeA (by repeat (first | exact .one | exact .here | exact .all | apply Pick.cons | apply Pick.assoc | apply Pick.app)) (by repeat (first | exact .one | exact .here | exact .all | apply Pick.cons | apply Pick.assoc | apply Pick.app))))))))))))) (fun w st => OldL.top hold st (hin_sub (by repeat (first | exact HSub.refl _ | exact HSub.nil | refine HSub.takeC (by first | ((repeat (first | exact .one | exact .here | exact .all | apply Pick.cons | apply Pick.app)); done) | ((repeat (first | exact .one | exact .here | exact .all | apply Pick.cons | apply Pick.assoc | apply Pick.app)); done) | exact Pick.takeA (by repeat (first | exact .one | exact .here | exact .all | apply Pick.cons | apply Pick.assoc | apply Pick.app)) (by repeat (first | exact .one | exact .here | exact .all | apply Pick.cons | apply Pick.assoc | apply Pick.app))) ?_ | refine HSub.take (by first | ((repeat (first | exact .one | exact .here | exact .all | apply Pick.cons | apply Pick.app)); done) | ((repeat (first | exact .one | exact .here | exact .all | apply Pick.cons | apply Pick.assoc | apply Pick.app)); done) | exact Pick.takeA (by repeat (first | exact .one | exact .here | exact .all | apply Pick.cons | apply Pick.assoc | apply Pick.app)) (by repeat (first | exact .one | exact .here | exact .all | apply Pick.cons | apply Pick.assoc | apply Pick.app))) ?_ | exact HSub.of_pick (by first | ((repeat (first | exact .one | exact .here | exact .all | apply Pick.cons | apply Pick.app)); done) | ((repeat (first | exact .one | exact .here | exact .all | apply Pick.cons | apply Pick.assoc | apply Pick.app)); done) | exact Pick.takeA (by repeat (first | exact .one | exact .here | exact .all | apply Pick.cons | apply Pick.assoc | apply Pick.app)) (by repeat (first | exact .one | exact .here | exact .all | apply Pick.cons | apply Pick.assoc | apply Pick.app))))))) (fun v207 S207 ⟨hv207, hH207⟩ => ?_)
            change v207 = .int .i64 0 at hv207
            subst hv207
            change SideQ bq b31 f.xs fail 22 s.calls.length ⟨[], s.outs⟩ S207 at hH207
            obtain ⟨S2, hp3, d2, hp4, ok2⟩ := hH207
            have hcl2 : d2.cl.length = 0 := ok2.hci.len
            have hsplit2 : S207.Perm ((bq, .cells [.bool true, .slice none 0 0].toArray 58 (0, 0)) :: (b31, .cells [.slice none 0 0, .pointer none, .pointer none, .pointer none, .slice d2.fa f.xs.length d2.fc, .int .i64 fail, .int .i64 22, .int .i64 0, .int .i64 0, .pointer none, .slice none 0 0, .string ⟨#[]⟩, .bool false, .bool false, .bool false, .bool false, .int .i64 0, .int .i64 s.outs, .int .i64 d2.sum, .slice d2.aa d2.al.length d2.ac, .string ⟨#[]⟩, .slice d2.ca d2.cl.length d2.cc, .slice d2.ga d2.gl.length d2.gc, .slice d2.la d2.ll.length d2.lc, .slice d2.wa d2.wl.length d2.wc, .pointer none, .int .i64 0, .slice none 0 0, .string ⟨#[]⟩, .slice d2.sa d2.sl.length d2.sc].toArray 40 (0, 0)) :: (d2.Sf ++ (d2.Sa ++ (d2.Sc ++ (d2.Sg ++ (d2.Sn ++ (d2.Sw ++ (d2.Ss ++ d2.Sx)))))))) := hp3.trans (List.Perm.cons _ hp4)
            refine o_sk (HSub.trans (HSub.of_perm (Pick.perm (S := S207) (by first | ((repeat (first | exact .one | exact .here | exact .all | apply Pick.cons | apply Pick.app)); done) | ((repeat (first | exact .one | exact .here | exact .all | apply Pick.cons | apply Pick.assoc | apply Pick.app)); done) | exact Pick.takeA (by repeat (first | exact .one | exact .here | exact .all | apply Pick.cons | apply Pick.assoc | apply Pick.app)) (by repeat (first | exact .one | exact .here | exact .all | apply Pick.cons | apply Pick.assoc | apply Pick.app))))) (hsub_app (HSub.of_perm hsplit2))) ?_
            refine o_step rfl (s_eql_t rfl rfl (by decide)) ?_
            refine o_step rfl (s_move rfl) ?_
            refine o_yes rfl rfl ?_
            refine o_step rfl (s_move rfl) ?_
            refine o_yes rfl rfl ?_
            refine o_step rfl (s_nil rfl) ?_
            refine o_yes rfl rfl ?_
            refine o_step rfl (s_field rfl rfl (by decide)) ?_
            refine o_yes rfl rfl ?_
            refine o_step rfl (s_field rfl rfl (by decide)) ?_
            refine o_yes rfl rfl ?_
            refine o_step rfl (s_ld rfl (.own (by repeat (first | exact List.mem_cons_self | apply List.mem_cons_of_mem | apply mem_assoc | apply mem_app)) rfl)) ?_
            refine o_yes rfl rfl ?_
            refine o_step rfl (s_len rfl) ?_
            refine o_yes rfl rfl ?_
            refine o_step rfl (s_eql_t rfl rfl (by omega)) ?_
            refine o_step rfl (s_pick_t rfl rfl) ?_
            refine o_step rfl (s_assign rfl) ?_
            refine o_nil ?_
            refine x_then (hK56 _ _ ?_)
            refine c_ret ?_
            refine ?_
            exact x_ret rfl (.tmp rfl (.nil)) (rfl)
          · skip
            refine o_step rfl (step_cast (v' := .bool false) (s_gtr rfl rfl) (by rw [decide_eq_false (by omega)])) ?_
            refine o_step rfl (s_move rfl) ?_
            refine o_no rfl rfl rfl rfl ?_
            refine o_no rfl rfl rfl rfl ?_
            refine o_no rfl rfl rfl rfl ?_
            refine o_step rfl (s_pick_f rfl rfl) ?_
            refine o_step rfl (step_cast (v' := .bool false) (s_neq_bool rfl rfl) rfl) ?_
            refine o_step rfl (s_move rfl) ?_
            refine o_yes rfl rfl ?_
            refine o_step rfl (s_move rfl) ?_
            refine o_yes rfl rfl ?_
            refine o_step rfl (s_neq_t rfl rfl (by omega)) ?_
            refine o_yes rfl rfl ?_
            refine o_step rfl (s_move rfl) ?_
            refine o_yes rfl rfl ?_
            refine o_step rfl (s_move rfl) ?_
            refine o_yes rfl rfl ?_
            refine o_step rfl (s_neq_f rfl rfl (by omega)) ?_
            refine o_yes rfl rfl ?_
            refine o_step rfl (s_pick_t rfl rfl) ?_
            refine o_step rfl (s_pick_f rfl rfl) ?_
            refine o_step rfl (s_move rfl) ?_
            refine o_yes rfl rfl ?_
            refine o_step rfl (s_move rfl) ?_
            refine o_yes rfl rfl ?_
            refine o_step rfl (s_nil rfl) ?_
            refine o_yes rfl rfl ?_
            refine o_step rfl (s_field rfl rfl (by decide)) ?_
            refine o_yes rfl rfl ?_
            refine o_step rfl (s_field rfl rfl (by decide)) ?_
            refine o_yes rfl rfl ?_
            refine o_step rfl (s_ld rfl (.own (by repeat (first | exact List.mem_cons_self | apply List.mem_cons_of_mem | apply mem_assoc | apply mem_app)) rfl)) ?_
            refine o_yes rfl rfl ?_
            refine o_step rfl (s_move rfl) ?_
            refine o_yes rfl rfl ?_
            refine o_callP (sameCalls_fn d.ca w.a d.cc w.c d.cl w.xs (ok.hci.abs.trans hwa.symm)) rfl rfl rfl (fun w st => ⟨(ok.hc.rdk (by repeat (first | exact HIn.here | exact HIn.all | exact HIn.one | apply HIn.cons | apply HIn.assoc | apply HIn.app))).out w st, (hW.rdk (by repeat (first | exact HIn.here | exact HIn.all | exact HIn.one | apply HIn.cons | apply HIn.assoc | apply HIn.app))).out w st, fun x hx => ((ok.hci.rd x hx).rdk (by repeat (first | exact HIn.here | exact HIn.all | exact HIn.one | apply HIn.cons | apply HIn.assoc | apply HIn.app))).out w st, fun y hy => (hwr y hy).elim (fun h => (RdK.old0 h).out w st) (fun h => (h.rdk (by repeat (first | exact HIn.here | exact HIn.all | exact HIn.one | apply HIn.cons | apply HIn.assoc | apply HIn.app))).out w st)⟩) (fun v190 hv190 => ?_)
            subst hv190
            refine o_yes rfl rfl ?_
            refine o_step rfl (s_not rfl) ?_
            refine o_step rfl (s_pick_f rfl rfl) ?_
            refine o_step rfl (s_move rfl) ?_
            refine o_yes rfl rfl ?_
            refine o_step rfl (s_move rfl) ?_
            refine o_yes rfl rfl ?_
            refine o_callP (len_fn bq (.bool true) none 0 0) rfl rfl rfl (fun w st => (RdPK.own (by repeat (first | exact List.mem_cons_self | apply List.mem_cons_of_mem | apply mem_assoc | apply mem_app))).out w st) (fun v195 hv195 => ?_)
            subst hv195
            refine o_yes rfl rfl ?_
            refine o_step rfl (s_neq_f rfl rfl (by decide)) ?_
            refine o_step rfl (s_pick_f rfl rfl) ?_
            refine o_nil ?_
            refine x_then (hK54 _ _ ?_)
            refine c_false rfl ?_
            refine c_skip ?_
            refine x_then (hK53 _ _ ?_)
            refine c_seq fun _ hK57 => ?_
            refine c_region ?_
            refine o_step rfl (s_move rfl) ?_
            refine o_step rfl (s_nil rfl) ?_
            refine o_step rfl (s_field rfl rfl (by decide)) ?_
            refine o_step rfl (s_field rfl rfl (by decide)) ?_
            refine o_store rfl rfl rfl (by repeat (first | exact .here | apply Upd.there | apply Upd.assoc | apply Upd.skip)) (by first | decide | omega | (simp; done) | (simp; omega)) rfl ?_
            refine o_nil ?_
            refine x_then (hK57 _ _ ?_)
            refine c_seq fun _ hK58 => ?_
            refine c_region ?_
            refine o_step rfl (s_move rfl) ?_
            refine o_step rfl (s_move rfl) ?_
            refine o_step rfl (s_func (us := [_]) (vs := []) rfl rfl) ?_
            refine o_step rfl (s_move rfl) ?_
            refine o_step rfl (s_func (us := [_]) (vs := []) rfl rfl) ?_
            have hsc : s.calls.length ≤ 4194304 := by rw [← hwa, List.length_map]; omega
            refine o_call (qflushL_fn (f.xs.map FileV.b) (sdR f.xs) (sdO fail 22) sdKR sdKO (SideQ bq b31 f.xs fail 22 s.calls.length) 22 23 [.pointer (some ⟨b31, 0, none⟩)] [] [.pointer (some ⟨b31, 0, none⟩)] [] (fun t S n h1 h2 => sdRQ_fn bq b31 f.xs fail 22 s.calls.length hsc hfb t S n h1 h2) (fun t S b Sb a c h1 h2 h3 => sdOQ_fn bq b31 f.xs fail 22 s.calls.length hsc t S b Sb a c h1 h2 h3) bq none 0 [] [] [] ((b31, .cells [.slice none 0 0, .pointer none, .pointer none, .pointer none, .slice d.fa f.xs.length d.fc, .int .i64 fail, .int .i64 22, .int .i64 0, .int .i64 0, .pointer none, .slice none 0 0, .string ⟨#[]⟩, .bool false, .bool false, .bool false, .bool false, .int .i64 0, .int .i64 s.outs, .int .i64 d.sum, .slice d.aa d.al.length d.ac, .string ⟨#[]⟩, .slice none 0 0, .slice d.ga d.gl.length d.gc, .slice d.la d.ll.length d.lc, .slice d.wa d.wl.length d.wc, .pointer none, .int .i64 0, .slice none 0 0, .string ⟨#[]⟩, .slice d.sa d.sl.length d.sc].toArray 40 (0, 0)) :: (d.Sf ++ (d.Sa ++ (d.Sg ++ (d.Sn ++ (d.Sw ++ (d.Ss ++ d.Sx))))))) .nil [] ⟨rfl, fun j q h => by simp at h⟩ ⟨[], s.outs⟩ (sideQ1 ok) trivial) rfl rfl rfl (by exact Pick.takeC (by first | ((repeat (first | exact .one | exact .here | exact .all | apply Pick.cons | apply Pick.app)); done) | ((repeat (first | exact .one | exact .here | exact .all | apply Pick.cons | apply Pick.assoc | apply Pick.app)); done) | exact Pick.takeA (by repeat (first | exact .one | exact .here | exact .all | apply Pick.cons | apply Pick.assoc | apply Pick.app)) (by repeat (first | exact .one | exact .here | exact .all | apply Pick.cons | apply Pick.assoc | apply Pick.app))) (Pick.takeA .nil (Pick.takeA .nil (Pick.takeC (by first | ((repeat (first | exact .one | exact .here | exact .all | apply Pick.cons | apply Pick.app)); done) | ((repeat (first | exact .one | exact .here | exact .all | apply Pick.cons | apply Pick.assoc | apply Pick.app)); done) | exact Pick.takeA (by repeat (first | exact .one | exact .here | exact .all | apply Pick.cons | apply Pick.assoc | apply Pick.app)) (by repeat (first | exact .one | exact .here | exact .all | apply Pick.cons | apply Pick.assoc | apply Pick.app))) (Pick.takeA (by first | ((repeat (first | exact .one | exact .here | exact .all | apply Pick.cons | apply Pick.app)); done) | ((repeat (first | exact .one | exact .here | exact .all | apply Pick.cons | apply Pick.assoc | apply Pick.app)); done) | exact Pick.takeA (by repeat (first | exact .one | exact .here | exact .all | apply Pick.cons | apply Pick.assoc | apply Pick.app)) (by repeat (first | exact .one | exact .here | exact .all | apply Pick.cons | apply Pick.assoc | apply Pick.app))) (Pick.takeA (by first | ((repeat (first | exact .one | exact .here | exact .all | apply Pick.cons | apply Pick.app)); done) | ((repeat (first | exact .one | exact .here | exact .all | apply Pick.cons | apply Pick.assoc | apply Pick.app)); done) | exact Pick.takeA (by repeat (first | exact .one | exact .here | exact .all | apply Pick.cons | apply Pick.assoc | apply Pick.app)) (by repeat (first | exact .one | exact .here | exact .all | apply Pick.cons | apply Pick.assoc | apply Pick.app))) (Pick.takeA (by first | ((repeat (first | exact .one | exact .here | exact .all | apply Pick.cons | apply Pick.app)); done) | ((repeat (first | exact .one | exact .here | exact .all | apply Pick.cons | apply Pick.assoc | apply Pick.app)); done) | exact Pick.takeA (by repeat (first | exact .one | exact .here | exact .all | apply Pick.cons | apply Pick.assoc | apply Pick.app)) (by repeat (first | exact .one | exact .here | exact .all | apply Pick.cons | apply Pick.assoc | apply Pick.app))) (Pick.takeA (by first | ((repeat (first | exact .one | exact .here | exact .all | apply Pick.cons | apply Pick.app)); done) | ((repeat (first | exact .one | exact .here | exact .all | apply Pick.cons | apply Pick.assoc | apply Pick.app)); done) | exact Pick.takeA (by repeat (first | exact .one | exact .here | exact .all | apply Pick.cons | apply Pick.assoc | apply Pick.app)) (by repeat (first | exact .one | exact .here | exact .all | apply Pick.cons | apply Pick.assoc | apply Pick.app))) (Pick.takeA (by first | ((repeat (first | exact .one | exact .here | exact .all | apply Pick.cons | apply Pick.app)); done) | ((repeat (first | exact .one | exact .here | exact .all | apply Pick.cons | apply Pick.assoc | apply Pick.app)); done) | exact Pick.takeA (by repeat (first | exact .one | exact .here | exact .all | apply Pick.cons | apply Pick.assoc | apply Pick.app)) (by repeat (first | exact .one | exact .here | exact .all | apply Pick.cons | apply Pick.assoc | apply Pick.app))) (Pick.takeA (by first | ((repeat (first | exact .one | exact .here | exact .all | apply Pick.cons | apply Pick.app)); done) | ((repeat (first | exact .one | exact .here | exact .all | apply Pick.cons | apply Pick.assoc | apply Pick.app)); done) | exact Pick.takeA (by repeat (first | exact .one | exact .here | exact .all | apply Pick.cons | apply Pick.assoc | apply Pick.app)) (by repeat (first | exact .one | exact .here | exact .all | apply Pick.cons | apply Pick.assoc | apply Pick.app))) (by first | ((repeat (first | exact .one | exact .here | exact .all | apply Pick.cons | apply Pick.app)); done) | ((repeat (first | exact .one | exact .here | exact .all | apply Pick.cons | apply Pick.assoc | apply Pick.app)); done) | exact Pick.takeA (by repeat (first | exact .one | exact .here | exact .all | apply Pick.cons | apply Pick.assoc | apply Pick.app)) (by repeat (first | exact .one | exact .here | exact .all | apply Pick.cons | apply Pick.assoc | apply Pick.app))))))))))))) (fun w st => OldL.top hold st (hin_sub (by repeat (first | exact HSub.refl _ | exact HSub.nil | refine HSub.takeC (by first | ((repeat (first | exact .one | exact .here | exact .all | apply Pick.cons | apply Pick.app)); done) | ((repeat (first | exact .one | exact .here | exact .all | apply Pick.cons | apply Pick.assoc | apply Pick.app)); done) | exact Pick.takeA (by repeat (first | exact .one | exact .here | exact .all | apply Pick.cons | apply Pick.assoc | apply Pick.app)) (by repeat (first | exact .one | exact .here | exact .all | apply Pick.cons | apply Pick.assoc | apply Pick.app))) ?_ | refine HSub.take (by first | ((repeat (first | exact .one | exact .here | exact .all | apply Pick.cons | apply Pick.app)); done) | ((repeat (first | exact .one | exact .here | exact .all | apply Pick.cons | apply Pick.assoc | apply Pick.app)); done) | exact Pick.takeA (by repeat (first | exact .one | exact .here | exact .all | apply Pick.cons | apply Pick.assoc | apply Pick.app)) (by repeat (first | exact .one | exact .here | exact .all | apply Pick.cons | apply Pick.assoc | apply Pick.app))) ?_ | exact HSub.of_pick (by first | ((repeat (first | exact .one | exact .here | exact .all | apply Pick.cons | apply Pick.app)); done) | ((repeat (first | exact .one | exact .here | exact .all | apply Pick.cons | apply Pick.assoc | apply Pick.app)); done) | exact Pick.takeA (by repeat (first | exact .one | exact .here | exact .all | apply Pick.cons | apply Pick.assoc | apply Pick.app)) (by repeat (first | exact .one | exact .here | exact .all | apply Pick.cons | apply Pick.assoc | apply Pick.app))))))) (fun v207 S207 ⟨hv207, hH207⟩ => ?_)
            change v207 = .int .i64 0 at hv207
            subst hv207
            change SideQ bq b31 f.xs fail 22 s.calls.length ⟨[], s.outs⟩ S207 at hH207
            obtain ⟨S2, hp3, d2, hp4, ok2⟩ := hH207
            have hcl2 : d2.cl.length = 0 := ok2.hci.len
            have hsplit2 : S207.Perm ((bq, .cells [.bool true, .slice none 0 0].toArray 58 (0, 0)) :: (b31, .cells [.slice none 0 0, .pointer none, .pointer none, .pointer none, .slice d2.fa f.xs.length d2.fc, .int .i64 fail, .int .i64 22, .int .i64 0, .int .i64 0, .pointer none, .slice none 0 0, .string ⟨#[]⟩, .bool false, .bool false, .bool false, .bool false, .int .i64 0, .int .i64 s.outs, .int .i64 d2.sum, .slice d2.aa d2.al.length d2.ac, .string ⟨#[]⟩, .slice d2.ca d2.cl.length d2.cc, .slice d2.ga d2.gl.length d2.gc, .slice d2.la d2.ll.length d2.lc, .slice d2.wa d2.wl.length d2.wc, .pointer none, .int .i64 0, .slice none 0 0, .string ⟨#[]⟩, .slice d2.sa d2.sl.length d2.sc].toArray 40 (0, 0)) :: (d2.Sf ++ (d2.Sa ++ (d2.Sc ++ (d2.Sg ++ (d2.Sn ++ (d2.Sw ++ (d2.Ss ++ d2.Sx)))))))) := hp3.trans (List.Perm.cons _ hp4)
            refine o_sk (HSub.trans (HSub.of_perm (Pick.perm (S := S207) (by first | ((repeat (first | exact .one | exact .here | exact .all | apply Pick.cons | apply Pick.app)); done) | ((repeat (first | exact .one | exact .here | exact .all | apply Pick.cons | apply Pick.assoc | apply Pick.app)); done) | exact Pick.takeA (by repeat (first | exact .one | exact .here | exact .all | apply Pick.cons | apply Pick.assoc | apply Pick.app)) (by repeat (first | exact .one | exact .here | exact .all | apply Pick.cons | apply Pick.assoc | apply Pick.app))))) (hsub_app (HSub.of_perm hsplit2))) ?_
            refine o_step rfl (s_eql_t rfl rfl (by decide)) ?_
            refine o_step rfl (s_move rfl) ?_
            refine o_yes rfl rfl ?_
            refine o_step rfl (s_move rfl) ?_
            refine o_yes rfl rfl ?_
            refine o_step rfl (s_nil rfl) ?_
            refine o_yes rfl rfl ?_
            refine o_step rfl (s_field rfl rfl (by decide)) ?_
            refine o_yes rfl rfl ?_
            refine o_step rfl (s_field rfl rfl (by decide)) ?_
            refine o_yes rfl rfl ?_
            refine o_step rfl (s_ld rfl (.own (by repeat (first | exact List.mem_cons_self | apply List.mem_cons_of_mem | apply mem_assoc | apply mem_app)) rfl)) ?_
            refine o_yes rfl rfl ?_
            refine o_step rfl (s_len rfl) ?_
            refine o_yes rfl rfl ?_
            refine o_step rfl (s_eql_t rfl rfl (by omega)) ?_
            refine o_step rfl (s_pick_t rfl rfl) ?_
            refine o_step rfl (s_assign rfl) ?_
            refine o_nil ?_
            refine x_then (hK58 _ _ ?_)
            refine c_ret ?_
            refine ?_
            exact x_ret rfl (.tmp rfl (.nil)) (rfl)
  · skip
    refine o_nil ?_
    refine x_then (hK3 _ _ ?_)
    refine c_true rfl ?_
    refine c_seq fun _ hK59 => ?_
    refine c_region ?_
    refine o_step rfl (s_assign rfl) ?_
    refine o_nil ?_
    refine x_then (hK59 _ _ ?_)
    refine c_ret ?_
    refine x_then_ret (?_)
    exact x_ret rfl (.tmp rfl (.nil)) (rfl)
end Go.Proofs.Ythbnkifjplbhgaa
