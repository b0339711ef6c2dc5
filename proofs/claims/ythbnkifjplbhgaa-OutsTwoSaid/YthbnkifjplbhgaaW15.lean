/- Part of the proofs over this seat: see the text that holds the theorem. Conditions: each theorem bears its own. -/
import Derived.Test.YthbnkifjplbhgaaW14
import Derived.Test.YthbnkifjplbhgaaM6
namespace Go.Proofs.Ythbnkifjplbhgaa
open Go Go.HL Go.Proofs
theorem take_raw (bs : Nat) (fail err : Int) (said gl : List (Sl UInt8)) (sa ga a : Option Addr) (sc gc c : Nat) (b : List UInt8) (So Si Sg Sb : Hp) (hO : OwnS Esl 1 35 (.slice sa said.length sc) said So) (hin : ∀ s ∈ said, RdS Eb s.v s.xs Si)
    (hg : OwnS Esl 1 35 (.slice ga gl.length gc) gl Sg) (hgl : gl.length = said.length) (hb : OwnS Eb 1 5 (.slice a b.length c) b Sb) (hle : said.length ≤ 1099511627776) : HL.Fn Try.prog 43 [.pointer (some ⟨bs, 0, none⟩), .slice a b.length c] (fun _ => True) ((bs, .cells [.pointer none, .string ⟨#[]⟩, .int .i64 fail, .int .i64 err, .int .i64 said.length, .slice sa said.length sc, .slice ga gl.length gc].toArray 86 (0, 0)) :: (So ++ (Si ++ (Sg ++ Sb)))) (fun v S' => v = .int .i64 (if (said.length : Int) + 1 = fail then err else 0) ∧ SinkH bs fail err (said.map Sl.xs ++ [b]) S') := by
  refine fn_of Try.func43 rfl rfl rfl fun w0 hw => ?_
  refine c_seq fun _ hK1 => ?_
  refine c_region ?_
  refine o_step rfl (s_assign rfl) ?_
  refine o_nil ?_
  refine x_then (hK1 _ _ ?_)
  refine c_seq fun _ hK2 => ?_
  refine c_region ?_
  refine o_step rfl (s_move rfl) ?_
  refine o_step rfl (s_nil rfl) ?_
  refine o_step rfl (s_field rfl rfl (by decide)) ?_
  refine o_step rfl (s_ld rfl (.own (by repeat (first | exact List.mem_cons_self | apply List.mem_cons_of_mem | apply mem_app)) rfl)) ?_
  refine o_step rfl (s_add rfl rfl (by omega)) ?_
  refine o_step rfl (s_nil rfl) ?_
  refine o_step rfl (s_field rfl rfl (by decide)) ?_
  refine o_store rfl rfl rfl (by repeat (first | exact .here | apply Upd.there | apply Upd.skip)) (by first | decide | omega | (simp; done) | (simp; omega)) rfl ?_
  refine o_nil ?_
  refine x_then (hK2 _ _ ?_)
  refine c_seq fun _ hK3 => ?_
  refine c_seq fun _ hK4 => ?_
  refine c_region ?_
  refine o_step rfl (s_move rfl) ?_
  refine o_step rfl (s_nil rfl) ?_
  refine o_step rfl (s_field rfl rfl (by decide)) ?_
  refine o_step rfl (s_ld rfl (.own (by repeat (first | exact List.mem_cons_self | apply List.mem_cons_of_mem | apply mem_app)) rfl)) ?_
  refine o_step rfl (step_cast (v' := .bool false) (s_neq_nilp rfl rfl) rfl) ?_
  refine o_nil ?_
  refine x_then (hK4 _ _ ?_)
  refine c_false rfl ?_
  refine c_skip ?_
  refine x_then (hK3 _ _ ?_)
  refine c_seq fun _ hK5 => ?_
  refine c_drawE ([(bs, .cells [.pointer none, .string ⟨#[]⟩, .int .i64 fail, .int .i64 err, .int .i64 (said.length + 1), .slice sa said.length sc, .slice ga gl.length gc].toArray 86 (0, 0))]) (fun i => Nat.beq i 11) ?_
  refine e_take 0 rfl (by kernel_rfl) (by kernel_rfl) (by kernel_rfl) (by kernel_rfl) (fun _ _ => rfl) rfl (by repeat (first | exact HSub.refl _ | exact HSub.nil | refine HSub.takeC (by repeat (first | exact .one | exact .here | exact .all | apply Pick.cons | apply Pick.app)) ?_ | refine HSub.take (by repeat (first | exact .one | exact .here | exact .all | apply Pick.cons | apply Pick.app)) ?_ | exact HSub.of_pick (by repeat (first | exact .one | exact .here | exact .all | apply Pick.cons | apply Pick.app)))) (s_move rfl) ?_
  refine e_take 1 rfl (by kernel_rfl) (by kernel_rfl) (by kernel_rfl) (by kernel_rfl) (fun _ _ => rfl) rfl (by repeat (first | exact HSub.refl _ | exact HSub.nil | refine HSub.takeC (by repeat (first | exact .one | exact .here | exact .all | apply Pick.cons | apply Pick.app)) ?_ | refine HSub.take (by repeat (first | exact .one | exact .here | exact .all | apply Pick.cons | apply Pick.app)) ?_ | exact HSub.of_pick (by repeat (first | exact .one | exact .here | exact .all | apply Pick.cons | apply Pick.app)))) (s_move rfl) ?_
  refine e_take 2 rfl (by kernel_rfl) (by kernel_rfl) (by kernel_rfl) (by kernel_rfl) (fun _ _ => rfl) rfl (by repeat (first | exact HSub.refl _ | exact HSub.nil | refine HSub.takeC (by repeat (first | exact .one | exact .here | exact .all | apply Pick.cons | apply Pick.app)) ?_ | refine HSub.take (by repeat (first | exact .one | exact .here | exact .all | apply Pick.cons | apply Pick.app)) ?_ | exact HSub.of_pick (by repeat (first | exact .one | exact .here | exact .all | apply Pick.cons | apply Pick.app)))) (s_nil rfl) ?_
  refine e_take 3 rfl (by kernel_rfl) (by kernel_rfl) (by kernel_rfl) (by kernel_rfl) (fun _ _ => rfl) rfl (by repeat (first | exact HSub.refl _ | exact HSub.nil | refine HSub.takeC (by repeat (first | exact .one | exact .here | exact .all | apply Pick.cons | apply Pick.app)) ?_ | refine HSub.take (by repeat (first | exact .one | exact .here | exact .all | apply Pick.cons | apply Pick.app)) ?_ | exact HSub.of_pick (by repeat (first | exact .one | exact .here | exact .all | apply Pick.cons | apply Pick.app)))) (s_field rfl rfl (by decide)) ?_
  refine e_take 4 rfl (by kernel_rfl) (by kernel_rfl) (by kernel_rfl) (by kernel_rfl) (fun _ _ => rfl) rfl (by repeat (first | exact HSub.refl _ | exact HSub.nil | refine HSub.takeC (by repeat (first | exact .one | exact .here | exact .all | apply Pick.cons | apply Pick.app)) ?_ | refine HSub.take (by repeat (first | exact .one | exact .here | exact .all | apply Pick.cons | apply Pick.app)) ?_ | exact HSub.of_pick (by repeat (first | exact .one | exact .here | exact .all | apply Pick.cons | apply Pick.app)))) (s_ld rfl (.own (by repeat (first | exact List.mem_cons_self | apply List.mem_cons_of_mem | apply mem_app)) rfl)) ?_
  refine e_take 5 rfl (by kernel_rfl) (by kernel_rfl) (by kernel_rfl) (by kernel_rfl) (fun _ _ => rfl) rfl (by repeat (first | exact HSub.refl _ | exact HSub.nil | refine HSub.takeC (by repeat (first | exact .one | exact .here | exact .all | apply Pick.cons | apply Pick.app)) ?_ | refine HSub.take (by repeat (first | exact .one | exact .here | exact .all | apply Pick.cons | apply Pick.app)) ?_ | exact HSub.of_pick (by repeat (first | exact .one | exact .here | exact .all | apply Pick.cons | apply Pick.app)))) (s_move rfl) ?_
  refine e_one 6 rfl (by kernel_rfl) ?_
  refine o_call (copy_fn a c b) rfl rfl rfl (by exact .nil) (fun w st => (hb.rdk (by repeat (first | exact HIn.here | exact HIn.all | exact HIn.one | apply HIn.cons | apply HIn.app))).out w st) (fun v33 S33 ⟨a33, c33, hv33, hS33⟩ => ?_)
  subst hv33
  refine o_nil ?_
  refine x_oneS (by repeat (first | exact HSub.refl _ | exact HSub.nil | refine HSub.takeC (by repeat (first | exact .one | exact .here | exact .all | apply Pick.cons | apply Pick.app)) ?_ | refine HSub.take (by repeat (first | exact .one | exact .here | exact .all | apply Pick.cons | apply Pick.app)) ?_ | exact HSub.of_pick (by repeat (first | exact .one | exact .here | exact .all | apply Pick.cons | apply Pick.app)))) ?_
  refine e_one 7 rfl (by kernel_rfl) ?_
  refine o_bs (E := Esl) (xs := [(⟨a33, c33, b⟩ : Sl UInt8)]) (vs := [_]) rfl rfl rfl rfl rfl (by decide) (by decide) fun b34 S34 hS34 => ?_
  refine o_nil ?_
  refine x_oneS (by repeat (first | exact HSub.refl _ | exact HSub.nil | refine HSub.takeC (by repeat (first | exact .one | exact .here | exact .all | apply Pick.cons | apply Pick.app)) ?_ | refine HSub.take (by repeat (first | exact .one | exact .here | exact .all | apply Pick.cons | apply Pick.app)) ?_ | exact HSub.of_pick (by repeat (first | exact .one | exact .here | exact .all | apply Pick.cons | apply Pick.app)))) ?_
  refine e_one 8 rfl (by kernel_rfl) ?_
  refine o_app hO (hS34.rdk (by repeat (first | exact HIn.here | exact HIn.all | exact HIn.one | apply HIn.cons | apply HIn.app))) rfl rfl rfl rfl (by show (said.length + 1) * 24 ≤ _; omega) (by show said.length + 1 ≤ _; omega) rfl (by repeat (first | exact .one | exact .here | exact .all | apply Pick.cons | apply Pick.app)) fun a35 c35 S35 hS35 => ?_
  refine o_nil ?_
  refine x_oneS (by repeat (first | exact HSub.refl _ | exact HSub.nil | refine HSub.takeC (by repeat (first | exact .one | exact .here | exact .all | apply Pick.cons | apply Pick.app)) ?_ | refine HSub.take (by repeat (first | exact .one | exact .here | exact .all | apply Pick.cons | apply Pick.app)) ?_ | exact HSub.of_pick (by repeat (first | exact .one | exact .here | exact .all | apply Pick.cons | apply Pick.app)))) ?_
  refine e_one 9 rfl (by kernel_rfl) ?_
  refine o_step rfl (s_nil rfl) ?_
  refine o_nil ?_
  refine x_oneS (by repeat (first | exact HSub.refl _ | exact HSub.nil | refine HSub.takeC (by repeat (first | exact .one | exact .here | exact .all | apply Pick.cons | apply Pick.app)) ?_ | refine HSub.take (by repeat (first | exact .one | exact .here | exact .all | apply Pick.cons | apply Pick.app)) ?_ | exact HSub.of_pick (by repeat (first | exact .one | exact .here | exact .all | apply Pick.cons | apply Pick.app)))) ?_
  refine e_one 10 rfl (by kernel_rfl) ?_
  refine o_step rfl (s_field rfl rfl (by decide)) ?_
  refine o_nil ?_
  refine x_oneS (by repeat (first | exact HSub.refl _ | exact HSub.nil | refine HSub.takeC (by repeat (first | exact .one | exact .here | exact .all | apply Pick.cons | apply Pick.app)) ?_ | refine HSub.take (by repeat (first | exact .one | exact .here | exact .all | apply Pick.cons | apply Pick.app)) ?_ | exact HSub.of_pick (by repeat (first | exact .one | exact .here | exact .all | apply Pick.cons | apply Pick.app)))) ?_
  refine e_one 11 rfl (by kernel_rfl) ?_
  refine o_store rfl rfl rfl (by repeat (first | exact .here | apply Upd.there | apply Upd.skip)) (by first | decide | omega | (simp; done) | (simp; omega)) rfl ?_
  refine o_nil ?_
  refine x_oneL rfl ?_
  refine e_done (by kernel_rfl) ?_
  refine x_then (hK5 _ _ ?_)
  refine c_seq fun _ hK6 => ?_
  refine c_region ?_
  refine o_step rfl (s_move rfl) ?_
  refine o_step rfl (s_move rfl) ?_
  refine o_step rfl (s_nil rfl) ?_
  refine o_step rfl (s_field rfl rfl (by decide)) ?_
  refine o_step rfl (s_ld rfl (.own (by repeat (first | exact List.mem_cons_self | apply List.mem_cons_of_mem | apply mem_app)) rfl)) ?_
  refine o_step rfl (s_move rfl) ?_
  refine o_bs (E := Esl) (xs := [(⟨a, c, b⟩ : Sl UInt8)]) (vs := [_]) rfl rfl rfl rfl rfl (by decide) (by decide) fun b44 S44 hS44 => ?_
  refine o_app hg (hS44.rdk (by repeat (first | exact HIn.here | exact HIn.all | exact HIn.one | apply HIn.cons | apply HIn.app))) rfl rfl rfl rfl (by show (gl.length + 1) * 24 ≤ _; omega) (by show gl.length + 1 ≤ _; omega) rfl (by repeat (first | exact .one | exact .here | exact .all | apply Pick.cons | apply Pick.app)) fun a45 c45 S45 hS45 => ?_
  refine o_step rfl (s_nil rfl) ?_
  refine o_step rfl (s_field rfl rfl (by decide)) ?_
  refine o_store rfl rfl rfl (by repeat (first | exact .here | apply Upd.there | apply Upd.skip)) (by first | decide | omega | (simp; done) | (simp; omega)) rfl ?_
  refine o_nil ?_
  refine x_then (hK6 _ _ ?_)
  refine c_seq fun _ hK7 => ?_
  refine c_seq fun _ hK8 => ?_
  refine c_quiet (by kernel_rfl) ?_
  refine .op rfl (s_move rfl) ?_
  refine .op rfl (s_nil rfl) ?_
  refine .op rfl (s_field rfl rfl (by decide)) ?_
  refine .op rfl (s_ld rfl (.own (by repeat (first | exact List.mem_cons_self | apply List.mem_cons_of_mem | apply mem_app)) rfl)) ?_
  refine .op rfl (s_move rfl) ?_
  refine .op rfl (s_nil rfl) ?_
  refine .op rfl (s_field rfl rfl (by decide)) ?_
  refine .op rfl (s_ld rfl (.own (by repeat (first | exact List.mem_cons_self | apply List.mem_cons_of_mem | apply mem_app)) rfl)) ?_
  refine .op rfl (s_eql rfl rfl) ?_
  refine .nil ?_
  refine x_then (hK8 _ _ ?_)
  refine c_if rfl (fun hq => ?_) (fun hq => ?_)
  · skip
    refine c_seq fun _ hK9 => ?_
    refine c_region ?_
    refine o_step rfl (s_move rfl) ?_
    refine o_step rfl (s_nil rfl) ?_
    refine o_step rfl (s_field rfl rfl (by decide)) ?_
    refine o_step rfl (s_ld rfl (.own (by repeat (first | exact List.mem_cons_self | apply List.mem_cons_of_mem | apply mem_app)) rfl)) ?_
    refine o_step rfl (s_assign rfl) ?_
    refine o_nil ?_
    refine x_then (hK9 _ _ ?_)
    refine c_ret ?_
    refine x_then_ret (?_)
    refine x_sub (Sub.refl _) (H' := (bs, .cells [.pointer none, .string ⟨#[]⟩, .int .i64 fail, .int .i64 err, .int .i64 (said.length + 1), .slice a35 (said ++ [(⟨a33, c33, b⟩ : Sl UInt8)]).length c35, .slice a45 (gl ++ [(⟨a, c, b⟩ : Sl UInt8)]).length c45].toArray 86 (0, 0)) :: (S35 ++ (S33 ++ (Si ++ S45)))) (by repeat (first | exact HSub.refl _ | exact HSub.nil | refine HSub.takeC (by repeat (first | exact .one | exact .here | exact .all | apply Pick.cons | apply Pick.app)) ?_ | refine HSub.take (by repeat (first | exact .one | exact .here | exact .all | apply Pick.cons | apply Pick.app)) ?_ | exact HSub.of_pick (by repeat (first | exact .one | exact .here | exact .all | apply Pick.cons | apply Pick.app)))) ?_
    exact x_ret rfl (.tmp rfl (.nil)) (⟨by rw [if_pos hq]; rfl, SinkH.mk1 hS35 (rows_snoc hin hS33) hS45 hgl⟩)
  · skip
    refine c_skip ?_
    refine x_then (hK7 _ _ ?_)
    refine c_seq fun _ hK10 => ?_
    refine c_region ?_
    refine o_step rfl (s_assign rfl) ?_
    refine o_nil ?_
    refine x_then (hK10 _ _ ?_)
    refine c_ret ?_
    refine ?_
    refine x_sub (Sub.refl _) (H' := (bs, .cells [.pointer none, .string ⟨#[]⟩, .int .i64 fail, .int .i64 err, .int .i64 (said.length + 1), .slice a35 (said ++ [(⟨a33, c33, b⟩ : Sl UInt8)]).length c35, .slice a45 (gl ++ [(⟨a, c, b⟩ : Sl UInt8)]).length c45].toArray 86 (0, 0)) :: (S35 ++ (S33 ++ (Si ++ S45)))) (by repeat (first | exact HSub.refl _ | exact HSub.nil | refine HSub.takeC (by repeat (first | exact .one | exact .here | exact .all | apply Pick.cons | apply Pick.app)) ?_ | refine HSub.take (by repeat (first | exact .one | exact .here | exact .all | apply Pick.cons | apply Pick.app)) ?_ | exact HSub.of_pick (by repeat (first | exact .one | exact .here | exact .all | apply Pick.cons | apply Pick.app)))) ?_
    exact x_ret rfl (.tmp rfl (.nil)) (⟨by rw [if_neg hq]; rfl, SinkH.mk1 hS35 (rows_snoc hin hS33) hS45 hgl⟩)
end Go.Proofs.Ythbnkifjplbhgaa
