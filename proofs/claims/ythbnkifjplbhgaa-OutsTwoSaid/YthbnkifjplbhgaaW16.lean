/- Part of the proofs over this seat: see the text that holds the theorem. Conditions: each theorem bears its own. -/
import Derived.Test.YthbnkifjplbhgaaW15
import Derived.Test.YthbnkifjplbhgaaM7
namespace Go.Proofs.Ythbnkifjplbhgaa
open Go Go.HL Go.Proofs
theorem handOnD (bo bt b3 : Nat) (lim err cnt n : Int) (f : Value) (ka : Option Addr) (kn kc : Nat) (h0 : 0 ≤ cnt ∧ cnt ≤ 1099511627776) (h1 : 0 ≤ n ∧ n ≤ 1099511627776) : HL.FnD Try.prog 70 [.pointer (some ⟨bt, 0, none⟩), .pointer (some ⟨b3, 0, none⟩)] (fun _ => True) [(bo, .cells [.int .i64 lim, f, (.slice ka kn kc), .int .i64 err, .int .i64 cnt].toArray 77 (0, 0)), (bt, .cells [.pointer (some ⟨bo, 0, none⟩)].toArray 75 (0, 0)), (b3, .cells [.int .i64 n].toArray 3 (0, 0))] (fun _ S' => S' = [(bo, .cells [.int .i64 lim, f, .slice ka 0 kc, .int .i64 err, .int .i64 (if err = 0 then cnt + n else cnt)].toArray 77 (0, 0)), (bt, .cells [.pointer (some ⟨bo, 0, none⟩)].toArray 75 (0, 0)), (b3, .cells [.int .i64 n].toArray 3 (0, 0))]) := by
  refine fnD_of Try.func70 rfl rfl rfl fun w0 hw => ?_
  refine c_seq fun _ hK1 => ?_
  refine c_drawE ([(bo, .cells [.int .i64 lim, f, (.slice ka kn kc), .int .i64 err, .int .i64 cnt].toArray 77 (0, 0)), (bt, .cells [.pointer (some ⟨bo, 0, none⟩)].toArray 75 (0, 0)), (b3, .cells [.int .i64 n].toArray 3 (0, 0))]) (fun i => Nat.beq i 8) ?_
  refine e_take 0 rfl (by kernel_rfl) (by kernel_rfl) (by kernel_rfl) (by kernel_rfl) (fun _ _ => rfl) rfl (by repeat (first | exact HSub.refl _ | exact HSub.nil | refine HSub.takeC (by repeat (first | exact .one | exact .here | exact .all | apply Pick.cons | apply Pick.app)) ?_ | refine HSub.take (by repeat (first | exact .one | exact .here | exact .all | apply Pick.cons | apply Pick.app)) ?_ | exact HSub.of_pick (by repeat (first | exact .one | exact .here | exact .all | apply Pick.cons | apply Pick.app)))) (s_ld rfl (.own (by repeat (first | exact List.mem_cons_self | apply List.mem_cons_of_mem | apply mem_app)) rfl)) ?_
  refine e_take 1 rfl (by kernel_rfl) (by kernel_rfl) (by kernel_rfl) (by kernel_rfl) (fun _ _ => rfl) rfl (by repeat (first | exact HSub.refl _ | exact HSub.nil | refine HSub.takeC (by repeat (first | exact .one | exact .here | exact .all | apply Pick.cons | apply Pick.app)) ?_ | refine HSub.take (by repeat (first | exact .one | exact .here | exact .all | apply Pick.cons | apply Pick.app)) ?_ | exact HSub.of_pick (by repeat (first | exact .one | exact .here | exact .all | apply Pick.cons | apply Pick.app)))) (s_ld rfl (.own (by repeat (first | exact List.mem_cons_self | apply List.mem_cons_of_mem | apply mem_app)) rfl)) ?_
  refine e_take 2 rfl (by kernel_rfl) (by kernel_rfl) (by kernel_rfl) (by kernel_rfl) (fun _ _ => rfl) rfl (by repeat (first | exact HSub.refl _ | exact HSub.nil | refine HSub.takeC (by repeat (first | exact .one | exact .here | exact .all | apply Pick.cons | apply Pick.app)) ?_ | refine HSub.take (by repeat (first | exact .one | exact .here | exact .all | apply Pick.cons | apply Pick.app)) ?_ | exact HSub.of_pick (by repeat (first | exact .one | exact .here | exact .all | apply Pick.cons | apply Pick.app)))) (s_nil rfl) ?_
  refine e_take 3 rfl (by kernel_rfl) (by kernel_rfl) (by kernel_rfl) (by kernel_rfl) (fun _ _ => rfl) rfl (by repeat (first | exact HSub.refl _ | exact HSub.nil | refine HSub.takeC (by repeat (first | exact .one | exact .here | exact .all | apply Pick.cons | apply Pick.app)) ?_ | refine HSub.take (by repeat (first | exact .one | exact .here | exact .all | apply Pick.cons | apply Pick.app)) ?_ | exact HSub.of_pick (by repeat (first | exact .one | exact .here | exact .all | apply Pick.cons | apply Pick.app)))) (s_field rfl rfl (by decide)) ?_
  refine e_take 4 rfl (by kernel_rfl) (by kernel_rfl) (by kernel_rfl) (by kernel_rfl) (fun _ _ => rfl) rfl (by repeat (first | exact HSub.refl _ | exact HSub.nil | refine HSub.takeC (by repeat (first | exact .one | exact .here | exact .all | apply Pick.cons | apply Pick.app)) ?_ | refine HSub.take (by repeat (first | exact .one | exact .here | exact .all | apply Pick.cons | apply Pick.app)) ?_ | exact HSub.of_pick (by repeat (first | exact .one | exact .here | exact .all | apply Pick.cons | apply Pick.app)))) (s_ld rfl (.own (by repeat (first | exact List.mem_cons_self | apply List.mem_cons_of_mem | apply mem_app)) rfl)) ?_
  refine e_take 5 rfl (by kernel_rfl) (by kernel_rfl) (by kernel_rfl) (by kernel_rfl) (fun _ _ => rfl) rfl (by repeat (first | exact HSub.refl _ | exact HSub.nil | refine HSub.takeC (by repeat (first | exact .one | exact .here | exact .all | apply Pick.cons | apply Pick.app)) ?_ | refine HSub.take (by repeat (first | exact .one | exact .here | exact .all | apply Pick.cons | apply Pick.app)) ?_ | exact HSub.of_pick (by repeat (first | exact .one | exact .here | exact .all | apply Pick.cons | apply Pick.app)))) (s_slice_hi rfl rfl (by omega)) ?_
  refine e_one 6 rfl (by kernel_rfl) ?_
  refine o_step rfl (s_nil rfl) ?_
  refine o_nil ?_
  refine x_oneS (by repeat (first | exact HSub.refl _ | exact HSub.nil | refine HSub.takeC (by repeat (first | exact .one | exact .here | exact .all | apply Pick.cons | apply Pick.app)) ?_ | refine HSub.take (by repeat (first | exact .one | exact .here | exact .all | apply Pick.cons | apply Pick.app)) ?_ | exact HSub.of_pick (by repeat (first | exact .one | exact .here | exact .all | apply Pick.cons | apply Pick.app)))) ?_
  refine e_one 7 rfl (by kernel_rfl) ?_
  refine o_step rfl (s_field rfl rfl (by decide)) ?_
  refine o_nil ?_
  refine x_oneS (by repeat (first | exact HSub.refl _ | exact HSub.nil | refine HSub.takeC (by repeat (first | exact .one | exact .here | exact .all | apply Pick.cons | apply Pick.app)) ?_ | refine HSub.take (by repeat (first | exact .one | exact .here | exact .all | apply Pick.cons | apply Pick.app)) ?_ | exact HSub.of_pick (by repeat (first | exact .one | exact .here | exact .all | apply Pick.cons | apply Pick.app)))) ?_
  refine e_one 8 rfl (by kernel_rfl) ?_
  refine o_store rfl rfl rfl (by repeat (first | exact .here | apply Upd.there | apply Upd.skip)) (by first | decide | omega | (simp; done) | (simp; omega)) rfl ?_
  refine o_nil ?_
  refine x_oneL rfl ?_
  refine e_done (by kernel_rfl) ?_
  refine x_then (hK1 _ _ ?_)
  refine c_seq fun _ hK2 => ?_
  refine c_region ?_
  refine o_step rfl (s_ld rfl (.own (by repeat (first | exact List.mem_cons_self | apply List.mem_cons_of_mem | apply mem_app)) rfl)) ?_
  refine o_step rfl (s_nil rfl) ?_
  refine o_step rfl (s_field rfl rfl (by decide)) ?_
  refine o_step rfl (s_ld rfl (.own (by repeat (first | exact List.mem_cons_self | apply List.mem_cons_of_mem | apply mem_app)) rfl)) ?_
  refine o_step rfl (s_eql rfl rfl) ?_
  refine o_nil ?_
  refine x_then (hK2 _ _ ?_)
  refine c_if rfl (fun he => ?_) (fun he => ?_)
  · skip
    refine c_drawE ([(bo, .cells [.int .i64 lim, f, .slice ka 0 kc, .int .i64 err, .int .i64 cnt].toArray 77 (0, 0)), (bt, .cells [.pointer (some ⟨bo, 0, none⟩)].toArray 75 (0, 0)), (b3, .cells [.int .i64 n].toArray 3 (0, 0))]) (fun i => Nat.beq i 8) ?_
    refine e_take 0 rfl (by kernel_rfl) (by kernel_rfl) (by kernel_rfl) (by kernel_rfl) (fun _ _ => rfl) rfl (by repeat (first | exact HSub.refl _ | exact HSub.nil | refine HSub.takeC (by repeat (first | exact .one | exact .here | exact .all | apply Pick.cons | apply Pick.app)) ?_ | refine HSub.take (by repeat (first | exact .one | exact .here | exact .all | apply Pick.cons | apply Pick.app)) ?_ | exact HSub.of_pick (by repeat (first | exact .one | exact .here | exact .all | apply Pick.cons | apply Pick.app)))) (s_ld rfl (.own (by repeat (first | exact List.mem_cons_self | apply List.mem_cons_of_mem | apply mem_app)) rfl)) ?_
    refine e_take 1 rfl (by kernel_rfl) (by kernel_rfl) (by kernel_rfl) (by kernel_rfl) (fun _ _ => rfl) rfl (by repeat (first | exact HSub.refl _ | exact HSub.nil | refine HSub.takeC (by repeat (first | exact .one | exact .here | exact .all | apply Pick.cons | apply Pick.app)) ?_ | refine HSub.take (by repeat (first | exact .one | exact .here | exact .all | apply Pick.cons | apply Pick.app)) ?_ | exact HSub.of_pick (by repeat (first | exact .one | exact .here | exact .all | apply Pick.cons | apply Pick.app)))) (s_nil rfl) ?_
    refine e_take 2 rfl (by kernel_rfl) (by kernel_rfl) (by kernel_rfl) (by kernel_rfl) (fun _ _ => rfl) rfl (by repeat (first | exact HSub.refl _ | exact HSub.nil | refine HSub.takeC (by repeat (first | exact .one | exact .here | exact .all | apply Pick.cons | apply Pick.app)) ?_ | refine HSub.take (by repeat (first | exact .one | exact .here | exact .all | apply Pick.cons | apply Pick.app)) ?_ | exact HSub.of_pick (by repeat (first | exact .one | exact .here | exact .all | apply Pick.cons | apply Pick.app)))) (s_field rfl rfl (by decide)) ?_
    refine e_take 3 rfl (by kernel_rfl) (by kernel_rfl) (by kernel_rfl) (by kernel_rfl) (fun _ _ => rfl) rfl (by repeat (first | exact HSub.refl _ | exact HSub.nil | refine HSub.takeC (by repeat (first | exact .one | exact .here | exact .all | apply Pick.cons | apply Pick.app)) ?_ | refine HSub.take (by repeat (first | exact .one | exact .here | exact .all | apply Pick.cons | apply Pick.app)) ?_ | exact HSub.of_pick (by repeat (first | exact .one | exact .here | exact .all | apply Pick.cons | apply Pick.app)))) (s_ld rfl (.own (by repeat (first | exact List.mem_cons_self | apply List.mem_cons_of_mem | apply mem_app)) rfl)) ?_
    refine e_take 4 rfl (by kernel_rfl) (by kernel_rfl) (by kernel_rfl) (by kernel_rfl) (fun _ _ => rfl) rfl (by repeat (first | exact HSub.refl _ | exact HSub.nil | refine HSub.takeC (by repeat (first | exact .one | exact .here | exact .all | apply Pick.cons | apply Pick.app)) ?_ | refine HSub.take (by repeat (first | exact .one | exact .here | exact .all | apply Pick.cons | apply Pick.app)) ?_ | exact HSub.of_pick (by repeat (first | exact .one | exact .here | exact .all | apply Pick.cons | apply Pick.app)))) (s_ld rfl (.own (by repeat (first | exact List.mem_cons_self | apply List.mem_cons_of_mem | apply mem_app)) rfl)) ?_
    refine e_take 5 rfl (by kernel_rfl) (by kernel_rfl) (by kernel_rfl) (by kernel_rfl) (fun _ _ => rfl) rfl (by repeat (first | exact HSub.refl _ | exact HSub.nil | refine HSub.takeC (by repeat (first | exact .one | exact .here | exact .all | apply Pick.cons | apply Pick.app)) ?_ | refine HSub.take (by repeat (first | exact .one | exact .here | exact .all | apply Pick.cons | apply Pick.app)) ?_ | exact HSub.of_pick (by repeat (first | exact .one | exact .here | exact .all | apply Pick.cons | apply Pick.app)))) (s_add rfl rfl (by omega)) ?_
    refine e_one 6 rfl (by kernel_rfl) ?_
    refine o_step rfl (s_nil rfl) ?_
    refine o_nil ?_
    refine x_oneS (by repeat (first | exact HSub.refl _ | exact HSub.nil | refine HSub.takeC (by repeat (first | exact .one | exact .here | exact .all | apply Pick.cons | apply Pick.app)) ?_ | refine HSub.take (by repeat (first | exact .one | exact .here | exact .all | apply Pick.cons | apply Pick.app)) ?_ | exact HSub.of_pick (by repeat (first | exact .one | exact .here | exact .all | apply Pick.cons | apply Pick.app)))) ?_
    refine e_one 7 rfl (by kernel_rfl) ?_
    refine o_step rfl (s_field rfl rfl (by decide)) ?_
    refine o_nil ?_
    refine x_oneS (by repeat (first | exact HSub.refl _ | exact HSub.nil | refine HSub.takeC (by repeat (first | exact .one | exact .here | exact .all | apply Pick.cons | apply Pick.app)) ?_ | refine HSub.take (by repeat (first | exact .one | exact .here | exact .all | apply Pick.cons | apply Pick.app)) ?_ | exact HSub.of_pick (by repeat (first | exact .one | exact .here | exact .all | apply Pick.cons | apply Pick.app)))) ?_
    refine e_one 8 rfl (by kernel_rfl) ?_
    refine o_store rfl rfl rfl (by repeat (first | exact .here | apply Upd.there | apply Upd.skip)) (by first | decide | omega | (simp; done) | (simp; omega)) rfl ?_
    refine o_nil ?_
    refine x_oneL rfl ?_
    refine e_done (by kernel_rfl) ?_
    exact x_end rfl (.nil) (by rw [if_pos he]; rfl)
  · skip
    refine c_skip ?_
    exact x_end rfl (.nil) (by rw [if_neg he]; rfl)

theorem handOn_raw (bo bs : Nat) (lim cnt fail serr : Int) (kept : List UInt8) (ka : Option Addr) (kc : Nat) (said gl : List (Sl UInt8)) (sa ga : Option Addr) (sc gc : Nat) (Sk So Si Sg : Hp) (hk : OwnS Eb 1 5 (.slice ka kept.length kc) kept Sk)
    (hO : OwnS Esl 1 35 (.slice sa said.length sc) said So) (hin : ∀ s ∈ said, RdS Eb s.v s.xs Si) (hg : OwnS Esl 1 35 (.slice ga gl.length gc) gl Sg) (hgl : gl.length = said.length) (hle : said.length ≤ 1099511627776) (hkl : kept.length ≤ 1099511627776) (hcn : 0 ≤ cnt ∧ cnt ≤ 1099511627776) : HL.Fn Try.prog 59 [.pointer (some ⟨bo, 0, none⟩)] (fun _ => True) ((bo, .cells [.int .i64 lim, (.func (.func 43) [.pointer (some ⟨bs, 0, none⟩)].toArray [].toArray), (.slice ka kept.length kc), .int .i64 0, .int .i64 cnt].toArray 77 (0, 0)) :: (Sk ++ ((bs, .cells [.pointer none, .string ⟨#[]⟩, .int .i64 fail, .int .i64 serr, .int .i64 said.length, .slice sa said.length sc, .slice ga gl.length gc].toArray 86 (0, 0)) :: (So ++ (Si ++ Sg))))) (fun v S' => v = .int .i64 (handE fail serr ⟨kept, 0, cnt, said.map Sl.xs⟩) ∧ StH bo bs lim fail serr (handS fail serr ⟨kept, 0, cnt, said.map Sl.xs⟩) S') := by
  refine fn_ofD Try.func59 rfl rfl rfl fun w0 hw => ?_
  refine c_seqD fun _ hK1 => ?_
  refine c_region ?_
  refine o_box rfl rfl rfl fun b1 => ?_
  refine o_step rfl (s_assign rfl) ?_
  refine o_nil ?_
  refine x_then (hK1 _ _ _ ?_)
  refine c_seqD fun _ hK2 => ?_
  refine c_region ?_
  refine o_step rfl (s_ld rfl (.own (by repeat (first | exact List.mem_cons_self | apply List.mem_cons_of_mem | apply mem_app)) rfl)) ?_
  refine o_step rfl (s_nil rfl) ?_
  refine o_step rfl (s_field rfl rfl (by decide)) ?_
  refine o_step rfl (s_ld rfl (.own (by repeat (first | exact List.mem_cons_self | apply List.mem_cons_of_mem | apply mem_app)) rfl)) ?_
  refine o_step rfl (s_len rfl) ?_
  refine o_alloc rfl rfl fun b3 => ?_
  refine o_store rfl rfl rfl (by repeat (first | exact .here | apply Upd.there | apply Upd.skip)) (by first | decide | omega | (simp; done) | (simp; omega)) rfl ?_
  refine o_nil ?_
  refine x_then (hK2 _ _ _ ?_)
  refine c_seqD fun _ hK3 => ?_
  refine c_seqD fun _ hK4 => ?_
  refine c_region ?_
  refine o_step rfl (s_ld rfl (.own (by repeat (first | exact List.mem_cons_self | apply List.mem_cons_of_mem | apply mem_app)) rfl)) ?_
  refine o_step rfl (s_eql rfl rfl) ?_
  refine o_nil ?_
  refine x_then (hK4 _ _ _ ?_)
  refine c_if rfl (fun hz => ?_) (fun hz => ?_)
  · skip
    have hk0 : kept = [] := List.eq_nil_of_length_eq_zero (by omega)
    refine c_seqD fun _ hK5 => ?_
    refine c_region ?_
    refine o_step rfl (s_assign rfl) ?_
    refine o_nil ?_
    refine x_then (hK5 _ _ _ ?_)
    refine c_ret ?_
    refine x_then_ret (?_)
    refine x_sub (Sub.refl _) (H' := ((bo, .cells [.int .i64 lim, (.func (.func 43) [.pointer (some ⟨bs, 0, none⟩)].toArray [].toArray), (.slice ka kept.length kc), .int .i64 0, .int .i64 cnt].toArray 77 (0, 0)) :: (Sk ++ ((bs, .cells [.pointer none, .string ⟨#[]⟩, .int .i64 fail, .int .i64 serr, .int .i64 said.length, .slice sa said.length sc, .slice ga gl.length gc].toArray 86 (0, 0)) :: (So ++ (Si ++ Sg)))))) (by repeat (first | exact HSub.refl _ | exact HSub.nil | refine HSub.takeC (by repeat (first | exact .one | exact .here | exact .all | apply Pick.cons | apply Pick.app)) ?_ | refine HSub.take (by repeat (first | exact .one | exact .here | exact .all | apply Pick.cons | apply Pick.app)) ?_ | exact HSub.of_pick (by repeat (first | exact .one | exact .here | exact .all | apply Pick.cons | apply Pick.app)))) ?_
    exact x_retD0 rfl rfl ⟨by rw [handE, if_pos hk0], by rw [handS, if_pos hk0]; exact ⟨_ :: Sk, _, rfl, .mk hk, .mk rfl hO hin hg hgl⟩⟩
  · skip
    refine c_skip ?_
    refine x_then (hK3 _ _ _ ?_)
    refine c_seqD fun _ hK6 => ?_
    refine c_region ?_
    refine o_step rfl (s_func (us := []) (vs := [_, _]) rfl rfl) ?_
    refine o_defer (us := []) (vs := []) (cs := [_, _]) rfl rfl ?_
    refine o_nil ?_
    refine x_then (hK6 _ _ _ ?_)
    refine c_seqD fun _ hK7 => ?_
    refine c_drawE ([(bo, .cells [.int .i64 lim, (.func (.func 43) [.pointer (some ⟨bs, 0, none⟩)].toArray [].toArray), (.slice ka kept.length kc), .int .i64 0, .int .i64 cnt].toArray 77 (0, 0)), (b1, .cells [.pointer (some ⟨bo, 0, none⟩)].toArray 75 (0, 0)), (b3, .cells [.int .i64 kept.length].toArray 3 (0, 0))]) (fun i => Nat.beq i 13) ?_
    refine e_take 0 rfl (by kernel_rfl) (by kernel_rfl) (by kernel_rfl) (by kernel_rfl) (fun _ _ => rfl) rfl (by repeat (first | exact HSub.refl _ | exact HSub.nil | refine HSub.takeC (by repeat (first | exact .one | exact .here | exact .all | apply Pick.cons | apply Pick.app)) ?_ | refine HSub.take (by repeat (first | exact .one | exact .here | exact .all | apply Pick.cons | apply Pick.app)) ?_ | exact HSub.of_pick (by repeat (first | exact .one | exact .here | exact .all | apply Pick.cons | apply Pick.app)))) (s_ld rfl (.own (by repeat (first | exact List.mem_cons_self | apply List.mem_cons_of_mem | apply mem_app)) rfl)) ?_
    refine e_take 1 rfl (by kernel_rfl) (by kernel_rfl) (by kernel_rfl) (by kernel_rfl) (fun _ _ => rfl) rfl (by repeat (first | exact HSub.refl _ | exact HSub.nil | refine HSub.takeC (by repeat (first | exact .one | exact .here | exact .all | apply Pick.cons | apply Pick.app)) ?_ | refine HSub.take (by repeat (first | exact .one | exact .here | exact .all | apply Pick.cons | apply Pick.app)) ?_ | exact HSub.of_pick (by repeat (first | exact .one | exact .here | exact .all | apply Pick.cons | apply Pick.app)))) (s_ld rfl (.own (by repeat (first | exact List.mem_cons_self | apply List.mem_cons_of_mem | apply mem_app)) rfl)) ?_
    refine e_take 2 rfl (by kernel_rfl) (by kernel_rfl) (by kernel_rfl) (by kernel_rfl) (fun _ _ => rfl) rfl (by repeat (first | exact HSub.refl _ | exact HSub.nil | refine HSub.takeC (by repeat (first | exact .one | exact .here | exact .all | apply Pick.cons | apply Pick.app)) ?_ | refine HSub.take (by repeat (first | exact .one | exact .here | exact .all | apply Pick.cons | apply Pick.app)) ?_ | exact HSub.of_pick (by repeat (first | exact .one | exact .here | exact .all | apply Pick.cons | apply Pick.app)))) (s_nil rfl) ?_
    refine e_take 3 rfl (by kernel_rfl) (by kernel_rfl) (by kernel_rfl) (by kernel_rfl) (fun _ _ => rfl) rfl (by repeat (first | exact HSub.refl _ | exact HSub.nil | refine HSub.takeC (by repeat (first | exact .one | exact .here | exact .all | apply Pick.cons | apply Pick.app)) ?_ | refine HSub.take (by repeat (first | exact .one | exact .here | exact .all | apply Pick.cons | apply Pick.app)) ?_ | exact HSub.of_pick (by repeat (first | exact .one | exact .here | exact .all | apply Pick.cons | apply Pick.app)))) (s_field rfl rfl (by decide)) ?_
    refine e_take 4 rfl (by kernel_rfl) (by kernel_rfl) (by kernel_rfl) (by kernel_rfl) (fun _ _ => rfl) rfl (by repeat (first | exact HSub.refl _ | exact HSub.nil | refine HSub.takeC (by repeat (first | exact .one | exact .here | exact .all | apply Pick.cons | apply Pick.app)) ?_ | refine HSub.take (by repeat (first | exact .one | exact .here | exact .all | apply Pick.cons | apply Pick.app)) ?_ | exact HSub.of_pick (by repeat (first | exact .one | exact .here | exact .all | apply Pick.cons | apply Pick.app)))) (s_ld rfl (.own (by repeat (first | exact List.mem_cons_self | apply List.mem_cons_of_mem | apply mem_app)) rfl)) ?_
    refine e_take 5 rfl (by kernel_rfl) (by kernel_rfl) (by kernel_rfl) (by kernel_rfl) (fun _ _ => rfl) rfl (by repeat (first | exact HSub.refl _ | exact HSub.nil | refine HSub.takeC (by repeat (first | exact .one | exact .here | exact .all | apply Pick.cons | apply Pick.app)) ?_ | refine HSub.take (by repeat (first | exact .one | exact .here | exact .all | apply Pick.cons | apply Pick.app)) ?_ | exact HSub.of_pick (by repeat (first | exact .one | exact .here | exact .all | apply Pick.cons | apply Pick.app)))) (s_ld rfl (.own (by repeat (first | exact List.mem_cons_self | apply List.mem_cons_of_mem | apply mem_app)) rfl)) ?_
    refine e_take 6 rfl (by kernel_rfl) (by kernel_rfl) (by kernel_rfl) (by kernel_rfl) (fun _ _ => rfl) rfl (by repeat (first | exact HSub.refl _ | exact HSub.nil | refine HSub.takeC (by repeat (first | exact .one | exact .here | exact .all | apply Pick.cons | apply Pick.app)) ?_ | refine HSub.take (by repeat (first | exact .one | exact .here | exact .all | apply Pick.cons | apply Pick.app)) ?_ | exact HSub.of_pick (by repeat (first | exact .one | exact .here | exact .all | apply Pick.cons | apply Pick.app)))) (s_nil rfl) ?_
    refine e_take 7 rfl (by kernel_rfl) (by kernel_rfl) (by kernel_rfl) (by kernel_rfl) (fun _ _ => rfl) rfl (by repeat (first | exact HSub.refl _ | exact HSub.nil | refine HSub.takeC (by repeat (first | exact .one | exact .here | exact .all | apply Pick.cons | apply Pick.app)) ?_ | refine HSub.take (by repeat (first | exact .one | exact .here | exact .all | apply Pick.cons | apply Pick.app)) ?_ | exact HSub.of_pick (by repeat (first | exact .one | exact .here | exact .all | apply Pick.cons | apply Pick.app)))) (s_field rfl rfl (by decide)) ?_
    refine e_take 8 rfl (by kernel_rfl) (by kernel_rfl) (by kernel_rfl) (by kernel_rfl) (fun _ _ => rfl) rfl (by repeat (first | exact HSub.refl _ | exact HSub.nil | refine HSub.takeC (by repeat (first | exact .one | exact .here | exact .all | apply Pick.cons | apply Pick.app)) ?_ | refine HSub.take (by repeat (first | exact .one | exact .here | exact .all | apply Pick.cons | apply Pick.app)) ?_ | exact HSub.of_pick (by repeat (first | exact .one | exact .here | exact .all | apply Pick.cons | apply Pick.app)))) (s_ld rfl (.own (by repeat (first | exact List.mem_cons_self | apply List.mem_cons_of_mem | apply mem_app)) rfl)) ?_
    refine e_one 9 rfl (by kernel_rfl) ?_
    refine o_call (clone_fn ka kc kept) rfl rfl rfl (by exact .nil) (fun w st => (hk.rdk (by repeat (first | exact HIn.here | exact HIn.all | exact HIn.one | apply HIn.cons | apply HIn.app))).out w st) (fun v21 S21 ⟨a21, c21, hv21, hS21⟩ => ?_)
    subst hv21
    refine o_nil ?_
    refine x_oneS (by repeat (first | exact HSub.refl _ | exact HSub.nil | refine HSub.takeC (by repeat (first | exact .one | exact .here | exact .all | apply Pick.cons | apply Pick.app)) ?_ | refine HSub.take (by repeat (first | exact .one | exact .here | exact .all | apply Pick.cons | apply Pick.app)) ?_ | exact HSub.of_pick (by repeat (first | exact .one | exact .here | exact .all | apply Pick.cons | apply Pick.app)))) ?_
    refine e_one 10 rfl (by kernel_rfl) ?_
    refine o_callC (us := [_]) (vs := [_]) (cs := []) (take_raw bs fail serr said gl sa ga a21 sc gc c21 kept So Si Sg S21 hO hin hg hgl hS21 hle) rfl rfl rfl ((Pick.takeC (by repeat (first | exact .one | exact .here | exact .all | apply Pick.cons | apply Pick.app)) (Pick.takeA (by repeat (first | exact .one | exact .here | exact .all | apply Pick.cons | apply Pick.app)) (Pick.takeA (by repeat (first | exact .one | exact .here | exact .all | apply Pick.cons | apply Pick.app)) (Pick.takeA (by repeat (first | exact .one | exact .here | exact .all | apply Pick.cons | apply Pick.app)) (by repeat (first | exact .one | exact .here | exact .all | apply Pick.cons | apply Pick.app))))))) (fun _ _ => trivial) (fun v22 S22 ⟨hv22, hS22⟩ => ?_)
    subst hv22
    refine o_nil ?_
    refine x_oneS (by repeat (first | exact HSub.refl _ | exact HSub.nil | refine HSub.takeC (by repeat (first | exact .one | exact .here | exact .all | apply Pick.cons | apply Pick.app)) ?_ | refine HSub.take (by repeat (first | exact .one | exact .here | exact .all | apply Pick.cons | apply Pick.app)) ?_ | exact HSub.of_pick (by repeat (first | exact .one | exact .here | exact .all | apply Pick.cons | apply Pick.app)))) ?_
    refine e_one 11 rfl (by kernel_rfl) ?_
    refine o_step rfl (s_nil rfl) ?_
    refine o_nil ?_
    refine x_oneS (by repeat (first | exact HSub.refl _ | exact HSub.nil | refine HSub.takeC (by repeat (first | exact .one | exact .here | exact .all | apply Pick.cons | apply Pick.app)) ?_ | refine HSub.take (by repeat (first | exact .one | exact .here | exact .all | apply Pick.cons | apply Pick.app)) ?_ | exact HSub.of_pick (by repeat (first | exact .one | exact .here | exact .all | apply Pick.cons | apply Pick.app)))) ?_
    refine e_one 12 rfl (by kernel_rfl) ?_
    refine o_step rfl (s_field rfl rfl (by decide)) ?_
    refine o_nil ?_
    refine x_oneS (by repeat (first | exact HSub.refl _ | exact HSub.nil | refine HSub.takeC (by repeat (first | exact .one | exact .here | exact .all | apply Pick.cons | apply Pick.app)) ?_ | refine HSub.take (by repeat (first | exact .one | exact .here | exact .all | apply Pick.cons | apply Pick.app)) ?_ | exact HSub.of_pick (by repeat (first | exact .one | exact .here | exact .all | apply Pick.cons | apply Pick.app)))) ?_
    refine e_one 13 rfl (by kernel_rfl) ?_
    refine o_store rfl rfl rfl (by repeat (first | exact .here | apply Upd.there | apply Upd.skip)) (by first | decide | omega | (simp; done) | (simp; omega)) rfl ?_
    refine o_nil ?_
    refine x_oneL rfl ?_
    refine e_done (by kernel_rfl) ?_
    refine x_then (hK7 _ _ _ ?_)
    refine c_seqD fun _ hK8 => ?_
    refine c_region ?_
    refine o_step rfl (s_ld rfl (.own (by repeat (first | exact List.mem_cons_self | apply List.mem_cons_of_mem | apply mem_app)) rfl)) ?_
    refine o_step rfl (s_nil rfl) ?_
    refine o_step rfl (s_field rfl rfl (by decide)) ?_
    refine o_step rfl (s_ld rfl (.own (by repeat (first | exact List.mem_cons_self | apply List.mem_cons_of_mem | apply mem_app)) rfl)) ?_
    refine o_step rfl (s_assign rfl) ?_
    refine o_nil ?_
    refine x_then (hK8 _ _ _ ?_)
    refine c_ret ?_
    refine ?_
    exact x_retD1 (us := []) (cs := [_, _]) (handOnD bo b1 b3 lim _ cnt kept.length _ ka kept.length kc hcn (by omega)) rfl rfl (Pick.takeC (by repeat (first | exact .one | exact .here | exact .all | apply Pick.cons | apply Pick.app)) (Pick.takeC (by repeat (first | exact .one | exact .here | exact .all | apply Pick.cons | apply Pick.app)) (by repeat (first | exact .one | exact .here | exact .all | apply Pick.cons | apply Pick.app)))) (fun _ _ => trivial) (fun v' S' hS' => by
      subst hS'
      exact ⟨_ :: (Sk ++ S22), by repeat (first | exact HSub.refl _ | exact HSub.nil | refine HSub.takeC (by repeat (first | exact .one | exact .here | exact .all | apply Pick.cons | apply Pick.app)) ?_ | refine HSub.take (by repeat (first | exact .one | exact .here | exact .all | apply Pick.cons | apply Pick.app)) ?_ | exact HSub.of_pick (by repeat (first | exact .one | exact .here | exact .all | apply Pick.cons | apply Pick.app))), handOn_end hz hk hS22⟩)
end Go.Proofs.Ythbnkifjplbhgaa
