/- Part of the proofs over this seat: see the text that holds the theorem. Conditions: each theorem bears its own. -/
import Derived.Test.YthbnkifjplbhgaaW16
import Derived.Test.YthbnkifjplbhgaaM8
namespace Go.Proofs.Ythbnkifjplbhgaa
open Go Go.HL Go.Proofs
theorem write_raw (bo bs : Nat) (lim cnt fail serr : Int) (kept : List UInt8) (ka : Option Addr) (kc : Nat) (said gl : List (Sl UInt8)) (sa ga : Option Addr) (sc gc : Nat) (Sk So Si Sg : Hp) (hk : OwnS Eb 1 5 (.slice ka kept.length kc) kept Sk)
    (hO : OwnS Esl 1 35 (.slice sa said.length sc) said So) (hin : ∀ s ∈ said, RdS Eb s.v s.xs Si) (hg : OwnS Esl 1 35 (.slice ga gl.length gc) gl Sg) (hgl : gl.length = said.length) (hle : said.length ≤ 1099511627776)  (hcn : 0 ≤ cnt ∧ cnt ≤ 1099511627776) (err : Int) (a : Option Addr) (c : Nat) (sls : List (Sl UInt8)) (Sr : Hp) (hsr : IsSl (.slice a sls.length c) sls.length) (hr : RdS Esl (.slice a sls.length c) sls Sr) (hri : ∀ s ∈ sls, RdS Eb s.v s.xs Sr) (hkl : (catK kept sls sls.length).length ≤ 1099511627776) : HL.Fn Try.prog 35 [.pointer (some ⟨bo, 0, none⟩), .slice a sls.length c] (fun _ => True) ((bo, .cells [.int .i64 lim, (.func (.func 43) [.pointer (some ⟨bs, 0, none⟩)].toArray [].toArray), (.slice ka kept.length kc), .int .i64 err, .int .i64 cnt].toArray 77 (0, 0)) :: (Sk ++ ((bs, .cells [.pointer none, .string ⟨#[]⟩, .int .i64 fail, .int .i64 serr, .int .i64 said.length, .slice sa said.length sc, .slice ga gl.length gc].toArray 86 (0, 0)) :: (So ++ (Si ++ (Sg ++ Sr)))))) (fun v S' => v = .int .i64 (writeE lim fail serr ⟨kept, err, cnt, said.map Sl.xs⟩ (sls.map Sl.xs).flatten) ∧ StH bo bs lim fail serr (writeS lim fail serr ⟨kept, err, cnt, said.map Sl.xs⟩ (sls.map Sl.xs).flatten) S') := by
  refine fn_of Try.func35 rfl rfl rfl fun w0 hw => ?_
  have hbr := hsr.le
  refine c_seq fun _ hK1 => ?_
  refine c_region ?_
  refine o_step rfl (s_assign rfl) ?_
  refine o_nil ?_
  refine x_then (hK1 _ _ ?_)
  refine c_seq fun _ hK2 => ?_
  refine c_seq fun _ hK3 => ?_
  refine c_region ?_
  refine o_step rfl (s_move rfl) ?_
  refine o_callP (err_fn bo lim err cnt (.func 43) [.pointer (some ⟨bs, 0, none⟩)].toArray [].toArray (.slice ka kept.length kc)) rfl rfl rfl (fun w st => (RdPK.own (by repeat (first | exact List.mem_cons_self | apply List.mem_cons_of_mem | apply mem_assoc | apply mem_app))).out w st) (fun v9 hv9 => ?_)
  subst hv9
  refine o_step rfl (s_assign rfl) ?_
  refine o_nil ?_
  refine x_then (hK3 _ _ ?_)
  refine c_seq fun _ hK4 => ?_
  refine c_region ?_
  refine o_step rfl (s_move rfl) ?_
  refine o_step rfl (s_neq rfl rfl) ?_
  refine o_nil ?_
  refine x_then (hK4 _ _ ?_)
  refine c_if rfl (fun he => ?_) (fun he => ?_)
  · skip
    refine c_seq fun _ hK5 => ?_
    refine c_region ?_
    refine o_step rfl (s_move rfl) ?_
    refine o_step rfl (s_assign rfl) ?_
    refine o_nil ?_
    refine x_then (hK5 _ _ ?_)
    refine c_ret ?_
    refine x_then_ret (?_)
    refine x_sub (Sub.refl _) (H' := ((bo, .cells [.int .i64 lim, (.func (.func 43) [.pointer (some ⟨bs, 0, none⟩)].toArray [].toArray), (.slice ka kept.length kc), .int .i64 err, .int .i64 cnt].toArray 77 (0, 0)) :: (Sk ++ ((bs, .cells [.pointer none, .string ⟨#[]⟩, .int .i64 fail, .int .i64 serr, .int .i64 said.length, .slice sa said.length sc, .slice ga gl.length gc].toArray 86 (0, 0)) :: (So ++ (Si ++ Sg)))))) (by repeat (first | exact HSub.refl _ | exact HSub.nil | refine HSub.takeC (by first | ((repeat (first | exact .one | exact .here | exact .all | apply Pick.cons | apply Pick.app)); done) | ((repeat (first | exact .one | exact .here | exact .all | apply Pick.cons | apply Pick.assoc | apply Pick.app)); done) | exact Pick.takeA (by repeat (first | exact .one | exact .here | exact .all | apply Pick.cons | apply Pick.assoc | apply Pick.app)) (by repeat (first | exact .one | exact .here | exact .all | apply Pick.cons | apply Pick.assoc | apply Pick.app))) ?_ | refine HSub.take (by first | ((repeat (first | exact .one | exact .here | exact .all | apply Pick.cons | apply Pick.app)); done) | ((repeat (first | exact .one | exact .here | exact .all | apply Pick.cons | apply Pick.assoc | apply Pick.app)); done) | exact Pick.takeA (by repeat (first | exact .one | exact .here | exact .all | apply Pick.cons | apply Pick.assoc | apply Pick.app)) (by repeat (first | exact .one | exact .here | exact .all | apply Pick.cons | apply Pick.assoc | apply Pick.app))) ?_ | exact HSub.of_pick (by first | ((repeat (first | exact .one | exact .here | exact .all | apply Pick.cons | apply Pick.app)); done) | ((repeat (first | exact .one | exact .here | exact .all | apply Pick.cons | apply Pick.assoc | apply Pick.app)); done) | exact Pick.takeA (by repeat (first | exact .one | exact .here | exact .all | apply Pick.cons | apply Pick.assoc | apply Pick.app)) (by repeat (first | exact .one | exact .here | exact .all | apply Pick.cons | apply Pick.assoc | apply Pick.app))))) ?_
    exact x_ret rfl (.tmp rfl (.nil)) (⟨by rw [writeE, if_pos he]; rfl, by rw [writeS, if_pos he]; exact ⟨_ :: Sk, _, rfl, .mk hk, .mk rfl hO hin hg hgl⟩⟩)
  · skip
    obtain rfl : err = 0 := Decidable.not_not.1 he
    refine c_skip ?_
    refine x_then (hK2 _ _ ?_)
    refine c_seq fun _ hK6 => ?_
    refine c_seq fun _ hK7 => ?_
    refine c_region ?_
    refine o_step rfl (s_move rfl) ?_
    refine o_step rfl (s_len rfl) ?_
    refine o_step rfl (s_move rfl) ?_
    refine o_nil ?_
    refine x_then (hK7 _ _ ?_)
    refine c_block ?_
    refine c_loop4 (fun (j : Nat) (ka2 : Option Addr) (kc2 : Nat) (Sk2 : Hp) => j ≤ sls.length ∧ OwnS Eb 1 5 (.slice ka2 (catK kept sls j).length kc2) (catK kept sls j) Sk2) (fun (j : Nat) (ka2 : Option Addr) (kc2 : Nat) (Sk2 : Hp) => [(15, .int .i64 j)]) [(0, _), (4, _), (13, _), (14, _)] (fun (j : Nat) (ka2 : Option Addr) (kc2 : Nat) (Sk2 : Hp) => ((bo, .cells [.int .i64 lim, (.func (.func 43) [.pointer (some ⟨bs, 0, none⟩)].toArray [].toArray), (.slice ka2 (catK kept sls j).length kc2), .int .i64 0, .int .i64 cnt].toArray 77 (0, 0)) :: (Sk2 ++ ((bs, .cells [.pointer none, .string ⟨#[]⟩, .int .i64 fail, .int .i64 serr, .int .i64 said.length, .slice sa said.length sc, .slice ga gl.length gc].toArray 86 (0, 0)) :: (So ++ (Si ++ (Sg ++ Sr))))))) (fun (j : Nat) (ka2 : Option Addr) (kc2 : Nat) (Sk2 : Hp) => sls.length - j) 0 ka kc Sk ⟨by omega, by rw [catK_zero]; exact hk⟩ (by repeat (first | exact Sub.nil | refine Sub.cons rfl ?_)) (by repeat (first | exact Sub.nil | refine Sub.cons rfl ?_)) (by rw [catK_zero]; exact HSub.refl _) ?_
    rintro j ka2 kc2 Sk2 ⟨hj, hSk⟩
    refine c_seq fun _ hK8 => ?_
    refine c_region ?_
    refine o_step rfl (s_lss rfl rfl) ?_
    refine o_nil ?_
    refine x_then (hK8 _ _ ?_)
    refine c_seq fun _ hK9 => ?_
    refine c_if rfl (fun hlt => ?_) (fun hlt => ?_)
    · skip
      have hmem := row0_mem (sls := sls) (j := j) (by omega)
      have hcl := catK_mono (kept := kept) (sls := sls) (i := j + 1) (by omega)
      rw [catK_succ (by omega), List.length_append] at hcl
      refine c_skip ?_
      refine x_then (hK9 _ _ ?_)
      refine c_seq fun _ hK10 => ?_
      refine c_block ?_
      refine c_seq fun _ hK11 => ?_
      refine c_region ?_
      refine o_step rfl (s_idx rfl rfl (by assumption) (by omega)) ?_
      refine o_step rfl (s_ld rfl ((hr.rdk (by repeat (first | exact HIn.here | exact HIn.all | exact HIn.one | apply HIn.cons | apply HIn.assoc | apply HIn.app))).ld j 0 (row0_get (by omega)) rfl (by decide) (by omega))) ?_
      refine o_step rfl (s_assign rfl) ?_
      refine o_nil ?_
      refine x_then (hK11 _ _ ?_)
      refine c_region ?_
      refine o_step rfl (s_move rfl) ?_
      refine o_step rfl (s_move rfl) ?_
      refine o_step rfl (s_nil rfl) ?_
      refine o_step rfl (s_field rfl rfl (by decide)) ?_
      refine o_step rfl (s_ld rfl (.own (by repeat (first | exact List.mem_cons_self | apply List.mem_cons_of_mem | apply mem_assoc | apply mem_app)) rfl)) ?_
      refine o_step rfl (s_move rfl) ?_
      refine o_app hSk ((hri _ hmem).rdk (by repeat (first | exact HIn.here | exact HIn.all | exact HIn.one | apply HIn.cons | apply HIn.assoc | apply HIn.app))) rfl rfl rfl rfl (by omega) (by omega) rfl (by first | ((repeat (first | exact .one | exact .here | exact .all | apply Pick.cons | apply Pick.app)); done) | ((repeat (first | exact .one | exact .here | exact .all | apply Pick.cons | apply Pick.assoc | apply Pick.app)); done) | exact Pick.takeA (by repeat (first | exact .one | exact .here | exact .all | apply Pick.cons | apply Pick.assoc | apply Pick.app)) (by repeat (first | exact .one | exact .here | exact .all | apply Pick.cons | apply Pick.assoc | apply Pick.app))) fun a25 c25 S25 hS25 => ?_
      refine o_step rfl (s_nil rfl) ?_
      refine o_step rfl (s_field rfl rfl (by decide)) ?_
      refine o_store rfl rfl rfl (by repeat (first | exact .here | apply Upd.there | apply Upd.assoc | apply Upd.skip)) (by first | decide | omega | (simp; done) | (simp; omega)) rfl ?_
      refine o_nil ?_
      refine x_block ?_
      refine x_then (hK10 _ _ ?_)
      refine c_region ?_
      refine o_step rfl (s_add rfl rfl (by omega)) ?_
      refine o_step rfl (s_move rfl) ?_
      refine o_nil ?_
      exact x_then (x_inv (j + 1, a25, c25, S25) ⟨by omega, by rw [catK_succ (by omega)]; exact hS25⟩ (by first | omega | (dsimp only; omega)) (by repeat (first | exact Sub.nil | refine Sub.cons rfl ?_)) (by rw [catK_succ (by omega)]; repeat (first | exact HSub.refl _ | exact HSub.nil | refine HSub.takeC (by first | ((repeat (first | exact .one | exact .here | exact .all | apply Pick.cons | apply Pick.app)); done) | ((repeat (first | exact .one | exact .here | exact .all | apply Pick.cons | apply Pick.assoc | apply Pick.app)); done) | exact Pick.takeA (by repeat (first | exact .one | exact .here | exact .all | apply Pick.cons | apply Pick.assoc | apply Pick.app)) (by repeat (first | exact .one | exact .here | exact .all | apply Pick.cons | apply Pick.assoc | apply Pick.app))) ?_ | refine HSub.take (by first | ((repeat (first | exact .one | exact .here | exact .all | apply Pick.cons | apply Pick.app)); done) | ((repeat (first | exact .one | exact .here | exact .all | apply Pick.cons | apply Pick.assoc | apply Pick.app)); done) | exact Pick.takeA (by repeat (first | exact .one | exact .here | exact .all | apply Pick.cons | apply Pick.assoc | apply Pick.app)) (by repeat (first | exact .one | exact .here | exact .all | apply Pick.cons | apply Pick.assoc | apply Pick.app))) ?_ | exact HSub.of_pick (by first | ((repeat (first | exact .one | exact .here | exact .all | apply Pick.cons | apply Pick.app)); done) | ((repeat (first | exact .one | exact .here | exact .all | apply Pick.cons | apply Pick.assoc | apply Pick.app)); done) | exact Pick.takeA (by repeat (first | exact .one | exact .here | exact .all | apply Pick.cons | apply Pick.assoc | apply Pick.app)) (by repeat (first | exact .one | exact .here | exact .all | apply Pick.cons | apply Pick.assoc | apply Pick.app))))))
    · skip
      obtain rfl : j = sls.length := by omega
      refine c_exit ?_
      refine x_then_exit ?_
      refine x_then_exit ?_
      refine x_block_exit ?_
      refine x_then (hK6 _ _ ?_)
      refine c_seq fun _ hK12 => ?_
      refine c_seq fun _ hK13 => ?_
      refine c_quiet (by kernel_rfl) ?_
      refine .op rfl (s_move rfl) ?_
      refine .op rfl (s_nil rfl) ?_
      refine .op rfl (s_field rfl rfl (by decide)) ?_
      refine .op rfl (s_ld rfl (.own (by repeat (first | exact List.mem_cons_self | apply List.mem_cons_of_mem | apply mem_assoc | apply mem_app)) rfl)) ?_
      refine .op rfl (s_len rfl) ?_
      refine .op rfl (s_move rfl) ?_
      refine .op rfl (s_nil rfl) ?_
      refine .op rfl (s_field rfl rfl (by decide)) ?_
      refine .op rfl (s_ld rfl (.own (by repeat (first | exact List.mem_cons_self | apply List.mem_cons_of_mem | apply mem_assoc | apply mem_app)) rfl)) ?_
      refine .op rfl (s_lss rfl rfl) ?_
      refine .nil ?_
      refine x_then (hK13 _ _ ?_)
      refine c_if rfl (fun hlm => ?_) (fun hlm => ?_)
      · skip
        refine c_seq fun _ hK14 => ?_
        refine c_region ?_
        refine o_step rfl (s_assign rfl) ?_
        refine o_nil ?_
        refine x_then (hK14 _ _ ?_)
        refine c_ret ?_
        refine x_then_ret (?_)
        refine x_sub (Sub.refl _) (H' := ((bo, .cells [.int .i64 lim, (.func (.func 43) [.pointer (some ⟨bs, 0, none⟩)].toArray [].toArray), (.slice ka2 (catK kept sls sls.length).length kc2), .int .i64 0, .int .i64 cnt].toArray 77 (0, 0)) :: (Sk2 ++ ((bs, .cells [.pointer none, .string ⟨#[]⟩, .int .i64 fail, .int .i64 serr, .int .i64 said.length, .slice sa said.length sc, .slice ga gl.length gc].toArray 86 (0, 0)) :: (So ++ (Si ++ Sg)))))) (by repeat (first | exact HSub.refl _ | exact HSub.nil | refine HSub.takeC (by first | ((repeat (first | exact .one | exact .here | exact .all | apply Pick.cons | apply Pick.app)); done) | ((repeat (first | exact .one | exact .here | exact .all | apply Pick.cons | apply Pick.assoc | apply Pick.app)); done) | exact Pick.takeA (by repeat (first | exact .one | exact .here | exact .all | apply Pick.cons | apply Pick.assoc | apply Pick.app)) (by repeat (first | exact .one | exact .here | exact .all | apply Pick.cons | apply Pick.assoc | apply Pick.app))) ?_ | refine HSub.take (by first | ((repeat (first | exact .one | exact .here | exact .all | apply Pick.cons | apply Pick.app)); done) | ((repeat (first | exact .one | exact .here | exact .all | apply Pick.cons | apply Pick.assoc | apply Pick.app)); done) | exact Pick.takeA (by repeat (first | exact .one | exact .here | exact .all | apply Pick.cons | apply Pick.assoc | apply Pick.app)) (by repeat (first | exact .one | exact .here | exact .all | apply Pick.cons | apply Pick.assoc | apply Pick.app))) ?_ | exact HSub.of_pick (by first | ((repeat (first | exact .one | exact .here | exact .all | apply Pick.cons | apply Pick.app)); done) | ((repeat (first | exact .one | exact .here | exact .all | apply Pick.cons | apply Pick.assoc | apply Pick.app)); done) | exact Pick.takeA (by repeat (first | exact .one | exact .here | exact .all | apply Pick.cons | apply Pick.assoc | apply Pick.app)) (by repeat (first | exact .one | exact .here | exact .all | apply Pick.cons | apply Pick.assoc | apply Pick.app))))) ?_
        rw [catK_all] at hlm hSk ⊢
        exact x_ret rfl (.tmp rfl (.nil)) (⟨by rw [writeE, if_neg (by simp), if_pos hlm]; rfl, by rw [writeS, if_neg (by simp), if_pos hlm]; exact ⟨_ :: Sk2, _, rfl, .mk (kept := _ ++ _) hSk, .mk rfl hO hin hg hgl⟩⟩)
      · skip
        refine c_skip ?_
        refine x_then (hK12 _ _ ?_)
        refine c_seq fun _ hK15 => ?_
        refine c_region ?_
        refine o_step rfl (s_move rfl) ?_
        refine o_call (handOn_raw bo bs lim cnt fail serr (catK kept sls sls.length) ka2 kc2 said gl sa ga sc gc Sk2 So Si Sg hSk hO hin hg hgl hle hkl hcn) rfl rfl rfl ((Pick.takeC (by first | ((repeat (first | exact .one | exact .here | exact .all | apply Pick.cons | apply Pick.app)); done) | ((repeat (first | exact .one | exact .here | exact .all | apply Pick.cons | apply Pick.assoc | apply Pick.app)); done) | exact Pick.takeA (by repeat (first | exact .one | exact .here | exact .all | apply Pick.cons | apply Pick.assoc | apply Pick.app)) (by repeat (first | exact .one | exact .here | exact .all | apply Pick.cons | apply Pick.assoc | apply Pick.app))) (Pick.takeA (by first | ((repeat (first | exact .one | exact .here | exact .all | apply Pick.cons | apply Pick.app)); done) | ((repeat (first | exact .one | exact .here | exact .all | apply Pick.cons | apply Pick.assoc | apply Pick.app)); done) | exact Pick.takeA (by repeat (first | exact .one | exact .here | exact .all | apply Pick.cons | apply Pick.assoc | apply Pick.app)) (by repeat (first | exact .one | exact .here | exact .all | apply Pick.cons | apply Pick.assoc | apply Pick.app))) (Pick.takeC (by first | ((repeat (first | exact .one | exact .here | exact .all | apply Pick.cons | apply Pick.app)); done) | ((repeat (first | exact .one | exact .here | exact .all | apply Pick.cons | apply Pick.assoc | apply Pick.app)); done) | exact Pick.takeA (by repeat (first | exact .one | exact .here | exact .all | apply Pick.cons | apply Pick.assoc | apply Pick.app)) (by repeat (first | exact .one | exact .here | exact .all | apply Pick.cons | apply Pick.assoc | apply Pick.app))) (Pick.takeA (by first | ((repeat (first | exact .one | exact .here | exact .all | apply Pick.cons | apply Pick.app)); done) | ((repeat (first | exact .one | exact .here | exact .all | apply Pick.cons | apply Pick.assoc | apply Pick.app)); done) | exact Pick.takeA (by repeat (first | exact .one | exact .here | exact .all | apply Pick.cons | apply Pick.assoc | apply Pick.app)) (by repeat (first | exact .one | exact .here | exact .all | apply Pick.cons | apply Pick.assoc | apply Pick.app))) (Pick.takeA (by first | ((repeat (first | exact .one | exact .here | exact .all | apply Pick.cons | apply Pick.app)); done) | ((repeat (first | exact .one | exact .here | exact .all | apply Pick.cons | apply Pick.assoc | apply Pick.app)); done) | exact Pick.takeA (by repeat (first | exact .one | exact .here | exact .all | apply Pick.cons | apply Pick.assoc | apply Pick.app)) (by repeat (first | exact .one | exact .here | exact .all | apply Pick.cons | apply Pick.assoc | apply Pick.app))) (by first | ((repeat (first | exact .one | exact .here | exact .all | apply Pick.cons | apply Pick.app)); done) | ((repeat (first | exact .one | exact .here | exact .all | apply Pick.cons | apply Pick.assoc | apply Pick.app)); done) | exact Pick.takeA (by repeat (first | exact .one | exact .here | exact .all | apply Pick.cons | apply Pick.assoc | apply Pick.app)) (by repeat (first | exact .one | exact .here | exact .all | apply Pick.cons | apply Pick.assoc | apply Pick.app))))))))) (fun _ _ => trivial) (fun v40 S40 ⟨hv40, hS40⟩ => ?_)
        subst hv40
        refine o_step rfl (s_assign rfl) ?_
        refine o_nil ?_
        refine x_then (hK15 _ _ ?_)
        refine c_ret ?_
        refine ?_
        refine x_sub (Sub.refl _) (H' := S40) (by repeat (first | exact HSub.refl _ | exact HSub.nil | refine HSub.takeC (by first | ((repeat (first | exact .one | exact .here | exact .all | apply Pick.cons | apply Pick.app)); done) | ((repeat (first | exact .one | exact .here | exact .all | apply Pick.cons | apply Pick.assoc | apply Pick.app)); done) | exact Pick.takeA (by repeat (first | exact .one | exact .here | exact .all | apply Pick.cons | apply Pick.assoc | apply Pick.app)) (by repeat (first | exact .one | exact .here | exact .all | apply Pick.cons | apply Pick.assoc | apply Pick.app))) ?_ | refine HSub.take (by first | ((repeat (first | exact .one | exact .here | exact .all | apply Pick.cons | apply Pick.app)); done) | ((repeat (first | exact .one | exact .here | exact .all | apply Pick.cons | apply Pick.assoc | apply Pick.app)); done) | exact Pick.takeA (by repeat (first | exact .one | exact .here | exact .all | apply Pick.cons | apply Pick.assoc | apply Pick.app)) (by repeat (first | exact .one | exact .here | exact .all | apply Pick.cons | apply Pick.assoc | apply Pick.app))) ?_ | exact HSub.of_pick (by first | ((repeat (first | exact .one | exact .here | exact .all | apply Pick.cons | apply Pick.app)); done) | ((repeat (first | exact .one | exact .here | exact .all | apply Pick.cons | apply Pick.assoc | apply Pick.app)); done) | exact Pick.takeA (by repeat (first | exact .one | exact .here | exact .all | apply Pick.cons | apply Pick.assoc | apply Pick.app)) (by repeat (first | exact .one | exact .here | exact .all | apply Pick.cons | apply Pick.assoc | apply Pick.app))))) ?_
        rw [catK_all] at hS40
        exact x_ret rfl (.tmp rfl (.nil)) (⟨by rw [catK_all, writeE, if_neg (by simp), if_neg (fun h => hlm (catK_lt.2 h))]; rfl, by rw [writeS, if_neg (by simp), if_neg (fun h => hlm (catK_lt.2 h))]; exact hS40⟩)

theorem flush_raw (bo bs : Nat) (lim cnt fail serr : Int) (kept : List UInt8) (ka : Option Addr) (kc : Nat) (said gl : List (Sl UInt8)) (sa ga : Option Addr) (sc gc : Nat) (Sk So Si Sg : Hp) (hk : OwnS Eb 1 5 (.slice ka kept.length kc) kept Sk)
    (hO : OwnS Esl 1 35 (.slice sa said.length sc) said So) (hin : ∀ s ∈ said, RdS Eb s.v s.xs Si) (hg : OwnS Esl 1 35 (.slice ga gl.length gc) gl Sg) (hgl : gl.length = said.length) (hle : said.length ≤ 1099511627776) (err : Int) (hkl : kept.length ≤ 1099511627776) (hcn : 0 ≤ cnt ∧ cnt ≤ 1099511627776) : HL.Fn Try.prog 37 [.pointer (some ⟨bo, 0, none⟩)] (fun _ => True) ((bo, .cells [.int .i64 lim, (.func (.func 43) [.pointer (some ⟨bs, 0, none⟩)].toArray [].toArray), (.slice ka kept.length kc), .int .i64 err, .int .i64 cnt].toArray 77 (0, 0)) :: (Sk ++ ((bs, .cells [.pointer none, .string ⟨#[]⟩, .int .i64 fail, .int .i64 serr, .int .i64 said.length, .slice sa said.length sc, .slice ga gl.length gc].toArray 86 (0, 0)) :: (So ++ (Si ++ Sg))))) (fun v S' => v = .int .i64 (flushE fail serr ⟨kept, err, cnt, said.map Sl.xs⟩) ∧ StH bo bs lim fail serr (flushS fail serr ⟨kept, err, cnt, said.map Sl.xs⟩) S') := by
  refine fn_of Try.func37 rfl rfl rfl fun w0 hw => ?_
  refine c_seq fun _ hK1 => ?_
  refine c_region ?_
  refine o_step rfl (s_assign rfl) ?_
  refine o_nil ?_
  refine x_then (hK1 _ _ ?_)
  refine c_seq fun _ hK2 => ?_
  refine c_seq fun _ hK3 => ?_
  refine c_region ?_
  refine o_step rfl (s_move rfl) ?_
  refine o_callP (err_fn bo lim err cnt (.func 43) [.pointer (some ⟨bs, 0, none⟩)].toArray [].toArray (.slice ka kept.length kc)) rfl rfl rfl (fun w st => (RdPK.own (by repeat (first | exact List.mem_cons_self | apply List.mem_cons_of_mem | apply mem_assoc | apply mem_app))).out w st) (fun v5 hv5 => ?_)
  subst hv5
  refine o_step rfl (s_assign rfl) ?_
  refine o_nil ?_
  refine x_then (hK3 _ _ ?_)
  refine c_seq fun _ hK4 => ?_
  refine c_region ?_
  refine o_step rfl (s_move rfl) ?_
  refine o_step rfl (s_neq rfl rfl) ?_
  refine o_nil ?_
  refine x_then (hK4 _ _ ?_)
  refine c_if rfl (fun he => ?_) (fun he => ?_)
  · skip
    refine c_seq fun _ hK5 => ?_
    refine c_region ?_
    refine o_step rfl (s_move rfl) ?_
    refine o_step rfl (s_assign rfl) ?_
    refine o_nil ?_
    refine x_then (hK5 _ _ ?_)
    refine c_ret ?_
    refine x_then_ret (?_)
    exact x_ret rfl (.tmp rfl (.nil)) (⟨by rw [flushE, if_pos he]; rfl, by rw [flushS, if_pos he]; exact ⟨_ :: Sk, _, rfl, .mk hk, .mk rfl hO hin hg hgl⟩⟩)
  · skip
    obtain rfl : err = 0 := Decidable.not_not.1 he
    refine c_skip ?_
    refine x_then (hK2 _ _ ?_)
    refine c_seq fun _ hK6 => ?_
    refine c_region ?_
    refine o_step rfl (s_move rfl) ?_
    refine o_call (handOn_raw bo bs lim cnt fail serr kept ka kc said gl sa ga sc gc Sk So Si Sg hk hO hin hg hgl hle hkl hcn) rfl rfl rfl ((Pick.takeC (by first | ((repeat (first | exact .one | exact .here | exact .all | apply Pick.cons | apply Pick.app)); done) | ((repeat (first | exact .one | exact .here | exact .all | apply Pick.cons | apply Pick.assoc | apply Pick.app)); done) | exact Pick.takeA (by repeat (first | exact .one | exact .here | exact .all | apply Pick.cons | apply Pick.assoc | apply Pick.app)) (by repeat (first | exact .one | exact .here | exact .all | apply Pick.cons | apply Pick.assoc | apply Pick.app))) (Pick.takeA (by first | ((repeat (first | exact .one | exact .here | exact .all | apply Pick.cons | apply Pick.app)); done) | ((repeat (first | exact .one | exact .here | exact .all | apply Pick.cons | apply Pick.assoc | apply Pick.app)); done) | exact Pick.takeA (by repeat (first | exact .one | exact .here | exact .all | apply Pick.cons | apply Pick.assoc | apply Pick.app)) (by repeat (first | exact .one | exact .here | exact .all | apply Pick.cons | apply Pick.assoc | apply Pick.app))) (Pick.takeC (by first | ((repeat (first | exact .one | exact .here | exact .all | apply Pick.cons | apply Pick.app)); done) | ((repeat (first | exact .one | exact .here | exact .all | apply Pick.cons | apply Pick.assoc | apply Pick.app)); done) | exact Pick.takeA (by repeat (first | exact .one | exact .here | exact .all | apply Pick.cons | apply Pick.assoc | apply Pick.app)) (by repeat (first | exact .one | exact .here | exact .all | apply Pick.cons | apply Pick.assoc | apply Pick.app))) (Pick.takeA (by first | ((repeat (first | exact .one | exact .here | exact .all | apply Pick.cons | apply Pick.app)); done) | ((repeat (first | exact .one | exact .here | exact .all | apply Pick.cons | apply Pick.assoc | apply Pick.app)); done) | exact Pick.takeA (by repeat (first | exact .one | exact .here | exact .all | apply Pick.cons | apply Pick.assoc | apply Pick.app)) (by repeat (first | exact .one | exact .here | exact .all | apply Pick.cons | apply Pick.assoc | apply Pick.app))) (Pick.takeA (by first | ((repeat (first | exact .one | exact .here | exact .all | apply Pick.cons | apply Pick.app)); done) | ((repeat (first | exact .one | exact .here | exact .all | apply Pick.cons | apply Pick.assoc | apply Pick.app)); done) | exact Pick.takeA (by repeat (first | exact .one | exact .here | exact .all | apply Pick.cons | apply Pick.assoc | apply Pick.app)) (by repeat (first | exact .one | exact .here | exact .all | apply Pick.cons | apply Pick.assoc | apply Pick.app))) (by first | ((repeat (first | exact .one | exact .here | exact .all | apply Pick.cons | apply Pick.app)); done) | ((repeat (first | exact .one | exact .here | exact .all | apply Pick.cons | apply Pick.assoc | apply Pick.app)); done) | exact Pick.takeA (by repeat (first | exact .one | exact .here | exact .all | apply Pick.cons | apply Pick.assoc | apply Pick.app)) (by repeat (first | exact .one | exact .here | exact .all | apply Pick.cons | apply Pick.assoc | apply Pick.app))))))))) (fun _ _ => trivial) (fun v10 S10 ⟨hv10, hS10⟩ => ?_)
    subst hv10
    refine o_step rfl (s_assign rfl) ?_
    refine o_nil ?_
    refine x_then (hK6 _ _ ?_)
    refine c_ret ?_
    refine ?_
    refine x_sub (Sub.refl _) (H' := S10) (by repeat (first | exact HSub.refl _ | exact HSub.nil | refine HSub.takeC (by first | ((repeat (first | exact .one | exact .here | exact .all | apply Pick.cons | apply Pick.app)); done) | ((repeat (first | exact .one | exact .here | exact .all | apply Pick.cons | apply Pick.assoc | apply Pick.app)); done) | exact Pick.takeA (by repeat (first | exact .one | exact .here | exact .all | apply Pick.cons | apply Pick.assoc | apply Pick.app)) (by repeat (first | exact .one | exact .here | exact .all | apply Pick.cons | apply Pick.assoc | apply Pick.app))) ?_ | refine HSub.take (by first | ((repeat (first | exact .one | exact .here | exact .all | apply Pick.cons | apply Pick.app)); done) | ((repeat (first | exact .one | exact .here | exact .all | apply Pick.cons | apply Pick.assoc | apply Pick.app)); done) | exact Pick.takeA (by repeat (first | exact .one | exact .here | exact .all | apply Pick.cons | apply Pick.assoc | apply Pick.app)) (by repeat (first | exact .one | exact .here | exact .all | apply Pick.cons | apply Pick.assoc | apply Pick.app))) ?_ | exact HSub.of_pick (by first | ((repeat (first | exact .one | exact .here | exact .all | apply Pick.cons | apply Pick.app)); done) | ((repeat (first | exact .one | exact .here | exact .all | apply Pick.cons | apply Pick.assoc | apply Pick.app)); done) | exact Pick.takeA (by repeat (first | exact .one | exact .here | exact .all | apply Pick.cons | apply Pick.assoc | apply Pick.app)) (by repeat (first | exact .one | exact .here | exact .all | apply Pick.cons | apply Pick.assoc | apply Pick.app))))) ?_
    exact x_ret rfl (.tmp rfl (.nil)) (⟨by rw [flushE, if_neg (by simp)]; rfl, by rw [flushS, if_neg (by simp)]; exact hS10⟩)

theorem outNew_fn (lim : Int) (fn : Go.Fn) (us cs : Array Value) : HL.Fn Try.prog 42 [.int .i64 lim, .func fn us cs] (fun _ => True) [] (fun v S' => (lim < 0 ∧ v = .tuple #[.pointer none, .int .i64 1]) ∨ (0 ≤ lim ∧ ∃ bo, v = .tuple #[.pointer (some ⟨bo, 0, none⟩), .int .i64 0] ∧ S' = [(bo, .cells [.int .i64 lim, .func fn us cs, .slice none 0 0, .int .i64 0, .int .i64 0].toArray 77 (0, 0))])) := by
  refine fn_of Try.func42 rfl rfl rfl fun w0 hw => ?_
  refine c_seq fun _ hK1 => ?_
  refine c_region ?_
  refine o_step rfl (s_assign rfl) ?_
  refine o_step rfl (s_assign rfl) ?_
  refine o_nil ?_
  refine x_then (hK1 _ _ ?_)
  refine c_seq fun _ hK2 => ?_
  refine c_seq fun _ hK3 => ?_
  refine c_region ?_
  refine o_step rfl (s_move rfl) ?_
  refine o_step rfl (s_lss rfl rfl) ?_
  refine o_nil ?_
  refine x_then (hK3 _ _ ?_)
  refine c_if rfl (fun hn => ?_) (fun hn => ?_)
  · skip
    refine c_seq fun _ hK4 => ?_
    refine c_region ?_
    refine o_step rfl (s_assign rfl) ?_
    refine o_step rfl (s_assign rfl) ?_
    refine o_nil ?_
    refine x_then (hK4 _ _ ?_)
    refine c_ret ?_
    refine x_then_ret (?_)
    exact x_ret rfl (.tmp rfl (.tmp rfl (.nil))) (.inl ⟨hn, rfl⟩)
  · skip
    refine c_skip ?_
    refine x_then (hK2 _ _ ?_)
    refine c_seq fun _ hK5 => ?_
    refine c_region ?_
    refine o_step rfl (s_move rfl) ?_
    refine o_step rfl (s_move rfl) ?_
    refine o_step rfl (s_build (cs := [_, _, _, _, _]) (vs := [_, _]) rfl rfl (.cons rfl rfl rfl rfl rfl (.cons rfl rfl rfl rfl rfl (.nil)))) ?_
    refine o_box rfl rfl rfl fun b11 => ?_
    refine o_step rfl (s_assign rfl) ?_
    refine o_step rfl (s_assign rfl) ?_
    refine o_nil ?_
    refine x_then (hK5 _ _ ?_)
    refine c_ret ?_
    refine ?_
    exact x_ret rfl (.tmp rfl (.tmp rfl (.nil))) (.inr ⟨by omega, _, rfl, rfl⟩)
end Go.Proofs.Ythbnkifjplbhgaa
