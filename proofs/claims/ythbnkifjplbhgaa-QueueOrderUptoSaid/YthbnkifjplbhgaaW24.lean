/- Part of the proofs over this seat: see the text that holds the theorem. Conditions: each theorem bears its own. -/
import Derived.Test.YthbnkifjplbhgaaW23
import Derived.Test.YthbnkifjplbhgaaM14
namespace Go.Proofs.Ythbnkifjplbhgaa
open Go Go.HL Go.Proofs
theorem qflush_none (f g : Value) : HL.Fn Try.prog 21 [.pointer none, f, g] (fun _ => True) [] (fun v _ => v = .int .i64 1) := by
  refine fn_of Try.func21 rfl rfl rfl fun w0 hw => ?_
  refine c_seq fun _ hK1 => ?_
  refine c_region ?_
  refine o_step rfl (s_assign rfl) ?_
  refine o_nil ?_
  refine x_then (hK1 _ _ ?_)
  refine c_seq fun _ hK2 => ?_
  refine c_seq fun _ hK3 => ?_
  refine c_region ?_
  refine o_step rfl (s_move rfl) ?_
  refine o_step rfl (step_cast (v' := .bool true) (s_eql_nilp rfl rfl) rfl) ?_
  refine o_step rfl (s_move rfl) ?_
  refine o_no rfl rfl rfl rfl ?_
  refine o_no rfl rfl rfl rfl ?_
  refine o_no rfl rfl rfl rfl ?_
  refine o_no rfl rfl rfl rfl ?_
  refine o_no rfl rfl rfl rfl ?_
  refine o_step rfl (s_pick_t rfl rfl) ?_
  refine o_nil ?_
  refine x_then (hK3 _ _ ?_)
  refine c_true rfl ?_
  refine c_seq fun _ hK4 => ?_
  refine c_region ?_
  refine o_step rfl (s_assign rfl) ?_
  refine o_nil ?_
  refine x_then (hK4 _ _ ?_)
  refine c_ret ?_
  refine x_then_ret (?_)
  exact x_ret rfl (.tmp rfl (.nil)) (rfl)

theorem qflush_plain (bq : Nat) (qv f g : Value) : HL.Fn Try.prog 21 [.pointer (some ⟨bq, 0, none⟩), f, g] (fun w => RdP w bq 0 [.bool false, qv]) [] (fun v _ => v = .int .i64 1) := by
  refine fn_of Try.func21 rfl rfl rfl fun w0 hw => ?_
  refine c_seq fun _ hK1 => ?_
  refine c_region ?_
  refine o_step rfl (s_assign rfl) ?_
  refine o_nil ?_
  refine x_then (hK1 _ _ ?_)
  refine c_seq fun _ hK2 => ?_
  refine c_seq fun _ hK3 => ?_
  refine c_region ?_
  refine o_step rfl (s_move rfl) ?_
  refine o_step rfl (step_cast (v' := .bool false) (s_eql_nilp rfl rfl) rfl) ?_
  refine o_step rfl (s_move rfl) ?_
  refine o_yes rfl rfl ?_
  refine o_step rfl (s_move rfl) ?_
  refine o_yes rfl rfl ?_
  refine o_step rfl (s_nil rfl) ?_
  refine o_yes rfl rfl ?_
  refine o_step rfl (s_field rfl rfl (by decide)) ?_
  refine o_yes rfl rfl ?_
  refine o_step rfl (s_ld rfl ((RdPK.old0 hw).cel (j := 0) rfl rfl)) ?_
  refine o_yes rfl rfl ?_
  refine o_step rfl (s_not rfl) ?_
  refine o_step rfl (s_pick_f rfl rfl) ?_
  refine o_nil ?_
  refine x_then (hK3 _ _ ?_)
  refine c_true rfl ?_
  refine c_seq fun _ hK4 => ?_
  refine c_region ?_
  refine o_step rfl (s_assign rfl) ?_
  refine o_nil ?_
  refine x_then (hK4 _ _ ?_)
  refine c_ret ?_
  refine x_then_ret (?_)
  exact x_ret rfl (.tmp rfl (.nil)) (rfl)

theorem qflush_fn {σ : Type} (rd : σ → ByteArray → List UInt8 × σ) (out : σ → List UInt8 → Int × σ) (okR : σ → ByteArray → Prop) (okO : σ → List UInt8 → Prop) (HS : σ → Hp → Prop) (fR fO : FuncId) (us cs us2 cs2 : List Value)
    (hR : ∀ s S n, HS s S → okR s n → HL.Fn Try.prog fR (us ++ [.string n] ++ cs) (fun _ => True) S (fun v S' => ∃ a c b, v = .slice a b.length c ∧ RdS Eb (.slice a b.length c) b S' ∧ (b = (rd s n).1 ∧ HS (rd s n).2 S')))
    (hO : ∀ s S b Sb a c, HS s S → OwnS Eb 1 5 (.slice a b.length c) b Sb → okO s b → HL.Fn Try.prog fO (us2 ++ [.slice a b.length c] ++ cs2) (fun _ => True) (S ++ Sb) (fun v S' => v = .int .i64 (out s b).1 ∧ HS (out s b).2 S'))
    (bq : Nat) (qa : Option Addr) (qc : Nat) (ql : List IV) (So Si Sx : Hp) (hq : OwnS Eiv 1 106 (.slice qa ql.length qc) ql So) (l : List QI) (hl : Items ql l Si) (s0 : σ) (h0 : HS s0 ((bq, .cells [.bool true, .slice none 0 0].toArray 58 (0, 0)) :: Sx)) (hf : fitsQ rd out okR okO l s0) : HL.Fn Try.prog 21 [.pointer (some ⟨bq, 0, none⟩), .func (.func fR) us.toArray cs.toArray, .func (.func fO) us2.toArray cs2.toArray] (fun _ => True) ((bq, .cells [.bool true, .slice qa ql.length qc].toArray 58 (0, 0)) :: (So ++ (Si ++ Sx))) (fun v S' => v = .int .i64 (flushQ rd out l s0).1 ∧ HS (flushQ rd out l s0).2 S') := by
  refine fn_of Try.func21 rfl rfl rfl fun w0 hw => ?_
  have hsq := hq.sl
  have hbq := hsq.le
  refine c_seq fun _ hK1 => ?_
  refine c_region ?_
  refine o_step rfl (s_assign rfl) ?_
  refine o_nil ?_
  refine x_then (hK1 _ _ ?_)
  refine c_seq fun _ hK2 => ?_
  refine c_seq fun _ hK3 => ?_
  refine c_region ?_
  refine o_step rfl (s_move rfl) ?_
  refine o_step rfl (step_cast (v' := .bool false) (s_eql_nilp rfl rfl) rfl) ?_
  refine o_step rfl (s_move rfl) ?_
  refine o_yes rfl rfl ?_
  refine o_step rfl (s_move rfl) ?_
  refine o_yes rfl rfl ?_
  refine o_step rfl (s_nil rfl) ?_
  refine o_yes rfl rfl ?_
  refine o_step rfl (s_field rfl rfl (by decide)) ?_
  refine o_yes rfl rfl ?_
  refine o_step rfl (s_ld rfl (.own (by repeat (first | exact List.mem_cons_self | apply List.mem_cons_of_mem | apply mem_assoc | apply mem_app)) rfl)) ?_
  refine o_yes rfl rfl ?_
  refine o_step rfl (s_not rfl) ?_
  refine o_step rfl (s_pick_f rfl rfl) ?_
  refine o_nil ?_
  refine x_then (hK3 _ _ ?_)
  refine c_false rfl ?_
  refine c_skip ?_
  refine x_then (hK2 _ _ ?_)
  refine c_seq fun _ hK4 => ?_
  refine c_region ?_
  refine o_step rfl (s_move rfl) ?_
  refine o_step rfl (s_nil rfl) ?_
  refine o_step rfl (s_field rfl rfl (by decide)) ?_
  refine o_step rfl (s_ld rfl (.own (by repeat (first | exact List.mem_cons_self | apply List.mem_cons_of_mem | apply mem_assoc | apply mem_app)) rfl)) ?_
  refine o_step rfl (s_assign rfl) ?_
  refine o_nil ?_
  refine x_then (hK4 _ _ ?_)
  refine c_seq fun _ hK5 => ?_
  refine c_region ?_
  refine o_step rfl (s_move rfl) ?_
  refine o_step rfl (s_nil rfl) ?_
  refine o_step rfl (s_field rfl rfl (by decide)) ?_
  refine o_store rfl rfl rfl (by repeat (first | exact .here | apply Upd.there | apply Upd.assoc | apply Upd.skip)) (by first | decide | omega | (simp; done) | (simp; omega)) rfl ?_
  refine o_nil ?_
  refine x_then (hK5 _ _ ?_)
  refine c_seq fun _ hK6 => ?_
  refine c_seq fun _ hK7 => ?_
  refine c_region ?_
  refine o_step rfl (s_move rfl) ?_
  refine o_step rfl (s_len rfl) ?_
  refine o_step rfl (s_move rfl) ?_
  refine o_nil ?_
  refine x_then (hK7 _ _ ?_)
  refine c_block ?_
  -- not carried: 6
  refine c_loop3 (fun (j : Nat) (s : σ) (S : Hp) => j ≤ ql.length ∧ HS s S ∧ fitsQ rd out okR okO (l.drop j) s ∧ flushQ rd out l s0 = flushQ rd out (l.drop j) s) (fun (j : Nat) (s : σ) (S : Hp) => [(32, .int .i64 j)]) [(1, _), (2, _), (30, _), (31, _)] (fun (j : Nat) (s : σ) (S : Hp) => So ++ (Si ++ S)) (fun (j : Nat) (s : σ) (S : Hp) => ql.length - j) 0 s0 _ ⟨by omega, h0, hf, rfl⟩ (by repeat (first | exact Sub.nil | refine Sub.cons rfl ?_)) (by repeat (first | exact Sub.nil | refine Sub.cons rfl ?_)) (by repeat (first | exact HSub.refl _ | exact HSub.nil | refine HSub.takeC (by first | ((repeat (first | exact .one | exact .here | exact .all | apply Pick.cons | apply Pick.app)); done) | ((repeat (first | exact .one | exact .here | exact .all | apply Pick.cons | apply Pick.assoc | apply Pick.app)); done) | exact Pick.takeA (by repeat (first | exact .one | exact .here | exact .all | apply Pick.cons | apply Pick.assoc | apply Pick.app)) (by repeat (first | exact .one | exact .here | exact .all | apply Pick.cons | apply Pick.assoc | apply Pick.app))) ?_ | refine HSub.take (by first | ((repeat (first | exact .one | exact .here | exact .all | apply Pick.cons | apply Pick.app)); done) | ((repeat (first | exact .one | exact .here | exact .all | apply Pick.cons | apply Pick.assoc | apply Pick.app)); done) | exact Pick.takeA (by repeat (first | exact .one | exact .here | exact .all | apply Pick.cons | apply Pick.assoc | apply Pick.app)) (by repeat (first | exact .one | exact .here | exact .all | apply Pick.cons | apply Pick.assoc | apply Pick.app))) ?_ | exact HSub.of_pick (by first | ((repeat (first | exact .one | exact .here | exact .all | apply Pick.cons | apply Pick.app)); done) | ((repeat (first | exact .one | exact .here | exact .all | apply Pick.cons | apply Pick.assoc | apply Pick.app)); done) | exact Pick.takeA (by repeat (first | exact .one | exact .here | exact .all | apply Pick.cons | apply Pick.assoc | apply Pick.app)) (by repeat (first | exact .one | exact .here | exact .all | apply Pick.cons | apply Pick.assoc | apply Pick.app))))) ?_
  rintro j s S ⟨hj, hH, hft, hfq⟩
  refine c_seq fun _ hK8 => ?_
  refine c_region ?_
  refine o_step rfl (s_lss rfl rfl) ?_
  refine o_nil ?_
  refine x_then (hK8 _ _ ?_)
  refine c_seq fun _ hK9 => ?_
  refine c_if rfl (fun hlt => ?_) (fun hlt => ?_)
  · skip
    have hcase := hl.at (j := j) (by omega)
    rcases hcase with ⟨x, b, hx, hbx, hrx, hdr⟩ | ⟨n, hx, hdr⟩
    · skip
      subst hbx
      refine c_skip ?_
      refine x_then (hK9 _ _ ?_)
      refine c_seq fun _ hK10 => ?_
      refine c_block ?_
      refine c_seq fun _ hK11 => ?_
      refine c_region ?_
      refine o_step rfl (s_idx rfl rfl (by assumption) (by omega)) ?_
      refine o_step rfl (step_cast (v' := .iface 103 x.v) (s_ld rfl ((hq.rdk (by repeat (first | exact HIn.here | exact HIn.all | exact HIn.one | apply HIn.cons | apply HIn.assoc | apply HIn.app))).ld j 0 (iv0_get (by omega)) rfl (by decide) (by omega))) (by rw [hx])) ?_
      refine o_step rfl (s_assign rfl) ?_
      refine o_nil ?_
      refine x_then (hK11 _ _ ?_)
      refine c_seq fun _ hK12 => ?_
      refine c_region ?_
      refine o_step rfl (s_move rfl) ?_
      refine o_step rfl (s_move rfl) ?_
      refine o_invoke (saysText_fn x.a x.c x.xs _ (fits_text hdr rfl hft).1) rfl rfl rfl (by exact .nil) (fun w st => (hrx.rdk (by repeat (first | exact HIn.here | exact HIn.all | exact HIn.one | apply HIn.cons | apply HIn.assoc | apply HIn.app))).out w st) (fun v38 S38 ⟨a38, c38, hv38, hS38⟩ => ?_)
      subst hv38
      refine o_step rfl (s_assign rfl) ?_
      refine o_nil ?_
      refine x_then (hK12 _ _ ?_)
      refine c_seq fun _ hK13 => ?_
      refine c_seq fun _ hK14 => ?_
      refine c_region ?_
      refine o_step rfl (s_move rfl) ?_
      refine o_step rfl (s_tassert_f ta103 rfl) ?_
      refine o_step rfl (s_move rfl) ?_
      refine o_step rfl (s_extract rfl rfl) ?_
      refine o_step rfl (s_extract rfl rfl) ?_
      refine o_step rfl (s_assign rfl) ?_
      refine o_step rfl (s_assign rfl) ?_
      refine o_nil ?_
      refine x_then (hK14 _ _ ?_)
      refine c_seq fun _ hK15 => ?_
      refine c_region ?_
      refine o_step rfl (s_move rfl) ?_
      refine o_step rfl (s_move rfl) ?_
      refine o_no rfl rfl rfl rfl ?_
      refine o_no rfl rfl rfl rfl ?_
      refine o_no rfl rfl rfl rfl ?_
      refine o_step rfl (s_pick_f rfl rfl) ?_
      refine o_nil ?_
      refine x_then (hK15 _ _ ?_)
      refine c_false rfl ?_
      refine c_skip ?_
      refine x_then (hK13 _ _ ?_)
      refine c_seq fun _ hK16 => ?_
      refine c_region ?_
      refine o_step rfl (s_move rfl) ?_
      refine o_step rfl (s_move rfl) ?_
      refine o_callC (us := us2) (vs := [_]) (cs := cs2) (hO s S (x.xs ++ [10]) S38 a38 c38 hH hS38 (fits_text hdr rfl hft).2.1) rfl rfl rfl ((Pick.takeA (by first | ((repeat (first | exact .one | exact .here | exact .all | apply Pick.cons | apply Pick.app)); done) | ((repeat (first | exact .one | exact .here | exact .all | apply Pick.cons | apply Pick.assoc | apply Pick.app)); done) | exact Pick.takeA (by repeat (first | exact .one | exact .here | exact .all | apply Pick.cons | apply Pick.assoc | apply Pick.app)) (by repeat (first | exact .one | exact .here | exact .all | apply Pick.cons | apply Pick.assoc | apply Pick.app))) (by first | ((repeat (first | exact .one | exact .here | exact .all | apply Pick.cons | apply Pick.app)); done) | ((repeat (first | exact .one | exact .here | exact .all | apply Pick.cons | apply Pick.assoc | apply Pick.app)); done) | exact Pick.takeA (by repeat (first | exact .one | exact .here | exact .all | apply Pick.cons | apply Pick.assoc | apply Pick.app)) (by repeat (first | exact .one | exact .here | exact .all | apply Pick.cons | apply Pick.assoc | apply Pick.app))))) (fun _ _ => trivial) (fun v52 S52 ⟨hv52, hS52⟩ => ?_)
      subst hv52
      refine o_step rfl (s_assign rfl) ?_
      refine o_nil ?_
      refine x_then (hK16 _ _ ?_)
      refine c_seq fun _ hK17 => ?_
      refine c_region ?_
      refine o_step rfl (s_move rfl) ?_
      refine o_step rfl (s_neq rfl rfl) ?_
      refine o_nil ?_
      refine x_then (hK17 _ _ ?_)
      refine c_if rfl (fun hne => ?_) (fun hne => ?_)
      · skip
        refine c_seq fun _ hK18 => ?_
        refine c_region ?_
        refine o_step rfl (s_move rfl) ?_
        refine o_step rfl (s_assign rfl) ?_
        refine o_nil ?_
        refine x_then (hK18 _ _ ?_)
        refine c_ret ?_
        refine x_block_ret (x_then_ret (x_then_ret (x_block_ret (x_then_ret (?_)))))
        refine x_sub (Sub.refl _) (H' := S52) (by repeat (first | exact HSub.refl _ | exact HSub.nil | refine HSub.takeC (by first | ((repeat (first | exact .one | exact .here | exact .all | apply Pick.cons | apply Pick.app)); done) | ((repeat (first | exact .one | exact .here | exact .all | apply Pick.cons | apply Pick.assoc | apply Pick.app)); done) | exact Pick.takeA (by repeat (first | exact .one | exact .here | exact .all | apply Pick.cons | apply Pick.assoc | apply Pick.app)) (by repeat (first | exact .one | exact .here | exact .all | apply Pick.cons | apply Pick.assoc | apply Pick.app))) ?_ | refine HSub.take (by first | ((repeat (first | exact .one | exact .here | exact .all | apply Pick.cons | apply Pick.app)); done) | ((repeat (first | exact .one | exact .here | exact .all | apply Pick.cons | apply Pick.assoc | apply Pick.app)); done) | exact Pick.takeA (by repeat (first | exact .one | exact .here | exact .all | apply Pick.cons | apply Pick.assoc | apply Pick.app)) (by repeat (first | exact .one | exact .here | exact .all | apply Pick.cons | apply Pick.assoc | apply Pick.app))) ?_ | exact HSub.of_pick (by first | ((repeat (first | exact .one | exact .here | exact .all | apply Pick.cons | apply Pick.app)); done) | ((repeat (first | exact .one | exact .here | exact .all | apply Pick.cons | apply Pick.assoc | apply Pick.app)); done) | exact Pick.takeA (by repeat (first | exact .one | exact .here | exact .all | apply Pick.cons | apply Pick.assoc | apply Pick.app)) (by repeat (first | exact .one | exact .here | exact .all | apply Pick.cons | apply Pick.assoc | apply Pick.app))))) ?_
        exact x_ret rfl (.tmp rfl (.nil)) (⟨by rw [hfq, hdr, flush_text, if_pos hne]; rfl, by rw [hfq, hdr, flush_text, if_pos hne]; exact hS52⟩)
      · skip
        refine c_skip ?_
        refine x_block ?_
        refine x_then (hK10 _ _ ?_)
        refine c_region ?_
        refine o_step rfl (s_add rfl rfl (by omega)) ?_
        refine o_step rfl (s_move rfl) ?_
        refine o_nil ?_
        exact x_then (x_inv (j + 1, _, _) ⟨by omega, hS52, (fits_text hdr rfl hft).2.2 (Decidable.not_not.1 hne), by rw [hfq, hdr, flush_text, if_neg hne]⟩ (by first | omega | (dsimp only; omega)) (by repeat (first | exact Sub.nil | refine Sub.cons rfl ?_)) (by repeat (first | exact HSub.refl _ | exact HSub.nil | refine HSub.takeC (by first | ((repeat (first | exact .one | exact .here | exact .all | apply Pick.cons | apply Pick.app)); done) | ((repeat (first | exact .one | exact .here | exact .all | apply Pick.cons | apply Pick.assoc | apply Pick.app)); done) | exact Pick.takeA (by repeat (first | exact .one | exact .here | exact .all | apply Pick.cons | apply Pick.assoc | apply Pick.app)) (by repeat (first | exact .one | exact .here | exact .all | apply Pick.cons | apply Pick.assoc | apply Pick.app))) ?_ | refine HSub.take (by first | ((repeat (first | exact .one | exact .here | exact .all | apply Pick.cons | apply Pick.app)); done) | ((repeat (first | exact .one | exact .here | exact .all | apply Pick.cons | apply Pick.assoc | apply Pick.app)); done) | exact Pick.takeA (by repeat (first | exact .one | exact .here | exact .all | apply Pick.cons | apply Pick.assoc | apply Pick.app)) (by repeat (first | exact .one | exact .here | exact .all | apply Pick.cons | apply Pick.assoc | apply Pick.app))) ?_ | exact HSub.of_pick (by first | ((repeat (first | exact .one | exact .here | exact .all | apply Pick.cons | apply Pick.app)); done) | ((repeat (first | exact .one | exact .here | exact .all | apply Pick.cons | apply Pick.assoc | apply Pick.app)); done) | exact Pick.takeA (by repeat (first | exact .one | exact .here | exact .all | apply Pick.cons | apply Pick.assoc | apply Pick.app)) (by repeat (first | exact .one | exact .here | exact .all | apply Pick.cons | apply Pick.assoc | apply Pick.app))))))
    · skip
      refine c_skip ?_
      refine x_then (hK9 _ _ ?_)
      refine c_seq fun _ hK19 => ?_
      refine c_block ?_
      refine c_seq fun _ hK20 => ?_
      refine c_region ?_
      refine o_step rfl (s_idx rfl rfl (by assumption) (by omega)) ?_
      refine o_step rfl (step_cast (v' := .iface 104 (.string n)) (s_ld rfl ((hq.rdk (by repeat (first | exact HIn.here | exact HIn.all | exact HIn.one | apply HIn.cons | apply HIn.assoc | apply HIn.app))).ld j 0 (iv0_get (by omega)) rfl (by decide) (by omega))) (by rw [hx])) ?_
      refine o_step rfl (s_assign rfl) ?_
      refine o_nil ?_
      refine x_then (hK20 _ _ ?_)
      refine c_seq fun _ hK21 => ?_
      refine c_region ?_
      refine o_step rfl (s_move rfl) ?_
      refine o_step rfl (s_move rfl) ?_
      refine o_invoke (saysFile_fn fR us cs n S _ (hR s S n hH (fits_fileR hdr hft))) rfl rfl rfl ((by first | ((repeat (first | exact .one | exact .here | exact .all | apply Pick.cons | apply Pick.app)); done) | ((repeat (first | exact .one | exact .here | exact .all | apply Pick.cons | apply Pick.assoc | apply Pick.app)); done) | exact Pick.takeA (by repeat (first | exact .one | exact .here | exact .all | apply Pick.cons | apply Pick.assoc | apply Pick.app)) (by repeat (first | exact .one | exact .here | exact .all | apply Pick.cons | apply Pick.assoc | apply Pick.app)))) (fun _ _ => trivial) (fun v38 S38 ⟨a38, c38, b38, Sb38, S2, hv38, hS38, hown, hb38, hH2⟩ => ?_)
      subst hv38
      subst hS38
      subst hb38
      refine o_sk (H' := Sb38 ++ (S2 ++ (So ++ Si))) (HSub.of_perm (by simp)) ?_
      refine o_step rfl (s_assign rfl) ?_
      refine o_nil ?_
      refine x_then (hK21 _ _ ?_)
      refine c_seq fun _ hK22 => ?_
      refine c_seq fun _ hK23 => ?_
      refine c_region ?_
      refine o_step rfl (s_move rfl) ?_
      refine o_step rfl (s_tassert_t ta104 rfl) ?_
      refine o_step rfl (s_move rfl) ?_
      refine o_step rfl (s_extract rfl rfl) ?_
      refine o_step rfl (s_extract rfl rfl) ?_
      refine o_step rfl (s_assign rfl) ?_
      refine o_step rfl (s_assign rfl) ?_
      refine o_nil ?_
      refine x_then (hK23 _ _ ?_)
      refine c_seq fun _ hK24 => ?_
      refine c_region ?_
      refine o_step rfl (s_move rfl) ?_
      refine o_step rfl (s_move rfl) ?_
      refine o_yes rfl rfl ?_
      refine o_step rfl (s_move rfl) ?_
      refine o_yes rfl rfl ?_
      refine o_step rfl (s_len rfl) ?_
      refine o_yes rfl rfl ?_
      by_cases hb0 : ((rd s n).1.length : Int) = 0
      · skip
        refine o_step rfl (step_cast (v' := .bool true) (s_eql rfl rfl) (by rw [decide_eq_true hb0])) ?_
        refine o_step rfl (s_pick_t rfl rfl) ?_
        refine o_nil ?_
        refine x_then (hK24 _ _ ?_)
        refine c_true rfl ?_
        refine c_exit ?_
        refine x_then_exit ?_
        refine x_block_exit ?_
        refine x_then (hK19 _ _ ?_)
        refine c_region ?_
        refine o_step rfl (s_add rfl rfl (by omega)) ?_
        refine o_step rfl (s_move rfl) ?_
        refine o_nil ?_
        exact x_then (x_inv (j + 1, _, _) ⟨by omega, hH2, fits_file0 hdr hb0 hft, by rw [hfq, hdr, flush_file0 hb0]⟩ (by first | omega | (dsimp only; omega)) (by repeat (first | exact Sub.nil | refine Sub.cons rfl ?_)) (by repeat (first | exact HSub.refl _ | exact HSub.nil | refine HSub.takeC (by first | ((repeat (first | exact .one | exact .here | exact .all | apply Pick.cons | apply Pick.app)); done) | ((repeat (first | exact .one | exact .here | exact .all | apply Pick.cons | apply Pick.assoc | apply Pick.app)); done) | exact Pick.takeA (by repeat (first | exact .one | exact .here | exact .all | apply Pick.cons | apply Pick.assoc | apply Pick.app)) (by repeat (first | exact .one | exact .here | exact .all | apply Pick.cons | apply Pick.assoc | apply Pick.app))) ?_ | refine HSub.take (by first | ((repeat (first | exact .one | exact .here | exact .all | apply Pick.cons | apply Pick.app)); done) | ((repeat (first | exact .one | exact .here | exact .all | apply Pick.cons | apply Pick.assoc | apply Pick.app)); done) | exact Pick.takeA (by repeat (first | exact .one | exact .here | exact .all | apply Pick.cons | apply Pick.assoc | apply Pick.app)) (by repeat (first | exact .one | exact .here | exact .all | apply Pick.cons | apply Pick.assoc | apply Pick.app))) ?_ | exact HSub.of_pick (by first | ((repeat (first | exact .one | exact .here | exact .all | apply Pick.cons | apply Pick.app)); done) | ((repeat (first | exact .one | exact .here | exact .all | apply Pick.cons | apply Pick.assoc | apply Pick.app)); done) | exact Pick.takeA (by repeat (first | exact .one | exact .here | exact .all | apply Pick.cons | apply Pick.assoc | apply Pick.app)) (by repeat (first | exact .one | exact .here | exact .all | apply Pick.cons | apply Pick.assoc | apply Pick.app))))))
      · skip
        refine o_step rfl (step_cast (v' := .bool false) (s_eql rfl rfl) (by rw [decide_eq_false hb0])) ?_
        refine o_step rfl (s_pick_t rfl rfl) ?_
        refine o_nil ?_
        refine x_then (hK24 _ _ ?_)
        refine c_false rfl ?_
        refine c_skip ?_
        refine x_then (hK22 _ _ ?_)
        refine c_seq fun _ hK25 => ?_
        refine c_region ?_
        refine o_step rfl (s_move rfl) ?_
        refine o_step rfl (s_move rfl) ?_
        refine o_callC (us := us2) (vs := [_]) (cs := cs2) (hO _ S2 _ Sb38 a38 c38 hH2 hown (fits_file hdr hb0 hft).1) rfl rfl rfl ((Pick.takeA (by first | ((repeat (first | exact .one | exact .here | exact .all | apply Pick.cons | apply Pick.app)); done) | ((repeat (first | exact .one | exact .here | exact .all | apply Pick.cons | apply Pick.assoc | apply Pick.app)); done) | exact Pick.takeA (by repeat (first | exact .one | exact .here | exact .all | apply Pick.cons | apply Pick.assoc | apply Pick.app)) (by repeat (first | exact .one | exact .here | exact .all | apply Pick.cons | apply Pick.assoc | apply Pick.app))) (by first | ((repeat (first | exact .one | exact .here | exact .all | apply Pick.cons | apply Pick.app)); done) | ((repeat (first | exact .one | exact .here | exact .all | apply Pick.cons | apply Pick.assoc | apply Pick.app)); done) | exact Pick.takeA (by repeat (first | exact .one | exact .here | exact .all | apply Pick.cons | apply Pick.assoc | apply Pick.app)) (by repeat (first | exact .one | exact .here | exact .all | apply Pick.cons | apply Pick.assoc | apply Pick.app))))) (fun _ _ => trivial) (fun v52 S52 ⟨hv52, hS52⟩ => ?_)
        subst hv52
        refine o_step rfl (s_assign rfl) ?_
        refine o_nil ?_
        refine x_then (hK25 _ _ ?_)
        refine c_seq fun _ hK26 => ?_
        refine c_region ?_
        refine o_step rfl (s_move rfl) ?_
        refine o_step rfl (s_neq rfl rfl) ?_
        refine o_nil ?_
        refine x_then (hK26 _ _ ?_)
        refine c_if rfl (fun hne => ?_) (fun hne => ?_)
        · skip
          refine c_seq fun _ hK27 => ?_
          refine c_region ?_
          refine o_step rfl (s_move rfl) ?_
          refine o_step rfl (s_assign rfl) ?_
          refine o_nil ?_
          refine x_then (hK27 _ _ ?_)
          refine c_ret ?_
          refine x_block_ret (x_then_ret (x_then_ret (x_block_ret (x_then_ret (?_)))))
          refine x_sub (Sub.refl _) (H' := S52) (by repeat (first | exact HSub.refl _ | exact HSub.nil | refine HSub.takeC (by first | ((repeat (first | exact .one | exact .here | exact .all | apply Pick.cons | apply Pick.app)); done) | ((repeat (first | exact .one | exact .here | exact .all | apply Pick.cons | apply Pick.assoc | apply Pick.app)); done) | exact Pick.takeA (by repeat (first | exact .one | exact .here | exact .all | apply Pick.cons | apply Pick.assoc | apply Pick.app)) (by repeat (first | exact .one | exact .here | exact .all | apply Pick.cons | apply Pick.assoc | apply Pick.app))) ?_ | refine HSub.take (by first | ((repeat (first | exact .one | exact .here | exact .all | apply Pick.cons | apply Pick.app)); done) | ((repeat (first | exact .one | exact .here | exact .all | apply Pick.cons | apply Pick.assoc | apply Pick.app)); done) | exact Pick.takeA (by repeat (first | exact .one | exact .here | exact .all | apply Pick.cons | apply Pick.assoc | apply Pick.app)) (by repeat (first | exact .one | exact .here | exact .all | apply Pick.cons | apply Pick.assoc | apply Pick.app))) ?_ | exact HSub.of_pick (by first | ((repeat (first | exact .one | exact .here | exact .all | apply Pick.cons | apply Pick.app)); done) | ((repeat (first | exact .one | exact .here | exact .all | apply Pick.cons | apply Pick.assoc | apply Pick.app)); done) | exact Pick.takeA (by repeat (first | exact .one | exact .here | exact .all | apply Pick.cons | apply Pick.assoc | apply Pick.app)) (by repeat (first | exact .one | exact .here | exact .all | apply Pick.cons | apply Pick.assoc | apply Pick.app))))) ?_
          exact x_ret rfl (.tmp rfl (.nil)) (⟨by rw [hfq, hdr, flush_file hb0, if_pos hne]; rfl, by rw [hfq, hdr, flush_file hb0, if_pos hne]; exact hS52⟩)
        · skip
          refine c_skip ?_
          refine x_block ?_
          refine x_then (hK19 _ _ ?_)
          refine c_region ?_
          refine o_step rfl (s_add rfl rfl (by omega)) ?_
          refine o_step rfl (s_move rfl) ?_
          refine o_nil ?_
          exact x_then (x_inv (j + 1, _, _) ⟨by omega, hS52, (fits_file hdr hb0 hft).2 (Decidable.not_not.1 hne), by rw [hfq, hdr, flush_file hb0, if_neg hne]⟩ (by first | omega | (dsimp only; omega)) (by repeat (first | exact Sub.nil | refine Sub.cons rfl ?_)) (by repeat (first | exact HSub.refl _ | exact HSub.nil | refine HSub.takeC (by first | ((repeat (first | exact .one | exact .here | exact .all | apply Pick.cons | apply Pick.app)); done) | ((repeat (first | exact .one | exact .here | exact .all | apply Pick.cons | apply Pick.assoc | apply Pick.app)); done) | exact Pick.takeA (by repeat (first | exact .one | exact .here | exact .all | apply Pick.cons | apply Pick.assoc | apply Pick.app)) (by repeat (first | exact .one | exact .here | exact .all | apply Pick.cons | apply Pick.assoc | apply Pick.app))) ?_ | refine HSub.take (by first | ((repeat (first | exact .one | exact .here | exact .all | apply Pick.cons | apply Pick.app)); done) | ((repeat (first | exact .one | exact .here | exact .all | apply Pick.cons | apply Pick.assoc | apply Pick.app)); done) | exact Pick.takeA (by repeat (first | exact .one | exact .here | exact .all | apply Pick.cons | apply Pick.assoc | apply Pick.app)) (by repeat (first | exact .one | exact .here | exact .all | apply Pick.cons | apply Pick.assoc | apply Pick.app))) ?_ | exact HSub.of_pick (by first | ((repeat (first | exact .one | exact .here | exact .all | apply Pick.cons | apply Pick.app)); done) | ((repeat (first | exact .one | exact .here | exact .all | apply Pick.cons | apply Pick.assoc | apply Pick.app)); done) | exact Pick.takeA (by repeat (first | exact .one | exact .here | exact .all | apply Pick.cons | apply Pick.assoc | apply Pick.app)) (by repeat (first | exact .one | exact .here | exact .all | apply Pick.cons | apply Pick.assoc | apply Pick.app))))))
  · skip
    have hd0 : l.drop j = [] := List.drop_eq_nil_of_le (by have := hl.len; omega)
    refine c_exit ?_
    refine x_then_exit ?_
    refine x_then_exit ?_
    refine x_block_exit ?_
    refine x_then (hK6 _ _ ?_)
    refine c_seq fun _ hK28 => ?_
    refine c_region ?_
    refine o_step rfl (s_assign rfl) ?_
    refine o_nil ?_
    refine x_then (hK28 _ _ ?_)
    refine c_ret ?_
    refine ?_
    refine x_sub (Sub.refl _) (H' := S) (by repeat (first | exact HSub.refl _ | exact HSub.nil | refine HSub.takeC (by first | ((repeat (first | exact .one | exact .here | exact .all | apply Pick.cons | apply Pick.app)); done) | ((repeat (first | exact .one | exact .here | exact .all | apply Pick.cons | apply Pick.assoc | apply Pick.app)); done) | exact Pick.takeA (by repeat (first | exact .one | exact .here | exact .all | apply Pick.cons | apply Pick.assoc | apply Pick.app)) (by repeat (first | exact .one | exact .here | exact .all | apply Pick.cons | apply Pick.assoc | apply Pick.app))) ?_ | refine HSub.take (by first | ((repeat (first | exact .one | exact .here | exact .all | apply Pick.cons | apply Pick.app)); done) | ((repeat (first | exact .one | exact .here | exact .all | apply Pick.cons | apply Pick.assoc | apply Pick.app)); done) | exact Pick.takeA (by repeat (first | exact .one | exact .here | exact .all | apply Pick.cons | apply Pick.assoc | apply Pick.app)) (by repeat (first | exact .one | exact .here | exact .all | apply Pick.cons | apply Pick.assoc | apply Pick.app))) ?_ | exact HSub.of_pick (by first | ((repeat (first | exact .one | exact .here | exact .all | apply Pick.cons | apply Pick.app)); done) | ((repeat (first | exact .one | exact .here | exact .all | apply Pick.cons | apply Pick.assoc | apply Pick.app)); done) | exact Pick.takeA (by repeat (first | exact .one | exact .here | exact .all | apply Pick.cons | apply Pick.assoc | apply Pick.app)) (by repeat (first | exact .one | exact .here | exact .all | apply Pick.cons | apply Pick.assoc | apply Pick.app))))) ?_
    exact x_ret rfl (.tmp rfl (.nil)) (⟨by rw [hfq, hd0]; rfl, by rw [hfq, hd0]; exact hH⟩)
end Go.Proofs.Ythbnkifjplbhgaa
