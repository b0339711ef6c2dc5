/- Part of the proofs over this seat: see the text that holds the theorem. Conditions: each theorem bears its own. -/
import Derived.Test.YthbnkifjplbhgaaW14
import Derived.Test.YthbnkifjplbhgaaF3
import Derived.Test.YthbnkifjplbhgaaM13
namespace Go.Proofs.Ythbnkifjplbhgaa
open Go Go.HL Go.Proofs
theorem put_none (v : Value) : HL.Fn Try.prog 52 [.pointer none, v] (fun _ => True) [] (fun v _ => v = .tuple #[]) := by
  refine fn_of Try.func52 rfl rfl rfl fun w0 hw => ?_
  refine c_seq fun _ hK1 => ?_
  refine c_region ?_
  refine o_step rfl (s_move rfl) ?_
  refine o_step rfl (step_cast (v' := .bool false) (s_neq_nilp rfl rfl) rfl) ?_
  refine o_step rfl (s_move rfl) ?_
  refine o_no rfl rfl rfl rfl ?_
  refine o_no rfl rfl rfl rfl ?_
  refine o_no rfl rfl rfl rfl ?_
  refine o_no rfl rfl rfl rfl ?_
  refine o_step rfl (s_pick_f rfl rfl) ?_
  refine o_nil ?_
  refine x_then (hK1 _ _ ?_)
  refine c_false rfl ?_
  refine c_skip ?_
  exact x_end rfl (.nil) (rfl)

theorem put_plain (bq : Nat) (qv v : Value) : HL.Fn Try.prog 52 [.pointer (some ⟨bq, 0, none⟩), v] (fun w => RdP w bq 0 [.bool false, qv]) [] (fun v _ => v = .tuple #[]) := by
  refine fn_of Try.func52 rfl rfl rfl fun w0 hw => ?_
  refine c_seq fun _ hK1 => ?_
  refine c_region ?_
  refine o_step rfl (s_move rfl) ?_
  refine o_step rfl (step_cast (v' := .bool true) (s_neq_nilp rfl rfl) rfl) ?_
  refine o_step rfl (s_move rfl) ?_
  refine o_yes rfl rfl ?_
  refine o_step rfl (s_move rfl) ?_
  refine o_yes rfl rfl ?_
  refine o_step rfl (s_nil rfl) ?_
  refine o_yes rfl rfl ?_
  refine o_step rfl (s_field rfl rfl (by decide)) ?_
  refine o_yes rfl rfl ?_
  refine o_step rfl (s_ld rfl ((RdPK.old0 hw).cel (j := 0) rfl rfl)) ?_
  refine o_step rfl (s_pick_t rfl rfl) ?_
  refine o_nil ?_
  refine x_then (hK1 _ _ ?_)
  refine c_false rfl ?_
  refine c_skip ?_
  exact x_end rfl (.nil) (rfl)

theorem put_raw (bq : Nat) (x : IV) (qa : Option Addr) (qc : Nat) (ql : List IV) (So : Hp) (hO : OwnS Eiv 1 106 (.slice qa ql.length qc) ql So) (hle : ql.length ≤ 4294967296) : HL.Fn Try.prog 52 [.pointer (some ⟨bq, 0, none⟩), .iface x.t x.v] (fun _ => True) ((bq, .cells [.bool true, .slice qa ql.length qc].toArray 58 (0, 0)) :: So) (fun v S' => v = .tuple #[] ∧ ∃ qa' qc' So', S' = (bq, .cells [.bool true, .slice qa' (ql ++ [x]).length qc'].toArray 58 (0, 0)) :: So' ∧ OwnS Eiv 1 106 (.slice qa' (ql ++ [x]).length qc') (ql ++ [x]) So') := by
  refine fn_of Try.func52 rfl rfl rfl fun w0 hw => ?_
  refine c_seq fun _ hK1 => ?_
  refine c_region ?_
  refine o_step rfl (s_move rfl) ?_
  refine o_step rfl (step_cast (v' := .bool true) (s_neq_nilp rfl rfl) rfl) ?_
  refine o_step rfl (s_move rfl) ?_
  refine o_yes rfl rfl ?_
  refine o_step rfl (s_move rfl) ?_
  refine o_yes rfl rfl ?_
  refine o_step rfl (s_nil rfl) ?_
  refine o_yes rfl rfl ?_
  refine o_step rfl (s_field rfl rfl (by decide)) ?_
  refine o_yes rfl rfl ?_
  refine o_step rfl (s_ld rfl (.own (by repeat (first | exact List.mem_cons_self | apply List.mem_cons_of_mem | apply mem_assoc | apply mem_app)) rfl)) ?_
  refine o_step rfl (s_pick_t rfl rfl) ?_
  refine o_nil ?_
  refine x_then (hK1 _ _ ?_)
  refine c_true rfl ?_
  refine c_region ?_
  refine o_step rfl (s_move rfl) ?_
  refine o_step rfl (s_move rfl) ?_
  refine o_step rfl (s_nil rfl) ?_
  refine o_step rfl (s_field rfl rfl (by decide)) ?_
  refine o_step rfl (s_ld rfl (.own (by repeat (first | exact List.mem_cons_self | apply List.mem_cons_of_mem | apply mem_assoc | apply mem_app)) rfl)) ?_
  refine o_step rfl (s_move rfl) ?_
  refine o_bs (E := Eiv) (xs := [x]) (vs := [_]) rfl rfl rfl rfl rfl (by decide) (by decide) fun b18 S18 hS18 => ?_
  refine o_app hO (hS18.rdk (by repeat (first | exact HIn.here | exact HIn.all | exact HIn.one | apply HIn.cons | apply HIn.assoc | apply HIn.app))) rfl rfl rfl rfl (by show (ql.length + 1) * 16 ≤ _; omega) (by show ql.length + 1 ≤ _; omega) rfl (by first | ((repeat (first | exact .one | exact .here | exact .all | apply Pick.cons | apply Pick.app)); done) | ((repeat (first | exact .one | exact .here | exact .all | apply Pick.cons | apply Pick.assoc | apply Pick.app)); done) | exact Pick.takeA (by repeat (first | exact .one | exact .here | exact .all | apply Pick.cons | apply Pick.assoc | apply Pick.app)) (by repeat (first | exact .one | exact .here | exact .all | apply Pick.cons | apply Pick.assoc | apply Pick.app))) fun a19 c19 S19 hS19 => ?_
  refine o_step rfl (s_nil rfl) ?_
  refine o_step rfl (s_field rfl rfl (by decide)) ?_
  refine o_store rfl rfl rfl (by repeat (first | exact .here | apply Upd.there | apply Upd.assoc | apply Upd.skip)) (by first | decide | omega | (simp; done) | (simp; omega)) rfl ?_
  refine o_nil ?_
  refine x_sub (Sub.refl _) (H' := (bq, .cells [.bool true, .slice a19 (ql ++ [x]).length c19].toArray 58 (0, 0)) :: S19) (by repeat (first | exact HSub.refl _ | exact HSub.nil | refine HSub.takeC (by first | ((repeat (first | exact .one | exact .here | exact .all | apply Pick.cons | apply Pick.app)); done) | ((repeat (first | exact .one | exact .here | exact .all | apply Pick.cons | apply Pick.assoc | apply Pick.app)); done) | exact Pick.takeA (by repeat (first | exact .one | exact .here | exact .all | apply Pick.cons | apply Pick.assoc | apply Pick.app)) (by repeat (first | exact .one | exact .here | exact .all | apply Pick.cons | apply Pick.assoc | apply Pick.app))) ?_ | refine HSub.take (by first | ((repeat (first | exact .one | exact .here | exact .all | apply Pick.cons | apply Pick.app)); done) | ((repeat (first | exact .one | exact .here | exact .all | apply Pick.cons | apply Pick.assoc | apply Pick.app)); done) | exact Pick.takeA (by repeat (first | exact .one | exact .here | exact .all | apply Pick.cons | apply Pick.assoc | apply Pick.app)) (by repeat (first | exact .one | exact .here | exact .all | apply Pick.cons | apply Pick.assoc | apply Pick.app))) ?_ | exact HSub.of_pick (by first | ((repeat (first | exact .one | exact .here | exact .all | apply Pick.cons | apply Pick.app)); done) | ((repeat (first | exact .one | exact .here | exact .all | apply Pick.cons | apply Pick.assoc | apply Pick.app)); done) | exact Pick.takeA (by repeat (first | exact .one | exact .here | exact .all | apply Pick.cons | apply Pick.assoc | apply Pick.app)) (by repeat (first | exact .one | exact .here | exact .all | apply Pick.cons | apply Pick.assoc | apply Pick.app))))) ?_
  exact x_end rfl (.nil) (⟨rfl, _, _, _, rfl, hS19⟩)

theorem len_none  : HL.Fn Try.prog 20 [.pointer none] (fun _ => True) [] (fun v _ => v = .int .i64 0) := by
  refine fn_of Try.func20 rfl rfl rfl fun w0 hw => ?_
  refine c_seq fun _ hK1 => ?_
  refine c_region ?_
  refine o_step rfl (s_assign rfl) ?_
  refine o_nil ?_
  refine x_then (hK1 _ _ ?_)
  refine c_seq fun _ hK2 => ?_
  refine c_seq fun _ hK3 => ?_
  refine c_region ?_
  refine o_step rfl (s_move rfl) ?_
  refine o_step rfl (step_cast (v' := .bool true) (s_eql_nilp rfl rfl) rfl) ?_
  refine o_nil ?_
  refine x_then (hK3 _ _ ?_)
  refine c_true rfl ?_
  refine c_seq fun _ hK4 => ?_
  refine c_region ?_
  refine o_step rfl (s_assign rfl) ?_
  refine o_nil ?_
  refine x_then (hK4 _ _ ?_)
  refine c_ret ?_
  refine x_then_ret (?_)
  exact x_ret rfl (.tmp rfl (.nil)) (rfl)

theorem len_fn (bq : Nat) (m : Value) (qa : Option Addr) (n qc : Nat) : HL.Fn Try.prog 20 [.pointer (some ⟨bq, 0, none⟩)] (fun w => RdP w bq 0 [m, .slice qa n qc]) [] (fun v _ => v = .int .i64 n) := by
  refine fn_of Try.func20 rfl rfl rfl fun w0 hw => ?_
  refine c_seq fun _ hK1 => ?_
  refine c_region ?_
  refine o_step rfl (s_assign rfl) ?_
  refine o_nil ?_
  refine x_then (hK1 _ _ ?_)
  refine c_seq fun _ hK2 => ?_
  refine c_seq fun _ hK3 => ?_
  refine c_region ?_
  refine o_step rfl (s_move rfl) ?_
  refine o_step rfl (step_cast (v' := .bool false) (s_eql_nilp rfl rfl) rfl) ?_
  refine o_nil ?_
  refine x_then (hK3 _ _ ?_)
  refine c_false rfl ?_
  refine c_skip ?_
  refine x_then (hK2 _ _ ?_)
  refine c_seq fun _ hK4 => ?_
  refine c_region ?_
  refine o_step rfl (s_move rfl) ?_
  refine o_step rfl (s_nil rfl) ?_
  refine o_step rfl (s_field rfl rfl (by decide)) ?_
  refine o_step rfl (s_ld rfl ((RdPK.old0 hw).cel (j := 1) rfl rfl)) ?_
  refine o_step rfl (s_len rfl) ?_
  refine o_step rfl (s_assign rfl) ?_
  refine o_nil ?_
  refine x_then (hK4 _ _ ?_)
  refine c_ret ?_
  refine ?_
  exact x_ret rfl (.tmp rfl (.nil)) (rfl)

theorem queueNew_fn  : HL.Fn Try.prog 16 [] (fun _ => True) [] (fun v S' => ∃ bq, v = .pointer (some ⟨bq, 0, none⟩) ∧ S' = [(bq, .cells [.bool true, .slice none 0 0].toArray 58 (0, 0))]) := by
  refine fn_of Try.func16 rfl rfl rfl fun w0 hw => ?_
  refine c_seq fun _ hK1 => ?_
  refine c_region ?_
  refine o_step rfl (s_assign rfl) ?_
  refine o_nil ?_
  refine x_then (hK1 _ _ ?_)
  refine c_seq fun _ hK2 => ?_
  refine c_region ?_
  refine o_step rfl (s_build (cs := [_, _]) (vs := [_]) rfl rfl (.cons rfl rfl rfl rfl rfl (.nil))) ?_
  refine o_box rfl rfl rfl fun b2 => ?_
  refine o_step rfl (s_assign rfl) ?_
  refine o_nil ?_
  refine x_then (hK2 _ _ ?_)
  refine c_ret ?_
  refine ?_
  exact x_ret rfl (.tmp rfl (.nil)) (⟨_, rfl, rfl⟩)

theorem text_none (a : Option Addr) (c : Nat) (xs : List UInt8) : HL.Fn Try.prog 17 [.pointer none, .slice a xs.length c] (fun w => Rd Eb w (.slice a xs.length c) xs) [] (fun v _ => v = .tuple #[]) := by
  refine fn_of Try.func17 rfl rfl rfl fun w0 hw => ?_
  refine c_region ?_
  refine o_step rfl (s_move rfl) ?_
  refine o_step rfl (s_move rfl) ?_
  refine o_call (clone_fn a c xs) rfl rfl rfl (by exact .nil) (fun w st => (RdK.old0 hw).out w st) (fun v6 S6 ⟨a6, c6, hv6, hS6⟩ => ?_)
  subst hv6
  refine o_step rfl (s_iface (by kernel_rfl) rfl) ?_
  refine o_callP (put_none _) rfl rfl rfl (fun _ _ => trivial) (fun v8 hv8 => ?_)
  refine o_nil ?_
  exact x_end rfl (.nil) (rfl)

theorem text_plain (bq : Nat) (qv : Value) (a : Option Addr) (c : Nat) (xs : List UInt8) : HL.Fn Try.prog 17 [.pointer (some ⟨bq, 0, none⟩), .slice a xs.length c] (fun w => RdP w bq 0 [.bool false, qv] ∧ Rd Eb w (.slice a xs.length c) xs) [] (fun v _ => v = .tuple #[]) := by
  refine fn_of Try.func17 rfl rfl rfl fun w0 hw => ?_
  refine c_region ?_
  refine o_step rfl (s_move rfl) ?_
  refine o_step rfl (s_move rfl) ?_
  refine o_call (clone_fn a c xs) rfl rfl rfl (by exact .nil) (fun w st => (RdK.old0 hw.2).out w st) (fun v6 S6 ⟨a6, c6, hv6, hS6⟩ => ?_)
  subst hv6
  refine o_step rfl (s_iface (by kernel_rfl) rfl) ?_
  refine o_callP (put_plain bq qv _) rfl rfl rfl (fun w st => (RdPK.old0 hw.1).out w st) (fun v8 hv8 => ?_)
  refine o_nil ?_
  exact x_end rfl (.nil) (rfl)

theorem file_none (s : ByteArray) : HL.Fn Try.prog 18 [.pointer none, .string s] (fun _ => True) [] (fun v _ => v = .tuple #[]) := by
  refine fn_of Try.func18 rfl rfl rfl fun w0 hw => ?_
  refine c_region ?_
  refine o_step rfl (s_move rfl) ?_
  refine o_step rfl (s_move rfl) ?_
  refine o_step rfl (s_iface (by kernel_rfl) rfl) ?_
  refine o_callP (put_none _) rfl rfl rfl (fun _ _ => trivial) (fun v7 hv7 => ?_)
  refine o_nil ?_
  exact x_end rfl (.nil) (rfl)

theorem file_plain (bq : Nat) (qv : Value) (s : ByteArray) : HL.Fn Try.prog 18 [.pointer (some ⟨bq, 0, none⟩), .string s] (fun w => RdP w bq 0 [.bool false, qv]) [] (fun v _ => v = .tuple #[]) := by
  refine fn_of Try.func18 rfl rfl rfl fun w0 hw => ?_
  refine c_region ?_
  refine o_step rfl (s_move rfl) ?_
  refine o_step rfl (s_move rfl) ?_
  refine o_step rfl (s_iface (by kernel_rfl) rfl) ?_
  refine o_callP (put_plain bq qv _) rfl rfl rfl (fun w st => (RdPK.old0 hw).out w st) (fun v7 hv7 => ?_)
  refine o_nil ?_
  exact x_end rfl (.nil) (rfl)
end Go.Proofs.Ythbnkifjplbhgaa
