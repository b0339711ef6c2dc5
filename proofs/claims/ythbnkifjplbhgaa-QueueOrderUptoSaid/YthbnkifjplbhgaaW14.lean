/- Part of the proofs over this seat: see the text that holds the theorem. Conditions: each theorem bears its own. -/
import Derived.Test.YthbnkifjplbhgaaW9
import Derived.Test.YthbnkifjplbhgaaF2
import Derived.Test.YthbnkifjplbhgaaM5
namespace Go.Proofs.Ythbnkifjplbhgaa
open Go Go.HL Go.Proofs
theorem copyRows_fn (a : Option Addr) (c : Nat) (sls : List (Sl UInt8)) (hb : sls.length * 24 ≤ 140737488355328) : HL.Fn Try.prog 36 [.slice a sls.length c] (fun w => Rd Esl w (.slice a sls.length c) sls ∧ ∀ s ∈ sls, Rd Eb w s.v s.xs) [] (fun v S' => ∃ a' c', v = .slice a' (sls.map Sl.xs).length c' ∧ OwnR Eb 35 (.slice a' (sls.map Sl.xs).length c') (sls.map Sl.xs) S') := by
  refine fn_of Try.func36 rfl rfl rfl fun w0 hw => ?_
  obtain ⟨h1, h2⟩ := hw
  have hs1 := h1.sl
  refine c_seq fun _ hK1 => ?_
  refine c_region ?_
  refine o_step rfl (s_assign rfl) ?_
  refine o_nil ?_
  refine x_then (hK1 _ _ ?_)
  refine c_seq fun _ hK2 => ?_
  refine c_region ?_
  refine o_step rfl (s_assign rfl) ?_
  refine o_nil ?_
  refine x_then (hK2 _ _ ?_)
  refine c_seq fun _ hK3 => ?_
  refine c_seq fun _ hK4 => ?_
  refine c_region ?_
  refine o_step rfl (s_assign rfl) ?_
  refine o_nil ?_
  refine x_then (hK4 _ _ ?_)
  refine c_block ?_
  refine c_loop6 (fun (j : Nat) (acc : List (Sl UInt8)) (a2 : Option Addr) (c2 : Nat) (So : Hp) (Si : Hp) => j ≤ sls.length ∧ acc.length = j ∧ acc.map Sl.xs = (sls.take j).map Sl.xs ∧ OwnS Esl 1 35 (.slice a2 acc.length c2) acc So ∧ ∀ s ∈ acc, RdS Eb s.v s.xs Si) (fun (j : Nat) (acc : List (Sl UInt8)) (a2 : Option Addr) (c2 : Nat) (So : Hp) (Si : Hp) => [(3, .slice a2 acc.length c2), (4, .int .i64 j)]) [(0, _), (2, _)] (fun (j : Nat) (acc : List (Sl UInt8)) (a2 : Option Addr) (c2 : Nat) (So : Hp) (Si : Hp) => So ++ Si) (fun (j : Nat) (acc : List (Sl UInt8)) (a2 : Option Addr) (c2 : Nat) (So : Hp) (Si : Hp) => sls.length - j) 0 [] none 0 [] [] ⟨by omega, rfl, rfl, .nil, by simp⟩ (by repeat (first | exact Sub.nil | refine Sub.cons rfl ?_)) (by repeat (first | exact Sub.nil | refine Sub.cons rfl ?_)) (by exact HSub.refl _) ?_
  rintro j acc a2 c2 So Si ⟨hj, hal, hm, hS, hin⟩
  refine c_seq fun _ hK5 => ?_
  refine c_seq fun _ hK6 => ?_
  refine c_region ?_
  refine o_step rfl (s_move rfl) ?_
  refine o_step rfl (s_move rfl) ?_
  refine o_step rfl (s_len rfl) ?_
  refine o_step rfl (s_lss rfl rfl) ?_
  refine o_nil ?_
  refine x_then (hK6 _ _ ?_)
  refine c_if rfl (fun hlt => ?_) (fun hlt => ?_)
  · skip
    have hmem := row0_mem (sls := sls) (j := j) (by omega)
    have hrow := h2 _ hmem
    refine c_skip ?_
    refine x_then (hK5 _ _ ?_)
    refine c_seq fun _ hK7 => ?_
    refine c_block ?_
    refine c_region ?_
    refine o_step rfl (s_move rfl) ?_
    refine o_step rfl (s_move rfl) ?_
    refine o_step rfl (s_move rfl) ?_
    refine o_step rfl (s_idx rfl rfl (by assumption) (by omega)) ?_
    refine o_step rfl (s_ld rfl ((RdK.old0 h1).ld j 0 (row0_get (by omega)) rfl (by decide) (by omega))) ?_
    refine o_call (copy_fn (row0 sls j).a (row0 sls j).c (row0 sls j).xs) rfl rfl rfl (by exact .nil) (fun w st => (RdK.old0 hrow).out w st) (fun v16 S16 ⟨a16, c16, hv16, hS16⟩ => ?_)
    subst hv16
    refine o_bs (E := Esl) (xs := [(⟨a16, c16, (row0 sls j).xs⟩ : Sl UInt8)]) (vs := [_]) rfl rfl rfl rfl rfl (by decide) (by decide) fun b17 S17 hS17 => ?_
    refine o_app hS (hS17.rdk (by repeat (first | exact HIn.here | exact HIn.all | exact HIn.one | apply HIn.cons | apply HIn.assoc | apply HIn.app))) rfl rfl rfl rfl (by show (acc.length + 1) * 24 ≤ _; omega) (by show acc.length + 1 ≤ _; omega) rfl (by first | ((repeat (first | exact .one | exact .here | exact .all | apply Pick.cons | apply Pick.app)); done) | ((repeat (first | exact .one | exact .here | exact .all | apply Pick.cons | apply Pick.assoc | apply Pick.app)); done) | exact Pick.takeA (by repeat (first | exact .one | exact .here | exact .all | apply Pick.cons | apply Pick.assoc | apply Pick.app)) (by repeat (first | exact .one | exact .here | exact .all | apply Pick.cons | apply Pick.assoc | apply Pick.app))) fun a18 c18 S18 hS18 => ?_
    refine o_step rfl (s_assign rfl) ?_
    refine o_nil ?_
    refine x_block ?_
    refine x_then (hK7 _ _ ?_)
    refine c_region ?_
    refine o_step rfl (s_move rfl) ?_
    refine o_step rfl (s_add rfl rfl (by omega)) ?_
    refine o_step rfl (s_assign rfl) ?_
    refine o_nil ?_
    exact x_then (x_inv (j + 1, _, _, _, _, _) ⟨by omega, by simp [hal], rowcp (by omega) hm, hS18, rows_snoc hin hS16⟩ (by first | omega | (dsimp only; omega)) (by repeat (first | exact Sub.nil | refine Sub.cons rfl ?_)) (by repeat (first | exact HSub.refl _ | exact HSub.nil | refine HSub.takeC (by first | ((repeat (first | exact .one | exact .here | exact .all | apply Pick.cons | apply Pick.app)); done) | ((repeat (first | exact .one | exact .here | exact .all | apply Pick.cons | apply Pick.assoc | apply Pick.app)); done) | exact Pick.takeA (by repeat (first | exact .one | exact .here | exact .all | apply Pick.cons | apply Pick.assoc | apply Pick.app)) (by repeat (first | exact .one | exact .here | exact .all | apply Pick.cons | apply Pick.assoc | apply Pick.app))) ?_ | refine HSub.take (by first | ((repeat (first | exact .one | exact .here | exact .all | apply Pick.cons | apply Pick.app)); done) | ((repeat (first | exact .one | exact .here | exact .all | apply Pick.cons | apply Pick.assoc | apply Pick.app)); done) | exact Pick.takeA (by repeat (first | exact .one | exact .here | exact .all | apply Pick.cons | apply Pick.assoc | apply Pick.app)) (by repeat (first | exact .one | exact .here | exact .all | apply Pick.cons | apply Pick.assoc | apply Pick.app))) ?_ | exact HSub.of_pick (by first | ((repeat (first | exact .one | exact .here | exact .all | apply Pick.cons | apply Pick.app)); done) | ((repeat (first | exact .one | exact .here | exact .all | apply Pick.cons | apply Pick.assoc | apply Pick.app)); done) | exact Pick.takeA (by repeat (first | exact .one | exact .here | exact .all | apply Pick.cons | apply Pick.assoc | apply Pick.app)) (by repeat (first | exact .one | exact .here | exact .all | apply Pick.cons | apply Pick.assoc | apply Pick.app))))))
  · skip
    have hjl : j = sls.length := by omega
    subst hjl
    rw [List.take_length] at hm
    have hml : acc.length = (sls.map Sl.xs).length := by simp [hal]
    refine c_exit ?_
    refine x_then_exit ?_
    refine x_then_exit ?_
    refine x_block_exit ?_
    refine x_then (hK3 _ _ ?_)
    refine c_seq fun _ hK8 => ?_
    refine c_region ?_
    refine o_step rfl (s_move rfl) ?_
    refine o_step rfl (s_assign rfl) ?_
    refine o_nil ?_
    refine x_then (hK8 _ _ ?_)
    refine c_ret ?_
    refine ?_
    exact x_ret rfl (.tmp rfl (.nil)) (⟨a2, c2, by rw [hml]; rfl, by rw [← hml]; exact ⟨acc, So, Si, rfl, hm, hS, hin⟩⟩)

theorem err_none  : HL.Fn Try.prog 38 [.pointer none] (fun _ => True) [] (fun v _ => v = .int .i64 1) := by
  refine fn_of Try.func38 rfl rfl rfl fun w0 hw => ?_
  refine c_seq fun _ hK1 => ?_
  refine c_region ?_
  refine o_step rfl (s_assign rfl) ?_
  refine o_nil ?_
  refine x_then (hK1 _ _ ?_)
  refine c_seq fun _ hK2 => ?_
  refine c_seq fun _ hK3 => ?_
  refine c_region ?_
  refine o_step rfl (s_move rfl) ?_
  refine o_step rfl (step_cast (v' := .bool true) (s_eql_nilp rfl rfl) rfl) ?_
  refine o_step rfl (s_move rfl) ?_
  refine o_no rfl rfl rfl rfl ?_
  refine o_no rfl rfl rfl rfl ?_
  refine o_no rfl rfl rfl rfl ?_
  refine o_no rfl rfl rfl rfl ?_
  refine o_no rfl rfl rfl rfl ?_
  refine o_step rfl (s_pick_t rfl rfl) ?_
  refine o_nil ?_
  refine x_then (hK3 _ _ ?_)
  refine c_true rfl ?_
  refine c_seq fun _ hK4 => ?_
  refine c_region ?_
  refine o_step rfl (s_assign rfl) ?_
  refine o_nil ?_
  refine x_then (hK4 _ _ ?_)
  refine c_ret ?_
  refine x_then_ret (?_)
  exact x_ret rfl (.tmp rfl (.nil)) (rfl)

theorem err_zero (bo : Nat) (lim err cnt : Int) (kv : Value) : HL.Fn Try.prog 38 [.pointer (some ⟨bo, 0, none⟩)] (fun w => RdP w bo 0 [.int .i64 lim, .nilFunc, kv, .int .i64 err, .int .i64 cnt]) [] (fun v _ => v = .int .i64 1) := by
  refine fn_of Try.func38 rfl rfl rfl fun w0 hw => ?_
  refine c_seq fun _ hK1 => ?_
  refine c_region ?_
  refine o_step rfl (s_assign rfl) ?_
  refine o_nil ?_
  refine x_then (hK1 _ _ ?_)
  refine c_seq fun _ hK2 => ?_
  refine c_seq fun _ hK3 => ?_
  refine c_region ?_
  refine o_step rfl (s_move rfl) ?_
  refine o_step rfl (step_cast (v' := .bool false) (s_eql_nilp rfl rfl) rfl) ?_
  refine o_step rfl (s_move rfl) ?_
  refine o_yes rfl rfl ?_
  refine o_step rfl (s_move rfl) ?_
  refine o_yes rfl rfl ?_
  refine o_step rfl (s_nil rfl) ?_
  refine o_yes rfl rfl ?_
  refine o_step rfl (s_field rfl rfl (by decide)) ?_
  refine o_yes rfl rfl ?_
  refine o_step rfl (s_ld rfl ((RdPK.old0 hw).cel (j := 1) rfl rfl)) ?_
  refine o_yes rfl rfl ?_
  refine o_step rfl (s_eql_nilff rfl rfl) ?_
  refine o_step rfl (s_pick_f rfl rfl) ?_
  refine o_nil ?_
  refine x_then (hK3 _ _ ?_)
  refine c_true rfl ?_
  refine c_seq fun _ hK4 => ?_
  refine c_region ?_
  refine o_step rfl (s_assign rfl) ?_
  refine o_nil ?_
  refine x_then (hK4 _ _ ?_)
  refine c_ret ?_
  refine x_then_ret (?_)
  exact x_ret rfl (.tmp rfl (.nil)) (rfl)

theorem err_fn (bo : Nat) (lim err cnt : Int) (fn : Go.Fn) (us cs : Array Value) (kv : Value) : HL.Fn Try.prog 38 [.pointer (some ⟨bo, 0, none⟩)] (fun w => RdP w bo 0 [.int .i64 lim, .func fn us cs, kv, .int .i64 err, .int .i64 cnt]) [] (fun v _ => v = .int .i64 err) := by
  refine fn_of Try.func38 rfl rfl rfl fun w0 hw => ?_
  refine c_seq fun _ hK1 => ?_
  refine c_region ?_
  refine o_step rfl (s_assign rfl) ?_
  refine o_nil ?_
  refine x_then (hK1 _ _ ?_)
  refine c_seq fun _ hK2 => ?_
  refine c_seq fun _ hK3 => ?_
  refine c_region ?_
  refine o_step rfl (s_move rfl) ?_
  refine o_step rfl (step_cast (v' := .bool false) (s_eql_nilp rfl rfl) rfl) ?_
  refine o_step rfl (s_move rfl) ?_
  refine o_yes rfl rfl ?_
  refine o_step rfl (s_move rfl) ?_
  refine o_yes rfl rfl ?_
  refine o_step rfl (s_nil rfl) ?_
  refine o_yes rfl rfl ?_
  refine o_step rfl (s_field rfl rfl (by decide)) ?_
  refine o_yes rfl rfl ?_
  refine o_step rfl (s_ld rfl ((RdPK.old0 hw).cel (j := 1) rfl rfl)) ?_
  refine o_yes rfl rfl ?_
  refine o_step rfl (s_eql_nilf rfl rfl) ?_
  refine o_step rfl (s_pick_f rfl rfl) ?_
  refine o_nil ?_
  refine x_then (hK3 _ _ ?_)
  refine c_false rfl ?_
  refine c_skip ?_
  refine x_then (hK2 _ _ ?_)
  refine c_seq fun _ hK4 => ?_
  refine c_region ?_
  refine o_step rfl (s_move rfl) ?_
  refine o_step rfl (s_nil rfl) ?_
  refine o_step rfl (s_field rfl rfl (by decide)) ?_
  refine o_step rfl (s_ld rfl ((RdPK.old0 hw).cel (j := 3) rfl rfl)) ?_
  refine o_step rfl (s_assign rfl) ?_
  refine o_nil ?_
  refine x_then (hK4 _ _ ?_)
  refine c_ret ?_
  refine ?_
  exact x_ret rfl (.tmp rfl (.nil)) (rfl)

theorem count_none  : HL.Fn Try.prog 39 [.pointer none] (fun _ => True) [] (fun v _ => v = .int .i64 0) := by
  refine fn_of Try.func39 rfl rfl rfl fun w0 hw => ?_
  refine c_seq fun _ hK1 => ?_
  refine c_region ?_
  refine o_step rfl (s_assign rfl) ?_
  refine o_nil ?_
  refine x_then (hK1 _ _ ?_)
  refine c_seq fun _ hK2 => ?_
  refine c_seq fun _ hK3 => ?_
  refine c_region ?_
  refine o_step rfl (s_move rfl) ?_
  refine o_step rfl (step_cast (v' := .bool true) (s_eql_nilp rfl rfl) rfl) ?_
  refine o_nil ?_
  refine x_then (hK3 _ _ ?_)
  refine c_true rfl ?_
  refine c_seq fun _ hK4 => ?_
  refine c_region ?_
  refine o_step rfl (s_assign rfl) ?_
  refine o_nil ?_
  refine x_then (hK4 _ _ ?_)
  refine c_ret ?_
  refine x_then_ret (?_)
  exact x_ret rfl (.tmp rfl (.nil)) (rfl)

theorem count_fn (bo : Nat) (lim err cnt : Int) (fv kv : Value) : HL.Fn Try.prog 39 [.pointer (some ⟨bo, 0, none⟩)] (fun w => RdP w bo 0 [.int .i64 lim, fv, kv, .int .i64 err, .int .i64 cnt]) [] (fun v _ => v = .int .i64 cnt) := by
  refine fn_of Try.func39 rfl rfl rfl fun w0 hw => ?_
  refine c_seq fun _ hK1 => ?_
  refine c_region ?_
  refine o_step rfl (s_assign rfl) ?_
  refine o_nil ?_
  refine x_then (hK1 _ _ ?_)
  refine c_seq fun _ hK2 => ?_
  refine c_seq fun _ hK3 => ?_
  refine c_region ?_
  refine o_step rfl (s_move rfl) ?_
  refine o_step rfl (step_cast (v' := .bool false) (s_eql_nilp rfl rfl) rfl) ?_
  refine o_nil ?_
  refine x_then (hK3 _ _ ?_)
  refine c_false rfl ?_
  refine c_skip ?_
  refine x_then (hK2 _ _ ?_)
  refine c_seq fun _ hK4 => ?_
  refine c_region ?_
  refine o_step rfl (s_move rfl) ?_
  refine o_step rfl (s_nil rfl) ?_
  refine o_step rfl (s_field rfl rfl (by decide)) ?_
  refine o_step rfl (s_ld rfl ((RdPK.old0 hw).cel (j := 4) rfl rfl)) ?_
  refine o_step rfl (s_assign rfl) ?_
  refine o_nil ?_
  refine x_then (hK4 _ _ ?_)
  refine c_ret ?_
  refine ?_
  exact x_ret rfl (.tmp rfl (.nil)) (rfl)
end Go.Proofs.Ythbnkifjplbhgaa
