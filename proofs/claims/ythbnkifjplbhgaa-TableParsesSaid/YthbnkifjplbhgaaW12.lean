/- Part of the proofs over this seat: see the text that holds the theorem. Conditions: each theorem bears its own. -/
import Derived.Test.YthbnkifjplbhgaaW11
namespace Go.Proofs.Ythbnkifjplbhgaa
open Go Go.HL Go.Proofs Go.Tab
theorem said_fn (a : Option Addr) (c : Nat) (ms : List Mk) : HL.Fn Try.prog 61 [.slice a ms.length c] (fun w => Rd Em w (.slice a ms.length c) ms) [] (fun v S' => (∃ l a c, rowM ms = some l ∧ v = .tuple #[.slice a l.length c, .bool true] ∧ OwnS Eb 1 5 (.slice a l.length c) l S') ∨ (rowM ms = none ∧ ∃ u, v = .tuple #[u, .bool false])) := by
  refine fn_of Try.func61 rfl rfl rfl fun w0 hw => ?_
  have hsx := hw.sl
  have hbx := hsx.le
  refine c_seq fun _ hK1 => ?_
  refine c_region ?_
  refine o_step rfl (s_assign rfl) ?_
  refine o_step rfl (s_assign rfl) ?_
  refine o_nil ?_
  refine x_then (hK1 _ _ ?_)
  refine c_seq fun _ hK2 => ?_
  refine c_region ?_
  refine o_step rfl (s_assign rfl) ?_
  refine o_nil ?_
  refine x_then (hK2 _ _ ?_)
  refine c_seq fun _ hK3 => ?_
  refine c_region ?_
  refine o_step rfl (s_assign rfl) ?_
  refine o_nil ?_
  refine x_then (hK3 _ _ ?_)
  refine c_seq fun _ hK4 => ?_
  refine c_seq fun _ hK5 => ?_
  refine c_region ?_
  refine o_step rfl (s_move rfl) ?_
  refine o_step rfl (s_len rfl) ?_
  refine o_step rfl (s_move rfl) ?_
  refine o_nil ?_
  refine x_then (hK5 _ _ ?_)
  refine c_block ?_
  -- not carried: 2 3
  refine c_loop6 (fun (j : Nat) (acc : List UInt8) (esc : Bool) (a2 : Option Addr) (c2 : Nat) (S : Hp) => j ≤ ms.length ∧ runM ms j = some (acc, esc) ∧ OwnS Eb 1 5 (.slice a2 acc.length c2) acc S) (fun (j : Nat) (acc : List UInt8) (esc : Bool) (a2 : Option Addr) (c2 : Nat) (S : Hp) => [(4, .slice a2 acc.length c2), (5, .bool esc), (10, .int .i64 j)]) [(8, _), (9, _)] (fun (j : Nat) (acc : List UInt8) (esc : Bool) (a2 : Option Addr) (c2 : Nat) (S : Hp) => S) (fun (j : Nat) (acc : List UInt8) (esc : Bool) (a2 : Option Addr) (c2 : Nat) (S : Hp) => ms.length - j) 0 [] false none 0 [] ⟨by omega, rfl, .nil⟩ (by repeat (first | exact Sub.nil | refine Sub.cons rfl ?_)) (by repeat (first | exact Sub.nil | refine Sub.cons rfl ?_)) (by exact HSub.refl _) ?_
  rintro j acc esc a2 c2 S ⟨hj, hr, hS⟩
  have hal := runM_len hr
  refine c_seq fun _ hK6 => ?_
  refine c_region ?_
  refine o_step rfl (s_lss rfl rfl) ?_
  refine o_nil ?_
  refine x_then (hK6 _ _ ?_)
  refine c_seq fun _ hK7 => ?_
  refine c_if rfl (fun hlt => ?_) (fun hlt => ?_)
  · skip
    cases esc
    · skip
      cases hp : (mk0 ms j).p
      · skip
        refine c_skip ?_
        refine x_then (hK7 _ _ ?_)
        refine c_seq fun _ hK8 => ?_
        refine c_block ?_
        refine c_seq fun _ hK9 => ?_
        refine c_region ?_
        refine o_step rfl (s_idx rfl rfl (by assumption) (by omega)) ?_
        refine o_step rfl (s_ldB rfl ((RdK.old0 hw).lds j (mk0_get (by omega)) (by omega)) rfl) ?_
        refine o_alloc rfl rfl fun b7 => ?_
        refine o_stW rfl rfl (by repeat (first | exact .here | apply Upd.there | apply Upd.skip)) rfl (by first | (rw [flat_len, Nat.mul_one]; first | assumption | exact List.length_replicate) | exact List.length_replicate | rfl) (Enc.one (E := Em) (mk0 ms j)) ?_
        refine o_nil ?_
        refine x_then (hK9 _ _ ?_)
        refine c_seq fun _ hK10 => ?_
        refine c_block ?_
        refine c_seq fun _ hK11 => ?_
        refine c_region ?_
        refine o_step rfl (s_move rfl) ?_
        refine o_step rfl (s_move rfl) ?_
        refine o_no rfl rfl rfl rfl ?_
        refine o_no rfl rfl rfl rfl ?_
        refine o_no rfl rfl rfl rfl ?_
        refine o_step rfl (s_pick_f rfl rfl) ?_
        refine o_step rfl (s_move rfl) ?_
        refine o_no rfl rfl rfl rfl ?_
        refine o_no rfl rfl rfl rfl ?_
        refine o_no rfl rfl rfl rfl ?_
        refine o_step rfl (s_pick_f rfl rfl) ?_
        refine o_step rfl (s_assign rfl) ?_
        refine o_nil ?_
        refine x_then (hK11 _ _ ?_)
        refine c_false rfl ?_
        refine c_seq fun _ hK12 => ?_
        refine c_region ?_
        refine o_step rfl (s_move rfl) ?_
        refine o_step rfl (s_move rfl) ?_
        refine o_no rfl rfl rfl rfl ?_
        refine o_no rfl rfl rfl rfl ?_
        refine o_no rfl rfl rfl rfl ?_
        refine o_noU rfl rfl rfl ?_
        refine o_noU rfl rfl rfl ?_
        refine o_noU rfl rfl rfl ?_
        refine o_no rfl rfl rfl rfl ?_
        refine o_step rfl (s_pick_f rfl rfl) ?_
        refine o_step rfl (s_assign rfl) ?_
        refine o_nil ?_
        refine x_then (hK12 _ _ ?_)
        refine c_false rfl ?_
        refine c_seq fun _ hK13 => ?_
        refine c_region ?_
        refine o_step rfl (s_move rfl) ?_
        refine o_step rfl (s_not rfl) ?_
        refine o_step rfl (s_move rfl) ?_
        refine o_yes rfl rfl ?_
        refine o_step rfl (s_field rfl rfl (by decide)) ?_
        refine o_yes rfl rfl ?_
        refine o_step rfl (step_cast (v' := .bool false) (s_ld rfl (.own (by repeat (first | exact List.mem_cons_self | apply List.mem_cons_of_mem | apply mem_app)) rfl)) (by rw [hp])) ?_
        refine o_yes rfl rfl ?_
        refine o_step rfl (s_not rfl) ?_
        refine o_step rfl (s_pick_t rfl rfl) ?_
        refine o_step rfl (s_move rfl) ?_
        refine o_yes rfl rfl ?_
        refine o_step rfl (s_field rfl rfl (by decide)) ?_
        refine o_yes rfl rfl ?_
        refine o_step rfl (s_ld rfl (.own (by repeat (first | exact List.mem_cons_self | apply List.mem_cons_of_mem | apply mem_app)) rfl)) ?_
        refine o_yes rfl rfl ?_
        by_cases hb : (mk0 ms j).b = 92
        · skip
          refine o_step rfl (s_eql_t rfl rfl (by rw [hb]; rfl)) ?_
          refine o_step rfl (s_pick_t rfl rfl) ?_
          refine o_step rfl (s_assign rfl) ?_
          refine o_nil ?_
          refine x_then (hK13 _ _ ?_)
          refine c_true rfl ?_
          refine c_seq fun _ hK14 => ?_
          refine c_region ?_
          refine o_step rfl (s_assign rfl) ?_
          refine o_nil ?_
          refine x_then (hK14 _ _ ?_)
          refine c_exit ?_
          refine x_block_pass rfl ?_
          refine x_then_exit ?_
          refine x_block_exit ?_
          refine x_then (hK8 _ _ ?_)
          refine c_region ?_
          refine o_step rfl (s_add rfl rfl (by omega)) ?_
          refine o_step rfl (s_move rfl) ?_
          refine o_nil ?_
          exact x_then (x_inv (j + 1, acc, true, _, _, _) ⟨by omega, by rw [runM_step hr, st_b hp hb], hS⟩ (by first | omega | (dsimp only; omega)) (by repeat (first | exact Sub.nil | refine Sub.cons rfl ?_)) (by repeat (first | exact HSub.refl _ | exact HSub.nil | refine HSub.takeC (by repeat (first | exact .one | exact .here | exact .all | apply Pick.cons | apply Pick.app)) ?_ | refine HSub.take (by repeat (first | exact .one | exact .here | exact .all | apply Pick.cons | apply Pick.app)) ?_ | exact HSub.of_pick (by repeat (first | exact .one | exact .here | exact .all | apply Pick.cons | apply Pick.app)))))
        · skip
          refine o_step rfl (s_eql_f rfl rfl (fun e => hb (UInt8.toNat_inj.1 (by have h : (92 : UInt8).toNat = 92 := rfl; omega)))) ?_
          refine o_step rfl (s_pick_t rfl rfl) ?_
          refine o_step rfl (s_assign rfl) ?_
          refine o_nil ?_
          refine x_then (hK13 _ _ ?_)
          refine c_false rfl ?_
          refine c_region ?_
          refine o_step rfl (s_move rfl) ?_
          refine o_step rfl (s_field rfl rfl (by decide)) ?_
          refine o_step rfl (s_ld rfl (.own (by repeat (first | exact List.mem_cons_self | apply List.mem_cons_of_mem | apply mem_app)) rfl)) ?_
          refine o_bs (E := Eb) (xs := [(mk0 ms j).b]) (vs := [_]) rfl rfl rfl rfl rfl (by decide) (by decide) fun b17 S17 hS17 => ?_
          refine o_app hS (hS17.rdk (by repeat (first | exact HIn.here | exact HIn.all | exact HIn.one | apply HIn.cons | apply HIn.app))) rfl rfl rfl rfl (by show (acc.length + 1) * 1 ≤ _; omega) (by show acc.length + 1 ≤ _; omega) rfl (by repeat (first | exact .one | exact .here | exact .all | apply Pick.cons | apply Pick.app)) fun a18 c18 S18 hS18 => ?_
          refine o_step rfl (s_assign rfl) ?_
          refine o_nil ?_
          refine x_block ?_
          refine x_then (hK10 _ _ ?_)
          refine c_region ?_
          refine o_step rfl (s_assign rfl) ?_
          refine o_nil ?_
          refine x_block ?_
          refine x_then (hK8 _ _ ?_)
          refine c_region ?_
          refine o_step rfl (s_add rfl rfl (by omega)) ?_
          refine o_step rfl (s_move rfl) ?_
          refine o_nil ?_
          exact x_then (x_inv (j + 1, acc ++ [(mk0 ms j).b], false, _, _, _) ⟨by omega, by rw [runM_step hr, st_x (.inr hb)], hS18⟩ (by first | omega | (dsimp only; omega)) (by repeat (first | exact Sub.nil | refine Sub.cons rfl ?_)) (by repeat (first | exact HSub.refl _ | exact HSub.nil | refine HSub.takeC (by repeat (first | exact .one | exact .here | exact .all | apply Pick.cons | apply Pick.app)) ?_ | refine HSub.take (by repeat (first | exact .one | exact .here | exact .all | apply Pick.cons | apply Pick.app)) ?_ | exact HSub.of_pick (by repeat (first | exact .one | exact .here | exact .all | apply Pick.cons | apply Pick.app)))))
      · skip
        refine c_skip ?_
        refine x_then (hK7 _ _ ?_)
        refine c_seq fun _ hK15 => ?_
        refine c_block ?_
        refine c_seq fun _ hK16 => ?_
        refine c_region ?_
        refine o_step rfl (s_idx rfl rfl (by assumption) (by omega)) ?_
        refine o_step rfl (s_ldB rfl ((RdK.old0 hw).lds j (mk0_get (by omega)) (by omega)) rfl) ?_
        refine o_alloc rfl rfl fun b7 => ?_
        refine o_stW rfl rfl (by repeat (first | exact .here | apply Upd.there | apply Upd.skip)) rfl (by first | (rw [flat_len, Nat.mul_one]; first | assumption | exact List.length_replicate) | exact List.length_replicate | rfl) (Enc.one (E := Em) (mk0 ms j)) ?_
        refine o_nil ?_
        refine x_then (hK16 _ _ ?_)
        refine c_seq fun _ hK17 => ?_
        refine c_block ?_
        refine c_seq fun _ hK18 => ?_
        refine c_region ?_
        refine o_step rfl (s_move rfl) ?_
        refine o_step rfl (s_move rfl) ?_
        refine o_no rfl rfl rfl rfl ?_
        refine o_no rfl rfl rfl rfl ?_
        refine o_no rfl rfl rfl rfl ?_
        refine o_step rfl (s_pick_f rfl rfl) ?_
        refine o_step rfl (s_move rfl) ?_
        refine o_no rfl rfl rfl rfl ?_
        refine o_no rfl rfl rfl rfl ?_
        refine o_no rfl rfl rfl rfl ?_
        refine o_step rfl (s_pick_f rfl rfl) ?_
        refine o_step rfl (s_assign rfl) ?_
        refine o_nil ?_
        refine x_then (hK18 _ _ ?_)
        refine c_false rfl ?_
        refine c_seq fun _ hK19 => ?_
        refine c_region ?_
        refine o_step rfl (s_move rfl) ?_
        refine o_step rfl (s_move rfl) ?_
        refine o_no rfl rfl rfl rfl ?_
        refine o_no rfl rfl rfl rfl ?_
        refine o_no rfl rfl rfl rfl ?_
        refine o_noU rfl rfl rfl ?_
        refine o_noU rfl rfl rfl ?_
        refine o_noU rfl rfl rfl ?_
        refine o_no rfl rfl rfl rfl ?_
        refine o_step rfl (s_pick_f rfl rfl) ?_
        refine o_step rfl (s_assign rfl) ?_
        refine o_nil ?_
        refine x_then (hK19 _ _ ?_)
        refine c_false rfl ?_
        refine c_seq fun _ hK20 => ?_
        refine c_region ?_
        refine o_step rfl (s_move rfl) ?_
        refine o_step rfl (s_not rfl) ?_
        refine o_step rfl (s_move rfl) ?_
        refine o_yes rfl rfl ?_
        refine o_step rfl (s_field rfl rfl (by decide)) ?_
        refine o_yes rfl rfl ?_
        refine o_step rfl (step_cast (v' := .bool true) (s_ld rfl (.own (by repeat (first | exact List.mem_cons_self | apply List.mem_cons_of_mem | apply mem_app)) rfl)) (by rw [hp])) ?_
        refine o_yes rfl rfl ?_
        refine o_step rfl (s_not rfl) ?_
        refine o_step rfl (s_pick_t rfl rfl) ?_
        refine o_step rfl (s_move rfl) ?_
        refine o_no rfl rfl rfl rfl ?_
        refine o_no rfl rfl rfl rfl ?_
        refine o_no rfl rfl rfl rfl ?_
        refine o_step rfl (s_pick_f rfl rfl) ?_
        refine o_step rfl (s_assign rfl) ?_
        refine o_nil ?_
        refine x_then (hK20 _ _ ?_)
        refine c_false rfl ?_
        refine c_region ?_
        refine o_step rfl (s_move rfl) ?_
        refine o_step rfl (s_field rfl rfl (by decide)) ?_
        refine o_step rfl (s_ld rfl (.own (by repeat (first | exact List.mem_cons_self | apply List.mem_cons_of_mem | apply mem_app)) rfl)) ?_
        refine o_bs (E := Eb) (xs := [(mk0 ms j).b]) (vs := [_]) rfl rfl rfl rfl rfl (by decide) (by decide) fun b17 S17 hS17 => ?_
        refine o_app hS (hS17.rdk (by repeat (first | exact HIn.here | exact HIn.all | exact HIn.one | apply HIn.cons | apply HIn.app))) rfl rfl rfl rfl (by show (acc.length + 1) * 1 ≤ _; omega) (by show acc.length + 1 ≤ _; omega) rfl (by repeat (first | exact .one | exact .here | exact .all | apply Pick.cons | apply Pick.app)) fun a18 c18 S18 hS18 => ?_
        refine o_step rfl (s_assign rfl) ?_
        refine o_nil ?_
        refine x_block ?_
        refine x_then (hK17 _ _ ?_)
        refine c_region ?_
        refine o_step rfl (s_assign rfl) ?_
        refine o_nil ?_
        refine x_block ?_
        refine x_then (hK15 _ _ ?_)
        refine c_region ?_
        refine o_step rfl (s_add rfl rfl (by omega)) ?_
        refine o_step rfl (s_move rfl) ?_
        refine o_nil ?_
        exact x_then (x_inv (j + 1, acc ++ [(mk0 ms j).b], false, _, _, _) ⟨by omega, by rw [runM_step hr, st_x (.inl hp)], hS18⟩ (by first | omega | (dsimp only; omega)) (by repeat (first | exact Sub.nil | refine Sub.cons rfl ?_)) (by repeat (first | exact HSub.refl _ | exact HSub.nil | refine HSub.takeC (by repeat (first | exact .one | exact .here | exact .all | apply Pick.cons | apply Pick.app)) ?_ | refine HSub.take (by repeat (first | exact .one | exact .here | exact .all | apply Pick.cons | apply Pick.app)) ?_ | exact HSub.of_pick (by repeat (first | exact .one | exact .here | exact .all | apply Pick.cons | apply Pick.app)))))
    · skip
      cases hp : (mk0 ms j).p
      · skip
        refine c_skip ?_
        refine x_then (hK7 _ _ ?_)
        refine c_seq fun _ hK21 => ?_
        refine c_block ?_
        refine c_seq fun _ hK22 => ?_
        refine c_region ?_
        refine o_step rfl (s_idx rfl rfl (by assumption) (by omega)) ?_
        refine o_step rfl (s_ldB rfl ((RdK.old0 hw).lds j (mk0_get (by omega)) (by omega)) rfl) ?_
        refine o_alloc rfl rfl fun b7 => ?_
        refine o_stW rfl rfl (by repeat (first | exact .here | apply Upd.there | apply Upd.skip)) rfl (by first | (rw [flat_len, Nat.mul_one]; first | assumption | exact List.length_replicate) | exact List.length_replicate | rfl) (Enc.one (E := Em) (mk0 ms j)) ?_
        refine o_nil ?_
        refine x_then (hK22 _ _ ?_)
        refine c_seq fun _ hK23 => ?_
        refine c_block ?_
        refine c_seq fun _ hK24 => ?_
        refine c_region ?_
        refine o_step rfl (s_move rfl) ?_
        refine o_step rfl (s_move rfl) ?_
        refine o_yes rfl rfl ?_
        refine o_step rfl (s_field rfl rfl (by decide)) ?_
        refine o_yes rfl rfl ?_
        refine o_step rfl (step_cast (v' := .bool false) (s_ld rfl (.own (by repeat (first | exact List.mem_cons_self | apply List.mem_cons_of_mem | apply mem_app)) rfl)) (by rw [hp])) ?_
        refine o_yes rfl rfl ?_
        refine o_step rfl (s_not rfl) ?_
        refine o_step rfl (s_pick_t rfl rfl) ?_
        refine o_step rfl (s_move rfl) ?_
        refine o_yes rfl rfl ?_
        refine o_step rfl (s_field rfl rfl (by decide)) ?_
        refine o_yes rfl rfl ?_
        refine o_step rfl (s_ld rfl (.own (by repeat (first | exact List.mem_cons_self | apply List.mem_cons_of_mem | apply mem_app)) rfl)) ?_
        refine o_yes rfl rfl ?_
        by_cases hn : (mk0 ms j).b = 110
        · skip
          refine o_step rfl (s_eql_t rfl rfl (by rw [hn]; rfl)) ?_
          refine o_step rfl (s_pick_t rfl rfl) ?_
          refine o_step rfl (s_assign rfl) ?_
          refine o_nil ?_
          refine x_then (hK24 _ _ ?_)
          refine c_true rfl ?_
          refine c_region ?_
          refine o_step rfl (s_move rfl) ?_
          refine o_bs (E := Eb) (xs := [10]) (vs := [_]) rfl rfl rfl rfl rfl (by decide) (by decide) fun b32 S32 hS32 => ?_
          refine o_app hS (hS32.rdk (by repeat (first | exact HIn.here | exact HIn.all | exact HIn.one | apply HIn.cons | apply HIn.app))) rfl rfl rfl rfl (by show (acc.length + 1) * 1 ≤ _; omega) (by show acc.length + 1 ≤ _; omega) rfl (by repeat (first | exact .one | exact .here | exact .all | apply Pick.cons | apply Pick.app)) fun a33 c33 S33 hS33 => ?_
          refine o_step rfl (s_assign rfl) ?_
          refine o_nil ?_
          refine x_block ?_
          refine x_then (hK23 _ _ ?_)
          refine c_region ?_
          refine o_step rfl (s_assign rfl) ?_
          refine o_nil ?_
          refine x_block ?_
          refine x_then (hK21 _ _ ?_)
          refine c_region ?_
          refine o_step rfl (s_add rfl rfl (by omega)) ?_
          refine o_step rfl (s_move rfl) ?_
          refine o_nil ?_
          exact x_then (x_inv (j + 1, acc ++ [10], false, _, _, _) ⟨by omega, by rw [runM_step hr, st_esc_n hp hn], hS33⟩ (by first | omega | (dsimp only; omega)) (by repeat (first | exact Sub.nil | refine Sub.cons rfl ?_)) (by repeat (first | exact HSub.refl _ | exact HSub.nil | refine HSub.takeC (by repeat (first | exact .one | exact .here | exact .all | apply Pick.cons | apply Pick.app)) ?_ | refine HSub.take (by repeat (first | exact .one | exact .here | exact .all | apply Pick.cons | apply Pick.app)) ?_ | exact HSub.of_pick (by repeat (first | exact .one | exact .here | exact .all | apply Pick.cons | apply Pick.app)))))
        · skip
          refine o_step rfl (s_eql_f rfl rfl (fun e => hn (UInt8.toNat_inj.1 (by have h : (110 : UInt8).toNat = 110 := rfl; omega)))) ?_
          refine o_step rfl (s_pick_t rfl rfl) ?_
          refine o_step rfl (s_assign rfl) ?_
          refine o_nil ?_
          refine x_then (hK24 _ _ ?_)
          refine c_false rfl ?_
          refine c_seq fun _ hK25 => ?_
          refine c_region ?_
          refine o_step rfl (s_move rfl) ?_
          refine o_step rfl (s_move rfl) ?_
          refine o_yes rfl rfl ?_
          refine o_step rfl (s_field rfl rfl (by decide)) ?_
          refine o_yes rfl rfl ?_
          refine o_step rfl (step_cast (v' := .bool false) (s_ld rfl (.own (by repeat (first | exact List.mem_cons_self | apply List.mem_cons_of_mem | apply mem_app)) rfl)) (by rw [hp])) ?_
          refine o_yes rfl rfl ?_
          refine o_step rfl (s_move rfl) ?_
          refine o_yes rfl rfl ?_
          refine o_step rfl (s_field rfl rfl (by decide)) ?_
          refine o_yes rfl rfl ?_
          refine o_step rfl (s_ld rfl (.own (by repeat (first | exact List.mem_cons_self | apply List.mem_cons_of_mem | apply mem_app)) rfl)) ?_
          refine o_yes rfl rfl ?_
          by_cases hb2 : (mk0 ms j).b ≠ 92
          · skip
            refine o_step rfl (s_neq_t rfl rfl (fun e => hb2 (UInt8.toNat_inj.1 (by have h : (92 : UInt8).toNat = 92 := rfl; omega)))) ?_
            refine o_yes rfl rfl ?_
            refine o_step rfl (s_pick_f rfl rfl) ?_
            refine o_step rfl (s_pick_t rfl rfl) ?_
            refine o_step rfl (s_assign rfl) ?_
            refine o_nil ?_
            refine x_then (hK25 _ _ ?_)
            refine c_true rfl ?_
            refine c_seq fun _ hK26 => ?_
            refine c_region ?_
            refine o_step rfl (s_assign rfl) ?_
            refine o_step rfl (s_assign rfl) ?_
            refine o_nil ?_
            refine x_then (hK26 _ _ ?_)
            refine c_ret ?_
            refine x_block_ret (x_then_ret (x_block_ret (x_then_ret (x_then_ret (x_block_ret (x_then_ret (?_)))))))
            exact x_ret rfl (.tmp rfl (.tmp rfl (.nil))) (.inr ⟨rowM_none (j := j + 1) (by rw [runM_step hr, st_esc_x hp hb2 hn]) (by omega), _, rfl⟩)
          · skip
            refine o_step rfl (s_neq_f rfl rfl (by rw [Decidable.not_not.1 hb2]; rfl)) ?_
            refine o_yes rfl rfl ?_
            refine o_step rfl (s_pick_f rfl rfl) ?_
            refine o_step rfl (s_pick_t rfl rfl) ?_
            refine o_step rfl (s_assign rfl) ?_
            refine o_nil ?_
            refine x_then (hK25 _ _ ?_)
            refine c_false rfl ?_
            refine c_seq fun _ hK27 => ?_
            refine c_region ?_
            refine o_step rfl (s_move rfl) ?_
            refine o_step rfl (s_not rfl) ?_
            refine o_step rfl (s_move rfl) ?_
            refine o_no rfl rfl rfl rfl ?_
            refine o_no rfl rfl rfl rfl ?_
            refine o_no rfl rfl rfl rfl ?_
            refine o_step rfl (s_pick_f rfl rfl) ?_
            refine o_step rfl (s_move rfl) ?_
            refine o_no rfl rfl rfl rfl ?_
            refine o_no rfl rfl rfl rfl ?_
            refine o_no rfl rfl rfl rfl ?_
            refine o_step rfl (s_pick_f rfl rfl) ?_
            refine o_step rfl (s_assign rfl) ?_
            refine o_nil ?_
            refine x_then (hK27 _ _ ?_)
            refine c_false rfl ?_
            refine c_region ?_
            refine o_step rfl (s_move rfl) ?_
            refine o_step rfl (s_field rfl rfl (by decide)) ?_
            refine o_step rfl (s_ld rfl (.own (by repeat (first | exact List.mem_cons_self | apply List.mem_cons_of_mem | apply mem_app)) rfl)) ?_
            refine o_bs (E := Eb) (xs := [(mk0 ms j).b]) (vs := [_]) rfl rfl rfl rfl rfl (by decide) (by decide) fun b17 S17 hS17 => ?_
            refine o_app hS (hS17.rdk (by repeat (first | exact HIn.here | exact HIn.all | exact HIn.one | apply HIn.cons | apply HIn.app))) rfl rfl rfl rfl (by show (acc.length + 1) * 1 ≤ _; omega) (by show acc.length + 1 ≤ _; omega) rfl (by repeat (first | exact .one | exact .here | exact .all | apply Pick.cons | apply Pick.app)) fun a18 c18 S18 hS18 => ?_
            refine o_step rfl (s_assign rfl) ?_
            refine o_nil ?_
            refine x_block ?_
            refine x_then (hK23 _ _ ?_)
            refine c_region ?_
            refine o_step rfl (s_assign rfl) ?_
            refine o_nil ?_
            refine x_block ?_
            refine x_then (hK21 _ _ ?_)
            refine c_region ?_
            refine o_step rfl (s_add rfl rfl (by omega)) ?_
            refine o_step rfl (s_move rfl) ?_
            refine o_nil ?_
            exact x_then (x_inv (j + 1, acc ++ [(mk0 ms j).b], false, _, _, _) ⟨by omega, by rw [runM_step hr, st_esc_b hp (Decidable.not_not.1 hb2), Decidable.not_not.1 hb2], hS18⟩ (by first | omega | (dsimp only; omega)) (by repeat (first | exact Sub.nil | refine Sub.cons rfl ?_)) (by repeat (first | exact HSub.refl _ | exact HSub.nil | refine HSub.takeC (by repeat (first | exact .one | exact .here | exact .all | apply Pick.cons | apply Pick.app)) ?_ | refine HSub.take (by repeat (first | exact .one | exact .here | exact .all | apply Pick.cons | apply Pick.app)) ?_ | exact HSub.of_pick (by repeat (first | exact .one | exact .here | exact .all | apply Pick.cons | apply Pick.app)))))
      · skip
        refine c_skip ?_
        refine x_then (hK7 _ _ ?_)
        refine c_seq fun _ hK28 => ?_
        refine c_block ?_
        refine c_seq fun _ hK29 => ?_
        refine c_region ?_
        refine o_step rfl (s_idx rfl rfl (by assumption) (by omega)) ?_
        refine o_step rfl (s_ldB rfl ((RdK.old0 hw).lds j (mk0_get (by omega)) (by omega)) rfl) ?_
        refine o_alloc rfl rfl fun b7 => ?_
        refine o_stW rfl rfl (by repeat (first | exact .here | apply Upd.there | apply Upd.skip)) rfl (by first | (rw [flat_len, Nat.mul_one]; first | assumption | exact List.length_replicate) | exact List.length_replicate | rfl) (Enc.one (E := Em) (mk0 ms j)) ?_
        refine o_nil ?_
        refine x_then (hK29 _ _ ?_)
        refine c_seq fun _ hK30 => ?_
        refine c_block ?_
        refine c_seq fun _ hK31 => ?_
        refine c_region ?_
        refine o_step rfl (s_move rfl) ?_
        refine o_step rfl (s_move rfl) ?_
        refine o_yes rfl rfl ?_
        refine o_step rfl (s_field rfl rfl (by decide)) ?_
        refine o_yes rfl rfl ?_
        refine o_step rfl (step_cast (v' := .bool true) (s_ld rfl (.own (by repeat (first | exact List.mem_cons_self | apply List.mem_cons_of_mem | apply mem_app)) rfl)) (by rw [hp])) ?_
        refine o_yes rfl rfl ?_
        refine o_step rfl (s_not rfl) ?_
        refine o_step rfl (s_pick_t rfl rfl) ?_
        refine o_step rfl (s_move rfl) ?_
        refine o_no rfl rfl rfl rfl ?_
        refine o_no rfl rfl rfl rfl ?_
        refine o_no rfl rfl rfl rfl ?_
        refine o_step rfl (s_pick_f rfl rfl) ?_
        refine o_step rfl (s_assign rfl) ?_
        refine o_nil ?_
        refine x_then (hK31 _ _ ?_)
        refine c_false rfl ?_
        refine c_seq fun _ hK32 => ?_
        refine c_region ?_
        refine o_step rfl (s_move rfl) ?_
        refine o_step rfl (s_move rfl) ?_
        refine o_yes rfl rfl ?_
        refine o_step rfl (s_field rfl rfl (by decide)) ?_
        refine o_yes rfl rfl ?_
        refine o_step rfl (step_cast (v' := .bool true) (s_ld rfl (.own (by repeat (first | exact List.mem_cons_self | apply List.mem_cons_of_mem | apply mem_app)) rfl)) (by rw [hp])) ?_
        refine o_yes rfl rfl ?_
        refine o_step rfl (s_move rfl) ?_
        refine o_no rfl rfl rfl rfl ?_
        refine o_no rfl rfl rfl rfl ?_
        refine o_no rfl rfl rfl rfl ?_
        refine o_yes rfl rfl ?_
        refine o_step rfl (s_pick_t rfl rfl) ?_
        refine o_step rfl (s_pick_t rfl rfl) ?_
        refine o_step rfl (s_assign rfl) ?_
        refine o_nil ?_
        refine x_then (hK32 _ _ ?_)
        refine c_true rfl ?_
        refine c_seq fun _ hK33 => ?_
        refine c_region ?_
        refine o_step rfl (s_assign rfl) ?_
        refine o_step rfl (s_assign rfl) ?_
        refine o_nil ?_
        refine x_then (hK33 _ _ ?_)
        refine c_ret ?_
        refine x_block_ret (x_then_ret (x_block_ret (x_then_ret (x_then_ret (x_block_ret (x_then_ret (?_)))))))
        exact x_ret rfl (.tmp rfl (.tmp rfl (.nil))) (.inr ⟨rowM_none (j := j + 1) (by rw [runM_step hr, st_esc_p hp]) (by omega), _, rfl⟩)
  · skip
    refine c_exit ?_
    refine x_then_exit ?_
    refine x_then_exit ?_
    refine x_block_exit ?_
    refine x_then (hK4 _ _ ?_)
    refine c_seq fun _ hK34 => ?_
    refine c_region ?_
    refine o_step rfl (s_move rfl) ?_
    refine o_step rfl (s_move rfl) ?_
    refine o_step rfl (s_not rfl) ?_
    refine o_step rfl (s_assign rfl) ?_
    refine o_step rfl (s_assign rfl) ?_
    refine o_nil ?_
    refine x_then (hK34 _ _ ?_)
    refine c_ret ?_
    refine ?_
    exact x_ret rfl (.tmp rfl (.tmp rfl (.nil))) (by cases esc; exact .inl ⟨acc, _, _, by rw [rowM_end hr (by omega) (by omega)]; rfl, rfl, hS⟩; exact .inr ⟨by rw [rowM_end hr (by omega) (by omega)]; rfl, _, rfl⟩)

theorem row_fn (a : Option Addr) (c : Nat) (ms : List Mk) : HL.Fn Try.prog 62 [.slice a ms.length c] (fun w => Rd Em w (.slice a ms.length c) ms) [] (fun v S' => (∃ l a c, rowM ms = some l ∧ v = .tuple #[.slice a l.length c, .bool true] ∧ OwnS Eb 1 5 (.slice a l.length c) l S') ∨ (rowM ms = none ∧ ∃ u, v = .tuple #[u, .bool false])) := by
  refine fn_of Try.func62 rfl rfl rfl fun w0 hw => ?_
  have hsx := hw.sl
  have hbx := hsx.le
  refine c_seq fun _ hK1 => ?_
  refine c_region ?_
  refine o_step rfl (s_assign rfl) ?_
  refine o_step rfl (s_assign rfl) ?_
  refine o_nil ?_
  refine x_then (hK1 _ _ ?_)
  refine c_seq fun _ hK2 => ?_
  refine c_region ?_
  refine o_step rfl (s_assign rfl) ?_
  refine o_nil ?_
  refine x_then (hK2 _ _ ?_)
  refine c_seq fun _ hK3 => ?_
  refine c_seq fun _ hK4 => ?_
  refine c_region ?_
  refine o_step rfl (s_assign rfl) ?_
  refine o_nil ?_
  refine x_then (hK4 _ _ ?_)
  refine c_block ?_
  -- not carried: 2 3
  refine c_loop5 (fun (j : Nat) (acc : List UInt8) (a2 : Option Addr) (c2 : Nat) (S : Hp) => j ≤ ms.length ∧ runM ms j = some (acc, false) ∧ OwnS Eb 1 5 (.slice a2 acc.length c2) acc S) (fun (j : Nat) (acc : List UInt8) (a2 : Option Addr) (c2 : Nat) (S : Hp) => [(4, .slice a2 acc.length c2), (5, .int .i64 j)]) [(0, _)] (fun (j : Nat) (acc : List UInt8) (a2 : Option Addr) (c2 : Nat) (S : Hp) => S) (fun (j : Nat) (acc : List UInt8) (a2 : Option Addr) (c2 : Nat) (S : Hp) => ms.length - j) 0 [] none 0 [] ⟨by omega, rfl, .nil⟩ (by repeat (first | exact Sub.nil | refine Sub.cons rfl ?_)) (by repeat (first | exact Sub.nil | refine Sub.cons rfl ?_)) (by exact HSub.refl _) ?_
  rintro j acc a2 c2 S ⟨hj, hr, hS⟩
  have hal := runM_len hr
  refine c_seq fun _ hK5 => ?_
  refine c_seq fun _ hK6 => ?_
  refine c_region ?_
  refine o_step rfl (s_move rfl) ?_
  refine o_step rfl (s_move rfl) ?_
  refine o_step rfl (s_len rfl) ?_
  refine o_step rfl (s_lss rfl rfl) ?_
  refine o_nil ?_
  refine x_then (hK6 _ _ ?_)
  refine c_if rfl (fun hlt => ?_) (fun hlt => ?_)
  · skip
    cases hp : (mk0 ms j).p
    · skip
      refine c_skip ?_
      refine x_then (hK5 _ _ ?_)
      refine c_seq fun _ hK7 => ?_
      refine c_block ?_
      refine c_seq fun _ hK8 => ?_
      refine c_seq fun _ hK9 => ?_
      refine c_region ?_
      refine o_step rfl (s_move rfl) ?_
      refine o_step rfl (s_move rfl) ?_
      refine o_step rfl (s_idx rfl rfl (by assumption) (by omega)) ?_
      refine o_step rfl (s_field rfl rfl (by decide)) ?_
      refine o_step rfl (step_cast (v' := .bool false) (s_ld rfl ((RdK.old0 hw).ld (j) 1 (mk0_get (by omega)) rfl (by decide) (by omega))) (by rw [hp])) ?_
      refine o_step rfl (s_move rfl) ?_
      refine o_yes rfl rfl ?_
      refine o_step rfl (s_move rfl) ?_
      refine o_yes rfl rfl ?_
      refine o_step rfl (s_move rfl) ?_
      refine o_yes rfl rfl ?_
      refine o_step rfl (s_idx rfl rfl (by assumption) (by omega)) ?_
      refine o_yes rfl rfl ?_
      refine o_step rfl (s_field rfl rfl (by decide)) ?_
      refine o_yes rfl rfl ?_
      refine o_step rfl (s_ld rfl ((RdK.old0 hw).ld (j) 0 (mk0_get (by omega)) rfl (by decide) (by omega))) ?_
      refine o_yes rfl rfl ?_
      by_cases hb : (mk0 ms j).b ≠ 92
      · skip
        refine o_step rfl (s_neq_t rfl rfl (fun e => hb (UInt8.toNat_inj.1 (by have h : (92 : UInt8).toNat = 92 := rfl; omega)))) ?_
        refine o_step rfl (s_pick_f rfl rfl) ?_
        refine o_nil ?_
        refine x_then (hK9 _ _ ?_)
        refine c_true rfl ?_
        refine c_seq fun _ hK10 => ?_
        refine c_region ?_
        refine o_step rfl (s_move rfl) ?_
        refine o_step rfl (s_move rfl) ?_
        refine o_step rfl (s_move rfl) ?_
        refine o_step rfl (s_idx rfl rfl (by assumption) (by omega)) ?_
        refine o_step rfl (s_field rfl rfl (by decide)) ?_
        refine o_step rfl (s_ld rfl ((RdK.old0 hw).ld (j) 0 (mk0_get (by omega)) rfl (by decide) (by omega))) ?_
        refine o_bs (E := Eb) (xs := [(mk0 ms j).b]) (vs := [_]) rfl rfl rfl rfl rfl (by decide) (by decide) fun b31 S31 hS31 => ?_
        refine o_app hS (hS31.rdk (by repeat (first | exact HIn.here | exact HIn.all | exact HIn.one | apply HIn.cons | apply HIn.app))) rfl rfl rfl rfl (by show (acc.length + 1) * 1 ≤ _; omega) (by show acc.length + 1 ≤ _; omega) rfl (by repeat (first | exact .one | exact .here | exact .all | apply Pick.cons | apply Pick.app)) fun a32 c32 S32 hS32 => ?_
        refine o_step rfl (s_assign rfl) ?_
        refine o_nil ?_
        refine x_then (hK10 _ _ ?_)
        refine c_exit ?_
        refine x_then_exit ?_
        refine x_block_exit ?_
        refine x_then (hK7 _ _ ?_)
        refine c_region ?_
        refine o_step rfl (s_move rfl) ?_
        refine o_step rfl (s_add rfl rfl (by omega)) ?_
        refine o_step rfl (s_assign rfl) ?_
        refine o_nil ?_
        exact x_then (x_inv (j + 1, acc ++ [(mk0 ms j).b], _, _, _) ⟨by omega, by rw [runM_step hr, st_x (.inr hb)], hS32⟩ (by first | omega | (dsimp only; omega)) (by repeat (first | exact Sub.nil | refine Sub.cons rfl ?_)) (by repeat (first | exact HSub.refl _ | exact HSub.nil | refine HSub.takeC (by repeat (first | exact .one | exact .here | exact .all | apply Pick.cons | apply Pick.app)) ?_ | refine HSub.take (by repeat (first | exact .one | exact .here | exact .all | apply Pick.cons | apply Pick.app)) ?_ | exact HSub.of_pick (by repeat (first | exact .one | exact .here | exact .all | apply Pick.cons | apply Pick.app)))))
      · skip
        refine o_step rfl (s_neq_f rfl rfl (by rw [Decidable.not_not.1 hb]; rfl)) ?_
        refine o_step rfl (s_pick_f rfl rfl) ?_
        refine o_nil ?_
        refine x_then (hK9 _ _ ?_)
        refine c_false rfl ?_
        refine c_skip ?_
        refine x_then (hK8 _ _ ?_)
        refine c_seq fun _ hK11 => ?_
        refine c_region ?_
        refine o_step rfl (s_move rfl) ?_
        refine o_step rfl (s_add rfl rfl (by omega)) ?_
        refine o_step rfl (s_assign rfl) ?_
        refine o_nil ?_
        refine x_then (hK11 _ _ ?_)
        refine c_block ?_
        refine c_seq fun _ hK12 => ?_
        refine c_region ?_
        refine o_step rfl (s_move rfl) ?_
        refine o_step rfl (s_move rfl) ?_
        refine o_step rfl (s_len rfl) ?_
        by_cases hend : j + 1 = ms.length
        · skip
          refine o_step rfl (s_eql_t rfl rfl (by omega)) ?_
          refine o_step rfl (s_move rfl) ?_
          refine o_no rfl rfl rfl rfl ?_
          refine o_no rfl rfl rfl rfl ?_
          refine o_no rfl rfl rfl rfl ?_
          refine o_no rfl rfl rfl rfl ?_
          refine o_no rfl rfl rfl rfl ?_
          refine o_step rfl (s_pick_t rfl rfl) ?_
          refine o_step rfl (s_assign rfl) ?_
          refine o_nil ?_
          refine x_then (hK12 _ _ ?_)
          refine c_true rfl ?_
          refine c_seq fun _ hK13 => ?_
          refine c_region ?_
          refine o_step rfl (s_assign rfl) ?_
          refine o_step rfl (s_assign rfl) ?_
          refine o_nil ?_
          refine x_then (hK13 _ _ ?_)
          refine c_ret ?_
          refine x_block_ret (x_block_ret (x_then_ret (x_then_ret (x_block_ret (x_then_ret (?_))))))
          exact x_ret rfl (.tmp rfl (.tmp rfl (.nil))) (.inr ⟨by rw [rowM_end (by rw [runM_step hr, st_b hp (Decidable.not_not.1 hb)]) (by omega) (by omega)]; rfl, _, rfl⟩)
        · skip
          refine o_step rfl (s_eql_f rfl rfl (by omega)) ?_
          refine o_step rfl (s_move rfl) ?_
          refine o_yes rfl rfl ?_
          refine o_step rfl (s_move rfl) ?_
          refine o_yes rfl rfl ?_
          refine o_step rfl (s_move rfl) ?_
          refine o_yes rfl rfl ?_
          refine o_step rfl (s_idx rfl rfl (by assumption) (by omega)) ?_
          refine o_yes rfl rfl ?_
          refine o_step rfl (s_field rfl rfl (by decide)) ?_
          refine o_yes rfl rfl ?_
          by_cases hpp : (mk0 ms (j + 1)).p = true
          · skip
            refine o_step rfl (step_cast (v' := .bool true) (s_ld rfl ((RdK.old0 hw).ld (j + 1) 1 (mk0_get (by omega)) rfl (by decide) (by omega))) (by rw [hpp])) ?_
            refine o_step rfl (s_pick_f rfl rfl) ?_
            refine o_step rfl (s_assign rfl) ?_
            refine o_nil ?_
            refine x_then (hK12 _ _ ?_)
            refine c_true rfl ?_
            refine c_seq fun _ hK14 => ?_
            refine c_region ?_
            refine o_step rfl (s_assign rfl) ?_
            refine o_step rfl (s_assign rfl) ?_
            refine o_nil ?_
            refine x_then (hK14 _ _ ?_)
            refine c_ret ?_
            refine x_block_ret (x_block_ret (x_then_ret (x_then_ret (x_block_ret (x_then_ret (?_))))))
            exact x_ret rfl (.tmp rfl (.tmp rfl (.nil))) (.inr ⟨rowM_none (j := j + 1 + 1) (by rw [runM_step (by rw [runM_step hr, st_b hp (Decidable.not_not.1 hb)]), st_esc_p hpp]) (by omega), _, rfl⟩)
          · skip
            have hp1 : (mk0 ms (j + 1)).p = false := by simpa using hpp
            refine o_step rfl (step_cast (v' := .bool false) (s_ld rfl ((RdK.old0 hw).ld (j + 1) 1 (mk0_get (by omega)) rfl (by decide) (by omega))) (by rw [hp1])) ?_
            refine o_step rfl (s_pick_f rfl rfl) ?_
            refine o_step rfl (s_assign rfl) ?_
            refine o_nil ?_
            refine x_then (hK12 _ _ ?_)
            refine c_false rfl ?_
            refine c_seq fun _ hK15 => ?_
            refine c_region ?_
            refine o_step rfl (s_move rfl) ?_
            refine o_step rfl (s_move rfl) ?_
            refine o_step rfl (s_idx rfl rfl (by assumption) (by omega)) ?_
            refine o_step rfl (s_field rfl rfl (by decide)) ?_
            refine o_step rfl (s_ld rfl ((RdK.old0 hw).ld (j + 1) 0 (mk0_get (by omega)) rfl (by decide) (by omega))) ?_
            by_cases hb1 : (mk0 ms (j + 1)).b = 92
            · skip
              refine o_step rfl (s_eql_t rfl rfl (by rw [hb1]; rfl)) ?_
              refine o_step rfl (s_assign rfl) ?_
              refine o_nil ?_
              refine x_then (hK15 _ _ ?_)
              refine c_true rfl ?_
              refine c_region ?_
              refine o_step rfl (s_move rfl) ?_
              refine o_bs (E := Eb) (xs := [92]) (vs := [_]) rfl rfl rfl rfl rfl (by decide) (by decide) fun b55 S55 hS55 => ?_
              refine o_app hS (hS55.rdk (by repeat (first | exact HIn.here | exact HIn.all | exact HIn.one | apply HIn.cons | apply HIn.app))) rfl rfl rfl rfl (by show (acc.length + 1) * 1 ≤ _; omega) (by show acc.length + 1 ≤ _; omega) rfl (by repeat (first | exact .one | exact .here | exact .all | apply Pick.cons | apply Pick.app)) fun a56 c56 S56 hS56 => ?_
              refine o_step rfl (s_assign rfl) ?_
              refine o_nil ?_
              refine x_block ?_
              refine x_block ?_
              refine x_then (hK7 _ _ ?_)
              refine c_region ?_
              refine o_step rfl (s_move rfl) ?_
              refine o_step rfl (s_add rfl rfl (by omega)) ?_
              refine o_step rfl (s_assign rfl) ?_
              refine o_nil ?_
              exact x_then (x_inv (j + 1 + 1, acc ++ [92], _, _, _) ⟨by omega, by rw [runM_step (by rw [runM_step hr, st_b hp (Decidable.not_not.1 hb)]), st_esc_b hp1 hb1], hS56⟩ (by first | omega | (dsimp only; omega)) (by repeat (first | exact Sub.nil | refine Sub.cons rfl ?_)) (by repeat (first | exact HSub.refl _ | exact HSub.nil | refine HSub.takeC (by repeat (first | exact .one | exact .here | exact .all | apply Pick.cons | apply Pick.app)) ?_ | refine HSub.take (by repeat (first | exact .one | exact .here | exact .all | apply Pick.cons | apply Pick.app)) ?_ | exact HSub.of_pick (by repeat (first | exact .one | exact .here | exact .all | apply Pick.cons | apply Pick.app)))))
            · skip
              refine o_step rfl (s_eql_f rfl rfl (fun e => hb1 (UInt8.toNat_inj.1 (by have h : (92 : UInt8).toNat = 92 := rfl; omega)))) ?_
              refine o_step rfl (s_assign rfl) ?_
              refine o_nil ?_
              refine x_then (hK15 _ _ ?_)
              refine c_false rfl ?_
              refine c_seq fun _ hK16 => ?_
              refine c_region ?_
              refine o_step rfl (s_move rfl) ?_
              refine o_step rfl (s_move rfl) ?_
              refine o_step rfl (s_idx rfl rfl (by assumption) (by omega)) ?_
              refine o_step rfl (s_field rfl rfl (by decide)) ?_
              refine o_step rfl (s_ld rfl ((RdK.old0 hw).ld (j + 1) 0 (mk0_get (by omega)) rfl (by decide) (by omega))) ?_
              by_cases hn1 : (mk0 ms (j + 1)).b = 110
              · skip
                refine o_step rfl (s_eql_t rfl rfl (by rw [hn1]; rfl)) ?_
                refine o_step rfl (s_assign rfl) ?_
                refine o_nil ?_
                refine x_then (hK16 _ _ ?_)
                refine c_true rfl ?_
                refine c_region ?_
                refine o_step rfl (s_move rfl) ?_
                refine o_bs (E := Eb) (xs := [10]) (vs := [_]) rfl rfl rfl rfl rfl (by decide) (by decide) fun b65 S65 hS65 => ?_
                refine o_app hS (hS65.rdk (by repeat (first | exact HIn.here | exact HIn.all | exact HIn.one | apply HIn.cons | apply HIn.app))) rfl rfl rfl rfl (by show (acc.length + 1) * 1 ≤ _; omega) (by show acc.length + 1 ≤ _; omega) rfl (by repeat (first | exact .one | exact .here | exact .all | apply Pick.cons | apply Pick.app)) fun a66 c66 S66 hS66 => ?_
                refine o_step rfl (s_assign rfl) ?_
                refine o_nil ?_
                refine x_block ?_
                refine x_block ?_
                refine x_then (hK7 _ _ ?_)
                refine c_region ?_
                refine o_step rfl (s_move rfl) ?_
                refine o_step rfl (s_add rfl rfl (by omega)) ?_
                refine o_step rfl (s_assign rfl) ?_
                refine o_nil ?_
                exact x_then (x_inv (j + 1 + 1, acc ++ [10], _, _, _) ⟨by omega, by rw [runM_step (by rw [runM_step hr, st_b hp (Decidable.not_not.1 hb)]), st_esc_n hp1 hn1], hS66⟩ (by first | omega | (dsimp only; omega)) (by repeat (first | exact Sub.nil | refine Sub.cons rfl ?_)) (by repeat (first | exact HSub.refl _ | exact HSub.nil | refine HSub.takeC (by repeat (first | exact .one | exact .here | exact .all | apply Pick.cons | apply Pick.app)) ?_ | refine HSub.take (by repeat (first | exact .one | exact .here | exact .all | apply Pick.cons | apply Pick.app)) ?_ | exact HSub.of_pick (by repeat (first | exact .one | exact .here | exact .all | apply Pick.cons | apply Pick.app)))))
              · skip
                refine o_step rfl (s_eql_f rfl rfl (fun e => hn1 (UInt8.toNat_inj.1 (by have h : (110 : UInt8).toNat = 110 := rfl; omega)))) ?_
                refine o_step rfl (s_assign rfl) ?_
                refine o_nil ?_
                refine x_then (hK16 _ _ ?_)
                refine c_false rfl ?_
                refine c_seq fun _ hK17 => ?_
                refine c_region ?_
                refine o_step rfl (s_assign rfl) ?_
                refine o_step rfl (s_assign rfl) ?_
                refine o_nil ?_
                refine x_then (hK17 _ _ ?_)
                refine c_ret ?_
                refine x_block_ret (x_block_ret (x_then_ret (x_then_ret (x_block_ret (x_then_ret (?_))))))
                exact x_ret rfl (.tmp rfl (.tmp rfl (.nil))) (.inr ⟨rowM_none (j := j + 1 + 1) (by rw [runM_step (by rw [runM_step hr, st_b hp (Decidable.not_not.1 hb)]), st_esc_x hp1 hb1 hn1]) (by omega), _, rfl⟩)
    · skip
      refine c_skip ?_
      refine x_then (hK5 _ _ ?_)
      refine c_seq fun _ hK18 => ?_
      refine c_block ?_
      refine c_seq fun _ hK19 => ?_
      refine c_seq fun _ hK20 => ?_
      refine c_region ?_
      refine o_step rfl (s_move rfl) ?_
      refine o_step rfl (s_move rfl) ?_
      refine o_step rfl (s_idx rfl rfl (by assumption) (by omega)) ?_
      refine o_step rfl (s_field rfl rfl (by decide)) ?_
      refine o_step rfl (step_cast (v' := .bool true) (s_ld rfl ((RdK.old0 hw).ld (j) 1 (mk0_get (by omega)) rfl (by decide) (by omega))) (by rw [hp])) ?_
      refine o_step rfl (s_move rfl) ?_
      refine o_no rfl rfl rfl rfl ?_
      refine o_no rfl rfl rfl rfl ?_
      refine o_no rfl rfl rfl rfl ?_
      refine o_no rfl rfl rfl rfl ?_
      refine o_no rfl rfl rfl rfl ?_
      refine o_no rfl rfl rfl rfl ?_
      refine o_step rfl (s_pick_t rfl rfl) ?_
      refine o_nil ?_
      refine x_then (hK20 _ _ ?_)
      refine c_true rfl ?_
      refine c_seq fun _ hK21 => ?_
      refine c_region ?_
      refine o_step rfl (s_move rfl) ?_
      refine o_step rfl (s_move rfl) ?_
      refine o_step rfl (s_move rfl) ?_
      refine o_step rfl (s_idx rfl rfl (by assumption) (by omega)) ?_
      refine o_step rfl (s_field rfl rfl (by decide)) ?_
      refine o_step rfl (s_ld rfl ((RdK.old0 hw).ld (j) 0 (mk0_get (by omega)) rfl (by decide) (by omega))) ?_
      refine o_bs (E := Eb) (xs := [(mk0 ms j).b]) (vs := [_]) rfl rfl rfl rfl rfl (by decide) (by decide) fun b31 S31 hS31 => ?_
      refine o_app hS (hS31.rdk (by repeat (first | exact HIn.here | exact HIn.all | exact HIn.one | apply HIn.cons | apply HIn.app))) rfl rfl rfl rfl (by show (acc.length + 1) * 1 ≤ _; omega) (by show acc.length + 1 ≤ _; omega) rfl (by repeat (first | exact .one | exact .here | exact .all | apply Pick.cons | apply Pick.app)) fun a32 c32 S32 hS32 => ?_
      refine o_step rfl (s_assign rfl) ?_
      refine o_nil ?_
      refine x_then (hK21 _ _ ?_)
      refine c_exit ?_
      refine x_then_exit ?_
      refine x_block_exit ?_
      refine x_then (hK18 _ _ ?_)
      refine c_region ?_
      refine o_step rfl (s_move rfl) ?_
      refine o_step rfl (s_add rfl rfl (by omega)) ?_
      refine o_step rfl (s_assign rfl) ?_
      refine o_nil ?_
      exact x_then (x_inv (j + 1, acc ++ [(mk0 ms j).b], _, _, _) ⟨by omega, by rw [runM_step hr, st_x (.inl hp)], hS32⟩ (by first | omega | (dsimp only; omega)) (by repeat (first | exact Sub.nil | refine Sub.cons rfl ?_)) (by repeat (first | exact HSub.refl _ | exact HSub.nil | refine HSub.takeC (by repeat (first | exact .one | exact .here | exact .all | apply Pick.cons | apply Pick.app)) ?_ | refine HSub.take (by repeat (first | exact .one | exact .here | exact .all | apply Pick.cons | apply Pick.app)) ?_ | exact HSub.of_pick (by repeat (first | exact .one | exact .here | exact .all | apply Pick.cons | apply Pick.app)))))
  · skip
    refine c_exit ?_
    refine x_then_exit ?_
    refine x_then_exit ?_
    refine x_block_exit ?_
    refine x_then (hK3 _ _ ?_)
    refine c_seq fun _ hK22 => ?_
    refine c_region ?_
    refine o_step rfl (s_move rfl) ?_
    refine o_step rfl (s_assign rfl) ?_
    refine o_step rfl (s_assign rfl) ?_
    refine o_nil ?_
    refine x_then (hK22 _ _ ?_)
    refine c_ret ?_
    refine ?_
    exact x_ret rfl (.tmp rfl (.tmp rfl (.nil))) (.inl ⟨acc, _, _, by rw [rowM_end hr (by omega) (by omega)]; rfl, rfl, hS⟩)

theorem parse_fn (a a2 : Option Addr) (c c2 : Nat) (l m : List Mk) : HL.Fn Try.prog 46 [.slice a l.length c, .slice a2 m.length c2] (fun w => Rd Em w (.slice a l.length c) l ∧ Rd Em w (.slice a2 m.length c2) m) [] (fun v _ => v = tabV (parseR l m)) := by
  refine fn_of Try.func46 rfl rfl rfl fun w0 hw => ?_
  obtain ⟨h1, h2⟩ := hw
  have hnl : ∀ f t, ((newR f t).getD zT).length = 256 := fun f t => getD_len (fun l h => newR_len h)
  refine c_seq fun _ hK1 => ?_
  refine c_region ?_
  refine o_alloc rfl rfl fun b4 => ?_
  refine o_step rfl (s_assign rfl) ?_
  refine o_nil ?_
  refine x_then (hK1 _ _ ?_)
  refine c_seq fun _ hK2 => ?_
  refine c_region ?_
  refine o_step rfl (s_move rfl) ?_
  refine o_call (said_fn a c l) rfl rfl rfl (by exact .nil) (fun w st => (RdK.old0 h1).out w st) (fun v12 S12 hv12 => ?_)
  rcases hv12 with ⟨l12, a12, c12, hl12, hv12, hS12⟩ | ⟨hl12, u12, hv12⟩
  · skip
    subst hv12
    refine o_step rfl (s_move rfl) ?_
    refine o_step rfl (s_extract rfl rfl) ?_
    refine o_step rfl (s_extract rfl rfl) ?_
    refine o_step rfl (s_assign rfl) ?_
    refine o_step rfl (s_assign rfl) ?_
    refine o_nil ?_
    refine x_then (hK2 _ _ ?_)
    refine c_seq fun _ hK3 => ?_
    refine c_region ?_
    refine o_step rfl (s_move rfl) ?_
    refine o_call (said_fn a2 c2 m) rfl rfl rfl (by exact .nil) (fun w st => (RdK.old0 h2).out w st) (fun v17 S17 hv17 => ?_)
    rcases hv17 with ⟨l17, a17, c17, hl17, hv17, hS17⟩ | ⟨hl17, u17, hv17⟩
    · skip
      subst hv17
      refine o_step rfl (s_move rfl) ?_
      refine o_step rfl (s_extract rfl rfl) ?_
      refine o_step rfl (s_extract rfl rfl) ?_
      refine o_step rfl (s_assign rfl) ?_
      refine o_step rfl (s_assign rfl) ?_
      refine o_nil ?_
      refine x_then (hK3 _ _ ?_)
      refine c_seq fun _ hK4 => ?_
      refine c_seq fun _ hK5 => ?_
      refine c_region ?_
      refine o_step rfl (s_move rfl) ?_
      refine o_step rfl (s_not rfl) ?_
      refine o_step rfl (s_move rfl) ?_
      refine o_yes rfl rfl ?_
      refine o_step rfl (s_move rfl) ?_
      refine o_yes rfl rfl ?_
      refine o_step rfl (s_not rfl) ?_
      refine o_step rfl (s_pick_f rfl rfl) ?_
      refine o_nil ?_
      refine x_then (hK5 _ _ ?_)
      refine c_false rfl ?_
      refine c_skip ?_
      refine x_then (hK4 _ _ ?_)
      refine c_seq fun _ hK6 => ?_
      refine c_region ?_
      refine o_step rfl (s_move rfl) ?_
      refine o_step rfl (s_move rfl) ?_
      refine o_callP (new_fn a12 a17 c12 c17 l12 l17) rfl rfl rfl (fun w st => ⟨(hS12.rdk (by repeat (first | exact HIn.here | exact HIn.all | exact HIn.one | apply HIn.cons | apply HIn.app))).out w st, (hS17.rdk (by repeat (first | exact HIn.here | exact HIn.all | exact HIn.one | apply HIn.cons | apply HIn.app))).out w st⟩) (fun v29 hv29 => ?_)
      subst hv29
      have hln := hnl l12 l17
      refine o_step rfl (s_extract rfl rfl) ?_
      refine o_step rfl (s_extract rfl rfl) ?_
      refine o_stW rfl rfl (by repeat (first | exact .here | apply Upd.there | apply Upd.skip)) (by first | (rw [flat_len, Nat.mul_one]; first | assumption | exact List.length_replicate) | exact List.length_replicate | rfl) (by first | (rw [flat_len, Nat.mul_one]; first | assumption | exact List.length_replicate) | exact List.length_replicate | rfl) (by first | exact flat_one _ _ | exact one_rep rfl | (simp [Value.oneCell']; done)) ?_
      refine o_step rfl (s_assign rfl) ?_
      refine o_nil ?_
      refine x_then (hK6 _ _ ?_)
      refine c_ret ?_
      refine ?_
      exact x_ret rfl (.agg inferInstance inferInstance rfl (RdPK.cels (.own (by repeat (first | exact List.mem_cons_self | apply List.mem_cons_of_mem | apply mem_app)))) (by first | (rw [flat_len, Nat.mul_one]; first | assumption | exact List.length_replicate) | exact List.length_replicate | rfl) (.tmp rfl (.nil))) (parse_some hl12 hl17)
    · skip
      subst hv17
      refine o_step rfl (s_move rfl) ?_
      refine o_step rfl (s_extract rfl rfl) ?_
      refine o_step rfl (s_extract rfl rfl) ?_
      refine o_step rfl (s_assign rfl) ?_
      refine o_step rfl (s_assign rfl) ?_
      refine o_nil ?_
      refine x_then (hK3 _ _ ?_)
      refine c_seq fun _ hK7 => ?_
      refine c_seq fun _ hK8 => ?_
      refine c_region ?_
      refine o_step rfl (s_move rfl) ?_
      refine o_step rfl (s_not rfl) ?_
      refine o_step rfl (s_move rfl) ?_
      refine o_yes rfl rfl ?_
      refine o_step rfl (s_move rfl) ?_
      refine o_yes rfl rfl ?_
      refine o_step rfl (s_not rfl) ?_
      refine o_step rfl (s_pick_f rfl rfl) ?_
      refine o_nil ?_
      refine x_then (hK8 _ _ ?_)
      refine c_true rfl ?_
      refine c_seq fun _ hK9 => ?_
      refine c_region ?_
      refine o_step rfl (s_build0 rfl) ?_
      refine o_stW rfl rfl (by repeat (first | exact .here | apply Upd.there | apply Upd.skip)) (by first | (rw [flat_len, Nat.mul_one]; first | assumption | exact List.length_replicate) | exact List.length_replicate | rfl) (by first | (rw [flat_len, Nat.mul_one]; first | assumption | exact List.length_replicate) | exact List.length_replicate | rfl) (by first | exact flat_one _ _ | exact one_rep rfl | (simp [Value.oneCell']; done)) ?_
      refine o_step rfl (s_assign rfl) ?_
      refine o_nil ?_
      refine x_then (hK9 _ _ ?_)
      refine c_ret ?_
      refine x_then_ret (?_)
      exact x_ret rfl (.agg inferInstance inferInstance rfl (RdPK.cels (.own (by repeat (first | exact List.mem_cons_self | apply List.mem_cons_of_mem | apply mem_app)))) (by first | (rw [flat_len, Nat.mul_one]; first | assumption | exact List.length_replicate) | exact List.length_replicate | rfl) (.tmp rfl (.nil))) (tab_none (parse_none2 hl17))
  · skip
    subst hv12
    refine o_step rfl (s_move rfl) ?_
    refine o_step rfl (s_extract rfl rfl) ?_
    refine o_step rfl (s_extract rfl rfl) ?_
    refine o_step rfl (s_assign rfl) ?_
    refine o_step rfl (s_assign rfl) ?_
    refine o_nil ?_
    refine x_then (hK2 _ _ ?_)
    refine c_seq fun _ hK10 => ?_
    refine c_region ?_
    refine o_step rfl (s_move rfl) ?_
    refine o_call (said_fn a2 c2 m) rfl rfl rfl (by exact .nil) (fun w st => (RdK.old0 h2).out w st) (fun v17 S17 hv17 => ?_)
    rcases hv17 with ⟨l17, a17, c17, hl17, hv17, hS17⟩ | ⟨hl17, u17, hv17⟩
    · skip
      subst hv17
      refine o_step rfl (s_move rfl) ?_
      refine o_step rfl (s_extract rfl rfl) ?_
      refine o_step rfl (s_extract rfl rfl) ?_
      refine o_step rfl (s_assign rfl) ?_
      refine o_step rfl (s_assign rfl) ?_
      refine o_nil ?_
      refine x_then (hK10 _ _ ?_)
      refine c_seq fun _ hK11 => ?_
      refine c_seq fun _ hK12 => ?_
      refine c_region ?_
      refine o_step rfl (s_move rfl) ?_
      refine o_step rfl (s_not rfl) ?_
      refine o_step rfl (s_move rfl) ?_
      refine o_no rfl rfl rfl rfl ?_
      refine o_no rfl rfl rfl rfl ?_
      refine o_step rfl (s_pick_t rfl rfl) ?_
      refine o_nil ?_
      refine x_then (hK12 _ _ ?_)
      refine c_true rfl ?_
      refine c_seq fun _ hK13 => ?_
      refine c_region ?_
      refine o_step rfl (s_build0 rfl) ?_
      refine o_stW rfl rfl (by repeat (first | exact .here | apply Upd.there | apply Upd.skip)) (by first | (rw [flat_len, Nat.mul_one]; first | assumption | exact List.length_replicate) | exact List.length_replicate | rfl) (by first | (rw [flat_len, Nat.mul_one]; first | assumption | exact List.length_replicate) | exact List.length_replicate | rfl) (by first | exact flat_one _ _ | exact one_rep rfl | (simp [Value.oneCell']; done)) ?_
      refine o_step rfl (s_assign rfl) ?_
      refine o_nil ?_
      refine x_then (hK13 _ _ ?_)
      refine c_ret ?_
      refine x_then_ret (?_)
      exact x_ret rfl (.agg inferInstance inferInstance rfl (RdPK.cels (.own (by repeat (first | exact List.mem_cons_self | apply List.mem_cons_of_mem | apply mem_app)))) (by first | (rw [flat_len, Nat.mul_one]; first | assumption | exact List.length_replicate) | exact List.length_replicate | rfl) (.tmp rfl (.nil))) (tab_none (parse_none1 hl12))
    · skip
      subst hv17
      refine o_step rfl (s_move rfl) ?_
      refine o_step rfl (s_extract rfl rfl) ?_
      refine o_step rfl (s_extract rfl rfl) ?_
      refine o_step rfl (s_assign rfl) ?_
      refine o_step rfl (s_assign rfl) ?_
      refine o_nil ?_
      refine x_then (hK10 _ _ ?_)
      refine c_seq fun _ hK14 => ?_
      refine c_seq fun _ hK15 => ?_
      refine c_region ?_
      refine o_step rfl (s_move rfl) ?_
      refine o_step rfl (s_not rfl) ?_
      refine o_step rfl (s_move rfl) ?_
      refine o_no rfl rfl rfl rfl ?_
      refine o_no rfl rfl rfl rfl ?_
      refine o_step rfl (s_pick_t rfl rfl) ?_
      refine o_nil ?_
      refine x_then (hK15 _ _ ?_)
      refine c_true rfl ?_
      refine c_seq fun _ hK16 => ?_
      refine c_region ?_
      refine o_step rfl (s_build0 rfl) ?_
      refine o_stW rfl rfl (by repeat (first | exact .here | apply Upd.there | apply Upd.skip)) (by first | (rw [flat_len, Nat.mul_one]; first | assumption | exact List.length_replicate) | exact List.length_replicate | rfl) (by first | (rw [flat_len, Nat.mul_one]; first | assumption | exact List.length_replicate) | exact List.length_replicate | rfl) (by first | exact flat_one _ _ | exact one_rep rfl | (simp [Value.oneCell']; done)) ?_
      refine o_step rfl (s_assign rfl) ?_
      refine o_nil ?_
      refine x_then (hK16 _ _ ?_)
      refine c_ret ?_
      refine x_then_ret (?_)
      exact x_ret rfl (.agg inferInstance inferInstance rfl (RdPK.cels (.own (by repeat (first | exact List.mem_cons_self | apply List.mem_cons_of_mem | apply mem_app)))) (by first | (rw [flat_len, Nat.mul_one]; first | assumption | exact List.length_replicate) | exact List.length_replicate | rfl) (.tmp rfl (.nil))) (tab_none (parse_none1 hl12))

theorem refParse_fn (a a2 : Option Addr) (c c2 : Nat) (l m : List Mk) : HL.Fn Try.prog 47 [.slice a l.length c, .slice a2 m.length c2] (fun w => Rd Em w (.slice a l.length c) l ∧ Rd Em w (.slice a2 m.length c2) m) [] (fun v _ => v = tabV (parseR l m)) := by
  refine fn_of Try.func47 rfl rfl rfl fun w0 hw => ?_
  obtain ⟨h1, h2⟩ := hw
  have hnl : ∀ f t, ((newR f t).getD zT).length = 256 := fun f t => getD_len (fun l h => newR_len h)
  refine c_seq fun _ hK1 => ?_
  refine c_region ?_
  refine o_alloc rfl rfl fun b4 => ?_
  refine o_step rfl (s_assign rfl) ?_
  refine o_nil ?_
  refine x_then (hK1 _ _ ?_)
  refine c_seq fun _ hK2 => ?_
  refine c_region ?_
  refine o_step rfl (s_move rfl) ?_
  refine o_call (row_fn a c l) rfl rfl rfl (by exact .nil) (fun w st => (RdK.old0 h1).out w st) (fun v12 S12 hv12 => ?_)
  rcases hv12 with ⟨l12, a12, c12, hl12, hv12, hS12⟩ | ⟨hl12, u12, hv12⟩
  · skip
    subst hv12
    refine o_step rfl (s_move rfl) ?_
    refine o_step rfl (s_extract rfl rfl) ?_
    refine o_step rfl (s_extract rfl rfl) ?_
    refine o_step rfl (s_assign rfl) ?_
    refine o_step rfl (s_assign rfl) ?_
    refine o_nil ?_
    refine x_then (hK2 _ _ ?_)
    refine c_seq fun _ hK3 => ?_
    refine c_region ?_
    refine o_step rfl (s_move rfl) ?_
    refine o_call (row_fn a2 c2 m) rfl rfl rfl (by exact .nil) (fun w st => (RdK.old0 h2).out w st) (fun v17 S17 hv17 => ?_)
    rcases hv17 with ⟨l17, a17, c17, hl17, hv17, hS17⟩ | ⟨hl17, u17, hv17⟩
    · skip
      subst hv17
      refine o_step rfl (s_move rfl) ?_
      refine o_step rfl (s_extract rfl rfl) ?_
      refine o_step rfl (s_extract rfl rfl) ?_
      refine o_step rfl (s_assign rfl) ?_
      refine o_step rfl (s_assign rfl) ?_
      refine o_nil ?_
      refine x_then (hK3 _ _ ?_)
      refine c_seq fun _ hK4 => ?_
      refine c_seq fun _ hK5 => ?_
      refine c_region ?_
      refine o_step rfl (s_move rfl) ?_
      refine o_step rfl (s_not rfl) ?_
      refine o_step rfl (s_move rfl) ?_
      refine o_yes rfl rfl ?_
      refine o_step rfl (s_move rfl) ?_
      refine o_yes rfl rfl ?_
      refine o_step rfl (s_not rfl) ?_
      refine o_step rfl (s_pick_f rfl rfl) ?_
      refine o_nil ?_
      refine x_then (hK5 _ _ ?_)
      refine c_false rfl ?_
      refine c_skip ?_
      refine x_then (hK4 _ _ ?_)
      refine c_seq fun _ hK6 => ?_
      refine c_region ?_
      refine o_step rfl (s_move rfl) ?_
      refine o_step rfl (s_move rfl) ?_
      refine o_callP (refNew_fn a12 a17 c12 c17 l12 l17) rfl rfl rfl (fun w st => ⟨(hS12.rdk (by repeat (first | exact HIn.here | exact HIn.all | exact HIn.one | apply HIn.cons | apply HIn.app))).out w st, (hS17.rdk (by repeat (first | exact HIn.here | exact HIn.all | exact HIn.one | apply HIn.cons | apply HIn.app))).out w st⟩) (fun v29 hv29 => ?_)
      subst hv29
      have hln := hnl l12 l17
      refine o_step rfl (s_extract rfl rfl) ?_
      refine o_step rfl (s_extract rfl rfl) ?_
      refine o_stW rfl rfl (by repeat (first | exact .here | apply Upd.there | apply Upd.skip)) (by first | (rw [flat_len, Nat.mul_one]; first | assumption | exact List.length_replicate) | exact List.length_replicate | rfl) (by first | (rw [flat_len, Nat.mul_one]; first | assumption | exact List.length_replicate) | exact List.length_replicate | rfl) (by first | exact flat_one _ _ | exact one_rep rfl | (simp [Value.oneCell']; done)) ?_
      refine o_step rfl (s_assign rfl) ?_
      refine o_nil ?_
      refine x_then (hK6 _ _ ?_)
      refine c_ret ?_
      refine ?_
      exact x_ret rfl (.agg inferInstance inferInstance rfl (RdPK.cels (.own (by repeat (first | exact List.mem_cons_self | apply List.mem_cons_of_mem | apply mem_app)))) (by first | (rw [flat_len, Nat.mul_one]; first | assumption | exact List.length_replicate) | exact List.length_replicate | rfl) (.tmp rfl (.nil))) (parse_some hl12 hl17)
    · skip
      subst hv17
      refine o_step rfl (s_move rfl) ?_
      refine o_step rfl (s_extract rfl rfl) ?_
      refine o_step rfl (s_extract rfl rfl) ?_
      refine o_step rfl (s_assign rfl) ?_
      refine o_step rfl (s_assign rfl) ?_
      refine o_nil ?_
      refine x_then (hK3 _ _ ?_)
      refine c_seq fun _ hK7 => ?_
      refine c_seq fun _ hK8 => ?_
      refine c_region ?_
      refine o_step rfl (s_move rfl) ?_
      refine o_step rfl (s_not rfl) ?_
      refine o_step rfl (s_move rfl) ?_
      refine o_yes rfl rfl ?_
      refine o_step rfl (s_move rfl) ?_
      refine o_yes rfl rfl ?_
      refine o_step rfl (s_not rfl) ?_
      refine o_step rfl (s_pick_f rfl rfl) ?_
      refine o_nil ?_
      refine x_then (hK8 _ _ ?_)
      refine c_true rfl ?_
      refine c_seq fun _ hK9 => ?_
      refine c_region ?_
      refine o_step rfl (s_build0 rfl) ?_
      refine o_stW rfl rfl (by repeat (first | exact .here | apply Upd.there | apply Upd.skip)) (by first | (rw [flat_len, Nat.mul_one]; first | assumption | exact List.length_replicate) | exact List.length_replicate | rfl) (by first | (rw [flat_len, Nat.mul_one]; first | assumption | exact List.length_replicate) | exact List.length_replicate | rfl) (by first | exact flat_one _ _ | exact one_rep rfl | (simp [Value.oneCell']; done)) ?_
      refine o_step rfl (s_assign rfl) ?_
      refine o_nil ?_
      refine x_then (hK9 _ _ ?_)
      refine c_ret ?_
      refine x_then_ret (?_)
      exact x_ret rfl (.agg inferInstance inferInstance rfl (RdPK.cels (.own (by repeat (first | exact List.mem_cons_self | apply List.mem_cons_of_mem | apply mem_app)))) (by first | (rw [flat_len, Nat.mul_one]; first | assumption | exact List.length_replicate) | exact List.length_replicate | rfl) (.tmp rfl (.nil))) (tab_none (parse_none2 hl17))
  · skip
    subst hv12
    refine o_step rfl (s_move rfl) ?_
    refine o_step rfl (s_extract rfl rfl) ?_
    refine o_step rfl (s_extract rfl rfl) ?_
    refine o_step rfl (s_assign rfl) ?_
    refine o_step rfl (s_assign rfl) ?_
    refine o_nil ?_
    refine x_then (hK2 _ _ ?_)
    refine c_seq fun _ hK10 => ?_
    refine c_region ?_
    refine o_step rfl (s_move rfl) ?_
    refine o_call (row_fn a2 c2 m) rfl rfl rfl (by exact .nil) (fun w st => (RdK.old0 h2).out w st) (fun v17 S17 hv17 => ?_)
    rcases hv17 with ⟨l17, a17, c17, hl17, hv17, hS17⟩ | ⟨hl17, u17, hv17⟩
    · skip
      subst hv17
      refine o_step rfl (s_move rfl) ?_
      refine o_step rfl (s_extract rfl rfl) ?_
      refine o_step rfl (s_extract rfl rfl) ?_
      refine o_step rfl (s_assign rfl) ?_
      refine o_step rfl (s_assign rfl) ?_
      refine o_nil ?_
      refine x_then (hK10 _ _ ?_)
      refine c_seq fun _ hK11 => ?_
      refine c_seq fun _ hK12 => ?_
      refine c_region ?_
      refine o_step rfl (s_move rfl) ?_
      refine o_step rfl (s_not rfl) ?_
      refine o_step rfl (s_move rfl) ?_
      refine o_no rfl rfl rfl rfl ?_
      refine o_no rfl rfl rfl rfl ?_
      refine o_step rfl (s_pick_t rfl rfl) ?_
      refine o_nil ?_
      refine x_then (hK12 _ _ ?_)
      refine c_true rfl ?_
      refine c_seq fun _ hK13 => ?_
      refine c_region ?_
      refine o_step rfl (s_build0 rfl) ?_
      refine o_stW rfl rfl (by repeat (first | exact .here | apply Upd.there | apply Upd.skip)) (by first | (rw [flat_len, Nat.mul_one]; first | assumption | exact List.length_replicate) | exact List.length_replicate | rfl) (by first | (rw [flat_len, Nat.mul_one]; first | assumption | exact List.length_replicate) | exact List.length_replicate | rfl) (by first | exact flat_one _ _ | exact one_rep rfl | (simp [Value.oneCell']; done)) ?_
      refine o_step rfl (s_assign rfl) ?_
      refine o_nil ?_
      refine x_then (hK13 _ _ ?_)
      refine c_ret ?_
      refine x_then_ret (?_)
      exact x_ret rfl (.agg inferInstance inferInstance rfl (RdPK.cels (.own (by repeat (first | exact List.mem_cons_self | apply List.mem_cons_of_mem | apply mem_app)))) (by first | (rw [flat_len, Nat.mul_one]; first | assumption | exact List.length_replicate) | exact List.length_replicate | rfl) (.tmp rfl (.nil))) (tab_none (parse_none1 hl12))
    · skip
      subst hv17
      refine o_step rfl (s_move rfl) ?_
      refine o_step rfl (s_extract rfl rfl) ?_
      refine o_step rfl (s_extract rfl rfl) ?_
      refine o_step rfl (s_assign rfl) ?_
      refine o_step rfl (s_assign rfl) ?_
      refine o_nil ?_
      refine x_then (hK10 _ _ ?_)
      refine c_seq fun _ hK14 => ?_
      refine c_seq fun _ hK15 => ?_
      refine c_region ?_
      refine o_step rfl (s_move rfl) ?_
      refine o_step rfl (s_not rfl) ?_
      refine o_step rfl (s_move rfl) ?_
      refine o_no rfl rfl rfl rfl ?_
      refine o_no rfl rfl rfl rfl ?_
      refine o_step rfl (s_pick_t rfl rfl) ?_
      refine o_nil ?_
      refine x_then (hK15 _ _ ?_)
      refine c_true rfl ?_
      refine c_seq fun _ hK16 => ?_
      refine c_region ?_
      refine o_step rfl (s_build0 rfl) ?_
      refine o_stW rfl rfl (by repeat (first | exact .here | apply Upd.there | apply Upd.skip)) (by first | (rw [flat_len, Nat.mul_one]; first | assumption | exact List.length_replicate) | exact List.length_replicate | rfl) (by first | (rw [flat_len, Nat.mul_one]; first | assumption | exact List.length_replicate) | exact List.length_replicate | rfl) (by first | exact flat_one _ _ | exact one_rep rfl | (simp [Value.oneCell']; done)) ?_
      refine o_step rfl (s_assign rfl) ?_
      refine o_nil ?_
      refine x_then (hK16 _ _ ?_)
      refine c_ret ?_
      refine x_then_ret (?_)
      exact x_ret rfl (.agg inferInstance inferInstance rfl (RdPK.cels (.own (by repeat (first | exact List.mem_cons_self | apply List.mem_cons_of_mem | apply mem_app)))) (by first | (rw [flat_len, Nat.mul_one]; first | assumption | exact List.length_replicate) | exact List.length_replicate | rfl) (.tmp rfl (.nil))) (tab_none (parse_none1 hl12))
end Go.Proofs.Ythbnkifjplbhgaa
