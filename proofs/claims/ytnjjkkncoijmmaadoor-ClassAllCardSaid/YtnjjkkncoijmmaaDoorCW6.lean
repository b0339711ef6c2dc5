/- Part of the proofs over this seat: see the text that holds the theorem. Conditions: each theorem bears its own. -/
import Derived.Test.YtnjjkkncoijmmaaDoorCW5
import Derived.Test.YtnjjkkncoijmmaaDoorMC8
namespace Go.Proofs.YtnjjkkncoijmmaaDoor
open Go Go.HL Go.Proofs Go.HL.Kl
theorem runs_fn (c : Cl) : HL.Fn Tryd.prog 15 [.agg (Ec c).toArray] (Tb []) [] (fun v S' => ∃ a n, v = .slice a (runs c).length n ∧ OwnS Er 2 36 (.slice a (runs c).length n) (runs c) S') := by
  refine fn_ofM Tryd.func15 rfl rfl rfl fun w0 hw => ?_
  refine c_seqD fun _ hK1 => ?_
  refine c_region ?_
  refine o_box rfl rfl rfl fun b1 => ?_
  refine o_step rfl (s_assign rfl) ?_
  refine o_nil ?_
  refine x_then (hK1 _ _ _ ?_)
  refine c_seqD fun _ hK2 => ?_
  refine c_region ?_
  refine o_alloc rfl rfl fun b3 => ?_
  refine o_nil ?_
  refine x_then (hK2 _ _ _ ?_)
  refine c_seqD fun _ hK3 => ?_
  refine c_seqD fun _ hK4 => ?_
  refine c_region ?_
  refine o_step rfl (s_ldB rfl (RdPK.cels (.own (by repeat (first | exact List.mem_cons_self | apply List.mem_cons_of_mem | apply mem_assoc | apply mem_app)))) (by first | (rw [flat_len, Nat.mul_one]; first | assumption | exact List.length_replicate) | exact List.length_replicate | rfl)) ?_
  refine o_call (all_fn c) rfl rfl rfl (by exact .nil) (fun _ _ => trivial) (fun v7 S7 ⟨b7, hv7, hS7⟩ => ?_)
  subst hv7
  subst hS7
  refine o_nil ?_
  refine x_then (hK4 _ _ _ ?_)
  refine c_block ?_
  refine c_range (α := Nat) (B0 := [(b3, .cells [.slice none 0 0].toArray 31 (0, 0))]) (fun p B => ∃ a n S, B = (b3, .cells [.slice a (runsB p).length n].toArray 31 (0, 0)) :: S ∧ OwnS Er 2 36 (.slice a (runsB p).length n) (runsB p) S) (fun c p B => False) rfl (all_it b7 c) ((by first | ((repeat (first | exact .one | exact .here | exact .all | apply Pick.cons | apply Pick.app)); done) | ((repeat (first | exact .one | exact .here | exact .all | apply Pick.cons | apply Pick.assoc | apply Pick.app)); done) | exact Pick.takeA (by repeat (first | exact .one | exact .here | exact .all | apply Pick.cons | apply Pick.assoc | apply Pick.app)) (by repeat (first | exact .one | exact .here | exact .all | apply Pick.cons | apply Pick.assoc | apply Pick.app)))) ((fun w H1 S1 st hs => tb_of hw st hs)) ⟨none, 0, [], rfl, .nil⟩ (by kernel_rfl) (fun _ => rfl) (by kernel_rfl) ?_ ?_ ?_
  · rintro l r p x B W er1 er2 ⟨a, n, S, rfl, hS⟩ hx post hy hn
    have hxl : x < 256 := mems_lt hx
    have hsl := hS.sl
    have hbl := runsB_le p
    have hpl := prefix_len hx
    refine c_region ?_
    refine o_step rfl (s_assign rfl) ?_
    refine o_nil ?_
    refine x_then (x_begin (by repeat (first | exact .here | apply Upd.there | apply Upd.assoc | apply Upd.skip)) (by kernel_rfl) ?_)
    refine c_block ?_
    refine c_seqD fun _ hK5 => ?_
    refine c_region ?_
    refine o_step rfl (s_ld rfl (.own (by repeat (first | exact List.mem_cons_self | apply List.mem_cons_of_mem | apply mem_assoc | apply mem_app)) rfl)) ?_
    refine o_step rfl (s_len rfl) ?_
    refine o_step rfl (s_sub rfl rfl (by omega)) ?_
    refine o_step rfl (s_assign rfl) ?_
    refine o_nil ?_
    refine x_then (hK5 _ _ _ ?_)
    refine c_seqD fun _ hK6 => ?_
    refine c_region ?_
    refine o_step rfl (s_move rfl) ?_
    by_cases hk : 0 < (runsB p).length
    · skip
      have hlr : (lastR (runsB p)).2 < 256 := last_lt hx hk
      have hg := last_get hk
      refine o_step rfl (step_cast (v' := .bool true) (s_geq rfl rfl) (congrArg Value.bool (decide_eq_true (by omega)))) ?_
      refine o_step rfl (s_move rfl) ?_
      refine o_yes rfl rfl ?_
      refine o_step rfl (s_ld rfl (.own (by repeat (first | exact List.mem_cons_self | apply List.mem_cons_of_mem | apply mem_assoc | apply mem_app)) rfl)) ?_
      refine o_yes rfl rfl ?_
      refine o_step rfl (s_move rfl) ?_
      refine o_yes rfl rfl ?_
      refine o_step rfl (s_idx rfl rfl hsl (by omega)) ?_
      refine o_yes rfl rfl ?_
      refine o_step rfl (s_field rfl rfl (by decide)) ?_
      refine o_yes rfl rfl ?_
      refine o_step rfl (s_ld rfl ((hS.rdk (by repeat (first | exact HIn.here | exact HIn.all | exact HIn.one | apply HIn.cons | apply HIn.assoc | apply HIn.app))).ld ((runsB p).length - 1) 1 hg rfl (by decide) (by omega))) ?_
      refine o_yes rfl rfl ?_
      refine o_step rfl (step_cast (v' := .int .i64 (((lastR (runsB p)).2 : Nat) : Int)) (s_conv rfl) (congrArg _ (conv64 (by omega)))) ?_
      refine o_yes rfl rfl ?_
      refine o_step rfl (s_add rfl rfl (by omega)) ?_
      refine o_yes rfl rfl ?_
      refine o_step rfl (s_move rfl) ?_
      refine o_yes rfl rfl ?_
      refine o_step rfl (step_cast (v' := .int .i64 ((x : Nat) : Int)) (s_conv rfl) (congrArg _ (conv64 (by omega)))) ?_
      refine o_yes rfl rfl ?_
      by_cases heq : (lastR (runsB p)).2 + 1 = x
      · skip
        refine o_step rfl (step_cast (v' := .bool true) (s_eql rfl rfl) (congrArg Value.bool (decide_eq_true (by omega)))) ?_
        refine o_step rfl (s_pick_t rfl rfl) ?_
        refine o_nil ?_
        refine x_then (hK6 _ _ _ ?_)
        refine c_true rfl ?_
        refine c_region ?_
        refine o_step rfl (s_ld rfl (.own (by repeat (first | exact List.mem_cons_self | apply List.mem_cons_of_mem | apply mem_assoc | apply mem_app)) rfl)) ?_
        refine o_step rfl (s_move rfl) ?_
        refine o_step rfl (s_move rfl) ?_
        refine o_step rfl (s_idx rfl rfl hsl (by omega)) ?_
        refine o_step rfl (s_field rfl rfl (by decide)) ?_
        refine o_stS (i := (runsB p).length - 1) (off := 1) (cs := [.int .u8 (x : Nat)]) ((lastR (runsB p)).1, x) hS (by first | ((repeat (first | exact .one | exact .here | exact .all | apply Pick.cons | apply Pick.app)); done) | ((repeat (first | exact .one | exact .here | exact .all | apply Pick.cons | apply Pick.assoc | apply Pick.app)); done) | exact Pick.takeA (by repeat (first | exact .one | exact .here | exact .all | apply Pick.cons | apply Pick.assoc | apply Pick.app)) (by repeat (first | exact .one | exact .here | exact .all | apply Pick.cons | apply Pick.assoc | apply Pick.app))) rfl rfl rfl rfl (by omega) (by omega) (Nat.le_refl 2) (fun e he => by rw [last_get hk] at he; cases he; rfl) (by simp [Value.oneCell']) fun S9 hS9 => ?_
        refine o_nil ?_
        refine x_block ?_
        refine x_sub (Sub.refl _) (H' := (l, .loop (recAt r .busy none)) :: (b3, .cells [.slice a (runsB p).length n].toArray 31 (0, 0)) :: S9) (by repeat (first | exact HSub.refl _ | exact HSub.nil | refine HSub.takeC (by first | ((repeat (first | exact .one | exact .here | exact .all | apply Pick.cons | apply Pick.app)); done) | ((repeat (first | exact .one | exact .here | exact .all | apply Pick.cons | apply Pick.assoc | apply Pick.app)); done) | exact Pick.takeA (by repeat (first | exact .one | exact .here | exact .all | apply Pick.cons | apply Pick.assoc | apply Pick.app)) (by repeat (first | exact .one | exact .here | exact .all | apply Pick.cons | apply Pick.assoc | apply Pick.app))) ?_ | refine HSub.take (by first | ((repeat (first | exact .one | exact .here | exact .all | apply Pick.cons | apply Pick.app)); done) | ((repeat (first | exact .one | exact .here | exact .all | apply Pick.cons | apply Pick.assoc | apply Pick.app)); done) | exact Pick.takeA (by repeat (first | exact .one | exact .here | exact .all | apply Pick.cons | apply Pick.assoc | apply Pick.app)) (by repeat (first | exact .one | exact .here | exact .all | apply Pick.cons | apply Pick.assoc | apply Pick.app))) ?_ | exact HSub.of_pick (by first | ((repeat (first | exact .one | exact .here | exact .all | apply Pick.cons | apply Pick.app)); done) | ((repeat (first | exact .one | exact .here | exact .all | apply Pick.cons | apply Pick.assoc | apply Pick.app)); done) | exact Pick.takeA (by repeat (first | exact .one | exact .here | exact .all | apply Pick.cons | apply Pick.assoc | apply Pick.app)) (by repeat (first | exact .one | exact .here | exact .all | apply Pick.cons | apply Pick.assoc | apply Pick.app))))) ?_
        have hst : runsB (p ++ [x]) = (runsB p).set ((runsB p).length - 1) ((lastR (runsB p)).1, x) := runsB_set hk heq
        have hln : (runsB (p ++ [x])).length = (runsB p).length := by rw [hst, List.length_set]
        exact x_rnormal (by repeat (first | exact .here | apply Upd.there | apply Upd.assoc | apply Upd.skip)) (hy _ ⟨a, n, S9, by rw [hln], by rw [hln, hst]; exact hS9⟩)
      · skip
        refine o_step rfl (step_cast (v' := .bool false) (s_eql rfl rfl) (congrArg Value.bool (decide_eq_false (by omega)))) ?_
        refine o_step rfl (s_pick_t rfl rfl) ?_
        refine o_nil ?_
        refine x_then (hK6 _ _ _ ?_)
        refine c_false rfl ?_
        refine c_region ?_
        refine o_step rfl (s_ld rfl (.own (by repeat (first | exact List.mem_cons_self | apply List.mem_cons_of_mem | apply mem_assoc | apply mem_app)) rfl)) ?_
        refine o_step rfl (s_move rfl) ?_
        refine o_step rfl (s_move rfl) ?_
        refine o_step rfl (s_build (cs := [_, _]) (vs := [_, _]) rfl rfl (.cons rfl rfl rfl rfl rfl (.cons rfl rfl rfl rfl rfl (.nil)))) ?_
        refine o_bs (E := Er) (xs := [(x, x)]) (vs := [_]) rfl rfl rfl rfl rfl (by decide) (by decide) fun b35 S35 hS35 => ?_
        refine o_app hS (hS35.rdk (by repeat (first | exact HIn.here | exact HIn.all | exact HIn.one | apply HIn.cons | apply HIn.assoc | apply HIn.app))) rfl rfl rfl rfl (by show ((runsB p).length + 1) * 2 ≤ _; omega) (by show (runsB p).length + 1 ≤ _; omega) rfl (by first | ((repeat (first | exact .one | exact .here | exact .all | apply Pick.cons | apply Pick.app)); done) | ((repeat (first | exact .one | exact .here | exact .all | apply Pick.cons | apply Pick.assoc | apply Pick.app)); done) | exact Pick.takeA (by repeat (first | exact .one | exact .here | exact .all | apply Pick.cons | apply Pick.assoc | apply Pick.app)) (by repeat (first | exact .one | exact .here | exact .all | apply Pick.cons | apply Pick.assoc | apply Pick.app))) fun a36 c36 S36 hS36 => ?_
        refine o_store rfl rfl rfl (by repeat (first | exact .here | apply Upd.there | apply Upd.assoc | apply Upd.skip)) (by first | decide | omega | (simp; done) | (simp; omega)) rfl ?_
        refine o_nil ?_
        refine x_block ?_
        refine x_sub (Sub.refl _) (H' := (l, .loop (recAt r .busy none)) :: (b3, .cells [.slice a36 (runsB p ++ [(x, x)]).length c36].toArray 31 (0, 0)) :: S36) (by repeat (first | exact HSub.refl _ | exact HSub.nil | refine HSub.takeC (by first | ((repeat (first | exact .one | exact .here | exact .all | apply Pick.cons | apply Pick.app)); done) | ((repeat (first | exact .one | exact .here | exact .all | apply Pick.cons | apply Pick.assoc | apply Pick.app)); done) | exact Pick.takeA (by repeat (first | exact .one | exact .here | exact .all | apply Pick.cons | apply Pick.assoc | apply Pick.app)) (by repeat (first | exact .one | exact .here | exact .all | apply Pick.cons | apply Pick.assoc | apply Pick.app))) ?_ | refine HSub.take (by first | ((repeat (first | exact .one | exact .here | exact .all | apply Pick.cons | apply Pick.app)); done) | ((repeat (first | exact .one | exact .here | exact .all | apply Pick.cons | apply Pick.assoc | apply Pick.app)); done) | exact Pick.takeA (by repeat (first | exact .one | exact .here | exact .all | apply Pick.cons | apply Pick.assoc | apply Pick.app)) (by repeat (first | exact .one | exact .here | exact .all | apply Pick.cons | apply Pick.assoc | apply Pick.app))) ?_ | exact HSub.of_pick (by first | ((repeat (first | exact .one | exact .here | exact .all | apply Pick.cons | apply Pick.app)); done) | ((repeat (first | exact .one | exact .here | exact .all | apply Pick.cons | apply Pick.assoc | apply Pick.app)); done) | exact Pick.takeA (by repeat (first | exact .one | exact .here | exact .all | apply Pick.cons | apply Pick.assoc | apply Pick.app)) (by repeat (first | exact .one | exact .here | exact .all | apply Pick.cons | apply Pick.assoc | apply Pick.app))))) ?_
        have hst : runsB (p ++ [x]) = runsB p ++ [(x, x)] := runsB_new (.inr heq)
        exact x_rnormal (by repeat (first | exact .here | apply Upd.there | apply Upd.assoc | apply Upd.skip)) (hy _ ⟨a36, c36, S36, by rw [hst], by rw [hst]; exact hS36⟩)
    · skip
      refine o_step rfl (step_cast (v' := .bool false) (s_geq rfl rfl) (congrArg Value.bool (decide_eq_false (by omega)))) ?_
      refine o_step rfl (s_move rfl) ?_
      refine o_no rfl rfl rfl rfl ?_
      refine o_no rfl rfl rfl rfl ?_
      refine o_no rfl rfl rfl rfl ?_
      refine o_no rfl rfl rfl rfl ?_
      refine o_no rfl rfl rfl rfl ?_
      refine o_no rfl rfl rfl rfl ?_
      refine o_no rfl rfl rfl rfl ?_
      refine o_no rfl rfl rfl rfl ?_
      refine o_no rfl rfl rfl rfl ?_
      refine o_no rfl rfl rfl rfl ?_
      refine o_step rfl (s_pick_f rfl rfl) ?_
      refine o_nil ?_
      refine x_then (hK6 _ _ _ ?_)
      refine c_false rfl ?_
      refine c_region ?_
      refine o_step rfl (s_ld rfl (.own (by repeat (first | exact List.mem_cons_self | apply List.mem_cons_of_mem | apply mem_assoc | apply mem_app)) rfl)) ?_
      refine o_step rfl (s_move rfl) ?_
      refine o_step rfl (s_move rfl) ?_
      refine o_step rfl (s_build (cs := [_, _]) (vs := [_, _]) rfl rfl (.cons rfl rfl rfl rfl rfl (.cons rfl rfl rfl rfl rfl (.nil)))) ?_
      refine o_bs (E := Er) (xs := [(x, x)]) (vs := [_]) rfl rfl rfl rfl rfl (by decide) (by decide) fun b35 S35 hS35 => ?_
      refine o_app hS (hS35.rdk (by repeat (first | exact HIn.here | exact HIn.all | exact HIn.one | apply HIn.cons | apply HIn.assoc | apply HIn.app))) rfl rfl rfl rfl (by show ((runsB p).length + 1) * 2 ≤ _; omega) (by show (runsB p).length + 1 ≤ _; omega) rfl (by first | ((repeat (first | exact .one | exact .here | exact .all | apply Pick.cons | apply Pick.app)); done) | ((repeat (first | exact .one | exact .here | exact .all | apply Pick.cons | apply Pick.assoc | apply Pick.app)); done) | exact Pick.takeA (by repeat (first | exact .one | exact .here | exact .all | apply Pick.cons | apply Pick.assoc | apply Pick.app)) (by repeat (first | exact .one | exact .here | exact .all | apply Pick.cons | apply Pick.assoc | apply Pick.app))) fun a36 c36 S36 hS36 => ?_
      refine o_store rfl rfl rfl (by repeat (first | exact .here | apply Upd.there | apply Upd.assoc | apply Upd.skip)) (by first | decide | omega | (simp; done) | (simp; omega)) rfl ?_
      refine o_nil ?_
      refine x_block ?_
      refine x_sub (Sub.refl _) (H' := (l, .loop (recAt r .busy none)) :: (b3, .cells [.slice a36 (runsB p ++ [(x, x)]).length c36].toArray 31 (0, 0)) :: S36) (by repeat (first | exact HSub.refl _ | exact HSub.nil | refine HSub.takeC (by first | ((repeat (first | exact .one | exact .here | exact .all | apply Pick.cons | apply Pick.app)); done) | ((repeat (first | exact .one | exact .here | exact .all | apply Pick.cons | apply Pick.assoc | apply Pick.app)); done) | exact Pick.takeA (by repeat (first | exact .one | exact .here | exact .all | apply Pick.cons | apply Pick.assoc | apply Pick.app)) (by repeat (first | exact .one | exact .here | exact .all | apply Pick.cons | apply Pick.assoc | apply Pick.app))) ?_ | refine HSub.take (by first | ((repeat (first | exact .one | exact .here | exact .all | apply Pick.cons | apply Pick.app)); done) | ((repeat (first | exact .one | exact .here | exact .all | apply Pick.cons | apply Pick.assoc | apply Pick.app)); done) | exact Pick.takeA (by repeat (first | exact .one | exact .here | exact .all | apply Pick.cons | apply Pick.assoc | apply Pick.app)) (by repeat (first | exact .one | exact .here | exact .all | apply Pick.cons | apply Pick.assoc | apply Pick.app))) ?_ | exact HSub.of_pick (by first | ((repeat (first | exact .one | exact .here | exact .all | apply Pick.cons | apply Pick.app)); done) | ((repeat (first | exact .one | exact .here | exact .all | apply Pick.cons | apply Pick.assoc | apply Pick.app)); done) | exact Pick.takeA (by repeat (first | exact .one | exact .here | exact .all | apply Pick.cons | apply Pick.assoc | apply Pick.app)) (by repeat (first | exact .one | exact .here | exact .all | apply Pick.cons | apply Pick.assoc | apply Pick.app))))) ?_
      have hst : runsB (p ++ [x]) = runsB p ++ [(x, x)] := runsB_new (.inl hk)
      exact x_rnormal (by repeat (first | exact .here | apply Upd.there | apply Upd.assoc | apply Upd.skip)) (hy _ ⟨a36, c36, S36, by rw [hst], by rw [hst]; exact hS36⟩)
  · rintro D0 S0r B0 rfl ⟨a, n, S, rfl, hS⟩
    refine x_block ?_
    refine x_then (hK3 _ _ _ ?_)
    refine c_seqD fun _ hK7 => ?_
    refine c_region ?_
    refine o_step rfl (s_ld rfl (.own (by repeat (first | exact List.mem_cons_self | apply List.mem_cons_of_mem | apply mem_assoc | apply mem_app)) rfl)) ?_
    refine o_step rfl (s_assign rfl) ?_
    refine o_nil ?_
    refine x_then (hK7 _ _ _ ?_)
    refine c_ret ?_
    refine ?_
    refine x_sub (Sub.refl _) (H' := (D0, .deferred (some [])) :: S) (by repeat (first | exact HSub.refl _ | exact HSub.nil | refine HSub.takeC (by first | ((repeat (first | exact .one | exact .here | exact .all | apply Pick.cons | apply Pick.app)); done) | ((repeat (first | exact .one | exact .here | exact .all | apply Pick.cons | apply Pick.assoc | apply Pick.app)); done) | exact Pick.takeA (by repeat (first | exact .one | exact .here | exact .all | apply Pick.cons | apply Pick.assoc | apply Pick.app)) (by repeat (first | exact .one | exact .here | exact .all | apply Pick.cons | apply Pick.assoc | apply Pick.app))) ?_ | refine HSub.take (by first | ((repeat (first | exact .one | exact .here | exact .all | apply Pick.cons | apply Pick.app)); done) | ((repeat (first | exact .one | exact .here | exact .all | apply Pick.cons | apply Pick.assoc | apply Pick.app)); done) | exact Pick.takeA (by repeat (first | exact .one | exact .here | exact .all | apply Pick.cons | apply Pick.assoc | apply Pick.app)) (by repeat (first | exact .one | exact .here | exact .all | apply Pick.cons | apply Pick.assoc | apply Pick.app))) ?_ | exact HSub.of_pick (by first | ((repeat (first | exact .one | exact .here | exact .all | apply Pick.cons | apply Pick.app)); done) | ((repeat (first | exact .one | exact .here | exact .all | apply Pick.cons | apply Pick.assoc | apply Pick.app)); done) | exact Pick.takeA (by repeat (first | exact .one | exact .here | exact .all | apply Pick.cons | apply Pick.assoc | apply Pick.app)) (by repeat (first | exact .one | exact .here | exact .all | apply Pick.cons | apply Pick.assoc | apply Pick.app))))) ?_
    exact x_retM (.cons (.nil)) (by first | ((repeat (first | exact .one | exact .here | exact .all | apply Pick.cons | apply Pick.app)); done) | ((repeat (first | exact .one | exact .here | exact .all | apply Pick.cons | apply Pick.assoc | apply Pick.app)); done) | exact Pick.takeA (by repeat (first | exact .one | exact .here | exact .all | apply Pick.cons | apply Pick.assoc | apply Pick.app)) (by repeat (first | exact .one | exact .here | exact .all | apply Pick.cons | apply Pick.assoc | apply Pick.app))) rfl (.tmp rfl (.nil)) (⟨a, n, rfl, hS⟩)
  · rintro D0 S0r c p B0 rfl hpx hX
    exact hX.elim

theorem rRuns_fn (c : Cl) : HL.Fn Tryd.prog 16 [.agg (Ec c).toArray] (fun _ => True) [] (fun v S' => ∃ a n, v = .slice a (runs c).length n ∧ OwnS Er 2 36 (.slice a (runs c).length n) (runs c) S') := by
  refine fn_of Tryd.func16 rfl rfl rfl fun w0 hw => ?_
  refine c_seq fun _ hK1 => ?_
  refine c_region ?_
  refine o_box rfl rfl rfl fun b1 => ?_
  refine o_step rfl (s_assign rfl) ?_
  refine o_nil ?_
  refine x_then (hK1 _ _ ?_)
  refine c_seq fun _ hK2 => ?_
  refine c_region ?_
  refine o_step rfl (s_assign rfl) ?_
  refine o_nil ?_
  refine x_then (hK2 _ _ ?_)
  refine c_seq fun _ hK3 => ?_
  refine c_seq fun _ hK4 => ?_
  refine c_region ?_
  refine o_step rfl (s_assign rfl) ?_
  refine o_nil ?_
  refine x_then (hK4 _ _ ?_)
  refine c_block ?_
  refine c_loop4 (fun (i : Nat) (a : Option Addr) (n : Nat) (S : Hp) => i ≤ 256 ∧ OwnS Er 2 36 (.slice a (runsB (memsTo c i)).length n) (runsB (memsTo c i)) S) (fun (i : Nat) (a : Option Addr) (n : Nat) (S : Hp) => [(4, .int .i64 i), (3, .slice a (runsB (memsTo c i)).length n)]) [(1, _), (2, _)] (fun (i : Nat) (a : Option Addr) (n : Nat) (S : Hp) => S ++ [(b1, .cells (Ec c).toArray 24 (0, 0))]) (fun (i : Nat) (a : Option Addr) (n : Nat) (S : Hp) => 256 - i) 0 none 0 [] ⟨by omega, .nil⟩ (by repeat (first | exact Sub.nil | refine Sub.cons rfl ?_)) (by repeat (first | exact Sub.nil | refine Sub.cons rfl ?_)) (by repeat (first | exact HSub.refl _ | exact HSub.nil | refine HSub.takeC (by first | ((repeat (first | exact .one | exact .here | exact .all | apply Pick.cons | apply Pick.app)); done) | ((repeat (first | exact .one | exact .here | exact .all | apply Pick.cons | apply Pick.assoc | apply Pick.app)); done) | exact Pick.takeA (by repeat (first | exact .one | exact .here | exact .all | apply Pick.cons | apply Pick.assoc | apply Pick.app)) (by repeat (first | exact .one | exact .here | exact .all | apply Pick.cons | apply Pick.assoc | apply Pick.app))) ?_ | refine HSub.take (by first | ((repeat (first | exact .one | exact .here | exact .all | apply Pick.cons | apply Pick.app)); done) | ((repeat (first | exact .one | exact .here | exact .all | apply Pick.cons | apply Pick.assoc | apply Pick.app)); done) | exact Pick.takeA (by repeat (first | exact .one | exact .here | exact .all | apply Pick.cons | apply Pick.assoc | apply Pick.app)) (by repeat (first | exact .one | exact .here | exact .all | apply Pick.cons | apply Pick.assoc | apply Pick.app))) ?_ | exact HSub.of_pick (by first | ((repeat (first | exact .one | exact .here | exact .all | apply Pick.cons | apply Pick.app)); done) | ((repeat (first | exact .one | exact .here | exact .all | apply Pick.cons | apply Pick.assoc | apply Pick.app)); done) | exact Pick.takeA (by repeat (first | exact .one | exact .here | exact .all | apply Pick.cons | apply Pick.assoc | apply Pick.app)) (by repeat (first | exact .one | exact .here | exact .all | apply Pick.cons | apply Pick.assoc | apply Pick.app))))) ?_
  rintro i a n S ⟨hi, hS⟩
  have hsl := hS.sl
  have hbl := runsB_le (memsTo c i)
  have hml := memsTo_len c i
  refine c_seq fun _ hK5 => ?_
  refine c_seq fun _ hK6 => ?_
  refine c_region ?_
  refine o_step rfl (s_move rfl) ?_
  refine o_step rfl (s_lss rfl rfl) ?_
  refine o_nil ?_
  refine x_then (hK6 _ _ ?_)
  refine c_if rfl (fun hlt => ?_) (fun hlt => ?_)
  · skip
    refine c_skip ?_
    refine x_then (hK5 _ _ ?_)
    refine c_seq fun _ hK7 => ?_
    refine c_block ?_
    refine c_seq fun _ hK8 => ?_
    refine c_seq fun _ hK9 => ?_
    refine c_region ?_
    refine o_step rfl (s_ldB rfl (RdPK.cels (.own (by repeat (first | exact List.mem_cons_self | apply List.mem_cons_of_mem | apply mem_assoc | apply mem_app)))) (by first | (rw [flat_len, Nat.mul_one]; first | assumption | exact List.length_replicate) | exact List.length_replicate | rfl)) ?_
    refine o_step rfl (s_move rfl) ?_
    refine o_step rfl (step_cast (v' := .int .u8 ((i : Nat) : Int)) (s_conv rfl) (congrArg _ (conv8 (by omega)))) ?_
    refine o_callP (rHas_fn c i (by omega)) rfl rfl rfl (fun _ _ => trivial) (fun v12 hv12 => ?_)
    cases ha : BitVec.getLsbD c i
    · skip
      rw [ha] at hv12
      subst hv12
      refine o_step rfl (s_not rfl) ?_
      refine o_nil ?_
      refine x_then (hK9 _ _ ?_)
      refine c_true rfl ?_
      refine c_exit ?_
      refine x_then_exit ?_
      refine x_block_exit ?_
      refine x_then (hK7 _ _ ?_)
      refine c_region ?_
      refine o_step rfl (s_move rfl) ?_
      refine o_step rfl (s_add rfl rfl (by omega)) ?_
      refine o_step rfl (s_assign rfl) ?_
      refine o_nil ?_
      have hy : runsB (memsTo c (i + 1)) = (runsB (memsTo c i)) := by rw [memsTo_no ha]
      exact x_then (x_inv (i + 1, a, n, S) ⟨by omega, by rw [hy]; exact hS⟩ (by first | omega | (dsimp only; omega)) (by refine Sub.cons rfl (Sub.cons' rfl (by rw [hy]) (by repeat (first | exact Sub.nil | refine Sub.cons rfl ?_)))) (by repeat (first | exact HSub.refl _ | exact HSub.nil | refine HSub.takeC (by first | ((repeat (first | exact .one | exact .here | exact .all | apply Pick.cons | apply Pick.app)); done) | ((repeat (first | exact .one | exact .here | exact .all | apply Pick.cons | apply Pick.assoc | apply Pick.app)); done) | exact Pick.takeA (by repeat (first | exact .one | exact .here | exact .all | apply Pick.cons | apply Pick.assoc | apply Pick.app)) (by repeat (first | exact .one | exact .here | exact .all | apply Pick.cons | apply Pick.assoc | apply Pick.app))) ?_ | refine HSub.take (by first | ((repeat (first | exact .one | exact .here | exact .all | apply Pick.cons | apply Pick.app)); done) | ((repeat (first | exact .one | exact .here | exact .all | apply Pick.cons | apply Pick.assoc | apply Pick.app)); done) | exact Pick.takeA (by repeat (first | exact .one | exact .here | exact .all | apply Pick.cons | apply Pick.assoc | apply Pick.app)) (by repeat (first | exact .one | exact .here | exact .all | apply Pick.cons | apply Pick.assoc | apply Pick.app))) ?_ | exact HSub.of_pick (by first | ((repeat (first | exact .one | exact .here | exact .all | apply Pick.cons | apply Pick.app)); done) | ((repeat (first | exact .one | exact .here | exact .all | apply Pick.cons | apply Pick.assoc | apply Pick.app)); done) | exact Pick.takeA (by repeat (first | exact .one | exact .here | exact .all | apply Pick.cons | apply Pick.assoc | apply Pick.app)) (by repeat (first | exact .one | exact .here | exact .all | apply Pick.cons | apply Pick.assoc | apply Pick.app))))))
    · skip
      rw [ha] at hv12
      subst hv12
      refine o_step rfl (s_not rfl) ?_
      refine o_nil ?_
      refine x_then (hK9 _ _ ?_)
      refine c_false rfl ?_
      refine c_skip ?_
      refine x_then (hK8 _ _ ?_)
      refine c_seq fun _ hK10 => ?_
      refine c_region ?_
      refine o_step rfl (s_move rfl) ?_
      by_cases h0 : 0 < i
      · skip
        refine o_step rfl (step_cast (v' := .bool true) (s_gtr rfl rfl) (congrArg Value.bool (decide_eq_true (by omega)))) ?_
        refine o_step rfl (s_move rfl) ?_
        refine o_yes rfl rfl ?_
        refine o_step rfl (s_ldB rfl (RdPK.cels (.own (by repeat (first | exact List.mem_cons_self | apply List.mem_cons_of_mem | apply mem_assoc | apply mem_app)))) (by first | (rw [flat_len, Nat.mul_one]; first | assumption | exact List.length_replicate) | exact List.length_replicate | rfl)) ?_
        refine o_yes rfl rfl ?_
        refine o_step rfl (s_move rfl) ?_
        refine o_yes rfl rfl ?_
        refine o_step rfl (step_cast (v' := .int .i64 ((i - 1 : Nat) : Int)) (s_sub rfl rfl (by omega)) (congrArg _ (by omega))) ?_
        refine o_yes rfl rfl ?_
        refine o_step rfl (step_cast (v' := .int .u8 ((i - 1 : Nat) : Int)) (s_conv rfl) (congrArg _ (conv8 (by omega)))) ?_
        refine o_yes rfl rfl ?_
        refine o_callP (rHas_fn c (i - 1) (by omega)) rfl rfl rfl (fun _ _ => trivial) (fun v21 hv21 => ?_)
        cases hb : BitVec.getLsbD c (i - 1)
        · skip
          rw [hb] at hv21
          subst hv21
          refine o_step rfl (s_pick_t rfl rfl) ?_
          refine o_nil ?_
          refine x_then (hK10 _ _ ?_)
          refine c_false rfl ?_
          refine c_region ?_
          refine o_step rfl (s_move rfl) ?_
          refine o_step rfl (s_move rfl) ?_
          refine o_step rfl (step_cast (v' := .int .u8 ((i : Nat) : Int)) (s_conv rfl) (congrArg _ (conv8 (by omega)))) ?_
          refine o_step rfl (s_move rfl) ?_
          refine o_step rfl (step_cast (v' := .int .u8 ((i : Nat) : Int)) (s_conv rfl) (congrArg _ (conv8 (by omega)))) ?_
          refine o_step rfl (s_build (cs := [_, _]) (vs := [_, _]) rfl rfl (.cons rfl rfl rfl rfl rfl (.cons rfl rfl rfl rfl rfl (.nil)))) ?_
          refine o_bs (E := Er) (xs := [(i, i)]) (vs := [_]) rfl rfl rfl rfl rfl (by decide) (by decide) fun b37 S37 hS37 => ?_
          refine o_app hS (hS37.rdk (by repeat (first | exact HIn.here | exact HIn.all | exact HIn.one | apply HIn.cons | apply HIn.assoc | apply HIn.app))) rfl rfl rfl rfl (by show ((runsB (memsTo c i)).length + 1) * 2 ≤ _; omega) (by show (runsB (memsTo c i)).length + 1 ≤ _; omega) rfl (by first | ((repeat (first | exact .one | exact .here | exact .all | apply Pick.cons | apply Pick.app)); done) | ((repeat (first | exact .one | exact .here | exact .all | apply Pick.cons | apply Pick.assoc | apply Pick.app)); done) | exact Pick.takeA (by repeat (first | exact .one | exact .here | exact .all | apply Pick.cons | apply Pick.assoc | apply Pick.app)) (by repeat (first | exact .one | exact .here | exact .all | apply Pick.cons | apply Pick.assoc | apply Pick.app))) fun a38 c38 S38 hS38 => ?_
          refine o_step rfl (s_assign rfl) ?_
          refine o_nil ?_
          refine x_block ?_
          refine x_then (hK7 _ _ ?_)
          refine c_region ?_
          refine o_step rfl (s_move rfl) ?_
          refine o_step rfl (s_add rfl rfl (by omega)) ?_
          refine o_step rfl (s_assign rfl) ?_
          refine o_nil ?_
          have hy : runsB (memsTo c (i + 1)) = (runsB (memsTo c i)) ++ [(i, i)] := by rw [memsTo_yes ha]; exact runsB_new (runs_gap (.inr hb))
          exact x_then (x_inv (i + 1, a38, c38, S38) ⟨by omega, by rw [hy]; exact hS38⟩ (by first | omega | (dsimp only; omega)) (by refine Sub.cons rfl (Sub.cons' rfl (by rw [hy]) (by repeat (first | exact Sub.nil | refine Sub.cons rfl ?_)))) (by repeat (first | exact HSub.refl _ | exact HSub.nil | refine HSub.takeC (by first | ((repeat (first | exact .one | exact .here | exact .all | apply Pick.cons | apply Pick.app)); done) | ((repeat (first | exact .one | exact .here | exact .all | apply Pick.cons | apply Pick.assoc | apply Pick.app)); done) | exact Pick.takeA (by repeat (first | exact .one | exact .here | exact .all | apply Pick.cons | apply Pick.assoc | apply Pick.app)) (by repeat (first | exact .one | exact .here | exact .all | apply Pick.cons | apply Pick.assoc | apply Pick.app))) ?_ | refine HSub.take (by first | ((repeat (first | exact .one | exact .here | exact .all | apply Pick.cons | apply Pick.app)); done) | ((repeat (first | exact .one | exact .here | exact .all | apply Pick.cons | apply Pick.assoc | apply Pick.app)); done) | exact Pick.takeA (by repeat (first | exact .one | exact .here | exact .all | apply Pick.cons | apply Pick.assoc | apply Pick.app)) (by repeat (first | exact .one | exact .here | exact .all | apply Pick.cons | apply Pick.assoc | apply Pick.app))) ?_ | exact HSub.of_pick (by first | ((repeat (first | exact .one | exact .here | exact .all | apply Pick.cons | apply Pick.app)); done) | ((repeat (first | exact .one | exact .here | exact .all | apply Pick.cons | apply Pick.assoc | apply Pick.app)); done) | exact Pick.takeA (by repeat (first | exact .one | exact .here | exact .all | apply Pick.cons | apply Pick.assoc | apply Pick.app)) (by repeat (first | exact .one | exact .here | exact .all | apply Pick.cons | apply Pick.assoc | apply Pick.app))))))
        · skip
          rw [hb] at hv21
          subst hv21
          obtain ⟨hk, hq⟩ := runs_adj h0 hb
          have hg := last_get hk
          refine o_step rfl (s_pick_t rfl rfl) ?_
          refine o_nil ?_
          refine x_then (hK10 _ _ ?_)
          refine c_true rfl ?_
          refine c_region ?_
          refine o_step rfl (s_move rfl) ?_
          refine o_step rfl (s_move rfl) ?_
          refine o_step rfl (s_len rfl) ?_
          refine o_step rfl (s_sub rfl rfl (by omega)) ?_
          refine o_step rfl (s_move rfl) ?_
          refine o_step rfl (step_cast (v' := .int .u8 ((i : Nat) : Int)) (s_conv rfl) (congrArg _ (conv8 (by omega)))) ?_
          refine o_step rfl (s_idx rfl rfl hsl (by omega)) ?_
          refine o_step rfl (s_field rfl rfl (by decide)) ?_
          refine o_stS (i := (runsB (memsTo c i)).length - 1) (off := 1) (cs := [.int .u8 (i : Nat)]) ((lastR (runsB (memsTo c i))).1, i) hS (by first | ((repeat (first | exact .one | exact .here | exact .all | apply Pick.cons | apply Pick.app)); done) | ((repeat (first | exact .one | exact .here | exact .all | apply Pick.cons | apply Pick.assoc | apply Pick.app)); done) | exact Pick.takeA (by repeat (first | exact .one | exact .here | exact .all | apply Pick.cons | apply Pick.assoc | apply Pick.app)) (by repeat (first | exact .one | exact .here | exact .all | apply Pick.cons | apply Pick.assoc | apply Pick.app))) rfl rfl rfl rfl (by omega) (by omega) (Nat.le_refl 2) (fun e he => by rw [last_get hk] at he; cases he; rfl) (by simp [Value.oneCell']) fun S9 hS9 => ?_
          refine o_nil ?_
          refine x_block ?_
          refine x_then (hK7 _ _ ?_)
          refine c_region ?_
          refine o_step rfl (s_move rfl) ?_
          refine o_step rfl (s_add rfl rfl (by omega)) ?_
          refine o_step rfl (s_assign rfl) ?_
          refine o_nil ?_
          have hy : runsB (memsTo c (i + 1)) = (runsB (memsTo c i)).set ((runsB (memsTo c i)).length - 1) ((lastR (runsB (memsTo c i))).1, i) := by rw [memsTo_yes ha]; exact runsB_set hk hq
          have hln : (runsB (memsTo c (i + 1))).length = (runsB (memsTo c i)).length := by rw [hy, List.length_set]
          exact x_then (x_inv (i + 1, a, n, S9) ⟨by omega, by rw [hln, hy]; exact hS9⟩ (by first | omega | (dsimp only; omega)) (by refine Sub.cons rfl (Sub.cons' rfl (by rw [hln]) (by repeat (first | exact Sub.nil | refine Sub.cons rfl ?_)))) (by repeat (first | exact HSub.refl _ | exact HSub.nil | refine HSub.takeC (by first | ((repeat (first | exact .one | exact .here | exact .all | apply Pick.cons | apply Pick.app)); done) | ((repeat (first | exact .one | exact .here | exact .all | apply Pick.cons | apply Pick.assoc | apply Pick.app)); done) | exact Pick.takeA (by repeat (first | exact .one | exact .here | exact .all | apply Pick.cons | apply Pick.assoc | apply Pick.app)) (by repeat (first | exact .one | exact .here | exact .all | apply Pick.cons | apply Pick.assoc | apply Pick.app))) ?_ | refine HSub.take (by first | ((repeat (first | exact .one | exact .here | exact .all | apply Pick.cons | apply Pick.app)); done) | ((repeat (first | exact .one | exact .here | exact .all | apply Pick.cons | apply Pick.assoc | apply Pick.app)); done) | exact Pick.takeA (by repeat (first | exact .one | exact .here | exact .all | apply Pick.cons | apply Pick.assoc | apply Pick.app)) (by repeat (first | exact .one | exact .here | exact .all | apply Pick.cons | apply Pick.assoc | apply Pick.app))) ?_ | exact HSub.of_pick (by first | ((repeat (first | exact .one | exact .here | exact .all | apply Pick.cons | apply Pick.app)); done) | ((repeat (first | exact .one | exact .here | exact .all | apply Pick.cons | apply Pick.assoc | apply Pick.app)); done) | exact Pick.takeA (by repeat (first | exact .one | exact .here | exact .all | apply Pick.cons | apply Pick.assoc | apply Pick.app)) (by repeat (first | exact .one | exact .here | exact .all | apply Pick.cons | apply Pick.assoc | apply Pick.app))))))
      · skip
        refine o_step rfl (step_cast (v' := .bool false) (s_gtr rfl rfl) (congrArg Value.bool (decide_eq_false (by omega)))) ?_
        refine o_step rfl (s_move rfl) ?_
        refine o_no rfl rfl rfl rfl ?_
        refine o_no rfl rfl rfl rfl ?_
        refine o_no rfl rfl rfl rfl ?_
        refine o_no rfl rfl rfl rfl ?_
        refine o_no rfl rfl rfl rfl ?_
        refine o_step rfl (s_pick_f rfl rfl) ?_
        refine o_nil ?_
        refine x_then (hK10 _ _ ?_)
        refine c_false rfl ?_
        refine c_region ?_
        refine o_step rfl (s_move rfl) ?_
        refine o_step rfl (s_move rfl) ?_
        refine o_step rfl (step_cast (v' := .int .u8 ((i : Nat) : Int)) (s_conv rfl) (congrArg _ (conv8 (by omega)))) ?_
        refine o_step rfl (s_move rfl) ?_
        refine o_step rfl (step_cast (v' := .int .u8 ((i : Nat) : Int)) (s_conv rfl) (congrArg _ (conv8 (by omega)))) ?_
        refine o_step rfl (s_build (cs := [_, _]) (vs := [_, _]) rfl rfl (.cons rfl rfl rfl rfl rfl (.cons rfl rfl rfl rfl rfl (.nil)))) ?_
        refine o_bs (E := Er) (xs := [(i, i)]) (vs := [_]) rfl rfl rfl rfl rfl (by decide) (by decide) fun b37 S37 hS37 => ?_
        refine o_app hS (hS37.rdk (by repeat (first | exact HIn.here | exact HIn.all | exact HIn.one | apply HIn.cons | apply HIn.assoc | apply HIn.app))) rfl rfl rfl rfl (by show ((runsB (memsTo c i)).length + 1) * 2 ≤ _; omega) (by show (runsB (memsTo c i)).length + 1 ≤ _; omega) rfl (by first | ((repeat (first | exact .one | exact .here | exact .all | apply Pick.cons | apply Pick.app)); done) | ((repeat (first | exact .one | exact .here | exact .all | apply Pick.cons | apply Pick.assoc | apply Pick.app)); done) | exact Pick.takeA (by repeat (first | exact .one | exact .here | exact .all | apply Pick.cons | apply Pick.assoc | apply Pick.app)) (by repeat (first | exact .one | exact .here | exact .all | apply Pick.cons | apply Pick.assoc | apply Pick.app))) fun a38 c38 S38 hS38 => ?_
        refine o_step rfl (s_assign rfl) ?_
        refine o_nil ?_
        refine x_block ?_
        refine x_then (hK7 _ _ ?_)
        refine c_region ?_
        refine o_step rfl (s_move rfl) ?_
        refine o_step rfl (s_add rfl rfl (by omega)) ?_
        refine o_step rfl (s_assign rfl) ?_
        refine o_nil ?_
        have hy : runsB (memsTo c (i + 1)) = (runsB (memsTo c i)) ++ [(i, i)] := by rw [memsTo_yes ha]; exact runsB_new (runs_gap (.inl (by omega)))
        exact x_then (x_inv (i + 1, a38, c38, S38) ⟨by omega, by rw [hy]; exact hS38⟩ (by first | omega | (dsimp only; omega)) (by refine Sub.cons rfl (Sub.cons' rfl (by rw [hy]) (by repeat (first | exact Sub.nil | refine Sub.cons rfl ?_)))) (by repeat (first | exact HSub.refl _ | exact HSub.nil | refine HSub.takeC (by first | ((repeat (first | exact .one | exact .here | exact .all | apply Pick.cons | apply Pick.app)); done) | ((repeat (first | exact .one | exact .here | exact .all | apply Pick.cons | apply Pick.assoc | apply Pick.app)); done) | exact Pick.takeA (by repeat (first | exact .one | exact .here | exact .all | apply Pick.cons | apply Pick.assoc | apply Pick.app)) (by repeat (first | exact .one | exact .here | exact .all | apply Pick.cons | apply Pick.assoc | apply Pick.app))) ?_ | refine HSub.take (by first | ((repeat (first | exact .one | exact .here | exact .all | apply Pick.cons | apply Pick.app)); done) | ((repeat (first | exact .one | exact .here | exact .all | apply Pick.cons | apply Pick.assoc | apply Pick.app)); done) | exact Pick.takeA (by repeat (first | exact .one | exact .here | exact .all | apply Pick.cons | apply Pick.assoc | apply Pick.app)) (by repeat (first | exact .one | exact .here | exact .all | apply Pick.cons | apply Pick.assoc | apply Pick.app))) ?_ | exact HSub.of_pick (by first | ((repeat (first | exact .one | exact .here | exact .all | apply Pick.cons | apply Pick.app)); done) | ((repeat (first | exact .one | exact .here | exact .all | apply Pick.cons | apply Pick.assoc | apply Pick.app)); done) | exact Pick.takeA (by repeat (first | exact .one | exact .here | exact .all | apply Pick.cons | apply Pick.assoc | apply Pick.app)) (by repeat (first | exact .one | exact .here | exact .all | apply Pick.cons | apply Pick.assoc | apply Pick.app))))))
  · skip
    obtain rfl : i = 256 := by omega
    refine c_exit ?_
    refine x_then_exit ?_
    refine x_then_exit ?_
    refine x_block_exit ?_
    refine x_then (hK3 _ _ ?_)
    refine c_seq fun _ hK11 => ?_
    refine c_region ?_
    refine o_step rfl (s_move rfl) ?_
    refine o_step rfl (s_assign rfl) ?_
    refine o_nil ?_
    refine x_then (hK11 _ _ ?_)
    refine c_ret ?_
    refine ?_
    refine x_sub (Sub.refl _) (H' := S) (by repeat (first | exact HSub.refl _ | exact HSub.nil | refine HSub.takeC (by first | ((repeat (first | exact .one | exact .here | exact .all | apply Pick.cons | apply Pick.app)); done) | ((repeat (first | exact .one | exact .here | exact .all | apply Pick.cons | apply Pick.assoc | apply Pick.app)); done) | exact Pick.takeA (by repeat (first | exact .one | exact .here | exact .all | apply Pick.cons | apply Pick.assoc | apply Pick.app)) (by repeat (first | exact .one | exact .here | exact .all | apply Pick.cons | apply Pick.assoc | apply Pick.app))) ?_ | refine HSub.take (by first | ((repeat (first | exact .one | exact .here | exact .all | apply Pick.cons | apply Pick.app)); done) | ((repeat (first | exact .one | exact .here | exact .all | apply Pick.cons | apply Pick.assoc | apply Pick.app)); done) | exact Pick.takeA (by repeat (first | exact .one | exact .here | exact .all | apply Pick.cons | apply Pick.assoc | apply Pick.app)) (by repeat (first | exact .one | exact .here | exact .all | apply Pick.cons | apply Pick.assoc | apply Pick.app))) ?_ | exact HSub.of_pick (by first | ((repeat (first | exact .one | exact .here | exact .all | apply Pick.cons | apply Pick.app)); done) | ((repeat (first | exact .one | exact .here | exact .all | apply Pick.cons | apply Pick.assoc | apply Pick.app)); done) | exact Pick.takeA (by repeat (first | exact .one | exact .here | exact .all | apply Pick.cons | apply Pick.assoc | apply Pick.app)) (by repeat (first | exact .one | exact .here | exact .all | apply Pick.cons | apply Pick.assoc | apply Pick.app))))) ?_
    exact x_ret rfl (.tmp rfl (.nil)) (⟨_, _, rfl, hS⟩)
end Go.Proofs.YtnjjkkncoijmmaaDoor
