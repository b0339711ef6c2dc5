/- Part of the proofs over this seat: see the text that holds the theorem. Conditions: each theorem bears its own. -/
import Derived.Test.YtafbigmneipkiaaDoorBW7
import Derived.Test.YtafbigmneipkiaaDoorMB8
import Derived.Test.YtafbigmneipkiaaDoorBC2
namespace Go.Proofs.YtafbigmneipkiaaDoor
open Go Go.HL Go.Proofs Go.Tab Go.HL.Kl Go.HL.Kl.Bk
theorem wrapI {x : Int} (h : -9223372036854775808 ≤ x ∧ x < 9223372036854775808) : IntKind.i64.wrap x = x := by
  simp only [IntKind.wrap, IntKind.signed, IntKind.bits]
  simp
  omega
theorem within_fn (k : Int) (m : Nat) (n : Int) (hn : n = m) (hm : 0 < m) (hm2 : m ≤ 100) : HL.Fn Tryd.prog 17 [.int .i64 k, .int .i64 n] (fun _ => True) [] (fun v _ => v = .int .i64 (k % n)) := by
  refine fn_of Tryd.func17 rfl rfl rfl fun w0 hw => ?_
  subst hn
  have htm := tmod_lt k m hm
  have hwi := wi_of k m hm
  refine c_seq fun _ hK1 => ?_
  refine c_region ?_
  refine o_step rfl (s_assign rfl) ?_
  refine o_nil ?_
  refine x_then (hK1 _ _ ?_)
  refine c_seq fun _ hK2 => ?_
  refine c_region ?_
  refine o_step rfl (s_move rfl) ?_
  refine o_step rfl (s_move rfl) ?_
  refine o_step rfl (s_rem rfl rfl (by omega)) ?_
  refine o_step rfl (s_assign rfl) ?_
  refine o_nil ?_
  refine x_then (hK2 _ _ ?_)
  refine c_seq fun _ hK3 => ?_
  refine c_seq fun _ hK4 => ?_
  refine c_region ?_
  refine o_step rfl (s_move rfl) ?_
  by_cases hneg : k.tmod (m : Int) < 0
  · skip
    refine o_step rfl (step_cast (v' := .bool true) (s_lss rfl rfl) (by rw [decide_eq_true (by omega)])) ?_
    refine o_nil ?_
    refine x_then (hK4 _ _ ?_)
    refine c_true rfl ?_
    refine c_region ?_
    refine o_step rfl (s_move rfl) ?_
    refine o_step rfl (s_move rfl) ?_
    refine o_step rfl (s_add rfl rfl (by omega)) ?_
    refine o_step rfl (s_assign rfl) ?_
    refine o_nil ?_
    refine x_then (hK3 _ _ ?_)
    refine c_seq fun _ hK5 => ?_
    refine c_region ?_
    refine o_step rfl (s_move rfl) ?_
    refine o_step rfl (s_assign rfl) ?_
    refine o_nil ?_
    refine x_then (hK5 _ _ ?_)
    refine c_ret ?_
    refine ?_
    exact x_ret rfl (.tmp rfl (.nil)) (by rw [← hwi, if_pos hneg]; rfl)
  · skip
    refine o_step rfl (step_cast (v' := .bool false) (s_lss rfl rfl) (by rw [decide_eq_false (by omega)])) ?_
    refine o_nil ?_
    refine x_then (hK4 _ _ ?_)
    refine c_false rfl ?_
    refine c_skip ?_
    refine x_then (hK3 _ _ ?_)
    refine c_seq fun _ hK6 => ?_
    refine c_region ?_
    refine o_step rfl (s_move rfl) ?_
    refine o_step rfl (s_assign rfl) ?_
    refine o_nil ?_
    refine x_then (hK6 _ _ ?_)
    refine c_ret ?_
    refine ?_
    exact x_ret rfl (.tmp rfl (.nil)) (by rw [← hwi, if_neg hneg]; rfl)

theorem enclosed2_fn (n : Int) (y b : UInt8) (hn : n = y.toNat) : HL.Fn Tryd.prog 20 [.int .u8 n, .int .u8 b.toNat] (fun _ => True) [] (fun v S' => ∃ a' c', v = .slice a' (encM y b).length c' ∧ OwnS Em 2 35 (.slice a' (encM y b).length c') (encM y b) S') := by
  refine fn_of Tryd.func20 rfl rfl rfl fun w0 hw => ?_
  subst hn
  refine c_seq fun _ hK1 => ?_
  refine c_region ?_
  refine o_step rfl (s_assign rfl) ?_
  refine o_nil ?_
  refine x_then (hK1 _ _ ?_)
  refine c_seq fun _ hK2 => ?_
  refine c_region ?_
  refine o_step rfl (s_build (cs := [_, _]) (vs := [_]) rfl rfl (.cons rfl rfl rfl rfl rfl (.nil))) ?_
  refine o_step rfl (s_move rfl) ?_
  refine o_step rfl (s_build (cs := [_, _]) (vs := [_]) rfl rfl (.cons rfl rfl rfl rfl rfl (.nil))) ?_
  refine o_step rfl (s_move rfl) ?_
  refine o_step rfl (s_build (cs := [_, _]) (vs := [_]) rfl rfl (.cons rfl rfl rfl rfl rfl (.nil))) ?_
  refine o_step rfl (s_move rfl) ?_
  refine o_step rfl (s_build (cs := [_, _]) (vs := [_]) rfl rfl (.cons rfl rfl rfl rfl rfl (.nil))) ?_
  refine o_step rfl (s_build (cs := [_, _]) (vs := [_]) rfl rfl (.cons rfl rfl rfl rfl rfl (.nil))) ?_
  refine o_bs (E := Em) (xs := encM y b) (vs := [_, _, _, _, _]) rfl rfl rfl rfl rfl (by decide) (by decide) fun b13 S13 hS13 => ?_
  refine o_step rfl (s_assign rfl) ?_
  refine o_nil ?_
  refine x_then (hK2 _ _ ?_)
  refine c_ret ?_
  refine ?_
  refine x_sub (Sub.refl _) (H' := S13) (by repeat (first | exact HSub.refl _ | exact HSub.nil | refine HSub.takeC (by first | ((repeat (first | exact .one | exact .here | exact .all | apply Pick.cons | apply Pick.app)); done) | ((repeat (first | exact .one | exact .here | exact .all | apply Pick.cons | apply Pick.assoc | apply Pick.app)); done) | exact Pick.takeA (by repeat (first | exact .one | exact .here | exact .all | apply Pick.cons | apply Pick.assoc | apply Pick.app)) (by repeat (first | exact .one | exact .here | exact .all | apply Pick.cons | apply Pick.assoc | apply Pick.app))) ?_ | refine HSub.take (by first | ((repeat (first | exact .one | exact .here | exact .all | apply Pick.cons | apply Pick.app)); done) | ((repeat (first | exact .one | exact .here | exact .all | apply Pick.cons | apply Pick.assoc | apply Pick.app)); done) | exact Pick.takeA (by repeat (first | exact .one | exact .here | exact .all | apply Pick.cons | apply Pick.assoc | apply Pick.app)) (by repeat (first | exact .one | exact .here | exact .all | apply Pick.cons | apply Pick.assoc | apply Pick.app))) ?_ | exact HSub.of_pick (by first | ((repeat (first | exact .one | exact .here | exact .all | apply Pick.cons | apply Pick.app)); done) | ((repeat (first | exact .one | exact .here | exact .all | apply Pick.cons | apply Pick.assoc | apply Pick.app)); done) | exact Pick.takeA (by repeat (first | exact .one | exact .here | exact .all | apply Pick.cons | apply Pick.assoc | apply Pick.app)) (by repeat (first | exact .one | exact .here | exact .all | apply Pick.cons | apply Pick.assoc | apply Pick.app))))) ?_
  exact x_ret rfl (.tmp rfl (.nil)) (⟨_, _, rfl, hS13⟩)

theorem names_fn  : HL.Fn Tryd.prog 22 [] (fun _ => True) [] (fun v S' => ∃ a' c', v = .slice a' nms.length c' ∧ OwnS Es 1 9 (.slice a' nms.length c') nms S') := by
  refine fn_of Tryd.func22 rfl rfl rfl fun w0 hw => ?_
  refine c_seq fun _ hK1 => ?_
  refine c_region ?_
  refine o_step rfl (s_assign rfl) ?_
  refine o_nil ?_
  refine x_then (hK1 _ _ ?_)
  refine c_seq fun _ hK2 => ?_
  refine c_region ?_
  refine o_bs (E := Es) (xs := nms) (vs := [_, _, _, _, _, _, _, _, _, _, _, _]) rfl rfl rfl rfl rfl (by decide) (by decide) fun b1 S1 hS1 => ?_
  refine o_step rfl (s_assign rfl) ?_
  refine o_nil ?_
  refine x_then (hK2 _ _ ?_)
  refine c_ret ?_
  refine ?_
  refine x_sub (Sub.refl _) (H' := S1) (by repeat (first | exact HSub.refl _ | exact HSub.nil | refine HSub.takeC (by first | ((repeat (first | exact .one | exact .here | exact .all | apply Pick.cons | apply Pick.app)); done) | ((repeat (first | exact .one | exact .here | exact .all | apply Pick.cons | apply Pick.assoc | apply Pick.app)); done) | exact Pick.takeA (by repeat (first | exact .one | exact .here | exact .all | apply Pick.cons | apply Pick.assoc | apply Pick.app)) (by repeat (first | exact .one | exact .here | exact .all | apply Pick.cons | apply Pick.assoc | apply Pick.app))) ?_ | refine HSub.take (by first | ((repeat (first | exact .one | exact .here | exact .all | apply Pick.cons | apply Pick.app)); done) | ((repeat (first | exact .one | exact .here | exact .all | apply Pick.cons | apply Pick.assoc | apply Pick.app)); done) | exact Pick.takeA (by repeat (first | exact .one | exact .here | exact .all | apply Pick.cons | apply Pick.assoc | apply Pick.app)) (by repeat (first | exact .one | exact .here | exact .all | apply Pick.cons | apply Pick.assoc | apply Pick.app))) ?_ | exact HSub.of_pick (by first | ((repeat (first | exact .one | exact .here | exact .all | apply Pick.cons | apply Pick.app)); done) | ((repeat (first | exact .one | exact .here | exact .all | apply Pick.cons | apply Pick.assoc | apply Pick.app)); done) | exact Pick.takeA (by repeat (first | exact .one | exact .here | exact .all | apply Pick.cons | apply Pick.assoc | apply Pick.app)) (by repeat (first | exact .one | exact .here | exact .all | apply Pick.cons | apply Pick.assoc | apply Pick.app))))) ?_
  exact x_ret rfl (.tmp rfl (.nil)) (⟨_, _, rfl, hS1⟩)

set_option maxHeartbeats 2000000 in
theorem bracketItems_fn (no : Bool) (a1 : Option Addr) (c1 : Nat) (l : List It) : HL.Fn Tryd.prog 5 [.bool no, .slice a1 l.length c1] (fun w => Rd Eit w (.slice a1 l.length c1) l ∧ TbB [] w) [] (fun v _ => v = .bool true) := by
  refine fn_of Tryd.func5 rfl rfl rfl fun w0 hw => ?_
  obtain ⟨h1, hT⟩ := hw
  have hs1 := h1.sl
  have hb1 := hs1.le
  have hel : ∀ y b, (encM y b).length = 5 := fun _ _ => rfl
  have hnl : nms.length = 12 := rfl
  refine c_seq fun _ hK1 => ?_
  refine c_region ?_
  refine o_step rfl (s_assign rfl) ?_
  refine o_nil ?_
  refine x_then (hK1 _ _ ?_)
  refine c_seq fun _ hK2 => ?_
  refine c_region ?_
  refine o_callP (works_fn) rfl rfl rfl (fun w st => tbB_of hT st HSub.nil) (fun v18 hv18 => ?_)
  subst hv18
  refine o_step rfl (s_assign rfl) ?_
  refine o_nil ?_
  refine x_then (hK2 _ _ ?_)
  refine c_seq fun _ hK3 => ?_
  refine c_seq fun _ hK4 => ?_
  refine c_region ?_
  refine o_step rfl (s_move rfl) ?_
  refine o_step rfl (s_len rfl) ?_
  by_cases hz : (l.length : Int) = 0
  · skip
    refine o_step rfl (step_cast (v' := .bool true) (s_eql rfl rfl) (by rw [decide_eq_true (by omega)])) ?_
    refine o_step rfl (s_move rfl) ?_
    refine o_no rfl rfl rfl rfl ?_
    refine o_no rfl rfl rfl rfl ?_
    refine o_no rfl rfl rfl rfl ?_
    refine o_step rfl (s_pick_t rfl rfl) ?_
    refine o_nil ?_
    refine x_then (hK4 _ _ ?_)
    refine c_true rfl ?_
    refine c_seq fun _ hK5 => ?_
    refine c_region ?_
    refine o_step rfl (s_move rfl) ?_
    refine o_step rfl (s_assign rfl) ?_
    refine o_nil ?_
    refine x_then (hK5 _ _ ?_)
    refine c_ret ?_
    refine x_then_ret (?_)
    exact x_ret rfl (.tmp rfl (.nil)) (rfl)
  · skip
    have hne : l ≠ [] := fun e => hz (by rw [e]; rfl)
    refine o_step rfl (step_cast (v' := .bool false) (s_eql rfl rfl) (by rw [decide_eq_false (by omega)])) ?_
    refine o_step rfl (s_move rfl) ?_
    refine o_yes rfl rfl ?_
    refine o_step rfl (s_move rfl) ?_
    refine o_yes rfl rfl ?_
    refine o_step rfl (s_len rfl) ?_
    refine o_yes rfl rfl ?_
    by_cases hbig : (l.length : Int) > 1048576
    · skip
      refine o_step rfl (step_cast (v' := .bool true) (s_gtr rfl rfl) (by rw [decide_eq_true (by omega)])) ?_
      refine o_step rfl (s_pick_f rfl rfl) ?_
      refine o_nil ?_
      refine x_then (hK4 _ _ ?_)
      refine c_true rfl ?_
      refine c_seq fun _ hK6 => ?_
      refine c_region ?_
      refine o_step rfl (s_move rfl) ?_
      refine o_step rfl (s_assign rfl) ?_
      refine o_nil ?_
      refine x_then (hK6 _ _ ?_)
      refine c_ret ?_
      refine x_then_ret (?_)
      exact x_ret rfl (.tmp rfl (.nil)) (rfl)
    · skip
      refine o_step rfl (step_cast (v' := .bool false) (s_gtr rfl rfl) (by rw [decide_eq_false (by omega)])) ?_
      refine o_step rfl (s_pick_f rfl rfl) ?_
      refine o_nil ?_
      refine x_then (hK4 _ _ ?_)
      refine c_false rfl ?_
      refine c_skip ?_
      refine x_then (hK3 _ _ ?_)
      refine c_seq fun _ hK7 => ?_
      refine c_region ?_
      refine o_step rfl (s_build (cs := [_, _]) (vs := [_]) rfl rfl (.cons rfl rfl rfl rfl rfl (.nil))) ?_
      refine o_bs (E := Em) (xs := [sgn 91]) (vs := [_]) rfl rfl rfl rfl rfl (by decide) (by decide) fun b29 S29 hS29 => ?_
      refine o_step rfl (s_assign rfl) ?_
      refine o_nil ?_
      refine x_then (hK7 _ _ ?_)
      refine c_seqJ (ι := Sl Mk × Hp) (fun g => g.1.xs = sgn 91 :: (if no = true then [sgn 94] else []) ∧ g.1.xs.length ≤ 2 ∧ OwnS Em 2 35 (.slice g.1.a g.1.xs.length g.1.c) g.1.xs g.2) (fun g => [(6, .slice g.1.a g.1.xs.length g.1.c)]) [(0, _), (1, _), (4, _), (5, _)] (fun g => g.2) (by repeat (first | exact Sub.nil | refine Sub.cons rfl ?_)) ?_ ?_
      · rintro g ⟨hg, hgl, hO0⟩
        refine c_seq fun _ hK9 => ?_
        refine c_region ?_
        refine o_step rfl (step_cast (v' := .agg (Ec 0#256).toArray) (s_build0 rfl) (by rw [Ec_zero]; rfl)) ?_
        refine o_alloc (l := Ec 0#256) (by rw [Ec_zero]; rfl) rfl fun b7 => ?_
        refine o_stW rfl rfl (by repeat (first | exact .here | apply Upd.there | apply Upd.assoc | apply Upd.skip)) (Ec_len _) (Ec_len _) (Ec_one _) ?_
        refine o_nil ?_
        refine x_then (hK9 _ _ ?_)
        refine c_seq fun _ hK10 => ?_
        refine c_seq fun _ hK11 => ?_
        refine c_region ?_
        refine o_step rfl (s_assign rfl) ?_
        refine o_nil ?_
        refine x_then (hK11 _ _ ?_)
        refine c_block ?_
        refine c_loop3 (fun (i : Nat) (q : Sl Mk) (So : Hp) => i ≤ l.length ∧ q.xs = sgn 91 :: ((if no = true then [sgn 94] else []) ++ flatM ((l.take i).map pc)) ∧ q.xs.length ≤ 2 + 11 * i ∧ OwnS Em 2 35 (.slice q.a q.xs.length q.c) q.xs So) (fun (i : Nat) (q : Sl Mk) (So : Hp) => [(8, .int .i64 i), (6, .slice q.a q.xs.length q.c)]) [(0, _), (1, _), (4, _), (5, _), (7, _)] (fun (i : Nat) (q : Sl Mk) (So : Hp) => (b7, .cells (Ec (orC ((l.take i).map pc))).toArray 28 (0, 0)) :: So) (fun (i : Nat) (q : Sl Mk) (So : Hp) => l.length - i) 0 g.1 g.2 ⟨by omega, by rw [hg]; simp [flatM], by omega, hO0⟩ (by repeat (first | exact Sub.nil | refine Sub.cons rfl ?_)) (by repeat (first | exact Sub.nil | refine Sub.cons rfl ?_)) (by repeat (first | exact HSub.refl _ | exact HSub.nil | refine HSub.takeC (by repeat (first | exact .one | exact .here | exact .all | apply Pick.cons | apply Pick.assoc | apply Pick.app)) ?_ | refine HSub.take (by repeat (first | exact .one | exact .here | exact .all | apply Pick.cons | apply Pick.assoc | apply Pick.app)) ?_)) ?_
        rintro i q So ⟨hile, hq, hql, hO⟩
        refine c_seq fun _ hK12 => ?_
        refine c_seq fun _ hK13 => ?_
        refine c_region ?_
        refine o_step rfl (s_move rfl) ?_
        refine o_step rfl (s_move rfl) ?_
        refine o_step rfl (s_len rfl) ?_
        refine o_step rfl (s_lss rfl rfl) ?_
        refine o_nil ?_
        refine x_then (hK13 _ _ ?_)
        refine c_if rfl (fun hlt => ?_) (fun hlt => ?_)
        · skip
          have hil : i < l.length := by omega
          obtain ⟨t, ht⟩ : ∃ t, l[i]? = some t := ⟨_, List.getElem?_eq_getElem hil⟩
          refine c_skip ?_
          refine x_then (hK12 _ _ ?_)
          refine c_seq fun _ hK14 => ?_
          refine c_block ?_
          refine c_seq fun _ hK15 => ?_
          refine c_region ?_
          refine o_step rfl (s_move rfl) ?_
          refine o_step rfl (s_move rfl) ?_
          refine o_step rfl (s_idx rfl rfl hs1 (by omega)) ?_
          refine o_step rfl (s_ldB rfl ((RdK.old0 h1).lds i ht (by omega)) rfl) ?_
          refine o_alloc rfl rfl fun b9 => ?_
          refine o_stW rfl rfl (by repeat (first | exact .here | apply Upd.there | apply Upd.assoc | apply Upd.skip)) (by rfl) (by rfl) (Enc.one (E := Eit) t) ?_
          refine o_nil ?_
          refine x_then (hK15 _ _ ?_)
          refine c_seq fun _ hK16 => ?_
          refine c_region ?_
          refine o_step rfl (s_field rfl rfl (by decide)) ?_
          refine o_step rfl (s_ld rfl (.own (by repeat (first | exact List.mem_cons_self | apply List.mem_cons_of_mem | apply mem_assoc | apply mem_app)) rfl)) ?_
          refine o_callP (within_fn t.k 5 5 (by decide) (by decide) (by decide)) rfl rfl rfl (fun _ _ => trivial) (fun v48 hv48 => ?_)
          rcases (show t.k % 5 = 0 ∨ t.k % 5 = 1 ∨ t.k % 5 = 2 ∨ t.k % 5 = 3 ∨ t.k % 5 = 4 by omega) with hk | hk | hk | hk | hk
          · skip
            rw [hk] at hv48
            subst hv48
            have hpc : pc t = ([⟨t.a, true⟩], ofL [t.a]) := by unfold pc; rw [if_pos hk]
            have horc : (orC ((l.take i).map pc)) ||| ofL [t.a] = (orC ((l.take (i + 1)).map pc)) := by rw [orC_pcs l i t ht, hpc]
            refine o_nil ?_
            refine x_then (hK16 _ _ ?_)
            refine c_block ?_
            refine c_seq fun _ hK17 => ?_
            refine c_region ?_
            refine o_step rfl (s_eql_t rfl rfl (by omega)) ?_
            refine o_step rfl (s_assign rfl) ?_
            refine o_nil ?_
            refine x_then (hK17 _ _ ?_)
            refine c_true rfl ?_
            refine c_seq fun _ hK18 => ?_
            refine c_region ?_
            refine o_step rfl (s_move rfl) ?_
            refine o_step rfl (s_field rfl rfl (by decide)) ?_
            refine o_step rfl (s_ld rfl (.own (by repeat (first | exact List.mem_cons_self | apply List.mem_cons_of_mem | apply mem_assoc | apply mem_app)) rfl)) ?_
            refine o_step rfl (s_build (cs := [_, _]) (vs := [_, _]) rfl rfl (.cons rfl rfl rfl rfl rfl (.cons rfl rfl rfl rfl rfl (.nil)))) ?_
            refine o_bs (E := Em) (xs := [⟨t.a, true⟩]) (vs := [_]) rfl rfl rfl rfl rfl (by decide) (by decide) fun b55 S55 hS55 => ?_
            refine o_app hO (hS55.rdk (by repeat (first | exact HIn.here | exact HIn.all | exact HIn.one | apply HIn.cons | apply HIn.assoc | apply HIn.app))) rfl rfl rfl rfl (by first | omega | (simp only [List.length_append, List.length_cons, List.length_nil, hel]; omega)) (by first | omega | (simp only [List.length_append, List.length_cons, List.length_nil, hel]; omega)) rfl (by first | ((repeat (first | exact .one | exact .here | exact .all | apply Pick.cons | apply Pick.app)); done) | ((repeat (first | exact .one | exact .here | exact .all | apply Pick.cons | apply Pick.assoc | apply Pick.app)); done) | exact Pick.takeA (by repeat (first | exact .one | exact .here | exact .all | apply Pick.cons | apply Pick.assoc | apply Pick.app)) (by repeat (first | exact .one | exact .here | exact .all | apply Pick.cons | apply Pick.assoc | apply Pick.app))) fun a56 c56 S56 hS56 => ?_
            refine o_step rfl (s_assign rfl) ?_
            refine o_nil ?_
            refine x_then (hK18 _ _ ?_)
            refine c_drawE ([(b9, .cells (Eit t).toArray 41 (0, 0)), (b7, .cells (Ec (orC ((l.take i).map pc))).toArray 28 (0, 0))]) (fun i => Nat.beq i 6) ?_
            refine e_take 0 rfl (by kernel_rfl) (by kernel_rfl) (by kernel_rfl) (by kernel_rfl) (fun _ _ => rfl) rfl (by repeat (first | exact HSub.refl _ | exact HSub.nil | refine HSub.takeC (by repeat (first | exact .one | exact .here | exact .all | apply Pick.cons | apply Pick.assoc | apply Pick.app)) ?_ | refine HSub.take (by repeat (first | exact .one | exact .here | exact .all | apply Pick.cons | apply Pick.assoc | apply Pick.app)) ?_)) (s_ldB rfl (RdPK.cels (.own (by repeat (first | exact List.mem_cons_self | apply List.mem_cons_of_mem | apply mem_assoc | apply mem_app)))) (Ec_len _)) ?_
            refine e_take 1 rfl (by kernel_rfl) (by kernel_rfl) (by kernel_rfl) (by kernel_rfl) (fun _ _ => rfl) rfl (by repeat (first | exact HSub.refl _ | exact HSub.nil | refine HSub.takeC (by repeat (first | exact .one | exact .here | exact .all | apply Pick.cons | apply Pick.assoc | apply Pick.app)) ?_ | refine HSub.take (by repeat (first | exact .one | exact .here | exact .all | apply Pick.cons | apply Pick.assoc | apply Pick.app)) ?_)) (s_field rfl rfl (by decide)) ?_
            refine e_take 2 rfl (by kernel_rfl) (by kernel_rfl) (by kernel_rfl) (by kernel_rfl) (fun _ _ => rfl) rfl (by repeat (first | exact HSub.refl _ | exact HSub.nil | refine HSub.takeC (by repeat (first | exact .one | exact .here | exact .all | apply Pick.cons | apply Pick.assoc | apply Pick.app)) ?_ | refine HSub.take (by repeat (first | exact .one | exact .here | exact .all | apply Pick.cons | apply Pick.assoc | apply Pick.app)) ?_)) (s_ld rfl (.own (by repeat (first | exact List.mem_cons_self | apply List.mem_cons_of_mem | apply mem_assoc | apply mem_app)) rfl)) ?_
            refine e_one 3 rfl (by kernel_rfl) ?_
            refine o_bs (E := Eb) (xs := [t.a]) (vs := [_]) rfl rfl rfl rfl rfl (by decide) (by decide) fun b60 S60 hS60 => ?_
            refine o_nil ?_
            refine x_oneS (by repeat (first | exact HSub.refl _ | exact HSub.nil | refine HSub.takeC (by repeat (first | exact .one | exact .here | exact .all | apply Pick.cons | apply Pick.assoc | apply Pick.app)) ?_ | refine HSub.take (by repeat (first | exact .one | exact .here | exact .all | apply Pick.cons | apply Pick.assoc | apply Pick.app)) ?_)) ?_
            refine e_one 4 rfl (by kernel_rfl) ?_
            refine o_callP (of_fn (some ⟨b60, 0, none⟩) 1 [t.a]) rfl rfl rfl (fun w st => (hS60.rdk (by repeat (first | exact HIn.here | exact HIn.all | exact HIn.one | apply HIn.cons | apply HIn.assoc | apply HIn.app))).out w st) (fun v61 hv61 => ?_)
            subst hv61
            refine o_nil ?_
            refine x_oneS (by repeat (first | exact HSub.refl _ | exact HSub.nil | refine HSub.takeC (by repeat (first | exact .one | exact .here | exact .all | apply Pick.cons | apply Pick.assoc | apply Pick.app)) ?_ | refine HSub.take (by repeat (first | exact .one | exact .here | exact .all | apply Pick.cons | apply Pick.assoc | apply Pick.app)) ?_)) ?_
            refine e_one 5 rfl (by kernel_rfl) ?_
            refine o_callP (or_fn (orC ((l.take i).map pc)) (ofL [t.a])) rfl rfl rfl (fun _ _ => trivial) (fun v62 hv62 => ?_)
            rw [horc] at hv62
            subst hv62
            refine o_nil ?_
            refine x_oneS (by repeat (first | exact HSub.refl _ | exact HSub.nil | refine HSub.takeC (by repeat (first | exact .one | exact .here | exact .all | apply Pick.cons | apply Pick.assoc | apply Pick.app)) ?_ | refine HSub.take (by repeat (first | exact .one | exact .here | exact .all | apply Pick.cons | apply Pick.assoc | apply Pick.app)) ?_)) ?_
            refine e_one 6 rfl (by kernel_rfl) ?_
            refine o_stW rfl rfl (by repeat (first | exact .here | apply Upd.there | apply Upd.assoc | apply Upd.skip)) (Ec_len _) (Ec_len _) (Ec_one _) ?_
            refine o_nil ?_
            refine x_oneL rfl ?_
            refine e_done (by kernel_rfl) ?_
            refine x_block ?_
            refine x_block ?_
            refine x_then (hK14 _ _ ?_)
            refine c_region ?_
            refine o_step rfl (s_move rfl) ?_
            refine o_step rfl (s_add rfl rfl (by omega)) ?_
            refine o_step rfl (s_assign rfl) ?_
            refine o_nil ?_
            exact x_then (x_inv (i + 1, ⟨a56, c56, q.xs ++ [⟨t.a, true⟩]⟩, S56) ⟨by omega, by rw [hq, flatM_pcs l i t ht, hpc]; simp, (by first | omega | (simp only [List.length_append, List.length_cons, List.length_nil, hel]; omega)), hS56⟩ (by first | omega | (dsimp only; omega)) (by repeat (first | exact Sub.nil | refine Sub.cons rfl ?_)) (by repeat (first | exact HSub.refl _ | exact HSub.nil | refine HSub.takeC (by first | ((repeat (first | exact .one | exact .here | exact .all | apply Pick.cons | apply Pick.app)); done) | ((repeat (first | exact .one | exact .here | exact .all | apply Pick.cons | apply Pick.assoc | apply Pick.app)); done) | exact Pick.takeA (by repeat (first | exact .one | exact .here | exact .all | apply Pick.cons | apply Pick.assoc | apply Pick.app)) (by repeat (first | exact .one | exact .here | exact .all | apply Pick.cons | apply Pick.assoc | apply Pick.app))) ?_ | refine HSub.take (by first | ((repeat (first | exact .one | exact .here | exact .all | apply Pick.cons | apply Pick.app)); done) | ((repeat (first | exact .one | exact .here | exact .all | apply Pick.cons | apply Pick.assoc | apply Pick.app)); done) | exact Pick.takeA (by repeat (first | exact .one | exact .here | exact .all | apply Pick.cons | apply Pick.assoc | apply Pick.app)) (by repeat (first | exact .one | exact .here | exact .all | apply Pick.cons | apply Pick.assoc | apply Pick.app))) ?_ | exact HSub.of_pick (by first | ((repeat (first | exact .one | exact .here | exact .all | apply Pick.cons | apply Pick.app)); done) | ((repeat (first | exact .one | exact .here | exact .all | apply Pick.cons | apply Pick.assoc | apply Pick.app)); done) | exact Pick.takeA (by repeat (first | exact .one | exact .here | exact .all | apply Pick.cons | apply Pick.assoc | apply Pick.app)) (by repeat (first | exact .one | exact .here | exact .all | apply Pick.cons | apply Pick.assoc | apply Pick.app))))))
          · skip
            rw [hk] at hv48
            subst hv48
            have hpc : pc t = (encM 46 t.a, ofL [t.a]) := by unfold pc; rw [if_neg (by omega), if_pos hk]
            have horc : (orC ((l.take i).map pc)) ||| ofL [t.a] = (orC ((l.take (i + 1)).map pc)) := by rw [orC_pcs l i t ht, hpc]
            refine o_nil ?_
            refine x_then (hK16 _ _ ?_)
            refine c_block ?_
            refine c_seq fun _ hK19 => ?_
            refine c_region ?_
            refine o_step rfl (s_eql_f rfl rfl (by omega)) ?_
            refine o_step rfl (s_assign rfl) ?_
            refine o_nil ?_
            refine x_then (hK19 _ _ ?_)
            refine c_false rfl ?_
            refine c_seq fun _ hK20 => ?_
            refine c_region ?_
            refine o_step rfl (s_eql_t rfl rfl (by omega)) ?_
            refine o_step rfl (s_assign rfl) ?_
            refine o_nil ?_
            refine x_then (hK20 _ _ ?_)
            refine c_true rfl ?_
            refine c_seq fun _ hK21 => ?_
            refine c_region ?_
            refine o_step rfl (s_move rfl) ?_
            refine o_step rfl (s_field rfl rfl (by decide)) ?_
            refine o_step rfl (s_ld rfl (.own (by repeat (first | exact List.mem_cons_self | apply List.mem_cons_of_mem | apply mem_assoc | apply mem_app)) rfl)) ?_
            refine o_call (enclosed2_fn 46 46 t.a (by decide)) rfl rfl rfl (by exact .nil) (fun _ _ => trivial) (fun v68 S68 ⟨a68, n68, hv68, hS68⟩ => ?_)
            subst hv68
            refine o_app hO (hS68.rdk (by repeat (first | exact HIn.here | exact HIn.all | exact HIn.one | apply HIn.cons | apply HIn.assoc | apply HIn.app))) rfl rfl rfl rfl (by first | omega | (simp only [List.length_append, List.length_cons, List.length_nil, hel]; omega)) (by first | omega | (simp only [List.length_append, List.length_cons, List.length_nil, hel]; omega)) rfl (by first | ((repeat (first | exact .one | exact .here | exact .all | apply Pick.cons | apply Pick.app)); done) | ((repeat (first | exact .one | exact .here | exact .all | apply Pick.cons | apply Pick.assoc | apply Pick.app)); done) | exact Pick.takeA (by repeat (first | exact .one | exact .here | exact .all | apply Pick.cons | apply Pick.assoc | apply Pick.app)) (by repeat (first | exact .one | exact .here | exact .all | apply Pick.cons | apply Pick.assoc | apply Pick.app))) fun a69 c69 S69 hS69 => ?_
            refine o_step rfl (s_assign rfl) ?_
            refine o_nil ?_
            refine x_then (hK21 _ _ ?_)
            refine c_drawE ([(b9, .cells (Eit t).toArray 41 (0, 0)), (b7, .cells (Ec (orC ((l.take i).map pc))).toArray 28 (0, 0))]) (fun i => Nat.beq i 6) ?_
            refine e_take 0 rfl (by kernel_rfl) (by kernel_rfl) (by kernel_rfl) (by kernel_rfl) (fun _ _ => rfl) rfl (by repeat (first | exact HSub.refl _ | exact HSub.nil | refine HSub.takeC (by repeat (first | exact .one | exact .here | exact .all | apply Pick.cons | apply Pick.assoc | apply Pick.app)) ?_ | refine HSub.take (by repeat (first | exact .one | exact .here | exact .all | apply Pick.cons | apply Pick.assoc | apply Pick.app)) ?_)) (s_ldB rfl (RdPK.cels (.own (by repeat (first | exact List.mem_cons_self | apply List.mem_cons_of_mem | apply mem_assoc | apply mem_app)))) (Ec_len _)) ?_
            refine e_take 1 rfl (by kernel_rfl) (by kernel_rfl) (by kernel_rfl) (by kernel_rfl) (fun _ _ => rfl) rfl (by repeat (first | exact HSub.refl _ | exact HSub.nil | refine HSub.takeC (by repeat (first | exact .one | exact .here | exact .all | apply Pick.cons | apply Pick.assoc | apply Pick.app)) ?_ | refine HSub.take (by repeat (first | exact .one | exact .here | exact .all | apply Pick.cons | apply Pick.assoc | apply Pick.app)) ?_)) (s_field rfl rfl (by decide)) ?_
            refine e_take 2 rfl (by kernel_rfl) (by kernel_rfl) (by kernel_rfl) (by kernel_rfl) (fun _ _ => rfl) rfl (by repeat (first | exact HSub.refl _ | exact HSub.nil | refine HSub.takeC (by repeat (first | exact .one | exact .here | exact .all | apply Pick.cons | apply Pick.assoc | apply Pick.app)) ?_ | refine HSub.take (by repeat (first | exact .one | exact .here | exact .all | apply Pick.cons | apply Pick.assoc | apply Pick.app)) ?_)) (s_ld rfl (.own (by repeat (first | exact List.mem_cons_self | apply List.mem_cons_of_mem | apply mem_assoc | apply mem_app)) rfl)) ?_
            refine e_one 3 rfl (by kernel_rfl) ?_
            refine o_bs (E := Eb) (xs := [t.a]) (vs := [_]) rfl rfl rfl rfl rfl (by decide) (by decide) fun b73 S73 hS73 => ?_
            refine o_nil ?_
            refine x_oneS (by repeat (first | exact HSub.refl _ | exact HSub.nil | refine HSub.takeC (by repeat (first | exact .one | exact .here | exact .all | apply Pick.cons | apply Pick.assoc | apply Pick.app)) ?_ | refine HSub.take (by repeat (first | exact .one | exact .here | exact .all | apply Pick.cons | apply Pick.assoc | apply Pick.app)) ?_)) ?_
            refine e_one 4 rfl (by kernel_rfl) ?_
            refine o_callP (of_fn (some ⟨b73, 0, none⟩) 1 [t.a]) rfl rfl rfl (fun w st => (hS73.rdk (by repeat (first | exact HIn.here | exact HIn.all | exact HIn.one | apply HIn.cons | apply HIn.assoc | apply HIn.app))).out w st) (fun v74 hv74 => ?_)
            subst hv74
            refine o_nil ?_
            refine x_oneS (by repeat (first | exact HSub.refl _ | exact HSub.nil | refine HSub.takeC (by repeat (first | exact .one | exact .here | exact .all | apply Pick.cons | apply Pick.assoc | apply Pick.app)) ?_ | refine HSub.take (by repeat (first | exact .one | exact .here | exact .all | apply Pick.cons | apply Pick.assoc | apply Pick.app)) ?_)) ?_
            refine e_one 5 rfl (by kernel_rfl) ?_
            refine o_callP (or_fn (orC ((l.take i).map pc)) (ofL [t.a])) rfl rfl rfl (fun _ _ => trivial) (fun v75 hv75 => ?_)
            rw [horc] at hv75
            subst hv75
            refine o_nil ?_
            refine x_oneS (by repeat (first | exact HSub.refl _ | exact HSub.nil | refine HSub.takeC (by repeat (first | exact .one | exact .here | exact .all | apply Pick.cons | apply Pick.assoc | apply Pick.app)) ?_ | refine HSub.take (by repeat (first | exact .one | exact .here | exact .all | apply Pick.cons | apply Pick.assoc | apply Pick.app)) ?_)) ?_
            refine e_one 6 rfl (by kernel_rfl) ?_
            refine o_stW rfl rfl (by repeat (first | exact .here | apply Upd.there | apply Upd.assoc | apply Upd.skip)) (Ec_len _) (Ec_len _) (Ec_one _) ?_
            refine o_nil ?_
            refine x_oneL rfl ?_
            refine e_done (by kernel_rfl) ?_
            refine x_block ?_
            refine x_block ?_
            refine x_then (hK14 _ _ ?_)
            refine c_region ?_
            refine o_step rfl (s_move rfl) ?_
            refine o_step rfl (s_add rfl rfl (by omega)) ?_
            refine o_step rfl (s_assign rfl) ?_
            refine o_nil ?_
            exact x_then (x_inv (i + 1, ⟨a69, c69, q.xs ++ encM 46 t.a⟩, S69) ⟨by omega, by rw [hq, flatM_pcs l i t ht, hpc]; simp, (by first | omega | (simp only [List.length_append, List.length_cons, List.length_nil, hel]; omega)), hS69⟩ (by first | omega | (dsimp only; omega)) (by repeat (first | exact Sub.nil | refine Sub.cons rfl ?_)) (by repeat (first | exact HSub.refl _ | exact HSub.nil | refine HSub.takeC (by first | ((repeat (first | exact .one | exact .here | exact .all | apply Pick.cons | apply Pick.app)); done) | ((repeat (first | exact .one | exact .here | exact .all | apply Pick.cons | apply Pick.assoc | apply Pick.app)); done) | exact Pick.takeA (by repeat (first | exact .one | exact .here | exact .all | apply Pick.cons | apply Pick.assoc | apply Pick.app)) (by repeat (first | exact .one | exact .here | exact .all | apply Pick.cons | apply Pick.assoc | apply Pick.app))) ?_ | refine HSub.take (by first | ((repeat (first | exact .one | exact .here | exact .all | apply Pick.cons | apply Pick.app)); done) | ((repeat (first | exact .one | exact .here | exact .all | apply Pick.cons | apply Pick.assoc | apply Pick.app)); done) | exact Pick.takeA (by repeat (first | exact .one | exact .here | exact .all | apply Pick.cons | apply Pick.assoc | apply Pick.app)) (by repeat (first | exact .one | exact .here | exact .all | apply Pick.cons | apply Pick.assoc | apply Pick.app))) ?_ | exact HSub.of_pick (by first | ((repeat (first | exact .one | exact .here | exact .all | apply Pick.cons | apply Pick.app)); done) | ((repeat (first | exact .one | exact .here | exact .all | apply Pick.cons | apply Pick.assoc | apply Pick.app)); done) | exact Pick.takeA (by repeat (first | exact .one | exact .here | exact .all | apply Pick.cons | apply Pick.assoc | apply Pick.app)) (by repeat (first | exact .one | exact .here | exact .all | apply Pick.cons | apply Pick.assoc | apply Pick.app))))))
          · skip
            rw [hk] at hv48
            subst hv48
            have hpc : pc t = (encM 61 t.a, ofL [t.a]) := by unfold pc; rw [if_neg (by omega), if_neg (by omega), if_pos hk]
            have horc : (orC ((l.take i).map pc)) ||| ofL [t.a] = (orC ((l.take (i + 1)).map pc)) := by rw [orC_pcs l i t ht, hpc]
            refine o_nil ?_
            refine x_then (hK16 _ _ ?_)
            refine c_block ?_
            refine c_seq fun _ hK22 => ?_
            refine c_region ?_
            refine o_step rfl (s_eql_f rfl rfl (by omega)) ?_
            refine o_step rfl (s_assign rfl) ?_
            refine o_nil ?_
            refine x_then (hK22 _ _ ?_)
            refine c_false rfl ?_
            refine c_seq fun _ hK23 => ?_
            refine c_region ?_
            refine o_step rfl (s_eql_f rfl rfl (by omega)) ?_
            refine o_step rfl (s_assign rfl) ?_
            refine o_nil ?_
            refine x_then (hK23 _ _ ?_)
            refine c_false rfl ?_
            refine c_seq fun _ hK24 => ?_
            refine c_region ?_
            refine o_step rfl (s_eql_t rfl rfl (by omega)) ?_
            refine o_step rfl (s_assign rfl) ?_
            refine o_nil ?_
            refine x_then (hK24 _ _ ?_)
            refine c_true rfl ?_
            refine c_seq fun _ hK25 => ?_
            refine c_region ?_
            refine o_step rfl (s_move rfl) ?_
            refine o_step rfl (s_field rfl rfl (by decide)) ?_
            refine o_step rfl (s_ld rfl (.own (by repeat (first | exact List.mem_cons_self | apply List.mem_cons_of_mem | apply mem_assoc | apply mem_app)) rfl)) ?_
            refine o_call (enclosed2_fn 61 61 t.a (by decide)) rfl rfl rfl (by exact .nil) (fun _ _ => trivial) (fun v81 S81 ⟨a81, n81, hv81, hS81⟩ => ?_)
            subst hv81
            refine o_app hO (hS81.rdk (by repeat (first | exact HIn.here | exact HIn.all | exact HIn.one | apply HIn.cons | apply HIn.assoc | apply HIn.app))) rfl rfl rfl rfl (by first | omega | (simp only [List.length_append, List.length_cons, List.length_nil, hel]; omega)) (by first | omega | (simp only [List.length_append, List.length_cons, List.length_nil, hel]; omega)) rfl (by first | ((repeat (first | exact .one | exact .here | exact .all | apply Pick.cons | apply Pick.app)); done) | ((repeat (first | exact .one | exact .here | exact .all | apply Pick.cons | apply Pick.assoc | apply Pick.app)); done) | exact Pick.takeA (by repeat (first | exact .one | exact .here | exact .all | apply Pick.cons | apply Pick.assoc | apply Pick.app)) (by repeat (first | exact .one | exact .here | exact .all | apply Pick.cons | apply Pick.assoc | apply Pick.app))) fun a82 c82 S82 hS82 => ?_
            refine o_step rfl (s_assign rfl) ?_
            refine o_nil ?_
            refine x_then (hK25 _ _ ?_)
            refine c_drawE ([(b9, .cells (Eit t).toArray 41 (0, 0)), (b7, .cells (Ec (orC ((l.take i).map pc))).toArray 28 (0, 0))]) (fun i => Nat.beq i 6) ?_
            refine e_take 0 rfl (by kernel_rfl) (by kernel_rfl) (by kernel_rfl) (by kernel_rfl) (fun _ _ => rfl) rfl (by repeat (first | exact HSub.refl _ | exact HSub.nil | refine HSub.takeC (by repeat (first | exact .one | exact .here | exact .all | apply Pick.cons | apply Pick.assoc | apply Pick.app)) ?_ | refine HSub.take (by repeat (first | exact .one | exact .here | exact .all | apply Pick.cons | apply Pick.assoc | apply Pick.app)) ?_)) (s_ldB rfl (RdPK.cels (.own (by repeat (first | exact List.mem_cons_self | apply List.mem_cons_of_mem | apply mem_assoc | apply mem_app)))) (Ec_len _)) ?_
            refine e_take 1 rfl (by kernel_rfl) (by kernel_rfl) (by kernel_rfl) (by kernel_rfl) (fun _ _ => rfl) rfl (by repeat (first | exact HSub.refl _ | exact HSub.nil | refine HSub.takeC (by repeat (first | exact .one | exact .here | exact .all | apply Pick.cons | apply Pick.assoc | apply Pick.app)) ?_ | refine HSub.take (by repeat (first | exact .one | exact .here | exact .all | apply Pick.cons | apply Pick.assoc | apply Pick.app)) ?_)) (s_field rfl rfl (by decide)) ?_
            refine e_take 2 rfl (by kernel_rfl) (by kernel_rfl) (by kernel_rfl) (by kernel_rfl) (fun _ _ => rfl) rfl (by repeat (first | exact HSub.refl _ | exact HSub.nil | refine HSub.takeC (by repeat (first | exact .one | exact .here | exact .all | apply Pick.cons | apply Pick.assoc | apply Pick.app)) ?_ | refine HSub.take (by repeat (first | exact .one | exact .here | exact .all | apply Pick.cons | apply Pick.assoc | apply Pick.app)) ?_)) (s_ld rfl (.own (by repeat (first | exact List.mem_cons_self | apply List.mem_cons_of_mem | apply mem_assoc | apply mem_app)) rfl)) ?_
            refine e_one 3 rfl (by kernel_rfl) ?_
            refine o_bs (E := Eb) (xs := [t.a]) (vs := [_]) rfl rfl rfl rfl rfl (by decide) (by decide) fun b86 S86 hS86 => ?_
            refine o_nil ?_
            refine x_oneS (by repeat (first | exact HSub.refl _ | exact HSub.nil | refine HSub.takeC (by repeat (first | exact .one | exact .here | exact .all | apply Pick.cons | apply Pick.assoc | apply Pick.app)) ?_ | refine HSub.take (by repeat (first | exact .one | exact .here | exact .all | apply Pick.cons | apply Pick.assoc | apply Pick.app)) ?_)) ?_
            refine e_one 4 rfl (by kernel_rfl) ?_
            refine o_callP (of_fn (some ⟨b86, 0, none⟩) 1 [t.a]) rfl rfl rfl (fun w st => (hS86.rdk (by repeat (first | exact HIn.here | exact HIn.all | exact HIn.one | apply HIn.cons | apply HIn.assoc | apply HIn.app))).out w st) (fun v87 hv87 => ?_)
            subst hv87
            refine o_nil ?_
            refine x_oneS (by repeat (first | exact HSub.refl _ | exact HSub.nil | refine HSub.takeC (by repeat (first | exact .one | exact .here | exact .all | apply Pick.cons | apply Pick.assoc | apply Pick.app)) ?_ | refine HSub.take (by repeat (first | exact .one | exact .here | exact .all | apply Pick.cons | apply Pick.assoc | apply Pick.app)) ?_)) ?_
            refine e_one 5 rfl (by kernel_rfl) ?_
            refine o_callP (or_fn (orC ((l.take i).map pc)) (ofL [t.a])) rfl rfl rfl (fun _ _ => trivial) (fun v88 hv88 => ?_)
            rw [horc] at hv88
            subst hv88
            refine o_nil ?_
            refine x_oneS (by repeat (first | exact HSub.refl _ | exact HSub.nil | refine HSub.takeC (by repeat (first | exact .one | exact .here | exact .all | apply Pick.cons | apply Pick.assoc | apply Pick.app)) ?_ | refine HSub.take (by repeat (first | exact .one | exact .here | exact .all | apply Pick.cons | apply Pick.assoc | apply Pick.app)) ?_)) ?_
            refine e_one 6 rfl (by kernel_rfl) ?_
            refine o_stW rfl rfl (by repeat (first | exact .here | apply Upd.there | apply Upd.assoc | apply Upd.skip)) (Ec_len _) (Ec_len _) (Ec_one _) ?_
            refine o_nil ?_
            refine x_oneL rfl ?_
            refine e_done (by kernel_rfl) ?_
            refine x_block ?_
            refine x_block ?_
            refine x_then (hK14 _ _ ?_)
            refine c_region ?_
            refine o_step rfl (s_move rfl) ?_
            refine o_step rfl (s_add rfl rfl (by omega)) ?_
            refine o_step rfl (s_assign rfl) ?_
            refine o_nil ?_
            exact x_then (x_inv (i + 1, ⟨a82, c82, q.xs ++ encM 61 t.a⟩, S82) ⟨by omega, by rw [hq, flatM_pcs l i t ht, hpc]; simp, (by first | omega | (simp only [List.length_append, List.length_cons, List.length_nil, hel]; omega)), hS82⟩ (by first | omega | (dsimp only; omega)) (by repeat (first | exact Sub.nil | refine Sub.cons rfl ?_)) (by repeat (first | exact HSub.refl _ | exact HSub.nil | refine HSub.takeC (by first | ((repeat (first | exact .one | exact .here | exact .all | apply Pick.cons | apply Pick.app)); done) | ((repeat (first | exact .one | exact .here | exact .all | apply Pick.cons | apply Pick.assoc | apply Pick.app)); done) | exact Pick.takeA (by repeat (first | exact .one | exact .here | exact .all | apply Pick.cons | apply Pick.assoc | apply Pick.app)) (by repeat (first | exact .one | exact .here | exact .all | apply Pick.cons | apply Pick.assoc | apply Pick.app))) ?_ | refine HSub.take (by first | ((repeat (first | exact .one | exact .here | exact .all | apply Pick.cons | apply Pick.app)); done) | ((repeat (first | exact .one | exact .here | exact .all | apply Pick.cons | apply Pick.assoc | apply Pick.app)); done) | exact Pick.takeA (by repeat (first | exact .one | exact .here | exact .all | apply Pick.cons | apply Pick.assoc | apply Pick.app)) (by repeat (first | exact .one | exact .here | exact .all | apply Pick.cons | apply Pick.assoc | apply Pick.app))) ?_ | exact HSub.of_pick (by first | ((repeat (first | exact .one | exact .here | exact .all | apply Pick.cons | apply Pick.app)); done) | ((repeat (first | exact .one | exact .here | exact .all | apply Pick.cons | apply Pick.assoc | apply Pick.app)); done) | exact Pick.takeA (by repeat (first | exact .one | exact .here | exact .all | apply Pick.cons | apply Pick.assoc | apply Pick.app)) (by repeat (first | exact .one | exact .here | exact .all | apply Pick.cons | apply Pick.assoc | apply Pick.app))))))
          · skip
            rw [hk] at hv48
            subst hv48
            have hpc : pc t = (encM 46 (lo t) ++ [sgn 45] ++ encM 46 (hi t), rng (lo t).toNat (hi t).toNat) := by unfold pc; rw [if_neg (by omega), if_neg (by omega), if_neg (by omega), if_pos hk]
            have horc : (orC ((l.take i).map pc)) ||| rng (lo t).toNat (hi t).toNat = (orC ((l.take (i + 1)).map pc)) := by rw [orC_pcs l i t ht, hpc]
            refine o_nil ?_
            refine x_then (hK16 _ _ ?_)
            refine c_block ?_
            refine c_seq fun _ hK26 => ?_
            refine c_region ?_
            refine o_step rfl (s_eql_f rfl rfl (by omega)) ?_
            refine o_step rfl (s_assign rfl) ?_
            refine o_nil ?_
            refine x_then (hK26 _ _ ?_)
            refine c_false rfl ?_
            refine c_seq fun _ hK27 => ?_
            refine c_region ?_
            refine o_step rfl (s_eql_f rfl rfl (by omega)) ?_
            refine o_step rfl (s_assign rfl) ?_
            refine o_nil ?_
            refine x_then (hK27 _ _ ?_)
            refine c_false rfl ?_
            refine c_seq fun _ hK28 => ?_
            refine c_region ?_
            refine o_step rfl (s_eql_f rfl rfl (by omega)) ?_
            refine o_step rfl (s_assign rfl) ?_
            refine o_nil ?_
            refine x_then (hK28 _ _ ?_)
            refine c_false rfl ?_
            refine c_seq fun _ hK29 => ?_
            refine c_region ?_
            refine o_step rfl (s_eql_t rfl rfl (by omega)) ?_
            refine o_step rfl (s_assign rfl) ?_
            refine o_nil ?_
            refine x_then (hK29 _ _ ?_)
            refine c_true rfl ?_
            refine c_seq fun _ hK30 => ?_
            refine c_drawE ([(b9, .cells (Eit t).toArray 41 (0, 0))]) (fun i => false) ?_
            refine e_take 0 rfl (by kernel_rfl) (by kernel_rfl) (by kernel_rfl) (by kernel_rfl) (fun _ _ => rfl) rfl (by repeat (first | exact HSub.refl _ | exact HSub.nil | refine HSub.takeC (by repeat (first | exact .one | exact .here | exact .all | apply Pick.cons | apply Pick.assoc | apply Pick.app)) ?_ | refine HSub.take (by repeat (first | exact .one | exact .here | exact .all | apply Pick.cons | apply Pick.assoc | apply Pick.app)) ?_)) (s_field rfl rfl (by decide)) ?_
            refine e_take 1 rfl (by kernel_rfl) (by kernel_rfl) (by kernel_rfl) (by kernel_rfl) (fun _ _ => rfl) rfl (by repeat (first | exact HSub.refl _ | exact HSub.nil | refine HSub.takeC (by repeat (first | exact .one | exact .here | exact .all | apply Pick.cons | apply Pick.assoc | apply Pick.app)) ?_ | refine HSub.take (by repeat (first | exact .one | exact .here | exact .all | apply Pick.cons | apply Pick.assoc | apply Pick.app)) ?_)) (s_ld rfl (.own (by repeat (first | exact List.mem_cons_self | apply List.mem_cons_of_mem | apply mem_assoc | apply mem_app)) rfl)) ?_
            refine e_take 2 rfl (by kernel_rfl) (by kernel_rfl) (by kernel_rfl) (by kernel_rfl) (fun _ _ => rfl) rfl (by repeat (first | exact HSub.refl _ | exact HSub.nil | refine HSub.takeC (by repeat (first | exact .one | exact .here | exact .all | apply Pick.cons | apply Pick.assoc | apply Pick.app)) ?_ | refine HSub.take (by repeat (first | exact .one | exact .here | exact .all | apply Pick.cons | apply Pick.assoc | apply Pick.app)) ?_)) (s_field rfl rfl (by decide)) ?_
            refine e_take 3 rfl (by kernel_rfl) (by kernel_rfl) (by kernel_rfl) (by kernel_rfl) (fun _ _ => rfl) rfl (by repeat (first | exact HSub.refl _ | exact HSub.nil | refine HSub.takeC (by repeat (first | exact .one | exact .here | exact .all | apply Pick.cons | apply Pick.assoc | apply Pick.app)) ?_ | refine HSub.take (by repeat (first | exact .one | exact .here | exact .all | apply Pick.cons | apply Pick.assoc | apply Pick.app)) ?_)) (s_ld rfl (.own (by repeat (first | exact List.mem_cons_self | apply List.mem_cons_of_mem | apply mem_assoc | apply mem_app)) rfl)) ?_
            refine e_one 4 rfl (by kernel_rfl) ?_
            refine o_step rfl (s_assign rfl) ?_
            refine o_nil ?_
            refine x_oneS (by repeat (first | exact HSub.refl _ | exact HSub.nil | refine HSub.takeC (by repeat (first | exact .one | exact .here | exact .all | apply Pick.cons | apply Pick.assoc | apply Pick.app)) ?_ | refine HSub.take (by repeat (first | exact .one | exact .here | exact .all | apply Pick.cons | apply Pick.assoc | apply Pick.app)) ?_)) ?_
            refine e_one 5 rfl (by kernel_rfl) ?_
            refine o_step rfl (s_assign rfl) ?_
            refine o_nil ?_
            refine x_oneS (by repeat (first | exact HSub.refl _ | exact HSub.nil | refine HSub.takeC (by repeat (first | exact .one | exact .here | exact .all | apply Pick.cons | apply Pick.assoc | apply Pick.app)) ?_ | refine HSub.take (by repeat (first | exact .one | exact .here | exact .all | apply Pick.cons | apply Pick.assoc | apply Pick.app)) ?_)) ?_
            refine e_done (by kernel_rfl) ?_
            refine x_then (hK30 _ _ ?_)
            refine c_seq fun _ hK31 => ?_
            refine c_seq fun _ hK32 => ?_
            refine c_region ?_
            refine o_step rfl (s_move rfl) ?_
            refine o_step rfl (s_move rfl) ?_
            by_cases hsw : t.b.toNat < t.a.toNat
            · skip
              have hlo : lo t = t.b := by unfold lo; rw [if_pos hsw]
              have hhi : hi t = t.a := by unfold hi; rw [if_pos hsw]
              refine o_step rfl (step_cast (v' := .bool true) (s_gtr rfl rfl) (by rw [decide_eq_true (by omega)])) ?_
              refine o_nil ?_
              refine x_then (hK32 _ _ ?_)
              refine c_true rfl ?_
              refine c_region ?_
              refine o_step rfl (s_move rfl) ?_
              refine o_step rfl (s_move rfl) ?_
              refine o_step rfl (s_assign rfl) ?_
              refine o_step rfl (s_assign rfl) ?_
              refine o_nil ?_
              refine x_then (hK31 _ _ ?_)
              refine c_seq fun _ hK33 => ?_
              refine c_region ?_
              refine o_step rfl (s_move rfl) ?_
              refine o_step rfl (s_move rfl) ?_
              refine o_call (enclosed2_fn 46 46 _ (by decide)) rfl rfl rfl (by exact .nil) (fun _ _ => trivial) (fun v102 S102 ⟨a102, n102, hv102, hS102⟩ => ?_)
              subst hv102
              rw [← hlo] at hS102
              refine o_app hO (hS102.rdk (by repeat (first | exact HIn.here | exact HIn.all | exact HIn.one | apply HIn.cons | apply HIn.assoc | apply HIn.app))) rfl rfl rfl rfl (by first | omega | (simp only [List.length_append, List.length_cons, List.length_nil, hel]; omega)) (by first | omega | (simp only [List.length_append, List.length_cons, List.length_nil, hel]; omega)) rfl (by first | ((repeat (first | exact .one | exact .here | exact .all | apply Pick.cons | apply Pick.app)); done) | ((repeat (first | exact .one | exact .here | exact .all | apply Pick.cons | apply Pick.assoc | apply Pick.app)); done) | exact Pick.takeA (by repeat (first | exact .one | exact .here | exact .all | apply Pick.cons | apply Pick.assoc | apply Pick.app)) (by repeat (first | exact .one | exact .here | exact .all | apply Pick.cons | apply Pick.assoc | apply Pick.app))) fun a103 c103 S103 hS103 => ?_
              refine o_step rfl (s_assign rfl) ?_
              refine o_nil ?_
              refine x_then (hK33 _ _ ?_)
              refine c_seq fun _ hK34 => ?_
              refine c_region ?_
              refine o_step rfl (s_move rfl) ?_
              refine o_step rfl (s_build (cs := [_, _]) (vs := [_]) rfl rfl (.cons rfl rfl rfl rfl rfl (.nil))) ?_
              refine o_bs (E := Em) (xs := [sgn 45]) (vs := [_]) rfl rfl rfl rfl rfl (by decide) (by decide) fun b106 S106 hS106 => ?_
              refine o_app hS103 (hS106.rdk (by repeat (first | exact HIn.here | exact HIn.all | exact HIn.one | apply HIn.cons | apply HIn.assoc | apply HIn.app))) rfl rfl rfl rfl (by first | omega | (simp only [List.length_append, List.length_cons, List.length_nil, hel]; omega)) (by first | omega | (simp only [List.length_append, List.length_cons, List.length_nil, hel]; omega)) rfl (by first | ((repeat (first | exact .one | exact .here | exact .all | apply Pick.cons | apply Pick.app)); done) | ((repeat (first | exact .one | exact .here | exact .all | apply Pick.cons | apply Pick.assoc | apply Pick.app)); done) | exact Pick.takeA (by repeat (first | exact .one | exact .here | exact .all | apply Pick.cons | apply Pick.assoc | apply Pick.app)) (by repeat (first | exact .one | exact .here | exact .all | apply Pick.cons | apply Pick.assoc | apply Pick.app))) fun a107 c107 S107 hS107 => ?_
              refine o_step rfl (s_assign rfl) ?_
              refine o_nil ?_
              refine x_then (hK34 _ _ ?_)
              refine c_seq fun _ hK35 => ?_
              refine c_region ?_
              refine o_step rfl (s_move rfl) ?_
              refine o_step rfl (s_move rfl) ?_
              refine o_call (enclosed2_fn 46 46 _ (by decide)) rfl rfl rfl (by exact .nil) (fun _ _ => trivial) (fun v110 S110 ⟨a110, n110, hv110, hS110⟩ => ?_)
              subst hv110
              rw [← hhi] at hS110
              refine o_app hS107 (hS110.rdk (by repeat (first | exact HIn.here | exact HIn.all | exact HIn.one | apply HIn.cons | apply HIn.assoc | apply HIn.app))) rfl rfl rfl rfl (by first | omega | (simp only [List.length_append, List.length_cons, List.length_nil, hel]; omega)) (by first | omega | (simp only [List.length_append, List.length_cons, List.length_nil, hel]; omega)) rfl (by first | ((repeat (first | exact .one | exact .here | exact .all | apply Pick.cons | apply Pick.app)); done) | ((repeat (first | exact .one | exact .here | exact .all | apply Pick.cons | apply Pick.assoc | apply Pick.app)); done) | exact Pick.takeA (by repeat (first | exact .one | exact .here | exact .all | apply Pick.cons | apply Pick.assoc | apply Pick.app)) (by repeat (first | exact .one | exact .here | exact .all | apply Pick.cons | apply Pick.assoc | apply Pick.app))) fun a111 c111 S111 hS111 => ?_
              refine o_step rfl (s_assign rfl) ?_
              refine o_nil ?_
              refine x_then (hK35 _ _ ?_)
              refine c_drawE ([(b7, .cells (Ec (orC ((l.take i).map pc))).toArray 28 (0, 0))]) (fun i => Nat.beq i 5) ?_
              refine e_take 0 rfl (by kernel_rfl) (by kernel_rfl) (by kernel_rfl) (by kernel_rfl) (fun _ _ => rfl) rfl (by repeat (first | exact HSub.refl _ | exact HSub.nil | refine HSub.takeC (by repeat (first | exact .one | exact .here | exact .all | apply Pick.cons | apply Pick.assoc | apply Pick.app)) ?_ | refine HSub.take (by repeat (first | exact .one | exact .here | exact .all | apply Pick.cons | apply Pick.assoc | apply Pick.app)) ?_)) (s_ldB rfl (RdPK.cels (.own (by repeat (first | exact List.mem_cons_self | apply List.mem_cons_of_mem | apply mem_assoc | apply mem_app)))) (Ec_len _)) ?_
              refine e_pure 1 rfl (by kernel_rfl) (by kernel_rfl) (by kernel_rfl) rfl (s_move rfl) ?_
              refine e_pure 2 rfl (by kernel_rfl) (by kernel_rfl) (by kernel_rfl) rfl (s_move rfl) ?_
              refine e_one 3 rfl (by kernel_rfl) ?_
              refine o_callP (range_fn _ _ (UInt8.toNat_lt _) (UInt8.toNat_lt _)) rfl rfl rfl (fun _ _ => trivial) (fun v115 hv115 => ?_)
              rw [← hlo, ← hhi] at hv115
              subst hv115
              refine o_nil ?_
              refine x_oneS (by repeat (first | exact HSub.refl _ | exact HSub.nil | refine HSub.takeC (by repeat (first | exact .one | exact .here | exact .all | apply Pick.cons | apply Pick.assoc | apply Pick.app)) ?_ | refine HSub.take (by repeat (first | exact .one | exact .here | exact .all | apply Pick.cons | apply Pick.assoc | apply Pick.app)) ?_)) ?_
              refine e_one 4 rfl (by kernel_rfl) ?_
              refine o_callP (or_fn (orC ((l.take i).map pc)) (rng (lo t).toNat (hi t).toNat)) rfl rfl rfl (fun _ _ => trivial) (fun v116 hv116 => ?_)
              rw [horc] at hv116
              subst hv116
              refine o_nil ?_
              refine x_oneS (by repeat (first | exact HSub.refl _ | exact HSub.nil | refine HSub.takeC (by repeat (first | exact .one | exact .here | exact .all | apply Pick.cons | apply Pick.assoc | apply Pick.app)) ?_ | refine HSub.take (by repeat (first | exact .one | exact .here | exact .all | apply Pick.cons | apply Pick.assoc | apply Pick.app)) ?_)) ?_
              refine e_one 5 rfl (by kernel_rfl) ?_
              refine o_stW rfl rfl (by repeat (first | exact .here | apply Upd.there | apply Upd.assoc | apply Upd.skip)) (Ec_len _) (Ec_len _) (Ec_one _) ?_
              refine o_nil ?_
              refine x_oneL rfl ?_
              refine e_done (by kernel_rfl) ?_
              refine x_block ?_
              refine x_block ?_
              refine x_then (hK14 _ _ ?_)
              refine c_region ?_
              refine o_step rfl (s_move rfl) ?_
              refine o_step rfl (s_add rfl rfl (by omega)) ?_
              refine o_step rfl (s_assign rfl) ?_
              refine o_nil ?_
              exact x_then (x_inv (i + 1, ⟨a111, c111, q.xs ++ encM 46 (lo t) ++ [sgn 45] ++ encM 46 (hi t)⟩, S111) ⟨by omega, by rw [hq, flatM_pcs l i t ht, hpc]; simp, (by first | omega | (simp only [List.length_append, List.length_cons, List.length_nil, hel]; omega)), hS111⟩ (by first | omega | (dsimp only; omega)) (by repeat (first | exact Sub.nil | refine Sub.cons rfl ?_)) (by repeat (first | exact HSub.refl _ | exact HSub.nil | refine HSub.takeC (by first | ((repeat (first | exact .one | exact .here | exact .all | apply Pick.cons | apply Pick.app)); done) | ((repeat (first | exact .one | exact .here | exact .all | apply Pick.cons | apply Pick.assoc | apply Pick.app)); done) | exact Pick.takeA (by repeat (first | exact .one | exact .here | exact .all | apply Pick.cons | apply Pick.assoc | apply Pick.app)) (by repeat (first | exact .one | exact .here | exact .all | apply Pick.cons | apply Pick.assoc | apply Pick.app))) ?_ | refine HSub.take (by first | ((repeat (first | exact .one | exact .here | exact .all | apply Pick.cons | apply Pick.app)); done) | ((repeat (first | exact .one | exact .here | exact .all | apply Pick.cons | apply Pick.assoc | apply Pick.app)); done) | exact Pick.takeA (by repeat (first | exact .one | exact .here | exact .all | apply Pick.cons | apply Pick.assoc | apply Pick.app)) (by repeat (first | exact .one | exact .here | exact .all | apply Pick.cons | apply Pick.assoc | apply Pick.app))) ?_ | exact HSub.of_pick (by first | ((repeat (first | exact .one | exact .here | exact .all | apply Pick.cons | apply Pick.app)); done) | ((repeat (first | exact .one | exact .here | exact .all | apply Pick.cons | apply Pick.assoc | apply Pick.app)); done) | exact Pick.takeA (by repeat (first | exact .one | exact .here | exact .all | apply Pick.cons | apply Pick.assoc | apply Pick.app)) (by repeat (first | exact .one | exact .here | exact .all | apply Pick.cons | apply Pick.assoc | apply Pick.app))))))
            · skip
              have hlo : lo t = t.a := by unfold lo; rw [if_neg hsw]
              have hhi : hi t = t.b := by unfold hi; rw [if_neg hsw]
              refine o_step rfl (step_cast (v' := .bool false) (s_gtr rfl rfl) (by rw [decide_eq_false (by omega)])) ?_
              refine o_nil ?_
              refine x_then (hK32 _ _ ?_)
              refine c_false rfl ?_
              refine c_skip ?_
              refine x_then (hK31 _ _ ?_)
              refine c_seq fun _ hK36 => ?_
              refine c_region ?_
              refine o_step rfl (s_move rfl) ?_
              refine o_step rfl (s_move rfl) ?_
              refine o_call (enclosed2_fn 46 46 _ (by decide)) rfl rfl rfl (by exact .nil) (fun _ _ => trivial) (fun v102 S102 ⟨a102, n102, hv102, hS102⟩ => ?_)
              subst hv102
              rw [← hlo] at hS102
              refine o_app hO (hS102.rdk (by repeat (first | exact HIn.here | exact HIn.all | exact HIn.one | apply HIn.cons | apply HIn.assoc | apply HIn.app))) rfl rfl rfl rfl (by first | omega | (simp only [List.length_append, List.length_cons, List.length_nil, hel]; omega)) (by first | omega | (simp only [List.length_append, List.length_cons, List.length_nil, hel]; omega)) rfl (by first | ((repeat (first | exact .one | exact .here | exact .all | apply Pick.cons | apply Pick.app)); done) | ((repeat (first | exact .one | exact .here | exact .all | apply Pick.cons | apply Pick.assoc | apply Pick.app)); done) | exact Pick.takeA (by repeat (first | exact .one | exact .here | exact .all | apply Pick.cons | apply Pick.assoc | apply Pick.app)) (by repeat (first | exact .one | exact .here | exact .all | apply Pick.cons | apply Pick.assoc | apply Pick.app))) fun a103 c103 S103 hS103 => ?_
              refine o_step rfl (s_assign rfl) ?_
              refine o_nil ?_
              refine x_then (hK36 _ _ ?_)
              refine c_seq fun _ hK37 => ?_
              refine c_region ?_
              refine o_step rfl (s_move rfl) ?_
              refine o_step rfl (s_build (cs := [_, _]) (vs := [_]) rfl rfl (.cons rfl rfl rfl rfl rfl (.nil))) ?_
              refine o_bs (E := Em) (xs := [sgn 45]) (vs := [_]) rfl rfl rfl rfl rfl (by decide) (by decide) fun b106 S106 hS106 => ?_
              refine o_app hS103 (hS106.rdk (by repeat (first | exact HIn.here | exact HIn.all | exact HIn.one | apply HIn.cons | apply HIn.assoc | apply HIn.app))) rfl rfl rfl rfl (by first | omega | (simp only [List.length_append, List.length_cons, List.length_nil, hel]; omega)) (by first | omega | (simp only [List.length_append, List.length_cons, List.length_nil, hel]; omega)) rfl (by first | ((repeat (first | exact .one | exact .here | exact .all | apply Pick.cons | apply Pick.app)); done) | ((repeat (first | exact .one | exact .here | exact .all | apply Pick.cons | apply Pick.assoc | apply Pick.app)); done) | exact Pick.takeA (by repeat (first | exact .one | exact .here | exact .all | apply Pick.cons | apply Pick.assoc | apply Pick.app)) (by repeat (first | exact .one | exact .here | exact .all | apply Pick.cons | apply Pick.assoc | apply Pick.app))) fun a107 c107 S107 hS107 => ?_
              refine o_step rfl (s_assign rfl) ?_
              refine o_nil ?_
              refine x_then (hK37 _ _ ?_)
              refine c_seq fun _ hK38 => ?_
              refine c_region ?_
              refine o_step rfl (s_move rfl) ?_
              refine o_step rfl (s_move rfl) ?_
              refine o_call (enclosed2_fn 46 46 _ (by decide)) rfl rfl rfl (by exact .nil) (fun _ _ => trivial) (fun v110 S110 ⟨a110, n110, hv110, hS110⟩ => ?_)
              subst hv110
              rw [← hhi] at hS110
              refine o_app hS107 (hS110.rdk (by repeat (first | exact HIn.here | exact HIn.all | exact HIn.one | apply HIn.cons | apply HIn.assoc | apply HIn.app))) rfl rfl rfl rfl (by first | omega | (simp only [List.length_append, List.length_cons, List.length_nil, hel]; omega)) (by first | omega | (simp only [List.length_append, List.length_cons, List.length_nil, hel]; omega)) rfl (by first | ((repeat (first | exact .one | exact .here | exact .all | apply Pick.cons | apply Pick.app)); done) | ((repeat (first | exact .one | exact .here | exact .all | apply Pick.cons | apply Pick.assoc | apply Pick.app)); done) | exact Pick.takeA (by repeat (first | exact .one | exact .here | exact .all | apply Pick.cons | apply Pick.assoc | apply Pick.app)) (by repeat (first | exact .one | exact .here | exact .all | apply Pick.cons | apply Pick.assoc | apply Pick.app))) fun a111 c111 S111 hS111 => ?_
              refine o_step rfl (s_assign rfl) ?_
              refine o_nil ?_
              refine x_then (hK38 _ _ ?_)
              refine c_drawE ([(b7, .cells (Ec (orC ((l.take i).map pc))).toArray 28 (0, 0))]) (fun i => Nat.beq i 5) ?_
              refine e_take 0 rfl (by kernel_rfl) (by kernel_rfl) (by kernel_rfl) (by kernel_rfl) (fun _ _ => rfl) rfl (by repeat (first | exact HSub.refl _ | exact HSub.nil | refine HSub.takeC (by repeat (first | exact .one | exact .here | exact .all | apply Pick.cons | apply Pick.assoc | apply Pick.app)) ?_ | refine HSub.take (by repeat (first | exact .one | exact .here | exact .all | apply Pick.cons | apply Pick.assoc | apply Pick.app)) ?_)) (s_ldB rfl (RdPK.cels (.own (by repeat (first | exact List.mem_cons_self | apply List.mem_cons_of_mem | apply mem_assoc | apply mem_app)))) (Ec_len _)) ?_
              refine e_pure 1 rfl (by kernel_rfl) (by kernel_rfl) (by kernel_rfl) rfl (s_move rfl) ?_
              refine e_pure 2 rfl (by kernel_rfl) (by kernel_rfl) (by kernel_rfl) rfl (s_move rfl) ?_
              refine e_one 3 rfl (by kernel_rfl) ?_
              refine o_callP (range_fn _ _ (UInt8.toNat_lt _) (UInt8.toNat_lt _)) rfl rfl rfl (fun _ _ => trivial) (fun v115 hv115 => ?_)
              rw [← hlo, ← hhi] at hv115
              subst hv115
              refine o_nil ?_
              refine x_oneS (by repeat (first | exact HSub.refl _ | exact HSub.nil | refine HSub.takeC (by repeat (first | exact .one | exact .here | exact .all | apply Pick.cons | apply Pick.assoc | apply Pick.app)) ?_ | refine HSub.take (by repeat (first | exact .one | exact .here | exact .all | apply Pick.cons | apply Pick.assoc | apply Pick.app)) ?_)) ?_
              refine e_one 4 rfl (by kernel_rfl) ?_
              refine o_callP (or_fn (orC ((l.take i).map pc)) (rng (lo t).toNat (hi t).toNat)) rfl rfl rfl (fun _ _ => trivial) (fun v116 hv116 => ?_)
              rw [horc] at hv116
              subst hv116
              refine o_nil ?_
              refine x_oneS (by repeat (first | exact HSub.refl _ | exact HSub.nil | refine HSub.takeC (by repeat (first | exact .one | exact .here | exact .all | apply Pick.cons | apply Pick.assoc | apply Pick.app)) ?_ | refine HSub.take (by repeat (first | exact .one | exact .here | exact .all | apply Pick.cons | apply Pick.assoc | apply Pick.app)) ?_)) ?_
              refine e_one 5 rfl (by kernel_rfl) ?_
              refine o_stW rfl rfl (by repeat (first | exact .here | apply Upd.there | apply Upd.assoc | apply Upd.skip)) (Ec_len _) (Ec_len _) (Ec_one _) ?_
              refine o_nil ?_
              refine x_oneL rfl ?_
              refine e_done (by kernel_rfl) ?_
              refine x_block ?_
              refine x_block ?_
              refine x_then (hK14 _ _ ?_)
              refine c_region ?_
              refine o_step rfl (s_move rfl) ?_
              refine o_step rfl (s_add rfl rfl (by omega)) ?_
              refine o_step rfl (s_assign rfl) ?_
              refine o_nil ?_
              exact x_then (x_inv (i + 1, ⟨a111, c111, q.xs ++ encM 46 (lo t) ++ [sgn 45] ++ encM 46 (hi t)⟩, S111) ⟨by omega, by rw [hq, flatM_pcs l i t ht, hpc]; simp, (by first | omega | (simp only [List.length_append, List.length_cons, List.length_nil, hel]; omega)), hS111⟩ (by first | omega | (dsimp only; omega)) (by repeat (first | exact Sub.nil | refine Sub.cons rfl ?_)) (by repeat (first | exact HSub.refl _ | exact HSub.nil | refine HSub.takeC (by first | ((repeat (first | exact .one | exact .here | exact .all | apply Pick.cons | apply Pick.app)); done) | ((repeat (first | exact .one | exact .here | exact .all | apply Pick.cons | apply Pick.assoc | apply Pick.app)); done) | exact Pick.takeA (by repeat (first | exact .one | exact .here | exact .all | apply Pick.cons | apply Pick.assoc | apply Pick.app)) (by repeat (first | exact .one | exact .here | exact .all | apply Pick.cons | apply Pick.assoc | apply Pick.app))) ?_ | refine HSub.take (by first | ((repeat (first | exact .one | exact .here | exact .all | apply Pick.cons | apply Pick.app)); done) | ((repeat (first | exact .one | exact .here | exact .all | apply Pick.cons | apply Pick.assoc | apply Pick.app)); done) | exact Pick.takeA (by repeat (first | exact .one | exact .here | exact .all | apply Pick.cons | apply Pick.assoc | apply Pick.app)) (by repeat (first | exact .one | exact .here | exact .all | apply Pick.cons | apply Pick.assoc | apply Pick.app))) ?_ | exact HSub.of_pick (by first | ((repeat (first | exact .one | exact .here | exact .all | apply Pick.cons | apply Pick.app)); done) | ((repeat (first | exact .one | exact .here | exact .all | apply Pick.cons | apply Pick.assoc | apply Pick.app)); done) | exact Pick.takeA (by repeat (first | exact .one | exact .here | exact .all | apply Pick.cons | apply Pick.assoc | apply Pick.app)) (by repeat (first | exact .one | exact .here | exact .all | apply Pick.cons | apply Pick.assoc | apply Pick.app))))))
          · skip
            rw [hk] at hv48
            subst hv48
            obtain ⟨c, hc⟩ := nms_has (nmAt_mem t.n)
            have hns := (nms_ok (nmAt_mem t.n)).1
            have hpc : pc t = (nameM (nmAt t.n).data.toList, c) := by unfold pc; rw [if_neg (by omega), if_neg (by omega), if_neg (by omega), if_neg (by omega), hc]; rfl
            have horc : (orC ((l.take i).map pc)) ||| c = (orC ((l.take (i + 1)).map pc)) := by rw [orC_pcs l i t ht, hpc]
            have hpl := pc_len t
            rw [hpc] at hpl
            dsimp only at hpl
            refine o_nil ?_
            refine x_then (hK16 _ _ ?_)
            refine c_block ?_
            refine c_seq fun _ hK39 => ?_
            refine c_region ?_
            refine o_step rfl (s_eql_f rfl rfl (by omega)) ?_
            refine o_step rfl (s_assign rfl) ?_
            refine o_nil ?_
            refine x_then (hK39 _ _ ?_)
            refine c_false rfl ?_
            refine c_seq fun _ hK40 => ?_
            refine c_region ?_
            refine o_step rfl (s_eql_f rfl rfl (by omega)) ?_
            refine o_step rfl (s_assign rfl) ?_
            refine o_nil ?_
            refine x_then (hK40 _ _ ?_)
            refine c_false rfl ?_
            refine c_seq fun _ hK41 => ?_
            refine c_region ?_
            refine o_step rfl (s_eql_f rfl rfl (by omega)) ?_
            refine o_step rfl (s_assign rfl) ?_
            refine o_nil ?_
            refine x_then (hK41 _ _ ?_)
            refine c_false rfl ?_
            refine c_seq fun _ hK42 => ?_
            refine c_region ?_
            refine o_step rfl (s_eql_f rfl rfl (by omega)) ?_
            refine o_step rfl (s_assign rfl) ?_
            refine o_nil ?_
            refine x_then (hK42 _ _ ?_)
            refine c_false rfl ?_
            refine c_seq fun _ hK43 => ?_
            refine c_region ?_
            refine o_step rfl (s_eql_t rfl rfl (by omega)) ?_
            refine o_step rfl (s_assign rfl) ?_
            refine o_nil ?_
            refine x_then (hK43 _ _ ?_)
            refine c_true rfl ?_
            refine c_seq fun _ hK44 => ?_
            refine c_drawE ([(b9, .cells (Eit t).toArray 41 (0, 0))]) (fun i => false) ?_
            refine e_take 1 rfl (by kernel_rfl) (by kernel_rfl) (by kernel_rfl) (by kernel_rfl) (fun _ _ => rfl) rfl (by repeat (first | exact HSub.refl _ | exact HSub.nil | refine HSub.takeC (by repeat (first | exact .one | exact .here | exact .all | apply Pick.cons | apply Pick.assoc | apply Pick.app)) ?_ | refine HSub.take (by repeat (first | exact .one | exact .here | exact .all | apply Pick.cons | apply Pick.assoc | apply Pick.app)) ?_)) (s_field rfl rfl (by decide)) ?_
            refine e_take 2 rfl (by kernel_rfl) (by kernel_rfl) (by kernel_rfl) (by kernel_rfl) (fun _ _ => rfl) rfl (by repeat (first | exact HSub.refl _ | exact HSub.nil | refine HSub.takeC (by repeat (first | exact .one | exact .here | exact .all | apply Pick.cons | apply Pick.assoc | apply Pick.app)) ?_ | refine HSub.take (by repeat (first | exact .one | exact .here | exact .all | apply Pick.cons | apply Pick.assoc | apply Pick.app)) ?_)) (s_ld rfl (.own (by repeat (first | exact List.mem_cons_self | apply List.mem_cons_of_mem | apply mem_assoc | apply mem_app)) rfl)) ?_
            refine e_one 0 rfl (by kernel_rfl) ?_
            refine o_call (names_fn) rfl rfl rfl (by exact .nil) (fun _ _ => trivial) (fun v119 S119 ⟨a119, n119, hv119, hS119⟩ => ?_)
            subst hv119
            have hsl119 := hS119.sl
            refine o_nil ?_
            refine x_oneS (by repeat (first | exact HSub.refl _ | exact HSub.nil | refine HSub.takeC (by repeat (first | exact .one | exact .here | exact .all | apply Pick.cons | apply Pick.assoc | apply Pick.app)) ?_ | refine HSub.take (by repeat (first | exact .one | exact .here | exact .all | apply Pick.cons | apply Pick.assoc | apply Pick.app)) ?_)) ?_
            refine e_one 3 rfl (by kernel_rfl) ?_
            refine o_callP (within_fn t.n 12 12 (by decide) (by decide) (by decide)) rfl rfl rfl (fun _ _ => trivial) (fun v122 hv122 => ?_)
            subst hv122
            refine o_nil ?_
            refine x_oneS (by repeat (first | exact HSub.refl _ | exact HSub.nil | refine HSub.takeC (by repeat (first | exact .one | exact .here | exact .all | apply Pick.cons | apply Pick.assoc | apply Pick.app)) ?_ | refine HSub.take (by repeat (first | exact .one | exact .here | exact .all | apply Pick.cons | apply Pick.assoc | apply Pick.app)) ?_)) ?_
            refine e_one 4 rfl (by kernel_rfl) ?_
            refine o_step rfl (s_idx rfl rfl hsl119 (by omega)) ?_
            refine o_nil ?_
            refine x_oneS (by repeat (first | exact HSub.refl _ | exact HSub.nil | refine HSub.takeC (by repeat (first | exact .one | exact .here | exact .all | apply Pick.cons | apply Pick.assoc | apply Pick.app)) ?_ | refine HSub.take (by repeat (first | exact .one | exact .here | exact .all | apply Pick.cons | apply Pick.assoc | apply Pick.app)) ?_)) ?_
            refine e_one 5 rfl (by kernel_rfl) ?_
            refine o_step rfl (s_ld rfl ((hS119.rdk (by repeat (first | exact HIn.here | exact HIn.all | exact HIn.one | apply HIn.cons | apply HIn.assoc | apply HIn.app))).ld (t.n % 12).toNat 0 (nmAt_get t.n) rfl (by decide) (by omega))) ?_
            refine o_nil ?_
            refine x_oneS (by repeat (first | exact HSub.refl _ | exact HSub.nil | refine HSub.takeC (by repeat (first | exact .one | exact .here | exact .all | apply Pick.cons | apply Pick.assoc | apply Pick.app)) ?_ | refine HSub.take (by repeat (first | exact .one | exact .here | exact .all | apply Pick.cons | apply Pick.assoc | apply Pick.app)) ?_)) ?_
            refine e_one 6 rfl (by kernel_rfl) ?_
            refine o_step rfl (s_assign rfl) ?_
            refine o_nil ?_
            refine x_oneS (by repeat (first | exact HSub.refl _ | exact HSub.nil | refine HSub.takeC (by repeat (first | exact .one | exact .here | exact .all | apply Pick.cons | apply Pick.assoc | apply Pick.app)) ?_ | refine HSub.take (by repeat (first | exact .one | exact .here | exact .all | apply Pick.cons | apply Pick.assoc | apply Pick.app)) ?_)) ?_
            refine e_done (by kernel_rfl) ?_
            refine x_then (hK44 _ _ ?_)
            refine c_seq fun _ hK45 => ?_
            refine c_region ?_
            refine o_step rfl (s_move rfl) ?_
            refine o_callP (named_fn (nmAt t.n)) rfl rfl rfl (fun _ _ => trivial) (fun v127 hv127 => ?_)
            rw [hc] at hv127
            change v127 = .tuple #[.agg (Ec c).toArray, .bool true] at hv127
            subst hv127
            refine o_step rfl (s_move rfl) ?_
            refine o_step rfl (s_extract rfl rfl) ?_
            refine o_step rfl (s_extract rfl rfl) ?_
            refine o_alloc (l := Ec 0#256) (by rw [Ec_zero]; rfl) rfl fun b13 => ?_
            refine o_stW rfl rfl (by repeat (first | exact .here | apply Upd.there | apply Upd.assoc | apply Upd.skip)) (Ec_len _) (Ec_len _) (Ec_one _) ?_
            refine o_step rfl (s_assign rfl) ?_
            refine o_nil ?_
            refine x_then (hK45 _ _ ?_)
            refine c_seq fun _ hK46 => ?_
            refine c_region ?_
            refine o_step rfl (s_move rfl) ?_
            refine o_step rfl (s_move rfl) ?_
            refine o_step rfl (s_addstr rfl rfl (by have e1 : (⟨#[91, 58]⟩ : ByteArray).size = 2 := rfl; omega)) ?_
            refine o_step rfl (s_addstr rfl rfl (by rw [ByteArray.size_append]; have e1 : (⟨#[91, 58]⟩ : ByteArray).size = 2 := rfl; have e2 : (⟨#[58, 93]⟩ : ByteArray).size = 2 := rfl; omega)) ?_
            refine o_call (lsigns_fn (⟨#[91, 58]⟩ ++ nmAt t.n ++ ⟨#[58, 93]⟩) (by rw [ByteArray.size_append, ByteArray.size_append]; have e1 : (⟨#[91, 58]⟩ : ByteArray).size = 2 := rfl; have e2 : (⟨#[58, 93]⟩ : ByteArray).size = 2 := rfl; omega)) rfl rfl rfl (by exact .nil) (fun _ _ => trivial) (fun v134 S134 ⟨a134, n134, hv134, hS134⟩ => ?_)
            rw [name_marks] at hv134 hS134
            subst hv134
            refine o_app hO (hS134.rdk (by repeat (first | exact HIn.here | exact HIn.all | exact HIn.one | apply HIn.cons | apply HIn.assoc | apply HIn.app))) rfl rfl rfl rfl (by first | omega | (simp only [List.length_append, List.length_cons, List.length_nil, hel]; omega)) (by first | omega | (simp only [List.length_append, List.length_cons, List.length_nil, hel]; omega)) rfl (by first | ((repeat (first | exact .one | exact .here | exact .all | apply Pick.cons | apply Pick.app)); done) | ((repeat (first | exact .one | exact .here | exact .all | apply Pick.cons | apply Pick.assoc | apply Pick.app)); done) | exact Pick.takeA (by repeat (first | exact .one | exact .here | exact .all | apply Pick.cons | apply Pick.assoc | apply Pick.app)) (by repeat (first | exact .one | exact .here | exact .all | apply Pick.cons | apply Pick.assoc | apply Pick.app))) fun a135 c135 S135 hS135 => ?_
            refine o_step rfl (s_assign rfl) ?_
            refine o_nil ?_
            refine x_then (hK46 _ _ ?_)
            refine c_region ?_
            refine o_step rfl (s_ldB rfl (RdPK.cels (.own (by repeat (first | exact List.mem_cons_self | apply List.mem_cons_of_mem | apply mem_assoc | apply mem_app)))) (Ec_len _)) ?_
            refine o_step rfl (s_ldB rfl (RdPK.cels (.own (by repeat (first | exact List.mem_cons_self | apply List.mem_cons_of_mem | apply mem_assoc | apply mem_app)))) (Ec_len _)) ?_
            refine o_callP (or_fn (orC ((l.take i).map pc)) c) rfl rfl rfl (fun _ _ => trivial) (fun v138 hv138 => ?_)
            rw [horc] at hv138
            subst hv138
            refine o_stW rfl rfl (by repeat (first | exact .here | apply Upd.there | apply Upd.assoc | apply Upd.skip)) (Ec_len _) (Ec_len _) (Ec_one _) ?_
            refine o_nil ?_
            refine x_block ?_
            refine x_block ?_
            refine x_then (hK14 _ _ ?_)
            refine c_region ?_
            refine o_step rfl (s_move rfl) ?_
            refine o_step rfl (s_add rfl rfl (by omega)) ?_
            refine o_step rfl (s_assign rfl) ?_
            refine o_nil ?_
            exact x_then (x_inv (i + 1, ⟨a135, c135, q.xs ++ nameM (nmAt t.n).data.toList⟩, S135) ⟨by omega, by rw [hq, flatM_pcs l i t ht, hpc]; simp, (by first | omega | (simp only [List.length_append, List.length_cons, List.length_nil, hel]; omega)), hS135⟩ (by first | omega | (dsimp only; omega)) (by repeat (first | exact Sub.nil | refine Sub.cons rfl ?_)) (by repeat (first | exact HSub.refl _ | exact HSub.nil | refine HSub.takeC (by first | ((repeat (first | exact .one | exact .here | exact .all | apply Pick.cons | apply Pick.app)); done) | ((repeat (first | exact .one | exact .here | exact .all | apply Pick.cons | apply Pick.assoc | apply Pick.app)); done) | exact Pick.takeA (by repeat (first | exact .one | exact .here | exact .all | apply Pick.cons | apply Pick.assoc | apply Pick.app)) (by repeat (first | exact .one | exact .here | exact .all | apply Pick.cons | apply Pick.assoc | apply Pick.app))) ?_ | refine HSub.take (by first | ((repeat (first | exact .one | exact .here | exact .all | apply Pick.cons | apply Pick.app)); done) | ((repeat (first | exact .one | exact .here | exact .all | apply Pick.cons | apply Pick.assoc | apply Pick.app)); done) | exact Pick.takeA (by repeat (first | exact .one | exact .here | exact .all | apply Pick.cons | apply Pick.assoc | apply Pick.app)) (by repeat (first | exact .one | exact .here | exact .all | apply Pick.cons | apply Pick.assoc | apply Pick.app))) ?_ | exact HSub.of_pick (by first | ((repeat (first | exact .one | exact .here | exact .all | apply Pick.cons | apply Pick.app)); done) | ((repeat (first | exact .one | exact .here | exact .all | apply Pick.cons | apply Pick.assoc | apply Pick.app)); done) | exact Pick.takeA (by repeat (first | exact .one | exact .here | exact .all | apply Pick.cons | apply Pick.assoc | apply Pick.app)) (by repeat (first | exact .one | exact .here | exact .all | apply Pick.cons | apply Pick.assoc | apply Pick.app))))))
        · skip
          have hie : l.take i = l := List.take_of_length_le (by omega)
          rw [hie] at hq
          rw [hie]
          refine c_exit ?_
          refine x_then_exit ?_
          refine x_then_exit ?_
          refine x_block_exit ?_
          refine x_then (hK10 _ _ ?_)
          refine c_seq fun _ hK47 => ?_
          refine c_seq fun _ hK48 => ?_
          refine c_region ?_
          refine o_step rfl (s_move rfl) ?_
          refine o_nil ?_
          refine x_then (hK48 _ _ ?_)
          refine c_cond rfl (fun hno2 => ?_) (fun hno2 => ?_)
          · skip
            refine c_region ?_
            refine o_step rfl (s_ldB rfl (RdPK.cels (.own (by repeat (first | exact List.mem_cons_self | apply List.mem_cons_of_mem | apply mem_assoc | apply mem_app)))) (Ec_len _)) ?_
            refine o_callP (not_fn (orC (l.map pc))) rfl rfl rfl (fun _ _ => trivial) (fun v141 hv141 => ?_)
            subst hv141
            refine o_stW rfl rfl (by repeat (first | exact .here | apply Upd.there | apply Upd.assoc | apply Upd.skip)) (Ec_len _) (Ec_len _) (Ec_one _) ?_
            refine o_nil ?_
            refine x_then (hK47 _ _ ?_)
            refine c_seq fun _ hK49 => ?_
            refine c_region ?_
            refine o_step rfl (s_move rfl) ?_
            refine o_step rfl (s_build (cs := [_, _]) (vs := [_]) rfl rfl (.cons rfl rfl rfl rfl rfl (.nil))) ?_
            refine o_bs (E := Em) (xs := [sgn 93]) (vs := [_]) rfl rfl rfl rfl rfl (by decide) (by decide) fun b144 S144 hS144 => ?_
            refine o_app hO (hS144.rdk (by repeat (first | exact HIn.here | exact HIn.all | exact HIn.one | apply HIn.cons | apply HIn.assoc | apply HIn.app))) rfl rfl rfl rfl (by first | omega | (simp only [List.length_append, List.length_cons, List.length_nil, hel]; omega)) (by first | omega | (simp only [List.length_append, List.length_cons, List.length_nil, hel]; omega)) rfl (by first | ((repeat (first | exact .one | exact .here | exact .all | apply Pick.cons | apply Pick.app)); done) | ((repeat (first | exact .one | exact .here | exact .all | apply Pick.cons | apply Pick.assoc | apply Pick.app)); done) | exact Pick.takeA (by repeat (first | exact .one | exact .here | exact .all | apply Pick.cons | apply Pick.assoc | apply Pick.app)) (by repeat (first | exact .one | exact .here | exact .all | apply Pick.cons | apply Pick.assoc | apply Pick.app))) fun a145 c145 S145 hS145 => ?_
            refine o_step rfl (s_assign rfl) ?_
            refine o_nil ?_
            refine x_then (hK49 _ _ ?_)
            refine c_seq fun _ hK50 => ?_
            refine c_region ?_
            refine o_step rfl (s_move rfl) ?_
            refine o_callP (parse_fn a145 c145 (q.xs ++ [sgn 93]) 0) rfl rfl rfl (fun w st => (hS145.rdk (by repeat (first | exact HIn.here | exact HIn.all | exact HIn.one | apply HIn.cons | apply HIn.assoc | apply HIn.app))).out w st) (fun v148 hv148 => ?_)
            rw [items_law no l hne _ q.xs hq rfl] at hv148
            dsimp only at hv148
            first | rw [if_pos hno2] at hv148 | rw [if_neg (by rw [hno2]; decide)] at hv148
            subst hv148
            refine o_step rfl (s_move rfl) ?_
            refine o_step rfl (s_extract rfl rfl) ?_
            refine o_step rfl (s_extract rfl rfl) ?_
            refine o_step rfl (s_extract rfl rfl) ?_
            refine o_alloc (l := Ec 0#256) (by rw [Ec_zero]; rfl) rfl fun b15 => ?_
            refine o_stW rfl rfl (by repeat (first | exact .here | apply Upd.there | apply Upd.assoc | apply Upd.skip)) (Ec_len _) (Ec_len _) (Ec_one _) ?_
            refine o_step rfl (s_assign rfl) ?_
            refine o_step rfl (s_assign rfl) ?_
            refine o_nil ?_
            refine x_then (hK50 _ _ ?_)
            refine c_seq fun _ hK51 => ?_
            refine c_region ?_
            refine o_step rfl (s_move rfl) ?_
            refine o_step rfl (s_move rfl) ?_
            refine o_yes rfl rfl ?_
            refine o_step rfl (s_move rfl) ?_
            refine o_yes rfl rfl ?_
            refine o_step rfl (s_eql_t rfl rfl rfl) ?_
            refine o_step rfl (s_pick_t rfl rfl) ?_
            refine o_step rfl (s_move rfl) ?_
            refine o_yes rfl rfl ?_
            refine o_step rfl (s_move rfl) ?_
            refine o_yes rfl rfl ?_
            refine o_step rfl (s_move rfl) ?_
            refine o_yes rfl rfl ?_
            refine o_step rfl (s_len rfl) ?_
            refine o_yes rfl rfl ?_
            refine o_step rfl (s_eql_t rfl rfl rfl) ?_
            refine o_step rfl (s_pick_t rfl rfl) ?_
            refine o_step rfl (s_move rfl) ?_
            refine o_yes rfl rfl ?_
            refine o_step rfl (s_ldB rfl (RdPK.cels (.own (by repeat (first | exact List.mem_cons_self | apply List.mem_cons_of_mem | apply mem_assoc | apply mem_app)))) (Ec_len _)) ?_
            refine o_yes rfl rfl ?_
            refine o_step rfl (s_ldB rfl (RdPK.cels (.own (by repeat (first | exact List.mem_cons_self | apply List.mem_cons_of_mem | apply mem_assoc | apply mem_app)))) (Ec_len _)) ?_
            refine o_yes rfl rfl ?_
            refine o_step rfl (step_cast (v' := .bool true) (s_eql_cl rfl rfl) (congrArg Value.bool (decide_eq_true rfl))) ?_
            refine o_step rfl (s_pick_t rfl rfl) ?_
            refine o_step rfl (s_assign rfl) ?_
            refine o_nil ?_
            refine x_then (hK51 _ _ ?_)
            refine c_ret ?_
            refine ?_
            exact x_ret rfl (.tmp rfl (.nil)) (rfl)
          · skip
            refine c_skip ?_
            refine x_then (hK47 _ _ ?_)
            refine c_seq fun _ hK52 => ?_
            refine c_region ?_
            refine o_step rfl (s_move rfl) ?_
            refine o_step rfl (s_build (cs := [_, _]) (vs := [_]) rfl rfl (.cons rfl rfl rfl rfl rfl (.nil))) ?_
            refine o_bs (E := Em) (xs := [sgn 93]) (vs := [_]) rfl rfl rfl rfl rfl (by decide) (by decide) fun b144 S144 hS144 => ?_
            refine o_app hO (hS144.rdk (by repeat (first | exact HIn.here | exact HIn.all | exact HIn.one | apply HIn.cons | apply HIn.assoc | apply HIn.app))) rfl rfl rfl rfl (by first | omega | (simp only [List.length_append, List.length_cons, List.length_nil, hel]; omega)) (by first | omega | (simp only [List.length_append, List.length_cons, List.length_nil, hel]; omega)) rfl (by first | ((repeat (first | exact .one | exact .here | exact .all | apply Pick.cons | apply Pick.app)); done) | ((repeat (first | exact .one | exact .here | exact .all | apply Pick.cons | apply Pick.assoc | apply Pick.app)); done) | exact Pick.takeA (by repeat (first | exact .one | exact .here | exact .all | apply Pick.cons | apply Pick.assoc | apply Pick.app)) (by repeat (first | exact .one | exact .here | exact .all | apply Pick.cons | apply Pick.assoc | apply Pick.app))) fun a145 c145 S145 hS145 => ?_
            refine o_step rfl (s_assign rfl) ?_
            refine o_nil ?_
            refine x_then (hK52 _ _ ?_)
            refine c_seq fun _ hK53 => ?_
            refine c_region ?_
            refine o_step rfl (s_move rfl) ?_
            refine o_callP (parse_fn a145 c145 (q.xs ++ [sgn 93]) 0) rfl rfl rfl (fun w st => (hS145.rdk (by repeat (first | exact HIn.here | exact HIn.all | exact HIn.one | apply HIn.cons | apply HIn.assoc | apply HIn.app))).out w st) (fun v148 hv148 => ?_)
            rw [items_law no l hne _ q.xs hq rfl] at hv148
            dsimp only at hv148
            first | rw [if_pos hno2] at hv148 | rw [if_neg (by rw [hno2]; decide)] at hv148
            subst hv148
            refine o_step rfl (s_move rfl) ?_
            refine o_step rfl (s_extract rfl rfl) ?_
            refine o_step rfl (s_extract rfl rfl) ?_
            refine o_step rfl (s_extract rfl rfl) ?_
            refine o_alloc (l := Ec 0#256) (by rw [Ec_zero]; rfl) rfl fun b15 => ?_
            refine o_stW rfl rfl (by repeat (first | exact .here | apply Upd.there | apply Upd.assoc | apply Upd.skip)) (Ec_len _) (Ec_len _) (Ec_one _) ?_
            refine o_step rfl (s_assign rfl) ?_
            refine o_step rfl (s_assign rfl) ?_
            refine o_nil ?_
            refine x_then (hK53 _ _ ?_)
            refine c_seq fun _ hK54 => ?_
            refine c_region ?_
            refine o_step rfl (s_move rfl) ?_
            refine o_step rfl (s_move rfl) ?_
            refine o_yes rfl rfl ?_
            refine o_step rfl (s_move rfl) ?_
            refine o_yes rfl rfl ?_
            refine o_step rfl (s_eql_t rfl rfl rfl) ?_
            refine o_step rfl (s_pick_t rfl rfl) ?_
            refine o_step rfl (s_move rfl) ?_
            refine o_yes rfl rfl ?_
            refine o_step rfl (s_move rfl) ?_
            refine o_yes rfl rfl ?_
            refine o_step rfl (s_move rfl) ?_
            refine o_yes rfl rfl ?_
            refine o_step rfl (s_len rfl) ?_
            refine o_yes rfl rfl ?_
            refine o_step rfl (s_eql_t rfl rfl rfl) ?_
            refine o_step rfl (s_pick_t rfl rfl) ?_
            refine o_step rfl (s_move rfl) ?_
            refine o_yes rfl rfl ?_
            refine o_step rfl (s_ldB rfl (RdPK.cels (.own (by repeat (first | exact List.mem_cons_self | apply List.mem_cons_of_mem | apply mem_assoc | apply mem_app)))) (Ec_len _)) ?_
            refine o_yes rfl rfl ?_
            refine o_step rfl (s_ldB rfl (RdPK.cels (.own (by repeat (first | exact List.mem_cons_self | apply List.mem_cons_of_mem | apply mem_assoc | apply mem_app)))) (Ec_len _)) ?_
            refine o_yes rfl rfl ?_
            refine o_step rfl (step_cast (v' := .bool true) (s_eql_cl rfl rfl) (congrArg Value.bool (decide_eq_true rfl))) ?_
            refine o_step rfl (s_pick_t rfl rfl) ?_
            refine o_step rfl (s_assign rfl) ?_
            refine o_nil ?_
            refine x_then (hK54 _ _ ?_)
            refine c_ret ?_
            refine ?_
            exact x_ret rfl (.tmp rfl (.nil)) (rfl)
      · intro _ hJ8
        refine c_seq fun _ hK55 => ?_
        refine c_region ?_
        refine o_step rfl (s_move rfl) ?_
        refine o_nil ?_
        refine x_then (hK55 _ _ ?_)
        refine c_cond rfl (fun hno => ?_) (fun hno => ?_)
        · skip
          refine c_region ?_
          refine o_step rfl (s_move rfl) ?_
          refine o_step rfl (s_build (cs := [_, _]) (vs := [_]) rfl rfl (.cons rfl rfl rfl rfl rfl (.nil))) ?_
          refine o_bs (E := Em) (xs := [sgn 94]) (vs := [_]) rfl rfl rfl rfl rfl (by decide) (by decide) fun b33 S33 hS33 => ?_
          refine o_app hS29 (hS33.rdk (by repeat (first | exact HIn.here | exact HIn.all | exact HIn.one | apply HIn.cons | apply HIn.assoc | apply HIn.app))) rfl rfl rfl rfl (by first | omega | (simp only [List.length_append, List.length_cons, List.length_nil, hel]; omega)) (by first | omega | (simp only [List.length_append, List.length_cons, List.length_nil, hel]; omega)) rfl (by first | ((repeat (first | exact .one | exact .here | exact .all | apply Pick.cons | apply Pick.app)); done) | ((repeat (first | exact .one | exact .here | exact .all | apply Pick.cons | apply Pick.assoc | apply Pick.app)); done) | exact Pick.takeA (by repeat (first | exact .one | exact .here | exact .all | apply Pick.cons | apply Pick.assoc | apply Pick.app)) (by repeat (first | exact .one | exact .here | exact .all | apply Pick.cons | apply Pick.assoc | apply Pick.app))) fun a34 c34 S34 hS34 => ?_
          refine o_step rfl (s_assign rfl) ?_
          refine o_nil ?_
          exact x_then (hJ8 (⟨a34, c34, [sgn 91] ++ [sgn 94]⟩, S34) _ _ ⟨by rw [if_pos hno]; rfl, by simp, hS34⟩ (by repeat (first | exact Sub.nil | refine Sub.cons rfl ?_)) (by repeat (first | exact Sub.nil | refine Sub.cons rfl ?_)) (by repeat (first | exact HSub.refl _ | exact HSub.nil | refine HSub.takeC (by first | ((repeat (first | exact .one | exact .here | exact .all | apply Pick.cons | apply Pick.app)); done) | ((repeat (first | exact .one | exact .here | exact .all | apply Pick.cons | apply Pick.assoc | apply Pick.app)); done) | exact Pick.takeA (by repeat (first | exact .one | exact .here | exact .all | apply Pick.cons | apply Pick.assoc | apply Pick.app)) (by repeat (first | exact .one | exact .here | exact .all | apply Pick.cons | apply Pick.assoc | apply Pick.app))) ?_ | refine HSub.take (by first | ((repeat (first | exact .one | exact .here | exact .all | apply Pick.cons | apply Pick.app)); done) | ((repeat (first | exact .one | exact .here | exact .all | apply Pick.cons | apply Pick.assoc | apply Pick.app)); done) | exact Pick.takeA (by repeat (first | exact .one | exact .here | exact .all | apply Pick.cons | apply Pick.assoc | apply Pick.app)) (by repeat (first | exact .one | exact .here | exact .all | apply Pick.cons | apply Pick.assoc | apply Pick.app))) ?_ | exact HSub.of_pick (by first | ((repeat (first | exact .one | exact .here | exact .all | apply Pick.cons | apply Pick.app)); done) | ((repeat (first | exact .one | exact .here | exact .all | apply Pick.cons | apply Pick.assoc | apply Pick.app)); done) | exact Pick.takeA (by repeat (first | exact .one | exact .here | exact .all | apply Pick.cons | apply Pick.assoc | apply Pick.app)) (by repeat (first | exact .one | exact .here | exact .all | apply Pick.cons | apply Pick.assoc | apply Pick.app))))))
        · skip
          refine c_skip ?_
          exact x_then (hJ8 (⟨some ⟨b29, 0, none⟩, 1, [sgn 91]⟩, S29) _ _ ⟨by rw [if_neg (by rw [hno]; decide)], by simp, hS29⟩ (by repeat (first | exact Sub.nil | refine Sub.cons rfl ?_)) (by repeat (first | exact Sub.nil | refine Sub.cons rfl ?_)) (by repeat (first | exact HSub.refl _ | exact HSub.nil | refine HSub.takeC (by first | ((repeat (first | exact .one | exact .here | exact .all | apply Pick.cons | apply Pick.app)); done) | ((repeat (first | exact .one | exact .here | exact .all | apply Pick.cons | apply Pick.assoc | apply Pick.app)); done) | exact Pick.takeA (by repeat (first | exact .one | exact .here | exact .all | apply Pick.cons | apply Pick.assoc | apply Pick.app)) (by repeat (first | exact .one | exact .here | exact .all | apply Pick.cons | apply Pick.assoc | apply Pick.app))) ?_ | refine HSub.take (by first | ((repeat (first | exact .one | exact .here | exact .all | apply Pick.cons | apply Pick.app)); done) | ((repeat (first | exact .one | exact .here | exact .all | apply Pick.cons | apply Pick.assoc | apply Pick.app)); done) | exact Pick.takeA (by repeat (first | exact .one | exact .here | exact .all | apply Pick.cons | apply Pick.assoc | apply Pick.app)) (by repeat (first | exact .one | exact .here | exact .all | apply Pick.cons | apply Pick.assoc | apply Pick.app))) ?_ | exact HSub.of_pick (by first | ((repeat (first | exact .one | exact .here | exact .all | apply Pick.cons | apply Pick.app)); done) | ((repeat (first | exact .one | exact .here | exact .all | apply Pick.cons | apply Pick.assoc | apply Pick.app)); done) | exact Pick.takeA (by repeat (first | exact .one | exact .here | exact .all | apply Pick.cons | apply Pick.assoc | apply Pick.app)) (by repeat (first | exact .one | exact .here | exact .all | apply Pick.cons | apply Pick.assoc | apply Pick.app))))))
end Go.Proofs.YtafbigmneipkiaaDoor
