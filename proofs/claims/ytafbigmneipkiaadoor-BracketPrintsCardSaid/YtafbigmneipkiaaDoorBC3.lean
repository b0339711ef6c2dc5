/- Part of the proofs over this seat: see the text that holds the theorem. Conditions: each theorem bears its own. -/
import Derived.Test.YtafbigmneipkiaaDoorHlB
import Derived.Test.YtafbigmneipkiaaDoorBC1
import Derived.Test.YtafbigmneipkiaaDoorMC8
import Derived.Test.YtafbigmneipkiaaDoorMBT
namespace Go.Proofs.YtafbigmneipkiaaDoor
open Go Go.HL Go.Proofs Go.HL.Kl

theorem tz_fn (w : BitVec 64) : HL.Fn Tryd.prog 79 [Ew w] (fun w => RdP w 1 0 tabV) [] (fun v _ => v = .int .i64 (Lib.ctz 64 w.toNat)) := by
  refine fn_of Tryd.func79 rfl rfl rfl fun w0 hw => ?_
  refine c_seq fun _ hK1 => ?_
  refine c_region ?_
  refine o_step rfl (s_assign rfl) ?_
  refine o_nil ?_
  refine x_then (hK1 _ _ ?_)
  refine c_seq fun _ hK2 => ?_
  refine c_seq fun _ hK3 => ?_
  refine c_region ?_
  refine o_step rfl (s_move rfl) ?_
  refine o_step rfl (s_eql rfl rfl) ?_
  refine o_nil ?_
  refine x_then (hK3 _ _ ?_)
  refine c_if rfl (fun hz => ?_) (fun hz => ?_)
  · skip
    refine c_seq fun _ hK4 => ?_
    refine c_region ?_
    refine o_step rfl (s_assign rfl) ?_
    refine o_nil ?_
    refine x_then (hK4 _ _ ?_)
    refine c_ret ?_
    refine x_then_ret (?_)
    exact x_ret rfl (.tmp rfl (.nil)) (congrArg (Value.int .i64) (by rw [ctz_zero hz]; rfl))
  · skip
    obtain ⟨hi1, hi2⟩ := tab_at w hz
    refine c_skip ?_
    refine x_then (hK2 _ _ ?_)
    refine c_seq fun _ hK5 => ?_
    refine c_region ?_
    refine o_step rfl (s_move rfl) ?_
    refine o_step rfl (s_move rfl) ?_
    refine o_step rfl (step_cast (v' := Ew (-w)) (s_neg rfl) (v_neg w)) ?_
    refine o_step rfl (step_cast (v' := Ew (w &&& -w)) (s_and rfl rfl) (v_and w (-w))) ?_
    refine o_step rfl (step_cast (v' := Ew ((w &&& -w) * 285870213051353865#64)) (s_mulw rfl rfl) (v_mulc _)) ?_
    refine o_step rfl (step_cast (v' := Ew (((w &&& -w) * 285870213051353865#64) >>> 58)) (s_shr rfl rfl (by decide)) (v_shr _ 58 rfl)) ?_
    refine o_step rfl (s_idx1 (i := (((w &&& -w) * 285870213051353865#64) >>> 58).toNat) rfl rfl hi1) ?_
    refine o_step rfl (s_ld rfl ((RdPK.old0 hw).cel (j := (((w &&& -w) * 285870213051353865#64) >>> 58).toNat) hi2 (by omega))) ?_
    refine o_step rfl (step_cast (v' := .int .i64 ((Lib.ctz 64 w.toNat : Nat) : Int)) (s_conv rfl) (congrArg _ (conv64 (by have := ctz_le w; omega)))) ?_
    refine o_step rfl (s_assign rfl) ?_
    refine o_nil ?_
    refine x_then (hK5 _ _ ?_)
    refine c_ret ?_
    refine ?_
    exact x_ret rfl (.tmp rfl (.nil)) (rfl)

theorem all_fn (c : Cl) : HL.Fn Tryd.prog 68 [.agg (Ec c).toArray] (fun _ => True) [] (fun v S' => ∃ b, v = .func (.func 78) [].toArray [.pointer (some ⟨b, 0, none⟩)].toArray ∧ S' = [(b, .cells (Ec c).toArray 28 (0, 0))]) := by
  refine fn_of Tryd.func68 rfl rfl rfl fun w0 hw => ?_
  refine c_seq fun _ hK1 => ?_
  refine c_region ?_
  refine o_box rfl rfl rfl fun b1 => ?_
  refine o_step rfl (s_assign rfl) ?_
  refine o_nil ?_
  refine x_then (hK1 _ _ ?_)
  refine c_seq fun _ hK2 => ?_
  refine c_region ?_
  refine o_step rfl (s_func (us := []) (vs := [_]) rfl rfl) ?_
  refine o_step rfl (s_assign rfl) ?_
  refine o_nil ?_
  refine x_then (hK2 _ _ ?_)
  refine c_ret ?_
  refine ?_
  exact x_ret rfl (.tmp rfl (.nil)) (⟨_, rfl, rfl⟩)

theorem all1_fn (b : Nat) (c : Cl) (l : Nat) (HS HX : List Nat → Hp → Prop) (hY : ∀ (pre : List Nat) (x : Nat) (B : Hp), HS pre B → pre ++ [x] <+: mems c → Yd Tryd.prog l [.int .u8 x] B (fun v B' => (v = .bool true ∧ HS (pre ++ [x]) B') ∨ (v = .bool false ∧ HX (pre ++ [x]) B'))) (B : Hp) (hB : HS [] B) : HL.Fn Tryd.prog 78 [.func (.yield l) #[] #[], .pointer (some ⟨b, 0, none⟩)] (TbB ([(b, .cells (Ec c).toArray 28 (0, 0))] ++ B)) ([(b, .cells (Ec c).toArray 28 (0, 0))] ++ B) (fun _ S' => ∃ S1 B', S' = S1 ++ B' ∧ S1 = [(b, .cells (Ec c).toArray 28 (0, 0))] ∧ (HS (mems c) B' ∨ ∃ p, p <+: mems c ∧ HX p B')) := by
  refine fn_of Tryd.func78 rfl rfl rfl fun w0 hw => ?_
  refine c_seq fun _ hK1 => ?_
  refine c_region ?_
  refine o_step rfl (s_move rfl) ?_
  refine o_nil ?_
  refine x_then (hK1 _ _ ?_)
  refine c_block ?_
  refine c_loop2 (fun (i : Nat) (B : Hp) => i ≤ 4 ∧ HS (memsTo c (64 * i)) B) (fun (i : Nat) (B : Hp) => [(5, .int .i64 i)]) [(0, _), (1, _)] (fun (i : Nat) (B : Hp) => [(b, .cells (Ec c).toArray 28 (0, 0))] ++ B) (fun (i : Nat) (B : Hp) => 4 - i) 0 B ⟨by omega, hB⟩ sbA sbA (by exact HSub.refl _) ?_
  rintro i B ⟨hi, hH⟩
  refine c_seq fun _ hK2 => ?_
  refine c_region ?_
  refine o_step rfl (s_lss rfl rfl) ?_
  refine o_nil ?_
  refine x_then (hK2 _ _ ?_)
  refine c_seq fun _ hK3 => ?_
  refine c_if rfl (fun hlt => ?_) (fun hlt => ?_)
  · skip
    have hlt4 : i < 4 := by omega
    refine c_skip ?_
    refine x_then (hK3 _ _ ?_)
    refine c_seq fun _ hK4 => ?_
    refine c_block ?_
    refine c_seq fun _ hK5 => ?_
    refine c_quiet (by kernel_rfl) ?_
    refine .op rfl (s_move rfl) ?_
    refine .op rfl (s_nil rfl) ?_
    refine .op rfl (s_idx1 rfl rfl (by omega)) ?_
    refine .op rfl (s_ld rfl ((RdPK.own meA).cel (j := i) (Ec_get _ (by omega)) (by omega))) ?_
    refine .op rfl (s_assign rfl) ?_
    refine .op rfl (s_assign rfl) ?_
    refine .nil ?_
    refine x_then (hK5 _ _ ?_)
    refine c_block ?_
    refine c_loop3 (fun (w : BitVec 64) (p : List Nat) (B2 : Hp) => mems c = p ++ (wmem i w ++ (mems c).drop (memsTo c (64 * i + 64)).length) ∧ HS p B2) (fun (w : BitVec 64) (p : List Nat) (B2 : Hp) => [(4, Ew w)]) [(0, _), (1, _), (3, _), (5, _), (6, _), (7, _), (8, _), (9, _), (10, _)] (fun (w : BitVec 64) (p : List Nat) (B2 : Hp) => [(b, .cells (Ec c).toArray 28 (0, 0))] ++ B2) (fun (w : BitVec 64) (p : List Nat) (B2 : Hp) => (wmem i w).length) (wd c i) (memsTo c (64 * i)) B ⟨mems_from c hlt4, hH⟩ sbA sbA (by exact HSub.refl _) ?_
    rintro w p B2 ⟨hm, hH2⟩
    refine c_seq fun _ hK6 => ?_
    refine c_seq fun _ hK7 => ?_
    refine c_region ?_
    refine o_step rfl (s_move rfl) ?_
    refine o_step rfl (s_neq rfl rfl) ?_
    refine o_nil ?_
    refine x_then (hK7 _ _ ?_)
    refine c_if rfl (fun hne => ?_) (fun hne => ?_)
    · skip
      have hw0 : w ≠ 0#64 := ne_zero hne
      have hc := wmem_cons i w hw0
      have hkt := (ctz_lt w hw0).1
      have hpre : p ++ [64 * i + Lib.ctz 64 w.toNat] <+: mems c := ⟨_, by rw [hm, hc, List.append_assoc]; rfl⟩
      refine c_skip ?_
      refine x_then (hK6 _ _ ?_)
      refine c_seq fun _ hK8 => ?_
      refine c_block ?_
      refine c_seq fun _ hK9 => ?_
      refine c_region ?_
      refine o_step rfl (s_move rfl) ?_
      refine o_step rfl (s_move rfl) ?_
      refine o_step rfl (step_cast (v' := .int .i64 ((64 * i : Nat) : Int)) (s_shl rfl rfl (by decide)) (congrArg _ (shl6 hlt4))) ?_
      refine o_step rfl (s_move rfl) ?_
      refine o_callP (tz_fn w) rfl rfl rfl (fun w st => (RdPK.old hw.1.1 hw.1.2).out w st) (fun v21 hv21 => ?_)
      subst hv21
      refine o_step rfl (step_cast (v' := .int .i64 ((64 * i + Lib.ctz 64 w.toNat : Nat) : Int)) (s_add rfl rfl (by omega)) (by rw [Int.natCast_add])) ?_
      refine o_step rfl (step_cast (v' := .int .u8 ((64 * i + Lib.ctz 64 w.toNat : Nat) : Int)) (s_conv rfl) (congrArg _ (conv8 (by omega)))) ?_
      refine o_yield (hY p _ B2 hH2 hpre) rfl rfl rfl pkA (fun v24 S24 hv24 => ?_)
      rcases hv24 with ⟨rfl, hH3⟩ | ⟨rfl, hX3⟩
      · skip
        refine o_step rfl (s_not rfl) ?_
        refine o_nil ?_
        refine x_then (hK9 _ _ ?_)
        refine c_false rfl ?_
        refine c_skip ?_
        refine x_block ?_
        refine x_then (hK8 _ _ ?_)
        refine c_region ?_
        refine o_step rfl (s_move rfl) ?_
        refine o_step rfl (s_move rfl) ?_
        refine o_step rfl (step_cast (v' := Ew (w - 1#64)) (s_subw rfl rfl) (v_sub1 w)) ?_
        refine o_step rfl (step_cast (v' := Ew (w &&& (w - 1#64))) (s_and rfl rfl) (v_and _ _)) ?_
        refine o_step rfl (s_assign rfl) ?_
        refine o_nil ?_
        exact x_then (x_inv (w &&& (w - 1#64), p ++ [64 * i + Lib.ctz 64 w.toNat], S24) ⟨hm.trans (by rw [hc]; simp [List.append_assoc]), hH3⟩ (by show (wmem i (w &&& (w - 1#64))).length < (wmem i w).length; rw [hc]; simp) sbA hzB)
      · skip
        refine o_step rfl (s_not rfl) ?_
        refine o_nil ?_
        refine x_then (hK9 _ _ ?_)
        refine c_true rfl ?_
        refine c_ret ?_
        refine x_block_ret (x_then_ret (x_then_ret (x_block_ret (x_block_ret (x_then_ret (x_then_ret (x_block_ret (?_))))))))
        refine x_sub (Sub.refl _) (H' := [(b, .cells (Ec c).toArray 28 (0, 0))] ++ S24) hzB ?_
        exact x_ret rfl (.nil) (⟨_, _, rfl, rfl, .inr ⟨_, hpre, hX3⟩⟩)
    · skip
      have hz0 : w = 0#64 := eq_zero hne
      refine c_exit ?_
      refine x_then_exit ?_
      refine x_then_exit ?_
      refine x_block_exit ?_
      refine x_block ?_
      refine x_then (hK4 _ _ ?_)
      refine c_region ?_
      refine o_step rfl (s_add rfl rfl (by omega)) ?_
      refine o_step rfl (s_move rfl) ?_
      refine o_nil ?_
      rw [words_end hlt4 hm hz0] at hH2
      exact x_then (x_inv (i + 1, B2) ⟨by omega, hH2⟩ (by first | omega | (dsimp only; omega)) sbA hzA)
  · skip
    obtain rfl : i = 4 := by omega
    refine c_exit ?_
    refine x_then_exit ?_
    refine x_then_exit ?_
    refine x_block_exit ?_
    exact x_end rfl (.nil) (⟨_, _, rfl, rfl, .inl hH⟩)

theorem all_it (b : Nat) (c : Cl) : It Tryd.prog 78 [] [.pointer (some ⟨b, 0, none⟩)] (fun x : Nat => [.int .u8 x]) (mems c) TbB [(b, .cells (Ec c).toArray 28 (0, 0))] (fun S1 => S1 = [(b, .cells (Ec c).toArray 28 (0, 0))]) :=
  ⟨enters_of Tryd.func78 rfl rfl, fun l HS HX hY B hB => all1_fn b c l HS HX hY B hB⟩

theorem runs_fn (c : Cl) : HL.Fn Tryd.prog 37 [.agg (Ec c).toArray] (TbB []) [] (fun v S' => ∃ a n, v = .slice a (runs c).length n ∧ OwnS Er 2 99 (.slice a (runs c).length n) (runs c) S') := by
  refine fn_ofM Tryd.func37 rfl rfl rfl fun w0 hw => ?_
  refine c_seqD fun _ hK1 => ?_
  refine c_region ?_
  refine o_box rfl rfl rfl fun b1 => ?_
  refine o_step rfl (s_assign rfl) ?_
  refine o_nil ?_
  refine x_then (hK1 _ _ _ ?_)
  refine c_seqD fun _ hK2 => ?_
  refine c_region ?_
  refine o_alloc rfl rfl fun b3 => ?_
  refine o_nil ?_
  refine x_then (hK2 _ _ _ ?_)
  refine c_seqD fun _ hK3 => ?_
  refine c_seqD fun _ hK4 => ?_
  refine c_region ?_
  refine o_step rfl (s_ldB rfl (RdPK.cels (.own meA)) lnA) ?_
  refine o_call (all_fn c) rfl rfl rfl (by exact .nil) (fun _ _ => trivial) (fun v7 S7 ⟨b7, hv7, hS7⟩ => ?_)
  subst hv7
  subst hS7
  refine o_nil ?_
  refine x_then (hK4 _ _ _ ?_)
  refine c_block ?_
  refine c_range (α := Nat) (B0 := [(b3, .cells [.slice none 0 0].toArray 96 (0, 0))]) (fun p B => ∃ a n S, B = (b3, .cells [.slice a (runsB p).length n].toArray 96 (0, 0)) :: S ∧ OwnS Er 2 99 (.slice a (runsB p).length n) (runsB p) S) (fun c p B => False) rfl (all_it b7 c) (pkA) ((fun w H1 S1 st hs => tbB_of hw st hs)) ⟨none, 0, [], rfl, .nil⟩ (by kernel_rfl) (fun _ => rfl) (by kernel_rfl) ?_ ?_ ?_
  · rintro l r p x B W er1 er2 ⟨a, n, S, rfl, hS⟩ hx post hy hn
    have hxl : x < 256 := mems_lt hx
    have hsl := hS.sl
    have hbl := runsB_le p
    have hpl := prefix_len hx
    refine c_region ?_
    refine o_step rfl (s_assign rfl) ?_
    refine o_nil ?_
    refine x_then (x_begin upA (by kernel_rfl) ?_)
    refine c_block ?_
    refine c_seqD fun _ hK5 => ?_
    refine c_region ?_
    refine o_step rfl (s_ld rfl (.own meA rfl)) ?_
    refine o_step rfl (s_len rfl) ?_
    refine o_step rfl (s_sub rfl rfl (by omega)) ?_
    refine o_step rfl (s_assign rfl) ?_
    refine o_nil ?_
    refine x_then (hK5 _ _ _ ?_)
    refine c_seqD fun _ hK6 => ?_
    refine c_region ?_
    refine o_step rfl (s_move rfl) ?_
    by_cases hk : 0 < (runsB p).length
    · skip
      have hlr : (lastR (runsB p)).2 < 256 := last_lt hx hk
      have hg := last_get hk
      refine o_step rfl (step_cast (v' := .bool true) (s_geq rfl rfl) (congrArg Value.bool (decide_eq_true (by omega)))) ?_
      refine o_step rfl (s_move rfl) ?_
      refine o_yes rfl rfl ?_
      refine o_step rfl (s_ld rfl (.own meA rfl)) ?_
      refine o_yes rfl rfl ?_
      refine o_step rfl (s_move rfl) ?_
      refine o_yes rfl rfl ?_
      refine o_step rfl (s_idx rfl rfl hsl (by omega)) ?_
      refine o_yes rfl rfl ?_
      refine o_step rfl (s_field rfl rfl (by decide)) ?_
      refine o_yes rfl rfl ?_
      refine o_step rfl (s_ld rfl ((hS.rdk hiA).ld ((runsB p).length - 1) 1 hg rfl (by decide) (by omega))) ?_
      refine o_yes rfl rfl ?_
      refine o_step rfl (step_cast (v' := .int .i64 (((lastR (runsB p)).2 : Nat) : Int)) (s_conv rfl) (congrArg _ (conv64 (by omega)))) ?_
      refine o_yes rfl rfl ?_
      refine o_step rfl (s_add rfl rfl (by omega)) ?_
      refine o_yes rfl rfl ?_
      refine o_step rfl (s_move rfl) ?_
      refine o_yes rfl rfl ?_
      refine o_step rfl (step_cast (v' := .int .i64 ((x : Nat) : Int)) (s_conv rfl) (congrArg _ (conv64 (by omega)))) ?_
      refine o_yes rfl rfl ?_
      by_cases heq : (lastR (runsB p)).2 + 1 = x
      · skip
        refine o_step rfl (step_cast (v' := .bool true) (s_eql rfl rfl) (congrArg Value.bool (decide_eq_true (by omega)))) ?_
        refine o_step rfl (s_pick_t rfl rfl) ?_
        refine o_nil ?_
        refine x_then (hK6 _ _ _ ?_)
        refine c_true rfl ?_
        refine c_region ?_
        refine o_step rfl (s_ld rfl (.own meA rfl)) ?_
        refine o_step rfl (s_move rfl) ?_
        refine o_step rfl (s_move rfl) ?_
        refine o_step rfl (s_idx rfl rfl hsl (by omega)) ?_
        refine o_step rfl (s_field rfl rfl (by decide)) ?_
        refine o_stS (i := (runsB p).length - 1) (off := 1) (cs := [.int .u8 (x : Nat)]) ((lastR (runsB p)).1, x) hS pkA rfl rfl rfl rfl (by omega) (by omega) (Nat.le_refl 2) (fun e he => by rw [last_get hk] at he; cases he; rfl) (by simp [Value.oneCell']) fun S9 hS9 => ?_
        refine o_nil ?_
        refine x_block ?_
        refine x_sub (Sub.refl _) (H' := (l, .loop (recAt r .busy none)) :: (b3, .cells [.slice a (runsB p).length n].toArray 96 (0, 0)) :: S9) hzB ?_
        have hst : runsB (p ++ [x]) = (runsB p).set ((runsB p).length - 1) ((lastR (runsB p)).1, x) := runsB_set hk heq
        have hln : (runsB (p ++ [x])).length = (runsB p).length := by rw [hst, List.length_set]
        exact x_rnormal upA (hy _ ⟨a, n, S9, by rw [hln], by rw [hln, hst]; exact hS9⟩)
      · skip
        refine o_step rfl (step_cast (v' := .bool false) (s_eql rfl rfl) (congrArg Value.bool (decide_eq_false (by omega)))) ?_
        refine o_step rfl (s_pick_t rfl rfl) ?_
        refine o_nil ?_
        refine x_then (hK6 _ _ _ ?_)
        refine c_false rfl ?_
        refine c_region ?_
        refine o_step rfl (s_ld rfl (.own meA rfl)) ?_
        refine o_step rfl (s_move rfl) ?_
        refine o_step rfl (s_move rfl) ?_
        refine o_step rfl (s_build (cs := [_, _]) (vs := [_, _]) rfl rfl (.cons rfl rfl rfl rfl rfl (.cons rfl rfl rfl rfl rfl (.nil)))) ?_
        refine o_bs (E := Er) (xs := [(x, x)]) (vs := [_]) rfl rfl rfl rfl rfl (by decide) (by decide) fun b35 S35 hS35 => ?_
        refine o_app hS (hS35.rdk hiA) rfl rfl rfl rfl (by show ((runsB p).length + 1) * 2 ≤ _; omega) (by show (runsB p).length + 1 ≤ _; omega) rfl pkA fun a36 c36 S36 hS36 => ?_
        refine o_store rfl rfl rfl upA (by first | decide | omega | (simp; done) | (simp; omega)) rfl ?_
        refine o_nil ?_
        refine x_block ?_
        refine x_sub (Sub.refl _) (H' := (l, .loop (recAt r .busy none)) :: (b3, .cells [.slice a36 (runsB p ++ [(x, x)]).length c36].toArray 96 (0, 0)) :: S36) hzB ?_
        have hst : runsB (p ++ [x]) = runsB p ++ [(x, x)] := runsB_new (.inr heq)
        exact x_rnormal upA (hy _ ⟨a36, c36, S36, by rw [hst], by rw [hst]; exact hS36⟩)
    · skip
      refine o_step rfl (step_cast (v' := .bool false) (s_geq rfl rfl) (congrArg Value.bool (decide_eq_false (by omega)))) ?_
      refine o_step rfl (s_move rfl) ?_
      refine o_no rfl rfl rfl rfl ?_
      refine o_no rfl rfl rfl rfl ?_
      refine o_no rfl rfl rfl rfl ?_
      refine o_no rfl rfl rfl rfl ?_
      refine o_no rfl rfl rfl rfl ?_
      refine o_no rfl rfl rfl rfl ?_
      refine o_no rfl rfl rfl rfl ?_
      refine o_no rfl rfl rfl rfl ?_
      refine o_no rfl rfl rfl rfl ?_
      refine o_no rfl rfl rfl rfl ?_
      refine o_step rfl (s_pick_f rfl rfl) ?_
      refine o_nil ?_
      refine x_then (hK6 _ _ _ ?_)
      refine c_false rfl ?_
      refine c_region ?_
      refine o_step rfl (s_ld rfl (.own meA rfl)) ?_
      refine o_step rfl (s_move rfl) ?_
      refine o_step rfl (s_move rfl) ?_
      refine o_step rfl (s_build (cs := [_, _]) (vs := [_, _]) rfl rfl (.cons rfl rfl rfl rfl rfl (.cons rfl rfl rfl rfl rfl (.nil)))) ?_
      refine o_bs (E := Er) (xs := [(x, x)]) (vs := [_]) rfl rfl rfl rfl rfl (by decide) (by decide) fun b35 S35 hS35 => ?_
      refine o_app hS (hS35.rdk hiA) rfl rfl rfl rfl (by show ((runsB p).length + 1) * 2 ≤ _; omega) (by show (runsB p).length + 1 ≤ _; omega) rfl pkA fun a36 c36 S36 hS36 => ?_
      refine o_store rfl rfl rfl upA (by first | decide | omega | (simp; done) | (simp; omega)) rfl ?_
      refine o_nil ?_
      refine x_block ?_
      refine x_sub (Sub.refl _) (H' := (l, .loop (recAt r .busy none)) :: (b3, .cells [.slice a36 (runsB p ++ [(x, x)]).length c36].toArray 96 (0, 0)) :: S36) hzB ?_
      have hst : runsB (p ++ [x]) = runsB p ++ [(x, x)] := runsB_new (.inl hk)
      exact x_rnormal upA (hy _ ⟨a36, c36, S36, by rw [hst], by rw [hst]; exact hS36⟩)
  · rintro D0 S0r B0 rfl ⟨a, n, S, rfl, hS⟩
    refine x_block ?_
    refine x_then (hK3 _ _ _ ?_)
    refine c_seqD fun _ hK7 => ?_
    refine c_region ?_
    refine o_step rfl (s_ld rfl (.own meA rfl)) ?_
    refine o_step rfl (s_assign rfl) ?_
    refine o_nil ?_
    refine x_then (hK7 _ _ _ ?_)
    refine c_ret ?_
    refine ?_
    refine x_sub (Sub.refl _) (H' := (D0, .deferred (some [])) :: S) hzB ?_
    exact x_retM (.cons (.nil)) pkA rfl (.tmp rfl (.nil)) (⟨a, n, rfl, hS⟩)
  · rintro D0 S0r c p B0 rfl hpx hX
    exact hX.elim
end Go.Proofs.YtafbigmneipkiaaDoor
