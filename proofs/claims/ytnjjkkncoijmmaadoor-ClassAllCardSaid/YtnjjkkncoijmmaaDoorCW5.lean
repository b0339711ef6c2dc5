/- Part of the proofs over this seat: see the text that holds the theorem. Conditions: each theorem bears its own. -/
import Derived.Test.YtnjjkkncoijmmaaDoorCW4
import Derived.Test.YtnjjkkncoijmmaaDoorMC7
namespace Go.Proofs.YtnjjkkncoijmmaaDoor
open Go Go.HL Go.Proofs Go.HL.Kl
theorem tz_fn (w : BitVec 64) : HL.Fn Tryd.prog 38 [Ew w] (fun w => RdP w 0 0 tabV) [] (fun v _ => v = .int .i64 (Lib.ctz 64 w.toNat)) := by
  refine fn_of Tryd.func38 rfl rfl rfl fun w0 hw => ?_
  refine c_seq fun _ hK1 => ?_
  refine c_region ?_
  refine o_step rfl (s_assign rfl) ?_
  refine o_nil ?_
  refine x_then (hK1 _ _ ?_)
  refine c_seq fun _ hK2 => ?_
  refine c_seq fun _ hK3 => ?_
  refine c_region ?_
  refine o_step rfl (s_move rfl) ?_
  refine o_step rfl (s_eql rfl rfl) ?_
  refine o_nil ?_
  refine x_then (hK3 _ _ ?_)
  refine c_if rfl (fun hz => ?_) (fun hz => ?_)
  · skip
    refine c_seq fun _ hK4 => ?_
    refine c_region ?_
    refine o_step rfl (s_assign rfl) ?_
    refine o_nil ?_
    refine x_then (hK4 _ _ ?_)
    refine c_ret ?_
    refine x_then_ret (?_)
    exact x_ret rfl (.tmp rfl (.nil)) (congrArg (Value.int .i64) (by rw [ctz_zero hz]; rfl))
  · skip
    obtain ⟨hi1, hi2⟩ := tab_at w hz
    refine c_skip ?_
    refine x_then (hK2 _ _ ?_)
    refine c_seq fun _ hK5 => ?_
    refine c_region ?_
    refine o_step rfl (s_move rfl) ?_
    refine o_step rfl (s_move rfl) ?_
    refine o_step rfl (step_cast (v' := Ew (-w)) (s_neg rfl) (v_neg w)) ?_
    refine o_step rfl (step_cast (v' := Ew (w &&& -w)) (s_and rfl rfl) (v_and w (-w))) ?_
    refine o_step rfl (step_cast (v' := Ew ((w &&& -w) * 285870213051353865#64)) (s_mulw rfl rfl) (v_mulc _)) ?_
    refine o_step rfl (step_cast (v' := Ew (((w &&& -w) * 285870213051353865#64) >>> 58)) (s_shr rfl rfl (by decide)) (v_shr _ 58 rfl)) ?_
    refine o_step rfl (s_idx1 (i := (((w &&& -w) * 285870213051353865#64) >>> 58).toNat) rfl rfl hi1) ?_
    refine o_step rfl (s_ld rfl ((RdPK.old0 hw).cel (j := (((w &&& -w) * 285870213051353865#64) >>> 58).toNat) hi2 (by omega))) ?_
    refine o_step rfl (step_cast (v' := .int .i64 ((Lib.ctz 64 w.toNat : Nat) : Int)) (s_conv rfl) (congrArg _ (conv64 (by have := ctz_le w; omega)))) ?_
    refine o_step rfl (s_assign rfl) ?_
    refine o_nil ?_
    refine x_then (hK5 _ _ ?_)
    refine c_ret ?_
    refine ?_
    exact x_ret rfl (.tmp rfl (.nil)) (rfl)

theorem all_fn (c : Cl) : HL.Fn Tryd.prog 14 [.agg (Ec c).toArray] (fun _ => True) [] (fun v S' => ∃ b, v = .func (.func 37) [].toArray [.pointer (some ⟨b, 0, none⟩)].toArray ∧ S' = [(b, .cells (Ec c).toArray 24 (0, 0))]) := by
  refine fn_of Tryd.func14 rfl rfl rfl fun w0 hw => ?_
  refine c_seq fun _ hK1 => ?_
  refine c_region ?_
  refine o_box rfl rfl rfl fun b1 => ?_
  refine o_step rfl (s_assign rfl) ?_
  refine o_nil ?_
  refine x_then (hK1 _ _ ?_)
  refine c_seq fun _ hK2 => ?_
  refine c_region ?_
  refine o_step rfl (s_func (us := []) (vs := [_]) rfl rfl) ?_
  refine o_step rfl (s_assign rfl) ?_
  refine o_nil ?_
  refine x_then (hK2 _ _ ?_)
  refine c_ret ?_
  refine ?_
  exact x_ret rfl (.tmp rfl (.nil)) (⟨_, rfl, rfl⟩)

theorem all1_fn (b : Nat) (c : Cl) (l : Nat) (HS HX : List Nat → Hp → Prop) (hY : ∀ (pre : List Nat) (x : Nat) (B : Hp), HS pre B → pre ++ [x] <+: mems c → Yd Tryd.prog l [.int .u8 x] B (fun v B' => (v = .bool true ∧ HS (pre ++ [x]) B') ∨ (v = .bool false ∧ HX (pre ++ [x]) B'))) (B : Hp) (hB : HS [] B) : HL.Fn Tryd.prog 37 [.func (.yield l) #[] #[], .pointer (some ⟨b, 0, none⟩)] (Tb ([(b, .cells (Ec c).toArray 24 (0, 0))] ++ B)) ([(b, .cells (Ec c).toArray 24 (0, 0))] ++ B) (fun _ S' => ∃ S1 B', S' = S1 ++ B' ∧ S1 = [(b, .cells (Ec c).toArray 24 (0, 0))] ∧ (HS (mems c) B' ∨ ∃ p, p <+: mems c ∧ HX p B')) := by
  refine fn_of Tryd.func37 rfl rfl rfl fun w0 hw => ?_
  refine c_seq fun _ hK1 => ?_
  refine c_region ?_
  refine o_step rfl (s_move rfl) ?_
  refine o_nil ?_
  refine x_then (hK1 _ _ ?_)
  refine c_block ?_
  refine c_loop2 (fun (i : Nat) (B : Hp) => i ≤ 4 ∧ HS (memsTo c (64 * i)) B) (fun (i : Nat) (B : Hp) => [(5, .int .i64 i)]) [(0, _), (1, _)] (fun (i : Nat) (B : Hp) => [(b, .cells (Ec c).toArray 24 (0, 0))] ++ B) (fun (i : Nat) (B : Hp) => 4 - i) 0 B ⟨by omega, hB⟩ (by repeat (first | exact Sub.nil | refine Sub.cons rfl ?_)) (by repeat (first | exact Sub.nil | refine Sub.cons rfl ?_)) (by exact HSub.refl _) ?_
  rintro i B ⟨hi, hH⟩
  refine c_seq fun _ hK2 => ?_
  refine c_region ?_
  refine o_step rfl (s_lss rfl rfl) ?_
  refine o_nil ?_
  refine x_then (hK2 _ _ ?_)
  refine c_seq fun _ hK3 => ?_
  refine c_if rfl (fun hlt => ?_) (fun hlt => ?_)
  · skip
    have hlt4 : i < 4 := by omega
    refine c_skip ?_
    refine x_then (hK3 _ _ ?_)
    refine c_seq fun _ hK4 => ?_
    refine c_block ?_
    refine c_seq fun _ hK5 => ?_
    refine c_quiet (by kernel_rfl) ?_
    refine .op rfl (s_move rfl) ?_
    refine .op rfl (s_nil rfl) ?_
    refine .op rfl (s_idx1 rfl rfl (by omega)) ?_
    refine .op rfl (s_ld rfl ((RdPK.own (by repeat (first | exact List.mem_cons_self | apply List.mem_cons_of_mem | apply mem_assoc | apply mem_app))).cel (j := i) (Ec_get _ (by omega)) (by omega))) ?_
    refine .op rfl (s_assign rfl) ?_
    refine .op rfl (s_assign rfl) ?_
    refine .nil ?_
    refine x_then (hK5 _ _ ?_)
    refine c_block ?_
    refine c_loop3 (fun (w : BitVec 64) (p : List Nat) (B2 : Hp) => mems c = p ++ (wmem i w ++ (mems c).drop (memsTo c (64 * i + 64)).length) ∧ HS p B2) (fun (w : BitVec 64) (p : List Nat) (B2 : Hp) => [(4, Ew w)]) [(0, _), (1, _), (3, _), (5, _), (6, _), (7, _), (8, _), (9, _), (10, _)] (fun (w : BitVec 64) (p : List Nat) (B2 : Hp) => [(b, .cells (Ec c).toArray 24 (0, 0))] ++ B2) (fun (w : BitVec 64) (p : List Nat) (B2 : Hp) => (wmem i w).length) (wd c i) (memsTo c (64 * i)) B ⟨mems_from c hlt4, hH⟩ (by repeat (first | exact Sub.nil | refine Sub.cons rfl ?_)) (by repeat (first | exact Sub.nil | refine Sub.cons rfl ?_)) (by exact HSub.refl _) ?_
    rintro w p B2 ⟨hm, hH2⟩
    refine c_seq fun _ hK6 => ?_
    refine c_seq fun _ hK7 => ?_
    refine c_region ?_
    refine o_step rfl (s_move rfl) ?_
    refine o_step rfl (s_neq rfl rfl) ?_
    refine o_nil ?_
    refine x_then (hK7 _ _ ?_)
    refine c_if rfl (fun hne => ?_) (fun hne => ?_)
    · skip
      have hw0 : w ≠ 0#64 := ne_zero hne
      have hc := wmem_cons i w hw0
      have hkt := (ctz_lt w hw0).1
      have hpre : p ++ [64 * i + Lib.ctz 64 w.toNat] <+: mems c := ⟨_, by rw [hm, hc, List.append_assoc]; rfl⟩
      refine c_skip ?_
      refine x_then (hK6 _ _ ?_)
      refine c_seq fun _ hK8 => ?_
      refine c_block ?_
      refine c_seq fun _ hK9 => ?_
      refine c_region ?_
      refine o_step rfl (s_move rfl) ?_
      refine o_step rfl (s_move rfl) ?_
      refine o_step rfl (step_cast (v' := .int .i64 ((64 * i : Nat) : Int)) (s_shl rfl rfl (by decide)) (congrArg _ (shl6 hlt4))) ?_
      refine o_step rfl (s_move rfl) ?_
      refine o_callP (tz_fn w) rfl rfl rfl (fun w st => (RdPK.old hw.1 hw.2).out w st) (fun v21 hv21 => ?_)
      subst hv21
      refine o_step rfl (step_cast (v' := .int .i64 ((64 * i + Lib.ctz 64 w.toNat : Nat) : Int)) (s_add rfl rfl (by omega)) (by rw [Int.natCast_add])) ?_
      refine o_step rfl (step_cast (v' := .int .u8 ((64 * i + Lib.ctz 64 w.toNat : Nat) : Int)) (s_conv rfl) (congrArg _ (conv8 (by omega)))) ?_
      refine o_yield (hY p _ B2 hH2 hpre) rfl rfl rfl (by first | ((repeat (first | exact .one | exact .here | exact .all | apply Pick.cons | apply Pick.app)); done) | ((repeat (first | exact .one | exact .here | exact .all | apply Pick.cons | apply Pick.assoc | apply Pick.app)); done) | exact Pick.takeA (by repeat (first | exact .one | exact .here | exact .all | apply Pick.cons | apply Pick.assoc | apply Pick.app)) (by repeat (first | exact .one | exact .here | exact .all | apply Pick.cons | apply Pick.assoc | apply Pick.app))) (fun v24 S24 hv24 => ?_)
      rcases hv24 with ⟨rfl, hH3⟩ | ⟨rfl, hX3⟩
      · skip
        refine o_step rfl (s_not rfl) ?_
        refine o_nil ?_
        refine x_then (hK9 _ _ ?_)
        refine c_false rfl ?_
        refine c_skip ?_
        refine x_block ?_
        refine x_then (hK8 _ _ ?_)
        refine c_region ?_
        refine o_step rfl (s_move rfl) ?_
        refine o_step rfl (s_move rfl) ?_
        refine o_step rfl (step_cast (v' := Ew (w - 1#64)) (s_subw rfl rfl) (v_sub1 w)) ?_
        refine o_step rfl (step_cast (v' := Ew (w &&& (w - 1#64))) (s_and rfl rfl) (v_and _ _)) ?_
        refine o_step rfl (s_assign rfl) ?_
        refine o_nil ?_
        exact x_then (x_inv (w &&& (w - 1#64), p ++ [64 * i + Lib.ctz 64 w.toNat], S24) ⟨hm.trans (by rw [hc]; simp [List.append_assoc]), hH3⟩ (by show (wmem i (w &&& (w - 1#64))).length < (wmem i w).length; rw [hc]; simp) (by repeat (first | exact Sub.nil | refine Sub.cons rfl ?_)) (by repeat (first | exact HSub.refl _ | exact HSub.nil | refine HSub.takeC (by first | ((repeat (first | exact .one | exact .here | exact .all | apply Pick.cons | apply Pick.app)); done) | ((repeat (first | exact .one | exact .here | exact .all | apply Pick.cons | apply Pick.assoc | apply Pick.app)); done) | exact Pick.takeA (by repeat (first | exact .one | exact .here | exact .all | apply Pick.cons | apply Pick.assoc | apply Pick.app)) (by repeat (first | exact .one | exact .here | exact .all | apply Pick.cons | apply Pick.assoc | apply Pick.app))) ?_ | refine HSub.take (by first | ((repeat (first | exact .one | exact .here | exact .all | apply Pick.cons | apply Pick.app)); done) | ((repeat (first | exact .one | exact .here | exact .all | apply Pick.cons | apply Pick.assoc | apply Pick.app)); done) | exact Pick.takeA (by repeat (first | exact .one | exact .here | exact .all | apply Pick.cons | apply Pick.assoc | apply Pick.app)) (by repeat (first | exact .one | exact .here | exact .all | apply Pick.cons | apply Pick.assoc | apply Pick.app))) ?_ | exact HSub.of_pick (by first | ((repeat (first | exact .one | exact .here | exact .all | apply Pick.cons | apply Pick.app)); done) | ((repeat (first | exact .one | exact .here | exact .all | apply Pick.cons | apply Pick.assoc | apply Pick.app)); done) | exact Pick.takeA (by repeat (first | exact .one | exact .here | exact .all | apply Pick.cons | apply Pick.assoc | apply Pick.app)) (by repeat (first | exact .one | exact .here | exact .all | apply Pick.cons | apply Pick.assoc | apply Pick.app))))))
      · skip
        refine o_step rfl (s_not rfl) ?_
        refine o_nil ?_
        refine x_then (hK9 _ _ ?_)
        refine c_true rfl ?_
        refine c_ret ?_
        refine x_block_ret (x_then_ret (x_then_ret (x_block_ret (x_block_ret (x_then_ret (x_then_ret (x_block_ret (?_))))))))
        refine x_sub (Sub.refl _) (H' := [(b, .cells (Ec c).toArray 24 (0, 0))] ++ S24) (by repeat (first | exact HSub.refl _ | exact HSub.nil | refine HSub.takeC (by first | ((repeat (first | exact .one | exact .here | exact .all | apply Pick.cons | apply Pick.app)); done) | ((repeat (first | exact .one | exact .here | exact .all | apply Pick.cons | apply Pick.assoc | apply Pick.app)); done) | exact Pick.takeA (by repeat (first | exact .one | exact .here | exact .all | apply Pick.cons | apply Pick.assoc | apply Pick.app)) (by repeat (first | exact .one | exact .here | exact .all | apply Pick.cons | apply Pick.assoc | apply Pick.app))) ?_ | refine HSub.take (by first | ((repeat (first | exact .one | exact .here | exact .all | apply Pick.cons | apply Pick.app)); done) | ((repeat (first | exact .one | exact .here | exact .all | apply Pick.cons | apply Pick.assoc | apply Pick.app)); done) | exact Pick.takeA (by repeat (first | exact .one | exact .here | exact .all | apply Pick.cons | apply Pick.assoc | apply Pick.app)) (by repeat (first | exact .one | exact .here | exact .all | apply Pick.cons | apply Pick.assoc | apply Pick.app))) ?_ | exact HSub.of_pick (by first | ((repeat (first | exact .one | exact .here | exact .all | apply Pick.cons | apply Pick.app)); done) | ((repeat (first | exact .one | exact .here | exact .all | apply Pick.cons | apply Pick.assoc | apply Pick.app)); done) | exact Pick.takeA (by repeat (first | exact .one | exact .here | exact .all | apply Pick.cons | apply Pick.assoc | apply Pick.app)) (by repeat (first | exact .one | exact .here | exact .all | apply Pick.cons | apply Pick.assoc | apply Pick.app))))) ?_
        exact x_ret rfl (.nil) (⟨_, _, rfl, rfl, .inr ⟨_, hpre, hX3⟩⟩)
    · skip
      have hz0 : w = 0#64 := eq_zero hne
      refine c_exit ?_
      refine x_then_exit ?_
      refine x_then_exit ?_
      refine x_block_exit ?_
      refine x_block ?_
      refine x_then (hK4 _ _ ?_)
      refine c_region ?_
      refine o_step rfl (s_add rfl rfl (by omega)) ?_
      refine o_step rfl (s_move rfl) ?_
      refine o_nil ?_
      rw [words_end hlt4 hm hz0] at hH2
      exact x_then (x_inv (i + 1, B2) ⟨by omega, hH2⟩ (by first | omega | (dsimp only; omega)) (by repeat (first | exact Sub.nil | refine Sub.cons rfl ?_)) (by repeat (first | exact HSub.refl _ | exact HSub.nil | refine HSub.takeC (by first | ((repeat (first | exact .one | exact .here | exact .all | apply Pick.cons | apply Pick.app)); done) | ((repeat (first | exact .one | exact .here | exact .all | apply Pick.cons | apply Pick.assoc | apply Pick.app)); done) | exact Pick.takeA (by repeat (first | exact .one | exact .here | exact .all | apply Pick.cons | apply Pick.assoc | apply Pick.app)) (by repeat (first | exact .one | exact .here | exact .all | apply Pick.cons | apply Pick.assoc | apply Pick.app))) ?_ | refine HSub.take (by first | ((repeat (first | exact .one | exact .here | exact .all | apply Pick.cons | apply Pick.app)); done) | ((repeat (first | exact .one | exact .here | exact .all | apply Pick.cons | apply Pick.assoc | apply Pick.app)); done) | exact Pick.takeA (by repeat (first | exact .one | exact .here | exact .all | apply Pick.cons | apply Pick.assoc | apply Pick.app)) (by repeat (first | exact .one | exact .here | exact .all | apply Pick.cons | apply Pick.assoc | apply Pick.app))) ?_ | exact HSub.of_pick (by first | ((repeat (first | exact .one | exact .here | exact .all | apply Pick.cons | apply Pick.app)); done) | ((repeat (first | exact .one | exact .here | exact .all | apply Pick.cons | apply Pick.assoc | apply Pick.app)); done) | exact Pick.takeA (by repeat (first | exact .one | exact .here | exact .all | apply Pick.cons | apply Pick.assoc | apply Pick.app)) (by repeat (first | exact .one | exact .here | exact .all | apply Pick.cons | apply Pick.assoc | apply Pick.app))))))
  · skip
    obtain rfl : i = 4 := by omega
    refine c_exit ?_
    refine x_then_exit ?_
    refine x_then_exit ?_
    refine x_block_exit ?_
    exact x_end rfl (.nil) (⟨_, _, rfl, rfl, .inl hH⟩)

theorem all_it (b : Nat) (c : Cl) : It Tryd.prog 37 [] [.pointer (some ⟨b, 0, none⟩)] (fun x : Nat => [.int .u8 x]) (mems c) Tb [(b, .cells (Ec c).toArray 24 (0, 0))] (fun S1 => S1 = [(b, .cells (Ec c).toArray 24 (0, 0))]) :=
  ⟨enters_of Tryd.func37 rfl rfl, fun l HS HX hY B hB => all1_fn b c l HS HX hY B hB⟩

theorem least_fn (c : Cl) : HL.Fn Tryd.prog 39 [.agg (Ec c).toArray] (Tb []) [] (fun v _ => v = .int .i64 (least c)) := by
  refine fn_ofM Tryd.func39 rfl rfl rfl fun w0 hw => ?_
  refine c_seqD fun _ hK1 => ?_
  refine c_region ?_
  refine o_box rfl rfl rfl fun b1 => ?_
  refine o_alloc rfl rfl fun b2 => ?_
  refine o_nil ?_
  refine x_then (hK1 _ _ _ ?_)
  refine c_seqD fun _ hK2 => ?_
  refine c_seqD fun _ hK3 => ?_
  refine c_region ?_
  refine o_step rfl (s_ldB rfl (RdPK.cels (.own (by repeat (first | exact List.mem_cons_self | apply List.mem_cons_of_mem | apply mem_assoc | apply mem_app)))) (by first | (rw [flat_len, Nat.mul_one]; first | assumption | exact List.length_replicate) | exact List.length_replicate | rfl)) ?_
  refine o_call (all_fn c) rfl rfl rfl (by exact .nil) (fun _ _ => trivial) (fun v5 S5 ⟨b5, hv5, hS5⟩ => ?_)
  subst hv5
  subst hS5
  refine o_nil ?_
  refine x_then (hK3 _ _ _ ?_)
  refine c_block ?_
  refine c_range (α := Nat) (B0 := [(b2, .cells [.int .i64 0].toArray 3 (0, 0))]) (fun p B => p = [] ∧ B = [(b2, .cells [.int .i64 0].toArray 3 (0, 0))]) (fun c p B => c = .ret ∧ ∃ x : Nat, p = [x] ∧ B = [(b2, .cells [.int .i64 x].toArray 3 (0, 0))]) rfl (all_it b5 c) ((by first | ((repeat (first | exact .one | exact .here | exact .all | apply Pick.cons | apply Pick.app)); done) | ((repeat (first | exact .one | exact .here | exact .all | apply Pick.cons | apply Pick.assoc | apply Pick.app)); done) | exact Pick.takeA (by repeat (first | exact .one | exact .here | exact .all | apply Pick.cons | apply Pick.assoc | apply Pick.app)) (by repeat (first | exact .one | exact .here | exact .all | apply Pick.cons | apply Pick.assoc | apply Pick.app)))) ((fun w H1 S1 st hs => tb_of hw st hs)) ⟨rfl, rfl⟩ (by kernel_rfl) (fun _ => rfl) (by kernel_rfl) ?_ ?_ ?_
  · rintro l r p x B W er1 er2 ⟨rfl, rfl⟩ hx post hy hn
    have hxl : x < 256 := mems_lt hx
    refine c_region ?_
    refine o_step rfl (s_assign rfl) ?_
    refine o_nil ?_
    refine x_then (x_begin (by repeat (first | exact .here | apply Upd.there | apply Upd.assoc | apply Upd.skip)) (by kernel_rfl) ?_)
    refine c_block ?_
    refine c_seqD fun _ hK4 => ?_
    refine c_region ?_
    refine o_step rfl (s_move rfl) ?_
    refine o_step rfl (step_cast (v' := .int .i64 ((x : Nat) : Int)) (s_conv rfl) (congrArg _ (conv64 (by omega)))) ?_
    refine o_store rfl rfl rfl (by repeat (first | exact .here | apply Upd.there | apply Upd.assoc | apply Upd.skip)) (by first | decide | omega | (simp; done) | (simp; omega)) rfl ?_
    refine o_nil ?_
    refine x_then (hK4 _ _ _ ?_)
    refine c_ret ?_
    refine x_block_ret (?_)
    exact x_rret (by repeat (first | exact .here | apply Upd.there | apply Upd.assoc | apply Upd.skip)) (hn _ _ ⟨rfl, x, rfl, rfl⟩)
  · rintro D0 S0r B0 rfl ⟨hm, rfl⟩
    refine x_block ?_
    refine x_then (hK2 _ _ _ ?_)
    refine c_seqD fun _ hK5 => ?_
    refine c_region ?_
    refine o_store rfl rfl rfl (by repeat (first | exact .here | apply Upd.there | apply Upd.assoc | apply Upd.skip)) (by first | decide | omega | (simp; done) | (simp; omega)) rfl ?_
    refine o_nil ?_
    refine x_then (hK5 _ _ _ ?_)
    refine c_ret ?_
    refine ?_
    exact x_retM (.cons (.nil)) (by first | ((repeat (first | exact .one | exact .here | exact .all | apply Pick.cons | apply Pick.app)); done) | ((repeat (first | exact .one | exact .here | exact .all | apply Pick.cons | apply Pick.assoc | apply Pick.app)); done) | exact Pick.takeA (by repeat (first | exact .one | exact .here | exact .all | apply Pick.cons | apply Pick.assoc | apply Pick.app)) (by repeat (first | exact .one | exact .here | exact .all | apply Pick.cons | apply Pick.assoc | apply Pick.app))) rfl (.cell inferInstance rfl (.own (by repeat (first | exact List.mem_cons_self | apply List.mem_cons_of_mem | apply mem_assoc | apply mem_app)) rfl) (.nil)) (congrArg (Value.int .i64) (least_nil hm))
  · rintro D0 S0r c p B0 rfl hpx ⟨rfl, x, rfl, rfl⟩
    refine c_ret ?_
    refine x_block_ret (x_then_ret (?_))
    exact x_retM (.cons (.nil)) (by first | ((repeat (first | exact .one | exact .here | exact .all | apply Pick.cons | apply Pick.app)); done) | ((repeat (first | exact .one | exact .here | exact .all | apply Pick.cons | apply Pick.assoc | apply Pick.app)); done) | exact Pick.takeA (by repeat (first | exact .one | exact .here | exact .all | apply Pick.cons | apply Pick.assoc | apply Pick.app)) (by repeat (first | exact .one | exact .here | exact .all | apply Pick.cons | apply Pick.assoc | apply Pick.app))) rfl (.cell inferInstance rfl (.own (by repeat (first | exact List.mem_cons_self | apply List.mem_cons_of_mem | apply mem_assoc | apply mem_app)) rfl) (.nil)) (congrArg (Value.int .i64) (least_head hpx))
end Go.Proofs.YtnjjkkncoijmmaaDoor
