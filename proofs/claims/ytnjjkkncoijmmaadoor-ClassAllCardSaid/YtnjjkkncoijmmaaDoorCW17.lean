/- Part of the proofs over this seat: see the text that holds the theorem. Conditions: each theorem bears its own. -/
import Derived.Test.YtnjjkkncoijmmaaDoorCW8
import Derived.Test.YtnjjkkncoijmmaaDoorMC20
namespace Go.Proofs.YtnjjkkncoijmmaaDoor
open Go Go.HL Go.Proofs Go.HL.Kl
theorem all2_fn (o : Obj) (ho : TbO o) (b : Nat) (c : Cl) (l : Nat) (HS HX : List Nat → Hp → Prop) (hG : ∀ p B, HS p B → (0, o) ∈ B) (hY : ∀ (pre : List Nat) (x : Nat) (B : Hp), HS pre B → pre ++ [x] <+: mems c → Yd Tryd.prog l [.int .u8 x] B (fun v B' => (v = .bool true ∧ HS (pre ++ [x]) B') ∨ (v = .bool false ∧ HX (pre ++ [x]) B'))) (B : Hp) (hB : HS [] B) : HL.Fn Tryd.prog 37 [.func (.yield l) #[] #[], .pointer (some ⟨b, 0, none⟩)] (fun _ => True) ([(b, .cells (Ec c).toArray 24 (0, 0))] ++ B) (fun _ S' => ∃ S1 B', S' = S1 ++ B' ∧ S1 = [(b, .cells (Ec c).toArray 24 (0, 0))] ∧ (HS (mems c) B' ∨ ∃ p, p <+: mems c ∧ HX p B')) := by
  refine fn_of Tryd.func37 rfl rfl rfl fun w0 hw => ?_
  refine c_seq fun _ hK1 => ?_
  refine c_region ?_
  refine o_step rfl (s_move rfl) ?_
  refine o_nil ?_
  refine x_then (hK1 _ _ ?_)
  refine c_block ?_
  refine c_loop2 (fun (i : Nat) (B : Hp) => i ≤ 4 ∧ HS (memsTo c (64 * i)) B) (fun (i : Nat) (B : Hp) => [(5, .int .i64 i)]) [(0, _), (1, _)] (fun (i : Nat) (B : Hp) => [(b, .cells (Ec c).toArray 24 (0, 0))] ++ B) (fun (i : Nat) (B : Hp) => 4 - i) 0 B ⟨by omega, hB⟩ (by repeat (first | exact Sub.nil | refine Sub.cons rfl ?_)) (by repeat (first | exact Sub.nil | refine Sub.cons rfl ?_)) (by exact HSub.refl _) ?_
  rintro i B ⟨hi, hH⟩
  refine c_seq fun _ hK2 => ?_
  refine c_region ?_
  refine o_step rfl (s_lss rfl rfl) ?_
  refine o_nil ?_
  refine x_then (hK2 _ _ ?_)
  refine c_seq fun _ hK3 => ?_
  refine c_if rfl (fun hlt => ?_) (fun hlt => ?_)
  · skip
    have hlt4 : i < 4 := by omega
    refine c_skip ?_
    refine x_then (hK3 _ _ ?_)
    refine c_seq fun _ hK4 => ?_
    refine c_block ?_
    refine c_seq fun _ hK5 => ?_
    refine c_quiet (by kernel_rfl) ?_
    refine .op rfl (s_move rfl) ?_
    refine .op rfl (s_nil rfl) ?_
    refine .op rfl (s_idx1 rfl rfl (by omega)) ?_
    refine .op rfl (s_ld rfl ((RdPK.own (by repeat (first | exact List.mem_cons_self | apply List.mem_cons_of_mem | apply mem_assoc | apply mem_app))).cel (j := i) (Ec_get _ (by omega)) (by omega))) ?_
    refine .op rfl (s_assign rfl) ?_
    refine .op rfl (s_assign rfl) ?_
    refine .nil ?_
    refine x_then (hK5 _ _ ?_)
    refine c_block ?_
    refine c_loop3 (fun (w : BitVec 64) (p : List Nat) (B2 : Hp) => mems c = p ++ (wmem i w ++ (mems c).drop (memsTo c (64 * i + 64)).length) ∧ HS p B2) (fun (w : BitVec 64) (p : List Nat) (B2 : Hp) => [(4, Ew w)]) [(0, _), (1, _), (3, _), (5, _), (6, _), (7, _), (8, _), (9, _), (10, _)] (fun (w : BitVec 64) (p : List Nat) (B2 : Hp) => [(b, .cells (Ec c).toArray 24 (0, 0))] ++ B2) (fun (w : BitVec 64) (p : List Nat) (B2 : Hp) => (wmem i w).length) (wd c i) (memsTo c (64 * i)) B ⟨mems_from c hlt4, hH⟩ (by repeat (first | exact Sub.nil | refine Sub.cons rfl ?_)) (by repeat (first | exact Sub.nil | refine Sub.cons rfl ?_)) (by exact HSub.refl _) ?_
    rintro w p B2 ⟨hm, hH2⟩
    refine c_seq fun _ hK6 => ?_
    refine c_seq fun _ hK7 => ?_
    refine c_region ?_
    refine o_step rfl (s_move rfl) ?_
    refine o_step rfl (s_neq rfl rfl) ?_
    refine o_nil ?_
    refine x_then (hK7 _ _ ?_)
    refine c_if rfl (fun hne => ?_) (fun hne => ?_)
    · skip
      have hw0 : w ≠ 0#64 := ne_zero hne
      have hc := wmem_cons i w hw0
      have hkt := (ctz_lt w hw0).1
      have hpre : p ++ [64 * i + Lib.ctz 64 w.toNat] <+: mems c := ⟨_, by rw [hm, hc, List.append_assoc]; rfl⟩
      refine c_skip ?_
      refine x_then (hK6 _ _ ?_)
      refine c_seq fun _ hK8 => ?_
      refine c_block ?_
      refine c_seq fun _ hK9 => ?_
      refine c_region ?_
      refine o_step rfl (s_move rfl) ?_
      refine o_step rfl (s_move rfl) ?_
      refine o_step rfl (step_cast (v' := .int .i64 ((64 * i : Nat) : Int)) (s_shl rfl rfl (by decide)) (congrArg _ (shl6 hlt4))) ?_
      refine o_step rfl (s_move rfl) ?_
      refine o_callP (tz_fn w) rfl rfl rfl (fun w st => ho w (st.has _ _ (List.mem_append_right _ (hG _ _ hH2)))) (fun v21 hv21 => ?_)
      subst hv21
      refine o_step rfl (step_cast (v' := .int .i64 ((64 * i + Lib.ctz 64 w.toNat : Nat) : Int)) (s_add rfl rfl (by omega)) (by rw [Int.natCast_add])) ?_
      refine o_step rfl (step_cast (v' := .int .u8 ((64 * i + Lib.ctz 64 w.toNat : Nat) : Int)) (s_conv rfl) (congrArg _ (conv8 (by omega)))) ?_
      refine o_yield (hY p _ B2 hH2 hpre) rfl rfl rfl (by first | ((repeat (first | exact .one | exact .here | exact .all | apply Pick.cons | apply Pick.app)); done) | ((repeat (first | exact .one | exact .here | exact .all | apply Pick.cons | apply Pick.assoc | apply Pick.app)); done) | exact Pick.takeA (by repeat (first | exact .one | exact .here | exact .all | apply Pick.cons | apply Pick.assoc | apply Pick.app)) (by repeat (first | exact .one | exact .here | exact .all | apply Pick.cons | apply Pick.assoc | apply Pick.app))) (fun v24 S24 hv24 => ?_)
      rcases hv24 with ⟨rfl, hH3⟩ | ⟨rfl, hX3⟩
      · skip
        refine o_step rfl (s_not rfl) ?_
        refine o_nil ?_
        refine x_then (hK9 _ _ ?_)
        refine c_false rfl ?_
        refine c_skip ?_
        refine x_block ?_
        refine x_then (hK8 _ _ ?_)
        refine c_region ?_
        refine o_step rfl (s_move rfl) ?_
        refine o_step rfl (s_move rfl) ?_
        refine o_step rfl (step_cast (v' := Ew (w - 1#64)) (s_subw rfl rfl) (v_sub1 w)) ?_
        refine o_step rfl (step_cast (v' := Ew (w &&& (w - 1#64))) (s_and rfl rfl) (v_and _ _)) ?_
        refine o_step rfl (s_assign rfl) ?_
        refine o_nil ?_
        exact x_then (x_inv (w &&& (w - 1#64), p ++ [64 * i + Lib.ctz 64 w.toNat], S24) ⟨hm.trans (by rw [hc]; simp [List.append_assoc]), hH3⟩ (by show (wmem i (w &&& (w - 1#64))).length < (wmem i w).length; rw [hc]; simp) (by repeat (first | exact Sub.nil | refine Sub.cons rfl ?_)) (by repeat (first | exact HSub.refl _ | exact HSub.nil | refine HSub.takeC (by first | ((repeat (first | exact .one | exact .here | exact .all | apply Pick.cons | apply Pick.app)); done) | ((repeat (first | exact .one | exact .here | exact .all | apply Pick.cons | apply Pick.assoc | apply Pick.app)); done) | exact Pick.takeA (by repeat (first | exact .one | exact .here | exact .all | apply Pick.cons | apply Pick.assoc | apply Pick.app)) (by repeat (first | exact .one | exact .here | exact .all | apply Pick.cons | apply Pick.assoc | apply Pick.app))) ?_ | refine HSub.take (by first | ((repeat (first | exact .one | exact .here | exact .all | apply Pick.cons | apply Pick.app)); done) | ((repeat (first | exact .one | exact .here | exact .all | apply Pick.cons | apply Pick.assoc | apply Pick.app)); done) | exact Pick.takeA (by repeat (first | exact .one | exact .here | exact .all | apply Pick.cons | apply Pick.assoc | apply Pick.app)) (by repeat (first | exact .one | exact .here | exact .all | apply Pick.cons | apply Pick.assoc | apply Pick.app))) ?_ | exact HSub.of_pick (by first | ((repeat (first | exact .one | exact .here | exact .all | apply Pick.cons | apply Pick.app)); done) | ((repeat (first | exact .one | exact .here | exact .all | apply Pick.cons | apply Pick.assoc | apply Pick.app)); done) | exact Pick.takeA (by repeat (first | exact .one | exact .here | exact .all | apply Pick.cons | apply Pick.assoc | apply Pick.app)) (by repeat (first | exact .one | exact .here | exact .all | apply Pick.cons | apply Pick.assoc | apply Pick.app))))))
      · skip
        refine o_step rfl (s_not rfl) ?_
        refine o_nil ?_
        refine x_then (hK9 _ _ ?_)
        refine c_true rfl ?_
        refine c_ret ?_
        refine x_block_ret (x_then_ret (x_then_ret (x_block_ret (x_block_ret (x_then_ret (x_then_ret (x_block_ret (?_))))))))
        refine x_sub (Sub.refl _) (H' := [(b, .cells (Ec c).toArray 24 (0, 0))] ++ S24) (by repeat (first | exact HSub.refl _ | exact HSub.nil | refine HSub.takeC (by first | ((repeat (first | exact .one | exact .here | exact .all | apply Pick.cons | apply Pick.app)); done) | ((repeat (first | exact .one | exact .here | exact .all | apply Pick.cons | apply Pick.assoc | apply Pick.app)); done) | exact Pick.takeA (by repeat (first | exact .one | exact .here | exact .all | apply Pick.cons | apply Pick.assoc | apply Pick.app)) (by repeat (first | exact .one | exact .here | exact .all | apply Pick.cons | apply Pick.assoc | apply Pick.app))) ?_ | refine HSub.take (by first | ((repeat (first | exact .one | exact .here | exact .all | apply Pick.cons | apply Pick.app)); done) | ((repeat (first | exact .one | exact .here | exact .all | apply Pick.cons | apply Pick.assoc | apply Pick.app)); done) | exact Pick.takeA (by repeat (first | exact .one | exact .here | exact .all | apply Pick.cons | apply Pick.assoc | apply Pick.app)) (by repeat (first | exact .one | exact .here | exact .all | apply Pick.cons | apply Pick.assoc | apply Pick.app))) ?_ | exact HSub.of_pick (by first | ((repeat (first | exact .one | exact .here | exact .all | apply Pick.cons | apply Pick.app)); done) | ((repeat (first | exact .one | exact .here | exact .all | apply Pick.cons | apply Pick.assoc | apply Pick.app)); done) | exact Pick.takeA (by repeat (first | exact .one | exact .here | exact .all | apply Pick.cons | apply Pick.assoc | apply Pick.app)) (by repeat (first | exact .one | exact .here | exact .all | apply Pick.cons | apply Pick.assoc | apply Pick.app))))) ?_
        exact x_ret rfl (.nil) (⟨_, _, rfl, rfl, .inr ⟨_, hpre, hX3⟩⟩)
    · skip
      have hz0 : w = 0#64 := eq_zero hne
      refine c_exit ?_
      refine x_then_exit ?_
      refine x_then_exit ?_
      refine x_block_exit ?_
      refine x_block ?_
      refine x_then (hK4 _ _ ?_)
      refine c_region ?_
      refine o_step rfl (s_add rfl rfl (by omega)) ?_
      refine o_step rfl (s_move rfl) ?_
      refine o_nil ?_
      rw [words_end hlt4 hm hz0] at hH2
      exact x_then (x_inv (i + 1, B2) ⟨by omega, hH2⟩ (by first | omega | (dsimp only; omega)) (by repeat (first | exact Sub.nil | refine Sub.cons rfl ?_)) (by repeat (first | exact HSub.refl _ | exact HSub.nil | refine HSub.takeC (by first | ((repeat (first | exact .one | exact .here | exact .all | apply Pick.cons | apply Pick.app)); done) | ((repeat (first | exact .one | exact .here | exact .all | apply Pick.cons | apply Pick.assoc | apply Pick.app)); done) | exact Pick.takeA (by repeat (first | exact .one | exact .here | exact .all | apply Pick.cons | apply Pick.assoc | apply Pick.app)) (by repeat (first | exact .one | exact .here | exact .all | apply Pick.cons | apply Pick.assoc | apply Pick.app))) ?_ | refine HSub.take (by first | ((repeat (first | exact .one | exact .here | exact .all | apply Pick.cons | apply Pick.app)); done) | ((repeat (first | exact .one | exact .here | exact .all | apply Pick.cons | apply Pick.assoc | apply Pick.app)); done) | exact Pick.takeA (by repeat (first | exact .one | exact .here | exact .all | apply Pick.cons | apply Pick.assoc | apply Pick.app)) (by repeat (first | exact .one | exact .here | exact .all | apply Pick.cons | apply Pick.assoc | apply Pick.app))) ?_ | exact HSub.of_pick (by first | ((repeat (first | exact .one | exact .here | exact .all | apply Pick.cons | apply Pick.app)); done) | ((repeat (first | exact .one | exact .here | exact .all | apply Pick.cons | apply Pick.assoc | apply Pick.app)); done) | exact Pick.takeA (by repeat (first | exact .one | exact .here | exact .all | apply Pick.cons | apply Pick.assoc | apply Pick.app)) (by repeat (first | exact .one | exact .here | exact .all | apply Pick.cons | apply Pick.assoc | apply Pick.app))))))
  · skip
    obtain rfl : i = 4 := by omega
    refine c_exit ?_
    refine x_then_exit ?_
    refine x_then_exit ?_
    refine x_block_exit ?_
    exact x_end rfl (.nil) (⟨_, _, rfl, rfl, .inl hH⟩)

theorem all_it2 (o : Obj) (ho : TbO o) (b : Nat) (c : Cl) : It2 Tryd.prog 37 [] [.pointer (some ⟨b, 0, none⟩)] (fun x : Nat => [.int .u8 x]) (mems c) (fun B => (0, o) ∈ B) [(b, .cells (Ec c).toArray 24 (0, 0))] (fun S1 => S1 = [(b, .cells (Ec c).toArray 24 (0, 0))]) :=
  ⟨enters_of Tryd.func37 rfl rfl, fun l HS HX hG hY B hB => all2_fn o ho b c l HS HX hG hY B hB⟩

theorem classAll_fn (o : Obj) (ho : TbO o) (x1 x2 : Cl) (n : Int) : HL.Fn Tryd.prog 3 [.agg (Ec x1).toArray, .agg (Ec x2).toArray, .int .i64 n] (fun _ => True) [(0, o)] (fun v S' => v = .bool true ∧ (0, o) ∈ S') := by
  refine fn_ofM Tryd.func3 rfl rfl rfl fun w0 hw => ?_
  refine c_seqD fun _ hK1 => ?_
  refine c_region ?_
  refine o_box rfl rfl rfl fun b3 => ?_
  refine o_box rfl rfl rfl fun b4 => ?_
  refine o_box rfl rfl rfl fun b5 => ?_
  refine o_alloc rfl rfl fun b6 => ?_
  refine o_nil ?_
  refine x_then (hK1 _ _ _ ?_)
  refine c_seqD fun _ hK2 => ?_
  refine c_region ?_
  refine o_callP (works_fn) rfl rfl rfl (fun w st => tb_in ho st (by repeat (first | exact List.mem_cons_self | apply List.mem_cons_of_mem | apply mem_assoc | apply mem_app))) (fun v17 hv17 => ?_)
  subst hv17
  refine o_step rfl (s_assign rfl) ?_
  refine o_nil ?_
  refine x_then (hK2 _ _ _ ?_)
  refine c_seqD fun _ hK3 => ?_
  refine c_region ?_
  refine o_step rfl (s_ldB rfl (RdPK.cels (.own (by repeat (first | exact List.mem_cons_self | apply List.mem_cons_of_mem | apply mem_assoc | apply mem_app)))) (by first | (rw [flat_len, Nat.mul_one]; first | assumption | exact List.length_replicate) | exact List.length_replicate | rfl)) ?_
  refine o_call (bytes_fn x1) rfl rfl rfl (by exact .nil) (fun _ _ => trivial) (fun v19 S19 ⟨a19, n19, hv19, hS19⟩ => ?_)
  subst hv19
  have hsl19 := hS19.sl
  refine o_alloc rfl rfl fun b8 => ?_
  refine o_store rfl rfl rfl (by repeat (first | exact .here | apply Upd.there | apply Upd.assoc | apply Upd.skip)) (by first | decide | omega | (simp; done) | (simp; omega)) rfl ?_
  refine o_nil ?_
  refine x_then (hK3 _ _ _ ?_)
  refine c_seqD fun _ hK4 => ?_
  refine c_region ?_
  refine o_step rfl (s_ldB rfl (RdPK.cels (.own (by repeat (first | exact List.mem_cons_self | apply List.mem_cons_of_mem | apply mem_assoc | apply mem_app)))) (by first | (rw [flat_len, Nat.mul_one]; first | assumption | exact List.length_replicate) | exact List.length_replicate | rfl)) ?_
  refine o_call (bytes_fn x2) rfl rfl rfl (by exact .nil) (fun _ _ => trivial) (fun v21 S21 ⟨a21, n21, hv21, hS21⟩ => ?_)
  subst hv21
  have hsl21 := hS21.sl
  refine o_alloc rfl rfl fun b9 => ?_
  refine o_store rfl rfl rfl (by repeat (first | exact .here | apply Upd.there | apply Upd.assoc | apply Upd.skip)) (by first | decide | omega | (simp; done) | (simp; omega)) rfl ?_
  refine o_nil ?_
  refine x_then (hK4 _ _ _ ?_)
  refine c_seqD fun _ hK5 => ?_
  refine c_region ?_
  refine o_step rfl (s_ldB rfl (RdPK.cels (.own (by repeat (first | exact List.mem_cons_self | apply List.mem_cons_of_mem | apply mem_assoc | apply mem_app)))) (by first | (rw [flat_len, Nat.mul_one]; first | assumption | exact List.length_replicate) | exact List.length_replicate | rfl)) ?_
  refine o_call (all_fn x1) rfl rfl rfl (by exact .nil) (fun _ _ => trivial) (fun v23 S23 ⟨b23, hv23, hS23⟩ => ?_)
  subst hv23
  subst hS23
  refine o_step rfl (s_assign rfl) ?_
  refine o_nil ?_
  refine x_then (hK5 _ _ _ ?_)
  refine c_seqD fun _ hK6 => ?_
  refine c_region ?_
  refine o_step rfl (s_ldB rfl (RdPK.cels (.own (by repeat (first | exact List.mem_cons_self | apply List.mem_cons_of_mem | apply mem_assoc | apply mem_app)))) (by first | (rw [flat_len, Nat.mul_one]; first | assumption | exact List.length_replicate) | exact List.length_replicate | rfl)) ?_
  refine o_call (all_fn x2) rfl rfl rfl (by exact .nil) (fun _ _ => trivial) (fun v25 S25 ⟨b25, hv25, hS25⟩ => ?_)
  subst hv25
  subst hS25
  refine o_alloc rfl rfl fun b11 => ?_
  refine o_store rfl rfl rfl (by repeat (first | exact .here | apply Upd.there | apply Upd.assoc | apply Upd.skip)) (by first | decide | omega | (simp; done) | (simp; omega)) rfl ?_
  refine o_nil ?_
  refine x_then (hK6 _ _ _ ?_)
  refine c_seqD fun _ hK7 => ?_
  refine c_seqD fun _ hK8 => ?_
  refine c_region ?_
  refine o_step rfl (s_move rfl) ?_
  refine o_step rfl (step_cast (v' := .bool false) (s_eql_nilf rfl rfl) rfl) ?_
  refine o_step rfl (s_move rfl) ?_
  refine o_yes rfl rfl ?_
  refine o_step rfl (s_ld rfl (.own (by repeat (first | exact List.mem_cons_self | apply List.mem_cons_of_mem | apply mem_assoc | apply mem_app)) rfl)) ?_
  refine o_yes rfl rfl ?_
  refine o_step rfl (step_cast (v' := .bool false) (s_eql_nilf rfl rfl) rfl) ?_
  refine o_step rfl (s_pick_f rfl rfl) ?_
  refine o_nil ?_
  refine x_then (hK8 _ _ _ ?_)
  refine c_false rfl ?_
  refine c_skip ?_
  refine x_then (hK7 _ _ _ ?_)
  refine c_seqD fun _ hK9 => ?_
  refine c_region ?_
  refine o_alloc rfl rfl fun b12 => ?_
  refine o_store rfl rfl rfl (by repeat (first | exact .here | apply Upd.there | apply Upd.assoc | apply Upd.skip)) (by first | decide | omega | (simp; done) | (simp; omega)) rfl ?_
  refine o_nil ?_
  refine x_then (hK9 _ _ _ ?_)
  refine c_seqD fun _ hK10 => ?_
  refine c_seqD fun _ hK11 => ?_
  refine c_region ?_
  refine o_step rfl (s_move rfl) ?_
  refine o_nil ?_
  refine x_then (hK11 _ _ _ ?_)
  refine c_block ?_
  refine c_range2 (α := Nat) (B0 := ((b12, .cells [.int .i64 ((0 : Nat))].toArray 3 (0, 0)) :: ((b11, .cells [.func (.func 37) [].toArray [.pointer (some ⟨b25, 0, none⟩)].toArray].toArray 28 (0, 0)) :: (b25, .cells (Ec x2).toArray 24 (0, 0)) :: (b9, .cells [.slice a21 (mems x2).length n21].toArray 26 (0, 0)) :: (S21 ++ ((b8, .cells [.slice a19 (mems x1).length n19].toArray 26 (0, 0)) :: (S19 ++ [(b6, .cells [.bool false].toArray 4 (0, 0)), (b5, .cells [.int .i64 (n)].toArray 3 (0, 0)), (b4, .cells (Ec x2).toArray 24 (0, 0)), (b3, .cells (Ec x1).toArray 24 (0, 0)), (0, o)])))))) (fun p B => B = ((b12, .cells [.int .i64 ((p.length : Nat))].toArray 3 (0, 0)) :: ((b11, .cells [.func (.func 37) [].toArray [.pointer (some ⟨b25, 0, none⟩)].toArray].toArray 28 (0, 0)) :: (b25, .cells (Ec x2).toArray 24 (0, 0)) :: (b9, .cells [.slice a21 (mems x2).length n21].toArray 26 (0, 0)) :: (S21 ++ ((b8, .cells [.slice a19 (mems x1).length n19].toArray 26 (0, 0)) :: (S19 ++ [(b6, .cells [.bool false].toArray 4 (0, 0)), (b5, .cells [.int .i64 (n)].toArray 3 (0, 0)), (b4, .cells (Ec x2).toArray 24 (0, 0)), (b3, .cells (Ec x1).toArray 24 (0, 0)), (0, o)])))))) (fun c p B => ∃ m : Nat, B = ((b12, .cells [.int .i64 ((m : Nat))].toArray 3 (0, 0)) :: ((b11, .cells [.func (.func 37) [].toArray [.pointer (some ⟨b25, 0, none⟩)].toArray].toArray 28 (0, 0)) :: (b25, .cells (Ec x2).toArray 24 (0, 0)) :: (b9, .cells [.slice a21 (mems x2).length n21].toArray 26 (0, 0)) :: (S21 ++ ((b8, .cells [.slice a19 (mems x1).length n19].toArray 26 (0, 0)) :: (S19 ++ [(b6, .cells [.bool false].toArray 4 (0, 0)), (b5, .cells [.int .i64 (n)].toArray 3 (0, 0)), (b4, .cells (Ec x2).toArray 24 (0, 0)), (b3, .cells (Ec x1).toArray 24 (0, 0)), (0, o)]))))) ∧ c = .exit 0 ∧ (m : Int) = n) rfl (all_it2 o ho b23 x1) ((Pick.takeC (by first | ((repeat (first | exact .one | exact .here | exact .all | apply Pick.cons | apply Pick.app)); done) | ((repeat (first | exact .one | exact .here | exact .all | apply Pick.cons | apply Pick.assoc | apply Pick.app)); done) | exact Pick.takeA (by repeat (first | exact .one | exact .here | exact .all | apply Pick.cons | apply Pick.assoc | apply Pick.app)) (by repeat (first | exact .one | exact .here | exact .all | apply Pick.cons | apply Pick.assoc | apply Pick.app))) (Pick.takeC (by first | ((repeat (first | exact .one | exact .here | exact .all | apply Pick.cons | apply Pick.app)); done) | ((repeat (first | exact .one | exact .here | exact .all | apply Pick.cons | apply Pick.assoc | apply Pick.app)); done) | exact Pick.takeA (by repeat (first | exact .one | exact .here | exact .all | apply Pick.cons | apply Pick.assoc | apply Pick.app)) (by repeat (first | exact .one | exact .here | exact .all | apply Pick.cons | apply Pick.assoc | apply Pick.app))) (Pick.takeC (by first | ((repeat (first | exact .one | exact .here | exact .all | apply Pick.cons | apply Pick.app)); done) | ((repeat (first | exact .one | exact .here | exact .all | apply Pick.cons | apply Pick.assoc | apply Pick.app)); done) | exact Pick.takeA (by repeat (first | exact .one | exact .here | exact .all | apply Pick.cons | apply Pick.assoc | apply Pick.app)) (by repeat (first | exact .one | exact .here | exact .all | apply Pick.cons | apply Pick.assoc | apply Pick.app))) (Pick.takeC (by first | ((repeat (first | exact .one | exact .here | exact .all | apply Pick.cons | apply Pick.app)); done) | ((repeat (first | exact .one | exact .here | exact .all | apply Pick.cons | apply Pick.assoc | apply Pick.app)); done) | exact Pick.takeA (by repeat (first | exact .one | exact .here | exact .all | apply Pick.cons | apply Pick.assoc | apply Pick.app)) (by repeat (first | exact .one | exact .here | exact .all | apply Pick.cons | apply Pick.assoc | apply Pick.app))) (Pick.takeC (by first | ((repeat (first | exact .one | exact .here | exact .all | apply Pick.cons | apply Pick.app)); done) | ((repeat (first | exact .one | exact .here | exact .all | apply Pick.cons | apply Pick.assoc | apply Pick.app)); done) | exact Pick.takeA (by repeat (first | exact .one | exact .here | exact .all | apply Pick.cons | apply Pick.assoc | apply Pick.app)) (by repeat (first | exact .one | exact .here | exact .all | apply Pick.cons | apply Pick.assoc | apply Pick.app))) (by first | ((repeat (first | exact .one | exact .here | exact .all | apply Pick.cons | apply Pick.app)); done) | ((repeat (first | exact .one | exact .here | exact .all | apply Pick.cons | apply Pick.assoc | apply Pick.app)); done) | exact Pick.takeA (by repeat (first | exact .one | exact .here | exact .all | apply Pick.cons | apply Pick.assoc | apply Pick.app)) (by repeat (first | exact .one | exact .here | exact .all | apply Pick.cons | apply Pick.assoc | apply Pick.app))))))))) ((fun q p B h => List.mem_cons_of_mem _ (by (first | subst h | (obtain ⟨rfl, _⟩ := h)); repeat (first | exact List.mem_cons_self | apply List.mem_cons_of_mem | apply mem_assoc | apply mem_app)))) rfl (by kernel_rfl) (fun _ => rfl) (by kernel_rfl) ?_ ?_ ?_
  · rintro l r p x B W er1 er2 rfl hx post hy hn
    have hxl : x < 256 := mems_lt hx
    have hpl := prefix_len hx
    obtain ⟨hlt, hget⟩ := prefix_get hx
    refine c_region ?_
    refine o_step rfl (s_assign rfl) ?_
    refine o_nil ?_
    refine x_then (x_beginI (by repeat (first | exact .here | apply Upd.there | apply Upd.assoc | apply Upd.skip)) ?_)
    refine ci_block ?_
    refine ci_seq fun _ hK12 => ?_
    refine ci_of (by kernel_rfl) ?_
    refine c_seqD fun _ hK13 => ?_
    refine c_region ?_
    refine o_step rfl (s_ld rfl (.own (by repeat (first | exact List.mem_cons_self | apply List.mem_cons_of_mem | apply mem_assoc | apply mem_app)) rfl)) ?_
    refine o_step rfl (s_ld rfl (.own (by repeat (first | exact List.mem_cons_self | apply List.mem_cons_of_mem | apply mem_assoc | apply mem_app)) rfl)) ?_
    refine o_step rfl (s_eql rfl rfl) ?_
    refine o_nil ?_
    refine x_then (hK13 _ _ _ ?_)
    refine c_if rfl (fun hle => ?_) (fun hle => ?_)
    · skip
      refine c_exit ?_
      refine x_then_exit ?_
      refine x_block_pass rfl ?_
      exact x_rexit (by repeat (first | exact .here | apply Upd.there | apply Upd.assoc | apply Upd.skip)) (hn _ _ ⟨p.length, rfl, rfl, hle⟩)
    · skip
      refine c_skip ?_
      refine x_then (hK12 _ _ ?_)
      refine ci_seq fun _ hK14 => ?_
      refine ci_of (by kernel_rfl) ?_
      refine c_seqD fun _ hK15 => ?_
      refine c_region ?_
      refine o_step rfl (s_ld rfl (.own (by repeat (first | exact List.mem_cons_self | apply List.mem_cons_of_mem | apply mem_assoc | apply mem_app)) rfl)) ?_
      refine o_step rfl (s_ld rfl (.own (by repeat (first | exact List.mem_cons_self | apply List.mem_cons_of_mem | apply mem_assoc | apply mem_app)) rfl)) ?_
      refine o_step rfl (s_len rfl) ?_
      refine o_step rfl (s_geq_f rfl rfl (by omega)) ?_
      refine o_step rfl (s_move rfl) ?_
      refine o_yes rfl rfl ?_
      refine o_step rfl (s_move rfl) ?_
      refine o_yes rfl rfl ?_
      refine o_step rfl (s_ld rfl (.own (by repeat (first | exact List.mem_cons_self | apply List.mem_cons_of_mem | apply mem_assoc | apply mem_app)) rfl)) ?_
      refine o_yes rfl rfl ?_
      refine o_step rfl (s_ld rfl (.own (by repeat (first | exact List.mem_cons_self | apply List.mem_cons_of_mem | apply mem_assoc | apply mem_app)) rfl)) ?_
      refine o_yes rfl rfl ?_
      refine o_step rfl (s_idx rfl rfl hsl19 (by omega)) ?_
      refine o_yes rfl rfl ?_
      refine o_step rfl (s_ld rfl ((hS19.rdk (by repeat (first | exact HIn.here | exact HIn.all | exact HIn.one | apply HIn.cons | apply HIn.assoc | apply HIn.app))).ld p.length 0 hget rfl (by decide) (by omega))) ?_
      refine o_yes rfl rfl ?_
      refine o_step rfl (s_neq_f rfl rfl rfl) ?_
      refine o_step rfl (s_pick_f rfl rfl) ?_
      refine o_nil ?_
      refine x_then (hK15 _ _ _ ?_)
      refine c_false rfl ?_
      refine c_skip ?_
      refine x_then (hK14 _ _ ?_)
      refine ci_seq fun _ hK16 => ?_
      refine ci_of (by kernel_rfl) ?_
      refine c_region ?_
      refine o_alloc rfl rfl fun b14 => ?_
      refine o_store rfl rfl rfl (by repeat (first | exact .here | apply Upd.there | apply Upd.assoc | apply Upd.skip)) (by first | decide | omega | (simp; done) | (simp; omega)) rfl ?_
      refine o_nil ?_
      refine x_then (hK16 _ _ ?_)
      refine ci_seq fun _ hK17 => ?_
      refine ci_seq fun _ hK18 => ?_
      refine ci_of (by kernel_rfl) ?_
      refine c_region ?_
      refine o_step rfl (s_ld rfl (.own (by repeat (first | exact List.mem_cons_self | apply List.mem_cons_of_mem | apply mem_assoc | apply mem_app)) rfl)) ?_
      refine o_nil ?_
      refine x_then (hK18 _ _ ?_)
      refine ci_block ?_
      refine ci_range2 (α := Nat) (B0 := ((b14, .cells [.int .i64 ((0 : Nat))].toArray 3 (0, 0)) :: (b9, .cells [.slice a21 (mems x2).length n21].toArray 26 (0, 0)) :: (0, o) :: S21)) (fun p B => B = ((b14, .cells [.int .i64 ((p.length : Nat))].toArray 3 (0, 0)) :: (b9, .cells [.slice a21 (mems x2).length n21].toArray 26 (0, 0)) :: (0, o) :: S21) ∧ p.length ≤ 4) (fun c p B => c = .exit 2 ∧ B = ((b14, .cells [.int .i64 ((4 : Nat))].toArray 3 (0, 0)) :: (b9, .cells [.slice a21 (mems x2).length n21].toArray 26 (0, 0)) :: (0, o) :: S21) ∧ 4 ≤ (mems x2).length) (by repeat (first | exact List.mem_cons_self | apply List.mem_cons_of_mem | apply mem_assoc | apply mem_app)) rfl (all_it2 o ho b25 x2) ((Pick.takeC (by first | ((repeat (first | exact .one | exact .here | exact .all | apply Pick.cons | apply Pick.app)); done) | ((repeat (first | exact .one | exact .here | exact .all | apply Pick.cons | apply Pick.assoc | apply Pick.app)); done) | exact Pick.takeA (by repeat (first | exact .one | exact .here | exact .all | apply Pick.cons | apply Pick.assoc | apply Pick.app)) (by repeat (first | exact .one | exact .here | exact .all | apply Pick.cons | apply Pick.assoc | apply Pick.app))) (Pick.takeC (by first | ((repeat (first | exact .one | exact .here | exact .all | apply Pick.cons | apply Pick.app)); done) | ((repeat (first | exact .one | exact .here | exact .all | apply Pick.cons | apply Pick.assoc | apply Pick.app)); done) | exact Pick.takeA (by repeat (first | exact .one | exact .here | exact .all | apply Pick.cons | apply Pick.assoc | apply Pick.app)) (by repeat (first | exact .one | exact .here | exact .all | apply Pick.cons | apply Pick.assoc | apply Pick.app))) (Pick.takeC (by first | ((repeat (first | exact .one | exact .here | exact .all | apply Pick.cons | apply Pick.app)); done) | ((repeat (first | exact .one | exact .here | exact .all | apply Pick.cons | apply Pick.assoc | apply Pick.app)); done) | exact Pick.takeA (by repeat (first | exact .one | exact .here | exact .all | apply Pick.cons | apply Pick.assoc | apply Pick.app)) (by repeat (first | exact .one | exact .here | exact .all | apply Pick.cons | apply Pick.assoc | apply Pick.app))) (Pick.takeC (by first | ((repeat (first | exact .one | exact .here | exact .all | apply Pick.cons | apply Pick.app)); done) | ((repeat (first | exact .one | exact .here | exact .all | apply Pick.cons | apply Pick.assoc | apply Pick.app)); done) | exact Pick.takeA (by repeat (first | exact .one | exact .here | exact .all | apply Pick.cons | apply Pick.assoc | apply Pick.app)) (by repeat (first | exact .one | exact .here | exact .all | apply Pick.cons | apply Pick.assoc | apply Pick.app))) (by first | ((repeat (first | exact .one | exact .here | exact .all | apply Pick.cons | apply Pick.app)); done) | ((repeat (first | exact .one | exact .here | exact .all | apply Pick.cons | apply Pick.assoc | apply Pick.app)); done) | exact Pick.takeA (by repeat (first | exact .one | exact .here | exact .all | apply Pick.cons | apply Pick.assoc | apply Pick.app)) (by repeat (first | exact .one | exact .here | exact .all | apply Pick.cons | apply Pick.assoc | apply Pick.app)))))))) ((fun q p B h => List.mem_cons_of_mem _ (by (first | subst h | (obtain ⟨rfl, _⟩ := h)); repeat (first | exact List.mem_cons_self | apply List.mem_cons_of_mem | apply mem_assoc | apply mem_app)))) ⟨rfl, by simp⟩ (by kernel_rfl) (fun _ => rfl) (by kernel_rfl) ?_ ?_ ?_
      · rintro l2 r2 q y B2 W2 er1 er2 ⟨rfl, hq4⟩ hx post hy hn
        have hyl : y < 256 := mems_lt hx
        have hql := prefix_len hx
        obtain ⟨hlty, hgety⟩ := prefix_get hx
        refine c_region ?_
        refine o_step rfl (s_assign rfl) ?_
        refine o_nil ?_
        refine x_then (x_begin (by repeat (first | exact .here | apply Upd.there | apply Upd.assoc | apply Upd.skip)) (by kernel_rfl) ?_)
        refine c_block ?_
        refine c_seqD fun _ hK19 => ?_
        refine c_seqD fun _ hK20 => ?_
        refine c_region ?_
        refine o_step rfl (s_ld rfl (.own (by repeat (first | exact List.mem_cons_self | apply List.mem_cons_of_mem | apply mem_assoc | apply mem_app)) rfl)) ?_
        refine o_step rfl (s_ld rfl (.own (by repeat (first | exact List.mem_cons_self | apply List.mem_cons_of_mem | apply mem_assoc | apply mem_app)) rfl)) ?_
        refine o_step rfl (s_len rfl) ?_
        refine o_step rfl (s_geq_f rfl rfl (by omega)) ?_
        refine o_step rfl (s_move rfl) ?_
        refine o_yes rfl rfl ?_
        refine o_step rfl (s_move rfl) ?_
        refine o_yes rfl rfl ?_
        refine o_step rfl (s_ld rfl (.own (by repeat (first | exact List.mem_cons_self | apply List.mem_cons_of_mem | apply mem_assoc | apply mem_app)) rfl)) ?_
        refine o_yes rfl rfl ?_
        refine o_step rfl (s_ld rfl (.own (by repeat (first | exact List.mem_cons_self | apply List.mem_cons_of_mem | apply mem_assoc | apply mem_app)) rfl)) ?_
        refine o_yes rfl rfl ?_
        refine o_step rfl (s_idx rfl rfl hsl21 (by omega)) ?_
        refine o_yes rfl rfl ?_
        refine o_step rfl (s_ld rfl ((hS21.rdk (by repeat (first | exact HIn.here | exact HIn.all | exact HIn.one | apply HIn.cons | apply HIn.assoc | apply HIn.app))).ld q.length 0 hgety rfl (by decide) (by omega))) ?_
        refine o_yes rfl rfl ?_
        refine o_step rfl (s_neq_f rfl rfl rfl) ?_
        refine o_step rfl (s_pick_f rfl rfl) ?_
        refine o_step rfl (s_move rfl) ?_
        refine o_yes rfl rfl ?_
        refine o_step rfl (s_ld rfl (.own (by repeat (first | exact List.mem_cons_self | apply List.mem_cons_of_mem | apply mem_assoc | apply mem_app)) rfl)) ?_
        refine o_yes rfl rfl ?_
        refine o_step rfl (s_gtr rfl rfl) ?_
        refine o_step rfl (s_pick_f rfl rfl) ?_
        refine o_nil ?_
        refine x_then (hK20 _ _ _ ?_)
        refine c_if rfl (fun hk3 => ?_) (fun hk3 => ?_)
        · skip
          refine c_exit ?_
          refine x_then_exit ?_
          refine x_block_pass rfl ?_
          have h4 : q.length = 4 := by omega
          exact x_rexit (by repeat (first | exact .here | apply Upd.there | apply Upd.assoc | apply Upd.skip)) (hn _ _ ⟨rfl, by rw [h4], by omega⟩)
        · skip
          refine c_skip ?_
          refine x_then (hK19 _ _ _ ?_)
          refine c_region ?_
          refine o_step rfl (s_ld rfl (.own (by repeat (first | exact List.mem_cons_self | apply List.mem_cons_of_mem | apply mem_assoc | apply mem_app)) rfl)) ?_
          refine o_step rfl (s_add rfl rfl (by omega)) ?_
          refine o_store rfl rfl rfl (by repeat (first | exact .here | apply Upd.there | apply Upd.assoc | apply Upd.skip)) (by first | decide | omega | (simp; done) | (simp; omega)) rfl ?_
          refine o_nil ?_
          refine x_block ?_
          exact x_rnormal (by repeat (first | exact .here | apply Upd.there | apply Upd.assoc | apply Upd.skip)) (hy _ ⟨by rw [List.length_append]; rfl, by rw [List.length_append]; show q.length + 1 ≤ 4; omega⟩)
      · rintro S1r B1 rfl ⟨rfl, hq4⟩
        refine x_block ?_
        refine x_then (hK17 _ _ ?_)
        refine ci_of (by kernel_rfl) ?_
        refine c_seqD fun _ hK21 => ?_
        refine c_seqD fun _ hK22 => ?_
        refine c_region ?_
        refine o_step rfl (s_ld rfl (.own (by repeat (first | exact List.mem_cons_self | apply List.mem_cons_of_mem | apply mem_assoc | apply mem_app)) rfl)) ?_
        refine o_step rfl (s_ld rfl (.own (by repeat (first | exact List.mem_cons_self | apply List.mem_cons_of_mem | apply mem_assoc | apply mem_app)) rfl)) ?_
        refine o_step rfl (s_len rfl) ?_
        refine o_step rfl (s_lss_f rfl rfl (by omega)) ?_
        refine o_step rfl (s_move rfl) ?_
        refine o_no rfl rfl rfl rfl ?_
        refine o_no rfl rfl rfl rfl ?_
        refine o_step rfl (s_pick_f rfl rfl) ?_
        refine o_nil ?_
        refine x_then (hK22 _ _ _ ?_)
        refine c_false rfl ?_
        refine c_skip ?_
        refine x_then (hK21 _ _ _ ?_)
        refine c_region ?_
        refine o_step rfl (s_ld rfl (.own (by repeat (first | exact List.mem_cons_self | apply List.mem_cons_of_mem | apply mem_assoc | apply mem_app)) rfl)) ?_
        refine o_step rfl (s_add rfl rfl (by omega)) ?_
        refine o_store rfl rfl rfl (by repeat (first | exact .here | apply Upd.there | apply Upd.assoc | apply Upd.skip)) (by first | decide | omega | (simp; done) | (simp; omega)) rfl ?_
        refine o_nil ?_
        refine x_block ?_
        refine x_sub (Sub.refl _) (H' := (l, .loop (recAt r .busy none)) :: ((b12, .cells [.int .i64 ((p.length : Nat) + 1)].toArray 3 (0, 0)) :: ((b11, .cells [.func (.func 37) [].toArray [.pointer (some ⟨b25, 0, none⟩)].toArray].toArray 28 (0, 0)) :: (b25, .cells (Ec x2).toArray 24 (0, 0)) :: (b9, .cells [.slice a21 (mems x2).length n21].toArray 26 (0, 0)) :: (S21 ++ ((b8, .cells [.slice a19 (mems x1).length n19].toArray 26 (0, 0)) :: (S19 ++ [(b6, .cells [.bool false].toArray 4 (0, 0)), (b5, .cells [.int .i64 (n)].toArray 3 (0, 0)), (b4, .cells (Ec x2).toArray 24 (0, 0)), (b3, .cells (Ec x1).toArray 24 (0, 0)), (0, o)])))))) (by repeat (first | exact HSub.refl _ | exact HSub.nil | refine HSub.takeC (by first | ((repeat (first | exact .one | exact .here | exact .all | apply Pick.cons | apply Pick.app)); done) | ((repeat (first | exact .one | exact .here | exact .all | apply Pick.cons | apply Pick.assoc | apply Pick.app)); done) | exact Pick.takeA (by repeat (first | exact .one | exact .here | exact .all | apply Pick.cons | apply Pick.assoc | apply Pick.app)) (by repeat (first | exact .one | exact .here | exact .all | apply Pick.cons | apply Pick.assoc | apply Pick.app))) ?_ | refine HSub.take (by first | ((repeat (first | exact .one | exact .here | exact .all | apply Pick.cons | apply Pick.app)); done) | ((repeat (first | exact .one | exact .here | exact .all | apply Pick.cons | apply Pick.assoc | apply Pick.app)); done) | exact Pick.takeA (by repeat (first | exact .one | exact .here | exact .all | apply Pick.cons | apply Pick.assoc | apply Pick.app)) (by repeat (first | exact .one | exact .here | exact .all | apply Pick.cons | apply Pick.assoc | apply Pick.app))) ?_ | exact HSub.of_pick (by first | ((repeat (first | exact .one | exact .here | exact .all | apply Pick.cons | apply Pick.app)); done) | ((repeat (first | exact .one | exact .here | exact .all | apply Pick.cons | apply Pick.assoc | apply Pick.app)); done) | exact Pick.takeA (by repeat (first | exact .one | exact .here | exact .all | apply Pick.cons | apply Pick.assoc | apply Pick.app)) (by repeat (first | exact .one | exact .here | exact .all | apply Pick.cons | apply Pick.assoc | apply Pick.app))))) ?_
        exact x_rnormal (by repeat (first | exact .here | apply Upd.there | apply Upd.assoc | apply Upd.skip)) (hy _ (by rw [List.length_append]; rfl))
      · rintro S1r c p3 B1 rfl hpx ⟨rfl, rfl, hl4⟩
        refine ci_exit ?_
        refine x_block_exit ?_
        refine x_then (hK17 _ _ ?_)
        refine ci_of (by kernel_rfl) ?_
        refine c_seqD fun _ hK23 => ?_
        refine c_seqD fun _ hK24 => ?_
        refine c_region ?_
        refine o_step rfl (s_ld rfl (.own (by repeat (first | exact List.mem_cons_self | apply List.mem_cons_of_mem | apply mem_assoc | apply mem_app)) rfl)) ?_
        refine o_step rfl (s_ld rfl (.own (by repeat (first | exact List.mem_cons_self | apply List.mem_cons_of_mem | apply mem_assoc | apply mem_app)) rfl)) ?_
        refine o_step rfl (s_len rfl) ?_
        by_cases hk7 : 4 < (mems x2).length
        · skip
          refine o_step rfl (step_cast (v' := .bool true) (s_lss rfl rfl) (congrArg Value.bool (decide_eq_true (by omega)))) ?_
          refine o_step rfl (s_move rfl) ?_
          refine o_yes rfl rfl ?_
          refine o_step rfl (s_ld rfl (.own (by repeat (first | exact List.mem_cons_self | apply List.mem_cons_of_mem | apply mem_assoc | apply mem_app)) rfl)) ?_
          refine o_yes rfl rfl ?_
          refine o_step rfl (s_lss_f rfl rfl (by decide)) ?_
          refine o_step rfl (s_pick_t rfl rfl) ?_
          refine o_nil ?_
          refine x_then (hK24 _ _ _ ?_)
          refine c_false rfl ?_
          refine c_skip ?_
          refine x_then (hK23 _ _ _ ?_)
          refine c_region ?_
          refine o_step rfl (s_ld rfl (.own (by repeat (first | exact List.mem_cons_self | apply List.mem_cons_of_mem | apply mem_assoc | apply mem_app)) rfl)) ?_
          refine o_step rfl (s_add rfl rfl (by omega)) ?_
          refine o_store rfl rfl rfl (by repeat (first | exact .here | apply Upd.there | apply Upd.assoc | apply Upd.skip)) (by first | decide | omega | (simp; done) | (simp; omega)) rfl ?_
          refine o_nil ?_
          refine x_block ?_
          refine x_sub (Sub.refl _) (H' := (l, .loop (recAt r .busy none)) :: ((b12, .cells [.int .i64 ((p.length : Nat) + 1)].toArray 3 (0, 0)) :: ((b11, .cells [.func (.func 37) [].toArray [.pointer (some ⟨b25, 0, none⟩)].toArray].toArray 28 (0, 0)) :: (b25, .cells (Ec x2).toArray 24 (0, 0)) :: (b9, .cells [.slice a21 (mems x2).length n21].toArray 26 (0, 0)) :: (S21 ++ ((b8, .cells [.slice a19 (mems x1).length n19].toArray 26 (0, 0)) :: (S19 ++ [(b6, .cells [.bool false].toArray 4 (0, 0)), (b5, .cells [.int .i64 (n)].toArray 3 (0, 0)), (b4, .cells (Ec x2).toArray 24 (0, 0)), (b3, .cells (Ec x1).toArray 24 (0, 0)), (0, o)])))))) (by repeat (first | exact HSub.refl _ | exact HSub.nil | refine HSub.takeC (by first | ((repeat (first | exact .one | exact .here | exact .all | apply Pick.cons | apply Pick.app)); done) | ((repeat (first | exact .one | exact .here | exact .all | apply Pick.cons | apply Pick.assoc | apply Pick.app)); done) | exact Pick.takeA (by repeat (first | exact .one | exact .here | exact .all | apply Pick.cons | apply Pick.assoc | apply Pick.app)) (by repeat (first | exact .one | exact .here | exact .all | apply Pick.cons | apply Pick.assoc | apply Pick.app))) ?_ | refine HSub.take (by first | ((repeat (first | exact .one | exact .here | exact .all | apply Pick.cons | apply Pick.app)); done) | ((repeat (first | exact .one | exact .here | exact .all | apply Pick.cons | apply Pick.assoc | apply Pick.app)); done) | exact Pick.takeA (by repeat (first | exact .one | exact .here | exact .all | apply Pick.cons | apply Pick.assoc | apply Pick.app)) (by repeat (first | exact .one | exact .here | exact .all | apply Pick.cons | apply Pick.assoc | apply Pick.app))) ?_ | exact HSub.of_pick (by first | ((repeat (first | exact .one | exact .here | exact .all | apply Pick.cons | apply Pick.app)); done) | ((repeat (first | exact .one | exact .here | exact .all | apply Pick.cons | apply Pick.assoc | apply Pick.app)); done) | exact Pick.takeA (by repeat (first | exact .one | exact .here | exact .all | apply Pick.cons | apply Pick.assoc | apply Pick.app)) (by repeat (first | exact .one | exact .here | exact .all | apply Pick.cons | apply Pick.assoc | apply Pick.app))))) ?_
          exact x_rnormal (by repeat (first | exact .here | apply Upd.there | apply Upd.assoc | apply Upd.skip)) (hy _ (by rw [List.length_append]; rfl))
        · skip
          refine o_step rfl (step_cast (v' := .bool false) (s_lss rfl rfl) (congrArg Value.bool (decide_eq_false (by omega)))) ?_
          refine o_step rfl (s_move rfl) ?_
          refine o_no rfl rfl rfl rfl ?_
          refine o_no rfl rfl rfl rfl ?_
          refine o_step rfl (s_pick_f rfl rfl) ?_
          refine o_nil ?_
          refine x_then (hK24 _ _ _ ?_)
          refine c_false rfl ?_
          refine c_skip ?_
          refine x_then (hK23 _ _ _ ?_)
          refine c_region ?_
          refine o_step rfl (s_ld rfl (.own (by repeat (first | exact List.mem_cons_self | apply List.mem_cons_of_mem | apply mem_assoc | apply mem_app)) rfl)) ?_
          refine o_step rfl (s_add rfl rfl (by omega)) ?_
          refine o_store rfl rfl rfl (by repeat (first | exact .here | apply Upd.there | apply Upd.assoc | apply Upd.skip)) (by first | decide | omega | (simp; done) | (simp; omega)) rfl ?_
          refine o_nil ?_
          refine x_block ?_
          refine x_sub (Sub.refl _) (H' := (l, .loop (recAt r .busy none)) :: ((b12, .cells [.int .i64 ((p.length : Nat) + 1)].toArray 3 (0, 0)) :: ((b11, .cells [.func (.func 37) [].toArray [.pointer (some ⟨b25, 0, none⟩)].toArray].toArray 28 (0, 0)) :: (b25, .cells (Ec x2).toArray 24 (0, 0)) :: (b9, .cells [.slice a21 (mems x2).length n21].toArray 26 (0, 0)) :: (S21 ++ ((b8, .cells [.slice a19 (mems x1).length n19].toArray 26 (0, 0)) :: (S19 ++ [(b6, .cells [.bool false].toArray 4 (0, 0)), (b5, .cells [.int .i64 (n)].toArray 3 (0, 0)), (b4, .cells (Ec x2).toArray 24 (0, 0)), (b3, .cells (Ec x1).toArray 24 (0, 0)), (0, o)])))))) (by repeat (first | exact HSub.refl _ | exact HSub.nil | refine HSub.takeC (by first | ((repeat (first | exact .one | exact .here | exact .all | apply Pick.cons | apply Pick.app)); done) | ((repeat (first | exact .one | exact .here | exact .all | apply Pick.cons | apply Pick.assoc | apply Pick.app)); done) | exact Pick.takeA (by repeat (first | exact .one | exact .here | exact .all | apply Pick.cons | apply Pick.assoc | apply Pick.app)) (by repeat (first | exact .one | exact .here | exact .all | apply Pick.cons | apply Pick.assoc | apply Pick.app))) ?_ | refine HSub.take (by first | ((repeat (first | exact .one | exact .here | exact .all | apply Pick.cons | apply Pick.app)); done) | ((repeat (first | exact .one | exact .here | exact .all | apply Pick.cons | apply Pick.assoc | apply Pick.app)); done) | exact Pick.takeA (by repeat (first | exact .one | exact .here | exact .all | apply Pick.cons | apply Pick.assoc | apply Pick.app)) (by repeat (first | exact .one | exact .here | exact .all | apply Pick.cons | apply Pick.assoc | apply Pick.app))) ?_ | exact HSub.of_pick (by first | ((repeat (first | exact .one | exact .here | exact .all | apply Pick.cons | apply Pick.app)); done) | ((repeat (first | exact .one | exact .here | exact .all | apply Pick.cons | apply Pick.assoc | apply Pick.app)); done) | exact Pick.takeA (by repeat (first | exact .one | exact .here | exact .all | apply Pick.cons | apply Pick.assoc | apply Pick.app)) (by repeat (first | exact .one | exact .here | exact .all | apply Pick.cons | apply Pick.assoc | apply Pick.app))))) ?_
          exact x_rnormal (by repeat (first | exact .here | apply Upd.there | apply Upd.assoc | apply Upd.skip)) (hy _ (by rw [List.length_append]; rfl))
  · rintro D0 S0r B0 rfl rfl
    refine x_block ?_
    refine x_then (hK10 _ _ _ ?_)
    refine c_seqD fun _ hK25 => ?_
    refine c_seqD fun _ hK26 => ?_
    refine c_region ?_
    refine o_step rfl (s_ld rfl (.own (by repeat (first | exact List.mem_cons_self | apply List.mem_cons_of_mem | apply mem_assoc | apply mem_app)) rfl)) ?_
    refine o_step rfl (s_ld rfl (.own (by repeat (first | exact List.mem_cons_self | apply List.mem_cons_of_mem | apply mem_assoc | apply mem_app)) rfl)) ?_
    by_cases hnl : ((mems x1).length : Int) ≠ n
    · skip
      refine o_step rfl (step_cast (v' := .bool true) (s_neq rfl rfl) (congrArg Value.bool (decide_eq_true hnl))) ?_
      refine o_step rfl (s_move rfl) ?_
      refine o_yes rfl rfl ?_
      refine o_step rfl (s_ld rfl (.own (by repeat (first | exact List.mem_cons_self | apply List.mem_cons_of_mem | apply mem_assoc | apply mem_app)) rfl)) ?_
      refine o_yes rfl rfl ?_
      refine o_step rfl (s_ld rfl (.own (by repeat (first | exact List.mem_cons_self | apply List.mem_cons_of_mem | apply mem_assoc | apply mem_app)) rfl)) ?_
      refine o_yes rfl rfl ?_
      refine o_step rfl (s_len rfl) ?_
      refine o_yes rfl rfl ?_
      refine o_step rfl (s_neq_f rfl rfl rfl) ?_
      refine o_step rfl (s_pick_t rfl rfl) ?_
      refine o_nil ?_
      refine x_then (hK26 _ _ _ ?_)
      refine c_false rfl ?_
      refine c_skip ?_
      refine x_then (hK25 _ _ _ ?_)
      refine c_seqD fun _ hK27 => ?_
      refine c_region ?_
      refine o_store rfl rfl rfl (by repeat (first | exact .here | apply Upd.there | apply Upd.assoc | apply Upd.skip)) (by first | decide | omega | (simp; done) | (simp; omega)) rfl ?_
      refine o_nil ?_
      refine x_then (hK27 _ _ _ ?_)
      refine c_seqD fun _ hK28 => ?_
      refine c_seqD fun _ hK29 => ?_
      refine c_region ?_
      refine o_step rfl (s_move rfl) ?_
      refine o_nil ?_
      refine x_then (hK29 _ _ _ ?_)
      refine c_block ?_
      refine c_range2 (α := Nat) (B0 := ((b12, .cells [.int .i64 ((0 : Nat))].toArray 3 (0, 0)) :: (b8, .cells [.slice a19 (mems x1).length n19].toArray 26 (0, 0)) :: (0, o) :: S19)) (fun p B => B = ((b12, .cells [.int .i64 ((p.length : Nat))].toArray 3 (0, 0)) :: (b8, .cells [.slice a19 (mems x1).length n19].toArray 26 (0, 0)) :: (0, o) :: S19)) (fun c p B => False) rfl (all_it2 o ho b23 x1) ((Pick.takeC (by first | ((repeat (first | exact .one | exact .here | exact .all | apply Pick.cons | apply Pick.app)); done) | ((repeat (first | exact .one | exact .here | exact .all | apply Pick.cons | apply Pick.assoc | apply Pick.app)); done) | exact Pick.takeA (by repeat (first | exact .one | exact .here | exact .all | apply Pick.cons | apply Pick.assoc | apply Pick.app)) (by repeat (first | exact .one | exact .here | exact .all | apply Pick.cons | apply Pick.assoc | apply Pick.app))) (Pick.takeC (by first | ((repeat (first | exact .one | exact .here | exact .all | apply Pick.cons | apply Pick.app)); done) | ((repeat (first | exact .one | exact .here | exact .all | apply Pick.cons | apply Pick.assoc | apply Pick.app)); done) | exact Pick.takeA (by repeat (first | exact .one | exact .here | exact .all | apply Pick.cons | apply Pick.assoc | apply Pick.app)) (by repeat (first | exact .one | exact .here | exact .all | apply Pick.cons | apply Pick.assoc | apply Pick.app))) (Pick.takeC (by first | ((repeat (first | exact .one | exact .here | exact .all | apply Pick.cons | apply Pick.app)); done) | ((repeat (first | exact .one | exact .here | exact .all | apply Pick.cons | apply Pick.assoc | apply Pick.app)); done) | exact Pick.takeA (by repeat (first | exact .one | exact .here | exact .all | apply Pick.cons | apply Pick.assoc | apply Pick.app)) (by repeat (first | exact .one | exact .here | exact .all | apply Pick.cons | apply Pick.assoc | apply Pick.app))) (Pick.takeC (by first | ((repeat (first | exact .one | exact .here | exact .all | apply Pick.cons | apply Pick.app)); done) | ((repeat (first | exact .one | exact .here | exact .all | apply Pick.cons | apply Pick.assoc | apply Pick.app)); done) | exact Pick.takeA (by repeat (first | exact .one | exact .here | exact .all | apply Pick.cons | apply Pick.assoc | apply Pick.app)) (by repeat (first | exact .one | exact .here | exact .all | apply Pick.cons | apply Pick.assoc | apply Pick.app))) (by first | ((repeat (first | exact .one | exact .here | exact .all | apply Pick.cons | apply Pick.app)); done) | ((repeat (first | exact .one | exact .here | exact .all | apply Pick.cons | apply Pick.assoc | apply Pick.app)); done) | exact Pick.takeA (by repeat (first | exact .one | exact .here | exact .all | apply Pick.cons | apply Pick.assoc | apply Pick.app)) (by repeat (first | exact .one | exact .here | exact .all | apply Pick.cons | apply Pick.assoc | apply Pick.app)))))))) ((fun q p B h => List.mem_cons_of_mem _ (by (first | subst h | (obtain ⟨rfl, _⟩ := h)); repeat (first | exact List.mem_cons_self | apply List.mem_cons_of_mem | apply mem_assoc | apply mem_app)))) rfl (by kernel_rfl) (fun _ => rfl) (by kernel_rfl) ?_ ?_ ?_
      · rintro l r p x B W er1 er2 rfl hx post hy hn
        have hxl : x < 256 := mems_lt hx
        have hpl := prefix_len hx
        obtain ⟨hlt, hget⟩ := prefix_get hx
        refine c_region ?_
        refine o_step rfl (s_assign rfl) ?_
        refine o_nil ?_
        refine x_then (x_begin (by repeat (first | exact .here | apply Upd.there | apply Upd.assoc | apply Upd.skip)) (by kernel_rfl) ?_)
        refine c_block ?_
        refine c_seqD fun _ hK30 => ?_
        refine c_seqD fun _ hK31 => ?_
        refine c_region ?_
        refine o_step rfl (s_ld rfl (.own (by repeat (first | exact List.mem_cons_self | apply List.mem_cons_of_mem | apply mem_assoc | apply mem_app)) rfl)) ?_
        refine o_step rfl (s_ld rfl (.own (by repeat (first | exact List.mem_cons_self | apply List.mem_cons_of_mem | apply mem_assoc | apply mem_app)) rfl)) ?_
        refine o_step rfl (s_len rfl) ?_
        refine o_step rfl (s_geq_f rfl rfl (by omega)) ?_
        refine o_step rfl (s_move rfl) ?_
        refine o_yes rfl rfl ?_
        refine o_step rfl (s_move rfl) ?_
        refine o_yes rfl rfl ?_
        refine o_step rfl (s_ld rfl (.own (by repeat (first | exact List.mem_cons_self | apply List.mem_cons_of_mem | apply mem_assoc | apply mem_app)) rfl)) ?_
        refine o_yes rfl rfl ?_
        refine o_step rfl (s_ld rfl (.own (by repeat (first | exact List.mem_cons_self | apply List.mem_cons_of_mem | apply mem_assoc | apply mem_app)) rfl)) ?_
        refine o_yes rfl rfl ?_
        refine o_step rfl (s_idx rfl rfl hsl19 (by omega)) ?_
        refine o_yes rfl rfl ?_
        refine o_step rfl (s_ld rfl ((hS19.rdk (by repeat (first | exact HIn.here | exact HIn.all | exact HIn.one | apply HIn.cons | apply HIn.assoc | apply HIn.app))).ld p.length 0 hget rfl (by decide) (by omega))) ?_
        refine o_yes rfl rfl ?_
        refine o_step rfl (s_neq_f rfl rfl rfl) ?_
        refine o_step rfl (s_pick_f rfl rfl) ?_
        refine o_nil ?_
        refine x_then (hK31 _ _ _ ?_)
        refine c_false rfl ?_
        refine c_skip ?_
        refine x_then (hK30 _ _ _ ?_)
        refine c_region ?_
        refine o_step rfl (s_ld rfl (.own (by repeat (first | exact List.mem_cons_self | apply List.mem_cons_of_mem | apply mem_assoc | apply mem_app)) rfl)) ?_
        refine o_step rfl (s_add rfl rfl (by omega)) ?_
        refine o_store rfl rfl rfl (by repeat (first | exact .here | apply Upd.there | apply Upd.assoc | apply Upd.skip)) (by first | decide | omega | (simp; done) | (simp; omega)) rfl ?_
        refine o_nil ?_
        refine x_block ?_
        exact x_rnormal (by repeat (first | exact .here | apply Upd.there | apply Upd.assoc | apply Upd.skip)) (hy _ (by rw [List.length_append]; rfl))
      · rintro D2 S2r B2 rfl rfl
        refine x_block ?_
        refine x_then (hK28 _ _ _ ?_)
        refine c_seqD fun _ hK32 => ?_
        refine c_region ?_
        refine o_step rfl (s_move rfl) ?_
        refine o_step rfl (s_move rfl) ?_
        refine o_yes rfl rfl ?_
        refine o_step rfl (s_ld rfl (.own (by repeat (first | exact List.mem_cons_self | apply List.mem_cons_of_mem | apply mem_assoc | apply mem_app)) rfl)) ?_
        refine o_yes rfl rfl ?_
        refine o_step rfl (s_ld rfl (.own (by repeat (first | exact List.mem_cons_self | apply List.mem_cons_of_mem | apply mem_assoc | apply mem_app)) rfl)) ?_
        refine o_yes rfl rfl ?_
        refine o_step rfl (s_len rfl) ?_
        refine o_yes rfl rfl ?_
        refine o_step rfl (step_cast (v' := .bool true) (s_eql rfl rfl) (congrArg Value.bool (decide_eq_true rfl))) ?_
        refine o_step rfl (s_pick_t rfl rfl) ?_
        refine o_store rfl rfl rfl (by repeat (first | exact .here | apply Upd.there | apply Upd.assoc | apply Upd.skip)) (by first | decide | omega | (simp; done) | (simp; omega)) rfl ?_
        refine o_nil ?_
        refine x_then (hK32 _ _ _ ?_)
        refine c_ret ?_
        refine ?_
        exact x_retM (.cons (.cons (.nil))) (Pick.takeC (by first | ((repeat (first | exact .one | exact .here | exact .all | apply Pick.cons | apply Pick.app)); done) | ((repeat (first | exact .one | exact .here | exact .all | apply Pick.cons | apply Pick.assoc | apply Pick.app)); done) | exact Pick.takeA (by repeat (first | exact .one | exact .here | exact .all | apply Pick.cons | apply Pick.assoc | apply Pick.app)) (by repeat (first | exact .one | exact .here | exact .all | apply Pick.cons | apply Pick.assoc | apply Pick.app))) (by first | ((repeat (first | exact .one | exact .here | exact .all | apply Pick.cons | apply Pick.app)); done) | ((repeat (first | exact .one | exact .here | exact .all | apply Pick.cons | apply Pick.assoc | apply Pick.app)); done) | exact Pick.takeA (by repeat (first | exact .one | exact .here | exact .all | apply Pick.cons | apply Pick.assoc | apply Pick.app)) (by repeat (first | exact .one | exact .here | exact .all | apply Pick.cons | apply Pick.assoc | apply Pick.app)))) rfl (.cell inferInstance rfl (.own (by repeat (first | exact List.mem_cons_self | apply List.mem_cons_of_mem | apply mem_assoc | apply mem_app)) rfl) (.nil)) (⟨rfl, by repeat (first | exact List.mem_cons_self | apply List.mem_cons_of_mem | apply mem_assoc | apply mem_app)⟩)
      · rintro D2 S2r c p B2 rfl hpx hX
        exact hX.elim
    · skip
      refine o_step rfl (step_cast (v' := .bool false) (s_neq rfl rfl) (congrArg Value.bool (decide_eq_false hnl))) ?_
      refine o_step rfl (s_move rfl) ?_
      refine o_no rfl rfl rfl rfl ?_
      refine o_no rfl rfl rfl rfl ?_
      refine o_no rfl rfl rfl rfl ?_
      refine o_no rfl rfl rfl rfl ?_
      refine o_step rfl (s_pick_f rfl rfl) ?_
      refine o_nil ?_
      refine x_then (hK26 _ _ _ ?_)
      refine c_false rfl ?_
      refine c_skip ?_
      refine x_then (hK25 _ _ _ ?_)
      refine c_seqD fun _ hK33 => ?_
      refine c_region ?_
      refine o_store rfl rfl rfl (by repeat (first | exact .here | apply Upd.there | apply Upd.assoc | apply Upd.skip)) (by first | decide | omega | (simp; done) | (simp; omega)) rfl ?_
      refine o_nil ?_
      refine x_then (hK33 _ _ _ ?_)
      refine c_seqD fun _ hK34 => ?_
      refine c_seqD fun _ hK35 => ?_
      refine c_region ?_
      refine o_step rfl (s_move rfl) ?_
      refine o_nil ?_
      refine x_then (hK35 _ _ _ ?_)
      refine c_block ?_
      refine c_range2 (α := Nat) (B0 := ((b12, .cells [.int .i64 ((0 : Nat))].toArray 3 (0, 0)) :: (b8, .cells [.slice a19 (mems x1).length n19].toArray 26 (0, 0)) :: (0, o) :: S19)) (fun p B => B = ((b12, .cells [.int .i64 ((p.length : Nat))].toArray 3 (0, 0)) :: (b8, .cells [.slice a19 (mems x1).length n19].toArray 26 (0, 0)) :: (0, o) :: S19)) (fun c p B => False) rfl (all_it2 o ho b23 x1) ((Pick.takeC (by first | ((repeat (first | exact .one | exact .here | exact .all | apply Pick.cons | apply Pick.app)); done) | ((repeat (first | exact .one | exact .here | exact .all | apply Pick.cons | apply Pick.assoc | apply Pick.app)); done) | exact Pick.takeA (by repeat (first | exact .one | exact .here | exact .all | apply Pick.cons | apply Pick.assoc | apply Pick.app)) (by repeat (first | exact .one | exact .here | exact .all | apply Pick.cons | apply Pick.assoc | apply Pick.app))) (Pick.takeC (by first | ((repeat (first | exact .one | exact .here | exact .all | apply Pick.cons | apply Pick.app)); done) | ((repeat (first | exact .one | exact .here | exact .all | apply Pick.cons | apply Pick.assoc | apply Pick.app)); done) | exact Pick.takeA (by repeat (first | exact .one | exact .here | exact .all | apply Pick.cons | apply Pick.assoc | apply Pick.app)) (by repeat (first | exact .one | exact .here | exact .all | apply Pick.cons | apply Pick.assoc | apply Pick.app))) (Pick.takeC (by first | ((repeat (first | exact .one | exact .here | exact .all | apply Pick.cons | apply Pick.app)); done) | ((repeat (first | exact .one | exact .here | exact .all | apply Pick.cons | apply Pick.assoc | apply Pick.app)); done) | exact Pick.takeA (by repeat (first | exact .one | exact .here | exact .all | apply Pick.cons | apply Pick.assoc | apply Pick.app)) (by repeat (first | exact .one | exact .here | exact .all | apply Pick.cons | apply Pick.assoc | apply Pick.app))) (Pick.takeC (by first | ((repeat (first | exact .one | exact .here | exact .all | apply Pick.cons | apply Pick.app)); done) | ((repeat (first | exact .one | exact .here | exact .all | apply Pick.cons | apply Pick.assoc | apply Pick.app)); done) | exact Pick.takeA (by repeat (first | exact .one | exact .here | exact .all | apply Pick.cons | apply Pick.assoc | apply Pick.app)) (by repeat (first | exact .one | exact .here | exact .all | apply Pick.cons | apply Pick.assoc | apply Pick.app))) (by first | ((repeat (first | exact .one | exact .here | exact .all | apply Pick.cons | apply Pick.app)); done) | ((repeat (first | exact .one | exact .here | exact .all | apply Pick.cons | apply Pick.assoc | apply Pick.app)); done) | exact Pick.takeA (by repeat (first | exact .one | exact .here | exact .all | apply Pick.cons | apply Pick.assoc | apply Pick.app)) (by repeat (first | exact .one | exact .here | exact .all | apply Pick.cons | apply Pick.assoc | apply Pick.app)))))))) ((fun q p B h => List.mem_cons_of_mem _ (by (first | subst h | (obtain ⟨rfl, _⟩ := h)); repeat (first | exact List.mem_cons_self | apply List.mem_cons_of_mem | apply mem_assoc | apply mem_app)))) rfl (by kernel_rfl) (fun _ => rfl) (by kernel_rfl) ?_ ?_ ?_
      · rintro l r p x B W er1 er2 rfl hx post hy hn
        have hxl : x < 256 := mems_lt hx
        have hpl := prefix_len hx
        obtain ⟨hlt, hget⟩ := prefix_get hx
        refine c_region ?_
        refine o_step rfl (s_assign rfl) ?_
        refine o_nil ?_
        refine x_then (x_begin (by repeat (first | exact .here | apply Upd.there | apply Upd.assoc | apply Upd.skip)) (by kernel_rfl) ?_)
        refine c_block ?_
        refine c_seqD fun _ hK36 => ?_
        refine c_seqD fun _ hK37 => ?_
        refine c_region ?_
        refine o_step rfl (s_ld rfl (.own (by repeat (first | exact List.mem_cons_self | apply List.mem_cons_of_mem | apply mem_assoc | apply mem_app)) rfl)) ?_
        refine o_step rfl (s_ld rfl (.own (by repeat (first | exact List.mem_cons_self | apply List.mem_cons_of_mem | apply mem_assoc | apply mem_app)) rfl)) ?_
        refine o_step rfl (s_len rfl) ?_
        refine o_step rfl (s_geq_f rfl rfl (by omega)) ?_
        refine o_step rfl (s_move rfl) ?_
        refine o_yes rfl rfl ?_
        refine o_step rfl (s_move rfl) ?_
        refine o_yes rfl rfl ?_
        refine o_step rfl (s_ld rfl (.own (by repeat (first | exact List.mem_cons_self | apply List.mem_cons_of_mem | apply mem_assoc | apply mem_app)) rfl)) ?_
        refine o_yes rfl rfl ?_
        refine o_step rfl (s_ld rfl (.own (by repeat (first | exact List.mem_cons_self | apply List.mem_cons_of_mem | apply mem_assoc | apply mem_app)) rfl)) ?_
        refine o_yes rfl rfl ?_
        refine o_step rfl (s_idx rfl rfl hsl19 (by omega)) ?_
        refine o_yes rfl rfl ?_
        refine o_step rfl (s_ld rfl ((hS19.rdk (by repeat (first | exact HIn.here | exact HIn.all | exact HIn.one | apply HIn.cons | apply HIn.assoc | apply HIn.app))).ld p.length 0 hget rfl (by decide) (by omega))) ?_
        refine o_yes rfl rfl ?_
        refine o_step rfl (s_neq_f rfl rfl rfl) ?_
        refine o_step rfl (s_pick_f rfl rfl) ?_
        refine o_nil ?_
        refine x_then (hK37 _ _ _ ?_)
        refine c_false rfl ?_
        refine c_skip ?_
        refine x_then (hK36 _ _ _ ?_)
        refine c_region ?_
        refine o_step rfl (s_ld rfl (.own (by repeat (first | exact List.mem_cons_self | apply List.mem_cons_of_mem | apply mem_assoc | apply mem_app)) rfl)) ?_
        refine o_step rfl (s_add rfl rfl (by omega)) ?_
        refine o_store rfl rfl rfl (by repeat (first | exact .here | apply Upd.there | apply Upd.assoc | apply Upd.skip)) (by first | decide | omega | (simp; done) | (simp; omega)) rfl ?_
        refine o_nil ?_
        refine x_block ?_
        exact x_rnormal (by repeat (first | exact .here | apply Upd.there | apply Upd.assoc | apply Upd.skip)) (hy _ (by rw [List.length_append]; rfl))
      · rintro D2 S2r B2 rfl rfl
        refine x_block ?_
        refine x_then (hK34 _ _ _ ?_)
        refine c_seqD fun _ hK38 => ?_
        refine c_region ?_
        refine o_step rfl (s_move rfl) ?_
        refine o_step rfl (s_move rfl) ?_
        refine o_yes rfl rfl ?_
        refine o_step rfl (s_ld rfl (.own (by repeat (first | exact List.mem_cons_self | apply List.mem_cons_of_mem | apply mem_assoc | apply mem_app)) rfl)) ?_
        refine o_yes rfl rfl ?_
        refine o_step rfl (s_ld rfl (.own (by repeat (first | exact List.mem_cons_self | apply List.mem_cons_of_mem | apply mem_assoc | apply mem_app)) rfl)) ?_
        refine o_yes rfl rfl ?_
        refine o_step rfl (s_len rfl) ?_
        refine o_yes rfl rfl ?_
        refine o_step rfl (step_cast (v' := .bool true) (s_eql rfl rfl) (congrArg Value.bool (decide_eq_true rfl))) ?_
        refine o_step rfl (s_pick_t rfl rfl) ?_
        refine o_store rfl rfl rfl (by repeat (first | exact .here | apply Upd.there | apply Upd.assoc | apply Upd.skip)) (by first | decide | omega | (simp; done) | (simp; omega)) rfl ?_
        refine o_nil ?_
        refine x_then (hK38 _ _ _ ?_)
        refine c_ret ?_
        refine ?_
        exact x_retM (.cons (.cons (.nil))) (Pick.takeC (by first | ((repeat (first | exact .one | exact .here | exact .all | apply Pick.cons | apply Pick.app)); done) | ((repeat (first | exact .one | exact .here | exact .all | apply Pick.cons | apply Pick.assoc | apply Pick.app)); done) | exact Pick.takeA (by repeat (first | exact .one | exact .here | exact .all | apply Pick.cons | apply Pick.assoc | apply Pick.app)) (by repeat (first | exact .one | exact .here | exact .all | apply Pick.cons | apply Pick.assoc | apply Pick.app))) (by first | ((repeat (first | exact .one | exact .here | exact .all | apply Pick.cons | apply Pick.app)); done) | ((repeat (first | exact .one | exact .here | exact .all | apply Pick.cons | apply Pick.assoc | apply Pick.app)); done) | exact Pick.takeA (by repeat (first | exact .one | exact .here | exact .all | apply Pick.cons | apply Pick.assoc | apply Pick.app)) (by repeat (first | exact .one | exact .here | exact .all | apply Pick.cons | apply Pick.assoc | apply Pick.app)))) rfl (.cell inferInstance rfl (.own (by repeat (first | exact List.mem_cons_self | apply List.mem_cons_of_mem | apply mem_assoc | apply mem_app)) rfl) (.nil)) (⟨rfl, by repeat (first | exact List.mem_cons_self | apply List.mem_cons_of_mem | apply mem_assoc | apply mem_app)⟩)
      · rintro D2 S2r c p B2 rfl hpx hX
        exact hX.elim
  · rintro D0 S0r c p B0 rfl hpx ⟨m, rfl, rfl, hmn⟩
    refine c_exit ?_
    refine x_block_exit ?_
    refine x_then (hK10 _ _ _ ?_)
    refine c_seqD fun _ hK39 => ?_
    refine c_seqD fun _ hK40 => ?_
    refine c_region ?_
    refine o_step rfl (s_ld rfl (.own (by repeat (first | exact List.mem_cons_self | apply List.mem_cons_of_mem | apply mem_assoc | apply mem_app)) rfl)) ?_
    refine o_step rfl (s_ld rfl (.own (by repeat (first | exact List.mem_cons_self | apply List.mem_cons_of_mem | apply mem_assoc | apply mem_app)) rfl)) ?_
    refine o_step rfl (s_neq_f rfl rfl hmn) ?_
    refine o_step rfl (s_move rfl) ?_
    refine o_no rfl rfl rfl rfl ?_
    refine o_no rfl rfl rfl rfl ?_
    refine o_no rfl rfl rfl rfl ?_
    refine o_no rfl rfl rfl rfl ?_
    refine o_step rfl (s_pick_f rfl rfl) ?_
    refine o_nil ?_
    refine x_then (hK40 _ _ _ ?_)
    refine c_false rfl ?_
    refine c_skip ?_
    refine x_then (hK39 _ _ _ ?_)
    refine c_seqD fun _ hK41 => ?_
    refine c_region ?_
    refine o_store rfl rfl rfl (by repeat (first | exact .here | apply Upd.there | apply Upd.assoc | apply Upd.skip)) (by first | decide | omega | (simp; done) | (simp; omega)) rfl ?_
    refine o_nil ?_
    refine x_then (hK41 _ _ _ ?_)
    refine c_seqD fun _ hK42 => ?_
    refine c_seqD fun _ hK43 => ?_
    refine c_region ?_
    refine o_step rfl (s_move rfl) ?_
    refine o_nil ?_
    refine x_then (hK43 _ _ _ ?_)
    refine c_block ?_
    refine c_range2 (α := Nat) (B0 := ((b12, .cells [.int .i64 ((0 : Nat))].toArray 3 (0, 0)) :: (b8, .cells [.slice a19 (mems x1).length n19].toArray 26 (0, 0)) :: (0, o) :: S19)) (fun p B => B = ((b12, .cells [.int .i64 ((p.length : Nat))].toArray 3 (0, 0)) :: (b8, .cells [.slice a19 (mems x1).length n19].toArray 26 (0, 0)) :: (0, o) :: S19)) (fun c p B => False) rfl (all_it2 o ho b23 x1) ((Pick.takeC (by first | ((repeat (first | exact .one | exact .here | exact .all | apply Pick.cons | apply Pick.app)); done) | ((repeat (first | exact .one | exact .here | exact .all | apply Pick.cons | apply Pick.assoc | apply Pick.app)); done) | exact Pick.takeA (by repeat (first | exact .one | exact .here | exact .all | apply Pick.cons | apply Pick.assoc | apply Pick.app)) (by repeat (first | exact .one | exact .here | exact .all | apply Pick.cons | apply Pick.assoc | apply Pick.app))) (Pick.takeC (by first | ((repeat (first | exact .one | exact .here | exact .all | apply Pick.cons | apply Pick.app)); done) | ((repeat (first | exact .one | exact .here | exact .all | apply Pick.cons | apply Pick.assoc | apply Pick.app)); done) | exact Pick.takeA (by repeat (first | exact .one | exact .here | exact .all | apply Pick.cons | apply Pick.assoc | apply Pick.app)) (by repeat (first | exact .one | exact .here | exact .all | apply Pick.cons | apply Pick.assoc | apply Pick.app))) (Pick.takeC (by first | ((repeat (first | exact .one | exact .here | exact .all | apply Pick.cons | apply Pick.app)); done) | ((repeat (first | exact .one | exact .here | exact .all | apply Pick.cons | apply Pick.assoc | apply Pick.app)); done) | exact Pick.takeA (by repeat (first | exact .one | exact .here | exact .all | apply Pick.cons | apply Pick.assoc | apply Pick.app)) (by repeat (first | exact .one | exact .here | exact .all | apply Pick.cons | apply Pick.assoc | apply Pick.app))) (Pick.takeC (by first | ((repeat (first | exact .one | exact .here | exact .all | apply Pick.cons | apply Pick.app)); done) | ((repeat (first | exact .one | exact .here | exact .all | apply Pick.cons | apply Pick.assoc | apply Pick.app)); done) | exact Pick.takeA (by repeat (first | exact .one | exact .here | exact .all | apply Pick.cons | apply Pick.assoc | apply Pick.app)) (by repeat (first | exact .one | exact .here | exact .all | apply Pick.cons | apply Pick.assoc | apply Pick.app))) (by first | ((repeat (first | exact .one | exact .here | exact .all | apply Pick.cons | apply Pick.app)); done) | ((repeat (first | exact .one | exact .here | exact .all | apply Pick.cons | apply Pick.assoc | apply Pick.app)); done) | exact Pick.takeA (by repeat (first | exact .one | exact .here | exact .all | apply Pick.cons | apply Pick.assoc | apply Pick.app)) (by repeat (first | exact .one | exact .here | exact .all | apply Pick.cons | apply Pick.assoc | apply Pick.app)))))))) ((fun q p B h => List.mem_cons_of_mem _ (by (first | subst h | (obtain ⟨rfl, _⟩ := h)); repeat (first | exact List.mem_cons_self | apply List.mem_cons_of_mem | apply mem_assoc | apply mem_app)))) rfl (by kernel_rfl) (fun _ => rfl) (by kernel_rfl) ?_ ?_ ?_
    · rintro l r p x B W er1 er2 rfl hx post hy hn
      have hxl : x < 256 := mems_lt hx
      have hpl := prefix_len hx
      obtain ⟨hlt, hget⟩ := prefix_get hx
      refine c_region ?_
      refine o_step rfl (s_assign rfl) ?_
      refine o_nil ?_
      refine x_then (x_begin (by repeat (first | exact .here | apply Upd.there | apply Upd.assoc | apply Upd.skip)) (by kernel_rfl) ?_)
      refine c_block ?_
      refine c_seqD fun _ hK44 => ?_
      refine c_seqD fun _ hK45 => ?_
      refine c_region ?_
      refine o_step rfl (s_ld rfl (.own (by repeat (first | exact List.mem_cons_self | apply List.mem_cons_of_mem | apply mem_assoc | apply mem_app)) rfl)) ?_
      refine o_step rfl (s_ld rfl (.own (by repeat (first | exact List.mem_cons_self | apply List.mem_cons_of_mem | apply mem_assoc | apply mem_app)) rfl)) ?_
      refine o_step rfl (s_len rfl) ?_
      refine o_step rfl (s_geq_f rfl rfl (by omega)) ?_
      refine o_step rfl (s_move rfl) ?_
      refine o_yes rfl rfl ?_
      refine o_step rfl (s_move rfl) ?_
      refine o_yes rfl rfl ?_
      refine o_step rfl (s_ld rfl (.own (by repeat (first | exact List.mem_cons_self | apply List.mem_cons_of_mem | apply mem_assoc | apply mem_app)) rfl)) ?_
      refine o_yes rfl rfl ?_
      refine o_step rfl (s_ld rfl (.own (by repeat (first | exact List.mem_cons_self | apply List.mem_cons_of_mem | apply mem_assoc | apply mem_app)) rfl)) ?_
      refine o_yes rfl rfl ?_
      refine o_step rfl (s_idx rfl rfl hsl19 (by omega)) ?_
      refine o_yes rfl rfl ?_
      refine o_step rfl (s_ld rfl ((hS19.rdk (by repeat (first | exact HIn.here | exact HIn.all | exact HIn.one | apply HIn.cons | apply HIn.assoc | apply HIn.app))).ld p.length 0 hget rfl (by decide) (by omega))) ?_
      refine o_yes rfl rfl ?_
      refine o_step rfl (s_neq_f rfl rfl rfl) ?_
      refine o_step rfl (s_pick_f rfl rfl) ?_
      refine o_nil ?_
      refine x_then (hK45 _ _ _ ?_)
      refine c_false rfl ?_
      refine c_skip ?_
      refine x_then (hK44 _ _ _ ?_)
      refine c_region ?_
      refine o_step rfl (s_ld rfl (.own (by repeat (first | exact List.mem_cons_self | apply List.mem_cons_of_mem | apply mem_assoc | apply mem_app)) rfl)) ?_
      refine o_step rfl (s_add rfl rfl (by omega)) ?_
      refine o_store rfl rfl rfl (by repeat (first | exact .here | apply Upd.there | apply Upd.assoc | apply Upd.skip)) (by first | decide | omega | (simp; done) | (simp; omega)) rfl ?_
      refine o_nil ?_
      refine x_block ?_
      exact x_rnormal (by repeat (first | exact .here | apply Upd.there | apply Upd.assoc | apply Upd.skip)) (hy _ (by rw [List.length_append]; rfl))
    · rintro D2 S2r B2 rfl rfl
      refine x_block ?_
      refine x_then (hK42 _ _ _ ?_)
      refine c_seqD fun _ hK46 => ?_
      refine c_region ?_
      refine o_step rfl (s_move rfl) ?_
      refine o_step rfl (s_move rfl) ?_
      refine o_yes rfl rfl ?_
      refine o_step rfl (s_ld rfl (.own (by repeat (first | exact List.mem_cons_self | apply List.mem_cons_of_mem | apply mem_assoc | apply mem_app)) rfl)) ?_
      refine o_yes rfl rfl ?_
      refine o_step rfl (s_ld rfl (.own (by repeat (first | exact List.mem_cons_self | apply List.mem_cons_of_mem | apply mem_assoc | apply mem_app)) rfl)) ?_
      refine o_yes rfl rfl ?_
      refine o_step rfl (s_len rfl) ?_
      refine o_yes rfl rfl ?_
      refine o_step rfl (step_cast (v' := .bool true) (s_eql rfl rfl) (congrArg Value.bool (decide_eq_true rfl))) ?_
      refine o_step rfl (s_pick_t rfl rfl) ?_
      refine o_store rfl rfl rfl (by repeat (first | exact .here | apply Upd.there | apply Upd.assoc | apply Upd.skip)) (by first | decide | omega | (simp; done) | (simp; omega)) rfl ?_
      refine o_nil ?_
      refine x_then (hK46 _ _ _ ?_)
      refine c_ret ?_
      refine ?_
      exact x_retM (.cons (.cons (.nil))) (Pick.takeC (by first | ((repeat (first | exact .one | exact .here | exact .all | apply Pick.cons | apply Pick.app)); done) | ((repeat (first | exact .one | exact .here | exact .all | apply Pick.cons | apply Pick.assoc | apply Pick.app)); done) | exact Pick.takeA (by repeat (first | exact .one | exact .here | exact .all | apply Pick.cons | apply Pick.assoc | apply Pick.app)) (by repeat (first | exact .one | exact .here | exact .all | apply Pick.cons | apply Pick.assoc | apply Pick.app))) (by first | ((repeat (first | exact .one | exact .here | exact .all | apply Pick.cons | apply Pick.app)); done) | ((repeat (first | exact .one | exact .here | exact .all | apply Pick.cons | apply Pick.assoc | apply Pick.app)); done) | exact Pick.takeA (by repeat (first | exact .one | exact .here | exact .all | apply Pick.cons | apply Pick.assoc | apply Pick.app)) (by repeat (first | exact .one | exact .here | exact .all | apply Pick.cons | apply Pick.assoc | apply Pick.app)))) rfl (.cell inferInstance rfl (.own (by repeat (first | exact List.mem_cons_self | apply List.mem_cons_of_mem | apply mem_assoc | apply mem_app)) rfl) (.nil)) (⟨rfl, by repeat (first | exact List.mem_cons_self | apply List.mem_cons_of_mem | apply mem_assoc | apply mem_app)⟩)
    · rintro D2 S2r c p B2 rfl hpx hX
      exact hX.elim
end Go.Proofs.YtnjjkkncoijmmaaDoor
