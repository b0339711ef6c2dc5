/- Part of the proofs over this seat: see the text that holds the theorem. Conditions: each theorem bears its own. -/
import Derived.Test.YthbnkifjplbhgaaW2
namespace Go.Proofs.Ythbnkifjplbhgaa
open Go Go.HL Go.Proofs Go.Tab
theorem then_fn (b1 o1 b2 o2 : Nat) (t u : List UInt8) (ht : t.length = 256) (hu : u.length = 256) : HL.Fn Try.prog 32 [.pointer (some ⟨b1, o1, none⟩), .pointer (some ⟨b2, o2, none⟩)] (fun w => RdP w b1 o1 (flat Eb t) ∧ RdP w b2 o2 (flat Eb u)) [] (fun v _ => v = .agg (flat Eb (thenT t u)).toArray) := by
  refine fn_of Try.func32 rfl rfl rfl fun w0 hw => ?_
  obtain ⟨h1, h2⟩ := hw
  refine c_seq fun _ hK1 => ?_
  refine c_region ?_
  refine o_alloc rfl rfl fun b4 => ?_
  refine o_nil ?_
  refine x_then (hK1 _ _ ?_)
  refine c_seq fun _ hK2 => ?_
  refine c_region ?_
  refine o_alloc rfl rfl fun b5 => ?_
  refine o_nil ?_
  refine x_then (hK2 _ _ ?_)
  refine c_seq fun _ hK3 => ?_
  refine c_seq fun _ hK4 => ?_
  refine c_region ?_
  refine o_step rfl (s_move rfl) ?_
  refine o_step rfl (step_cast (v' := .bool false) (s_eql_nilp rfl rfl) rfl) ?_
  refine o_step rfl (s_move rfl) ?_
  refine o_yes rfl rfl ?_
  refine o_step rfl (s_move rfl) ?_
  refine o_yes rfl rfl ?_
  refine o_step rfl (step_cast (v' := .bool false) (s_eql_nilp rfl rfl) rfl) ?_
  refine o_step rfl (s_pick_f rfl rfl) ?_
  refine o_nil ?_
  refine x_then (hK4 _ _ ?_)
  refine c_false rfl ?_
  refine c_skip ?_
  refine x_then (hK3 _ _ ?_)
  refine c_seq fun _ hK5 => ?_
  refine c_seq fun _ hK6 => ?_
  refine c_region ?_
  refine o_step rfl (s_move rfl) ?_
  refine o_nil ?_
  refine x_then (hK6 _ _ ?_)
  refine c_block ?_
  refine c_loop2 (fun (j : Nat) (l : List UInt8) => j ≤ 256 ∧ Fill (fun i => at0 u (at0 t i).toNat) 256 j l) (fun (j : Nat) (l : List UInt8) => [(14, .int .i64 j)]) [(0, _), (1, _), (4, _), (5, _)] (fun (j : Nat) (l : List UInt8) => [(b5, .cells (flat Eb l).toArray 62 (0, 0)), (b4, .cells (List.replicate 256 (.int .u8 0)).toArray 62 (0, 0))]) (fun (j : Nat) (l : List UInt8) => 256 - j) 0 zT ⟨by omega, .zero zT_len⟩ (by repeat (first | exact Sub.nil | refine Sub.cons rfl ?_)) (by repeat (first | exact Sub.nil | refine Sub.cons rfl ?_)) (by rw [zT, flatEb_zeros]; exact HSub.refl _) ?_
  rintro j l ⟨hj, hl⟩
  have hll := hl.len
  refine c_seq fun _ hK7 => ?_
  refine c_region ?_
  refine o_step rfl (s_lss rfl rfl) ?_
  refine o_nil ?_
  refine x_then (hK7 _ _ ?_)
  refine c_seq fun _ hK8 => ?_
  refine c_if rfl (fun hlt => ?_) (fun hlt => ?_)
  · skip
    have hb := byte_lt (at0 t j)
    refine c_skip ?_
    refine x_then (hK8 _ _ ?_)
    refine c_seq fun _ hK9 => ?_
    refine c_block ?_
    refine c_seq fun _ hK10 => ?_
    refine c_region ?_
    refine o_step rfl (s_move rfl) ?_
    refine o_step rfl (s_assign rfl) ?_
    refine o_nil ?_
    refine x_then (hK10 _ _ ?_)
    refine c_tail 10 (by kernel_rfl) ?_
    refine .op rfl (s_move rfl) ?_
    refine .op rfl (s_move rfl) ?_
    refine .op rfl (s_move rfl) ?_
    refine .op rfl (s_move rfl) ?_
    refine .op rfl (s_nil rfl) ?_
    refine .op rfl (s_indexA rfl rfl (by omega)) ?_
    refine .op rfl (s_ld rfl ((RdPK.old0 h1).cel (j := j) (flatEb_get (at0_get (by omega))) (by omega))) ?_
    refine .op rfl (s_nil rfl) ?_
    refine .op rfl (s_indexA rfl rfl (by omega)) ?_
    refine .op rfl (s_ld rfl ((RdPK.old0 h2).cel (j := (at0 t j).toNat) (flatEb_get (at0_get (by omega))) (by omega))) ?_
    refine .nil ?_
    refine o_step rfl (s_indexA rfl rfl (by omega)) ?_
    refine o_stB (l := l) (i := j) (at0 u (at0 t j).toNat) rfl rfl (by omega) (by omega) (by repeat (first | exact .here | apply Upd.there | apply Upd.assoc | apply Upd.skip)) ?_
    refine o_nil ?_
    refine x_block ?_
    refine x_then (hK9 _ _ ?_)
    refine c_region ?_
    refine o_step rfl (s_add rfl rfl (by omega)) ?_
    refine o_step rfl (s_move rfl) ?_
    refine o_nil ?_
    exact x_then (x_inv (j + 1, _) ⟨by omega, hl.step (by omega) rfl⟩ (by first | omega | (dsimp only; omega)) (by repeat (first | exact Sub.nil | refine Sub.cons rfl ?_)) (by repeat (first | exact HSub.refl _ | exact HSub.nil | refine HSub.takeC (by first | ((repeat (first | exact .one | exact .here | exact .all | apply Pick.cons | apply Pick.app)); done) | ((repeat (first | exact .one | exact .here | exact .all | apply Pick.cons | apply Pick.assoc | apply Pick.app)); done) | exact Pick.takeA (by repeat (first | exact .one | exact .here | exact .all | apply Pick.cons | apply Pick.assoc | apply Pick.app)) (by repeat (first | exact .one | exact .here | exact .all | apply Pick.cons | apply Pick.assoc | apply Pick.app))) ?_ | refine HSub.take (by first | ((repeat (first | exact .one | exact .here | exact .all | apply Pick.cons | apply Pick.app)); done) | ((repeat (first | exact .one | exact .here | exact .all | apply Pick.cons | apply Pick.assoc | apply Pick.app)); done) | exact Pick.takeA (by repeat (first | exact .one | exact .here | exact .all | apply Pick.cons | apply Pick.assoc | apply Pick.app)) (by repeat (first | exact .one | exact .here | exact .all | apply Pick.cons | apply Pick.assoc | apply Pick.app))) ?_ | exact HSub.of_pick (by first | ((repeat (first | exact .one | exact .here | exact .all | apply Pick.cons | apply Pick.app)); done) | ((repeat (first | exact .one | exact .here | exact .all | apply Pick.cons | apply Pick.assoc | apply Pick.app)); done) | exact Pick.takeA (by repeat (first | exact .one | exact .here | exact .all | apply Pick.cons | apply Pick.assoc | apply Pick.app)) (by repeat (first | exact .one | exact .here | exact .all | apply Pick.cons | apply Pick.assoc | apply Pick.app))))))
  · skip
    have hd := fill_then hl (by omega)
    subst hd
    refine c_exit ?_
    refine x_then_exit ?_
    refine x_then_exit ?_
    refine x_block_exit ?_
    refine x_then (hK5 _ _ ?_)
    refine c_seq fun _ hK11 => ?_
    refine c_region ?_
    refine o_step rfl (s_ldB rfl (RdPK.cels (.own (by repeat (first | exact List.mem_cons_self | apply List.mem_cons_of_mem | apply mem_assoc | apply mem_app)))) (by first | (rw [flat_len, Nat.mul_one]; first | assumption | exact List.length_replicate) | exact List.length_replicate | rfl)) ?_
    refine o_stW rfl rfl (by repeat (first | exact .here | apply Upd.there | apply Upd.assoc | apply Upd.skip)) (by first | (rw [flat_len, Nat.mul_one]; first | assumption | exact List.length_replicate) | exact List.length_replicate | rfl) (by first | (rw [flat_len, Nat.mul_one]; first | assumption | exact List.length_replicate) | exact List.length_replicate | rfl) (by first | exact flat_one _ _ | exact one_rep rfl | (simp [Value.oneCell']; done)) ?_
    refine o_nil ?_
    refine x_then (hK11 _ _ ?_)
    refine c_ret ?_
    refine ?_
    exact x_ret rfl (.agg inferInstance inferInstance rfl (RdPK.cels (.own (by repeat (first | exact List.mem_cons_self | apply List.mem_cons_of_mem | apply mem_assoc | apply mem_app)))) (by first | (rw [flat_len, Nat.mul_one]; first | assumption | exact List.length_replicate) | exact List.length_replicate | rfl) (.nil)) (rfl)

theorem then_nil1 (q : Option Addr) : HL.Fn Try.prog 32 [.pointer none, .pointer q] (fun _ => True) [] (fun v _ => v = .agg (flat Eb zT).toArray) := by
  refine fn_of Try.func32 rfl rfl rfl fun w0 hw => ?_
  refine c_seq fun _ hK1 => ?_
  refine c_region ?_
  refine o_alloc rfl rfl fun b4 => ?_
  refine o_nil ?_
  refine x_then (hK1 _ _ ?_)
  refine c_seq fun _ hK2 => ?_
  refine c_region ?_
  refine o_alloc rfl rfl fun b5 => ?_
  refine o_nil ?_
  refine x_then (hK2 _ _ ?_)
  refine c_seq fun _ hK3 => ?_
  refine c_seq fun _ hK4 => ?_
  refine c_region ?_
  refine o_step rfl (s_move rfl) ?_
  refine o_step rfl (step_cast (v' := .bool true) (s_eql_nilp rfl rfl) rfl) ?_
  refine o_step rfl (s_move rfl) ?_
  refine o_no rfl rfl rfl rfl ?_
  refine o_no rfl rfl rfl rfl ?_
  refine o_step rfl (s_pick_t rfl rfl) ?_
  refine o_nil ?_
  refine x_then (hK4 _ _ ?_)
  refine c_true rfl ?_
  refine c_seq fun _ hK5 => ?_
  refine c_region ?_
  refine o_step rfl (s_ldB rfl (RdPK.cels (.own (by repeat (first | exact List.mem_cons_self | apply List.mem_cons_of_mem | apply mem_assoc | apply mem_app)))) (by first | (rw [flat_len, Nat.mul_one]; first | assumption | exact List.length_replicate) | exact List.length_replicate | rfl)) ?_
  refine o_stW rfl rfl (by repeat (first | exact .here | apply Upd.there | apply Upd.assoc | apply Upd.skip)) (by first | (rw [flat_len, Nat.mul_one]; first | assumption | exact List.length_replicate) | exact List.length_replicate | rfl) (by first | (rw [flat_len, Nat.mul_one]; first | assumption | exact List.length_replicate) | exact List.length_replicate | rfl) (by first | exact flat_one _ _ | exact one_rep rfl | (simp [Value.oneCell']; done)) ?_
  refine o_nil ?_
  refine x_then (hK5 _ _ ?_)
  refine c_ret ?_
  refine x_then_ret (?_)
  exact x_ret rfl (.agg inferInstance inferInstance rfl (by rw [zT, flatEb_zeros]; exact RdPK.cels (.own (by repeat (first | exact List.mem_cons_self | apply List.mem_cons_of_mem | apply mem_assoc | apply mem_app)))) (by rw [flat_len, zT_len]) (.nil)) (rfl)

theorem then_nil2 (A : Addr) : HL.Fn Try.prog 32 [.pointer (some A), .pointer none] (fun _ => True) [] (fun v _ => v = .agg (flat Eb zT).toArray) := by
  refine fn_of Try.func32 rfl rfl rfl fun w0 hw => ?_
  refine c_seq fun _ hK1 => ?_
  refine c_region ?_
  refine o_alloc rfl rfl fun b4 => ?_
  refine o_nil ?_
  refine x_then (hK1 _ _ ?_)
  refine c_seq fun _ hK2 => ?_
  refine c_region ?_
  refine o_alloc rfl rfl fun b5 => ?_
  refine o_nil ?_
  refine x_then (hK2 _ _ ?_)
  refine c_seq fun _ hK3 => ?_
  refine c_seq fun _ hK4 => ?_
  refine c_region ?_
  refine o_step rfl (s_move rfl) ?_
  refine o_step rfl (step_cast (v' := .bool false) (s_eql_nilp rfl rfl) rfl) ?_
  refine o_step rfl (s_move rfl) ?_
  refine o_yes rfl rfl ?_
  refine o_step rfl (s_move rfl) ?_
  refine o_yes rfl rfl ?_
  refine o_step rfl (step_cast (v' := .bool true) (s_eql_nilp rfl rfl) rfl) ?_
  refine o_step rfl (s_pick_f rfl rfl) ?_
  refine o_nil ?_
  refine x_then (hK4 _ _ ?_)
  refine c_true rfl ?_
  refine c_seq fun _ hK5 => ?_
  refine c_region ?_
  refine o_step rfl (s_ldB rfl (RdPK.cels (.own (by repeat (first | exact List.mem_cons_self | apply List.mem_cons_of_mem | apply mem_assoc | apply mem_app)))) (by first | (rw [flat_len, Nat.mul_one]; first | assumption | exact List.length_replicate) | exact List.length_replicate | rfl)) ?_
  refine o_stW rfl rfl (by repeat (first | exact .here | apply Upd.there | apply Upd.assoc | apply Upd.skip)) (by first | (rw [flat_len, Nat.mul_one]; first | assumption | exact List.length_replicate) | exact List.length_replicate | rfl) (by first | (rw [flat_len, Nat.mul_one]; first | assumption | exact List.length_replicate) | exact List.length_replicate | rfl) (by first | exact flat_one _ _ | exact one_rep rfl | (simp [Value.oneCell']; done)) ?_
  refine o_nil ?_
  refine x_then (hK5 _ _ ?_)
  refine c_ret ?_
  refine x_then_ret (?_)
  exact x_ret rfl (.agg inferInstance inferInstance rfl (by rw [zT, flatEb_zeros]; exact RdPK.cels (.own (by repeat (first | exact List.mem_cons_self | apply List.mem_cons_of_mem | apply mem_assoc | apply mem_app)))) (by rw [flat_len, zT_len]) (.nil)) (rfl)

theorem apply_nil (v : Value) : HL.Fn Try.prog 33 [.pointer none, v] (fun _ => True) [] (fun r _ => r = .slice none 0 0) := by
  refine fn_of Try.func33 rfl rfl rfl fun w0 hw => ?_
  refine c_seq fun _ hK1 => ?_
  refine c_region ?_
  refine o_step rfl (s_assign rfl) ?_
  refine o_nil ?_
  refine x_then (hK1 _ _ ?_)
  refine c_seq fun _ hK2 => ?_
  refine c_seq fun _ hK3 => ?_
  refine c_region ?_
  refine o_step rfl (s_move rfl) ?_
  refine o_step rfl (step_cast (v' := .bool true) (s_eql_nilp rfl rfl) rfl) ?_
  refine o_nil ?_
  refine x_then (hK3 _ _ ?_)
  refine c_true rfl ?_
  refine c_seq fun _ hK4 => ?_
  refine c_region ?_
  refine o_step rfl (s_assign rfl) ?_
  refine o_nil ?_
  refine x_then (hK4 _ _ ?_)
  refine c_ret ?_
  refine x_then_ret (?_)
  exact x_ret rfl (.tmp rfl (.nil)) (rfl)

theorem apply_fn (b1 o1 : Nat) (a : Option Addr) (c : Nat) (t xs : List UInt8) (ht : t.length = 256) : HL.Fn Try.prog 33 [.pointer (some ⟨b1, o1, none⟩), .slice a xs.length c] (fun w => RdP w b1 o1 (flat Eb t) ∧ Rd Eb w (.slice a xs.length c) xs) [] (fun v S' => ∃ a' c', v = .slice a' (applyT t xs).length c' ∧ OwnS Eb 1 5 (.slice a' (applyT t xs).length c') (applyT t xs) S') := by
  refine fn_of Try.func33 rfl rfl rfl fun w0 hw => ?_
  obtain ⟨h1, h2⟩ := hw
  have hsx := h2.sl
  have hbx := hsx.le
  have hil := idT_len
  refine c_seq fun _ hK1 => ?_
  refine c_region ?_
  refine o_step rfl (s_assign rfl) ?_
  refine o_nil ?_
  refine x_then (hK1 _ _ ?_)
  refine c_seq fun _ hK2 => ?_
  refine c_seq fun _ hK3 => ?_
  refine c_region ?_
  refine o_step rfl (s_move rfl) ?_
  refine o_step rfl (step_cast (v' := .bool false) (s_eql_nilp rfl rfl) rfl) ?_
  refine o_nil ?_
  refine x_then (hK3 _ _ ?_)
  refine c_false rfl ?_
  refine c_skip ?_
  refine x_then (hK2 _ _ ?_)
  refine c_seq fun _ hK4 => ?_
  refine c_seq fun _ hK5 => ?_
  refine c_quiet (by kernel_rfl) ?_
  refine .op rfl (s_move rfl) ?_
  refine .op rfl (s_nil rfl) ?_
  refine .op rfl (s_ldB rfl ((RdPK.old0 h1).cels) (by first | (rw [flat_len, Nat.mul_one]; first | assumption | exact List.length_replicate) | exact List.length_replicate | rfl)) ?_
  refine .call (fun _ _ => rfl) rfl rfl rfl (plain_fn) (fun _ _ => trivial) ?_
  refine .op rfl (s_eql_tab (xs := t) (ys := idT) rfl rfl ht idT_len) ?_
  refine .nil ?_
  refine x_then (hK5 _ _ ?_)
  refine c_if rfl (fun hid => ?_) (fun hid => ?_)
  · skip
    refine c_seq fun _ hK6 => ?_
    refine c_region ?_
    refine o_step rfl (s_move rfl) ?_
    refine o_call (clone_fn a c xs) rfl rfl rfl (by exact .nil) (fun w st => (RdK.old0 h2).out w st) (fun v16 S16 ⟨a', c', hv, hS16⟩ => ?_)
    subst hv
    refine o_step rfl (s_assign rfl) ?_
    refine o_nil ?_
    refine x_then (hK6 _ _ ?_)
    refine c_ret ?_
    refine x_then_ret (?_)
    subst hid
    exact x_ret rfl (.tmp rfl (.nil)) (⟨_, _, by rw [applyT_len]; rfl, by rw [applyT_len, applyT_id]; simpa using hS16⟩)
  · skip
    refine c_skip ?_
    refine x_then (hK4 _ _ ?_)
    refine c_seq fun _ hK7 => ?_
    refine c_region ?_
    refine o_step rfl (s_move rfl) ?_
    refine o_step rfl (s_len rfl) ?_
    refine o_make (E := Eb) (zx := 0) (n := xs.length) rfl rfl rfl (by omega) (by omega) rfl fun b19 S19 hS19 => ?_
    refine o_step rfl (s_assign rfl) ?_
    refine o_nil ?_
    refine x_then (hK7 _ _ ?_)
    refine c_seq fun _ hK8 => ?_
    refine c_seq fun _ hK9 => ?_
    refine c_region ?_
    refine o_step rfl (s_move rfl) ?_
    refine o_step rfl (s_len rfl) ?_
    refine o_step rfl (s_move rfl) ?_
    refine o_nil ?_
    refine x_then (hK9 _ _ ?_)
    refine c_block ?_
    refine c_loop3 (fun (j : Nat) (l : List UInt8) (S : Hp) => j ≤ xs.length ∧ Fill (fun i => at0 t (at0 xs i).toNat) xs.length j l ∧ OwnS Eb 1 5 (.slice (some ⟨b19, 0, none⟩) xs.length xs.length) l S) (fun (j : Nat) (l : List UInt8) (S : Hp) => [(22, .int .i64 j)]) [(0, _), (4, _), (5, _), (20, _), (21, _)] (fun (j : Nat) (l : List UInt8) (S : Hp) => S) (fun (j : Nat) (l : List UInt8) (S : Hp) => xs.length - j) 0 _ _ ⟨by omega, .zero List.length_replicate, hS19⟩ (by repeat (first | exact Sub.nil | refine Sub.cons rfl ?_)) (by repeat (first | exact Sub.nil | refine Sub.cons rfl ?_)) (by exact HSub.of_perm (by simp)) ?_
    rintro j l S ⟨hj, hl, hS⟩
    have hsl := hS.sl
    have hll := hl.len
    rw [hll] at hsl
    refine c_seq fun _ hK10 => ?_
    refine c_region ?_
    refine o_step rfl (s_lss rfl rfl) ?_
    refine o_nil ?_
    refine x_then (hK10 _ _ ?_)
    refine c_seq fun _ hK11 => ?_
    refine c_if rfl (fun hlt => ?_) (fun hlt => ?_)
    · skip
      have hb := byte_lt (at0 xs j)
      have hbn := UInt8.toNat_lt (at0 xs j)
      refine c_skip ?_
      refine x_then (hK11 _ _ ?_)
      refine c_seq fun _ hK12 => ?_
      refine c_block ?_
      refine c_seq fun _ hK13 => ?_
      refine c_region ?_
      refine o_step rfl (s_move rfl) ?_
      refine o_step rfl (s_idx rfl rfl (by assumption) (by omega)) ?_
      refine o_step rfl (s_ld rfl ((RdK.old0 h2).ld j 0 (at0_get (by omega)) rfl (by decide) (by omega))) ?_
      refine o_step rfl (s_assign rfl) ?_
      refine o_step rfl (s_assign rfl) ?_
      refine o_nil ?_
      refine x_then (hK13 _ _ ?_)
      refine c_region ?_
      refine o_step rfl (s_move rfl) ?_
      refine o_step rfl (s_move rfl) ?_
      refine o_step rfl (s_move rfl) ?_
      refine o_step rfl (s_move rfl) ?_
      refine o_step rfl (s_nil rfl) ?_
      refine o_step rfl (s_indexA rfl rfl (by omega)) ?_
      refine o_step rfl (s_ld rfl ((RdPK.old0 h1).cel (j := (at0 xs j).toNat) (flatEb_get (at0_get (by omega))) (by omega))) ?_
      refine o_step rfl (s_idx rfl rfl (by assumption) (by omega)) ?_
      refine o_stS1 j (at0 t (at0 xs j).toNat) hS (by exact .all) rfl rfl rfl (by omega) (by rw [Int.toNat_natCast, Nat.mul_one]) fun S' hS' => ?_
      refine o_nil ?_
      refine x_block ?_
      refine x_then (hK12 _ _ ?_)
      refine c_region ?_
      refine o_step rfl (s_add rfl rfl (by omega)) ?_
      refine o_step rfl (s_move rfl) ?_
      refine o_nil ?_
      exact x_then (x_inv (j + 1, _, _) ⟨by omega, hl.step (by omega) rfl, hS'⟩ (by first | omega | (dsimp only; omega)) (by repeat (first | exact Sub.nil | refine Sub.cons rfl ?_)) (by exact HSub.of_perm (by simp)))
    · skip
      have hd := fill_apply hl (by omega)
      subst hd
      refine c_exit ?_
      refine x_then_exit ?_
      refine x_then_exit ?_
      refine x_block_exit ?_
      refine x_then (hK8 _ _ ?_)
      refine c_seq fun _ hK14 => ?_
      refine c_region ?_
      refine o_step rfl (s_move rfl) ?_
      refine o_step rfl (s_assign rfl) ?_
      refine o_nil ?_
      refine x_then (hK14 _ _ ?_)
      refine c_ret ?_
      refine ?_
      exact x_ret rfl (.tmp rfl (.nil)) (⟨_, _, by rw [applyT_len]; rfl, by rw [applyT_len]; exact hS⟩)

theorem print_nil  : HL.Fn Try.prog 34 [.pointer none] (fun _ => True) [] (fun v _ => v = .tuple #[.slice none 0 0, .slice none 0 0]) := by
  refine fn_of Try.func34 rfl rfl rfl fun w0 hw => ?_
  refine c_seq fun _ hK1 => ?_
  refine c_region ?_
  refine o_step rfl (s_assign rfl) ?_
  refine o_step rfl (s_assign rfl) ?_
  refine o_nil ?_
  refine x_then (hK1 _ _ ?_)
  refine c_seq fun _ hK2 => ?_
  refine c_region ?_
  refine o_step rfl (s_assign rfl) ?_
  refine o_step rfl (s_assign rfl) ?_
  refine o_nil ?_
  refine x_then (hK2 _ _ ?_)
  refine c_seq fun _ hK3 => ?_
  refine c_seq fun _ hK4 => ?_
  refine c_region ?_
  refine o_step rfl (s_move rfl) ?_
  refine o_step rfl (step_cast (v' := .bool true) (s_eql_nilp rfl rfl) rfl) ?_
  refine o_nil ?_
  refine x_then (hK4 _ _ ?_)
  refine c_true rfl ?_
  refine c_seq fun _ hK5 => ?_
  refine c_region ?_
  refine o_step rfl (s_assign rfl) ?_
  refine o_step rfl (s_assign rfl) ?_
  refine o_nil ?_
  refine x_then (hK5 _ _ ?_)
  refine c_ret ?_
  refine x_then_ret (?_)
  exact x_ret rfl (.tmp rfl (.tmp rfl (.nil))) (rfl)
end Go.Proofs.Ythbnkifjplbhgaa
