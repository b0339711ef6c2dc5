/- Part of the proofs over this seat: see the text that holds the theorem. Conditions: each theorem bears its own. -/
import Derived.Test.YthbnkifjplbhgaaW3
namespace Go.Proofs.Ythbnkifjplbhgaa
open Go Go.HL Go.Proofs Go.Tab
theorem new_fn (a a2 : Option Addr) (c c2 : Nat) (f t : List UInt8) : HL.Fn Try.prog 28 [.slice a f.length c, .slice a2 t.length c2] (fun w => Rd Eb w (.slice a f.length c) f ∧ Rd Eb w (.slice a2 t.length c2) t) [] (fun v _ => v = tabV (newR f t)) := by
  refine fn_of Try.func28 rfl rfl rfl fun w0 hw => ?_
  obtain ⟨h1, h2⟩ := hw
  have hs1 := h1.sl
  have hb1 := hs1.le
  have hs2 := h2.sl
  have hb2 := hs2.le
  have hil := idT_len
  refine c_seq fun _ hK1 => ?_
  refine c_region ?_
  refine o_alloc rfl rfl fun b4 => ?_
  refine o_step rfl (s_assign rfl) ?_
  refine o_nil ?_
  refine x_then (hK1 _ _ ?_)
  refine c_seq fun _ hK2 => ?_
  refine c_seq fun _ hK3 => ?_
  refine c_region ?_
  refine o_step rfl (s_move rfl) ?_
  refine o_step rfl (s_len rfl) ?_
  refine o_step rfl (s_move rfl) ?_
  refine o_step rfl (s_len rfl) ?_
  refine o_step rfl (s_neq rfl rfl) ?_
  refine o_nil ?_
  refine x_then (hK3 _ _ ?_)
  refine c_if rfl (fun hne => ?_) (fun hne => ?_)
  · skip
    refine c_seq fun _ hK4 => ?_
    refine c_region ?_
    refine o_step rfl (s_build0 rfl) ?_
    refine o_stW rfl rfl (by repeat (first | exact .here | apply Upd.there | apply Upd.assoc | apply Upd.skip)) (by first | (rw [flat_len, Nat.mul_one]; first | assumption | exact List.length_replicate) | exact List.length_replicate | rfl) (by first | (rw [flat_len, Nat.mul_one]; first | assumption | exact List.length_replicate) | exact List.length_replicate | rfl) (by first | exact flat_one _ _ | exact one_rep rfl | (simp [Value.oneCell']; done)) ?_
    refine o_step rfl (s_assign rfl) ?_
    refine o_nil ?_
    refine x_then (hK4 _ _ ?_)
    refine c_ret ?_
    refine x_then_ret (?_)
    exact x_ret rfl (.agg inferInstance inferInstance rfl (RdPK.cels (.own (by repeat (first | exact List.mem_cons_self | apply List.mem_cons_of_mem | apply mem_assoc | apply mem_app)))) (by first | (rw [flat_len, Nat.mul_one]; first | assumption | exact List.length_replicate) | exact List.length_replicate | rfl) (.tmp rfl (.nil))) (tab_none (if_neg (by omega)))
  · skip
    have hle : f.length = t.length := by omega
    refine c_skip ?_
    refine x_then (hK2 _ _ ?_)
    refine c_seq fun _ hK5 => ?_
    refine c_region ?_
    refine o_callP (plain_fn) rfl rfl rfl (fun _ _ => trivial) (fun v16 hv16 => ?_)
    subst hv16
    refine o_alloc rfl rfl fun b6 => ?_
    refine o_stW rfl rfl (by repeat (first | exact .here | apply Upd.there | apply Upd.assoc | apply Upd.skip)) (by first | (rw [flat_len, Nat.mul_one]; first | assumption | exact List.length_replicate) | exact List.length_replicate | rfl) (by first | (rw [flat_len, Nat.mul_one]; first | assumption | exact List.length_replicate) | exact List.length_replicate | rfl) (by first | exact flat_one _ _ | exact one_rep rfl | (simp [Value.oneCell']; done)) ?_
    refine o_nil ?_
    refine x_then (hK5 _ _ ?_)
    refine c_seq fun _ hK6 => ?_
    refine c_region ?_
    refine o_alloc rfl rfl fun b7 => ?_
    refine o_nil ?_
    refine x_then (hK6 _ _ ?_)
    refine c_seq fun _ hK7 => ?_
    refine c_seq fun _ hK8 => ?_
    refine c_region ?_
    refine o_step rfl (s_move rfl) ?_
    refine o_step rfl (s_len rfl) ?_
    refine o_step rfl (s_move rfl) ?_
    refine o_nil ?_
    refine x_then (hK8 _ _ ?_)
    refine c_block ?_
    -- not carried: 5
    refine c_loop3 (fun (j : Nat) (l : List UInt8) (sn : List Bool) => j ≤ f.length ∧ newAt f t j = some l ∧ sn.length = 256 ∧ ∀ b : UInt8, sn[b.toNat]? = some (decide (b ∈ f.take j))) (fun (j : Nat) (l : List UInt8) (sn : List Bool) => [(19, .int .i64 j)]) [(1, _), (4, _), (6, _), (7, _), (17, _), (18, _)] (fun (j : Nat) (l : List UInt8) (sn : List Bool) => [(b7, .cells (flat Ebo sn).toArray 73 (0, 0)), (b6, .cells (flat Eb l).toArray 62 (0, 0)), (b4, .cells (List.replicate 256 (.int .u8 0)).toArray 62 (0, 0))]) (fun (j : Nat) (l : List UInt8) (sn : List Bool) => f.length - j) 0 idT (List.replicate 256 false) ⟨by omega, rfl, List.length_replicate, fun b => by rw [List.getElem?_replicate, if_pos b.toNat_lt]; simp⟩ (by repeat (first | exact Sub.nil | refine Sub.cons rfl ?_)) (by repeat (first | exact Sub.nil | refine Sub.cons rfl ?_)) (by rw [flatEbo_zeros]; exact HSub.refl _) ?_
    rintro j l sn ⟨hj, hl, hsl, hsn⟩
    have hll := newAt_len hl
    refine c_seq fun _ hK9 => ?_
    refine c_region ?_
    refine o_step rfl (s_lss rfl rfl) ?_
    refine o_nil ?_
    refine x_then (hK9 _ _ ?_)
    refine c_seq fun _ hK10 => ?_
    refine c_if rfl (fun hlt => ?_) (fun hlt => ?_)
    · skip
      have hb := UInt8.toNat_lt (at0 f j)
      refine c_skip ?_
      refine x_then (hK10 _ _ ?_)
      refine c_seq fun _ hK11 => ?_
      refine c_block ?_
      refine c_seq fun _ hK12 => ?_
      refine c_region ?_
      refine o_step rfl (s_move rfl) ?_
      refine o_step rfl (s_idx rfl rfl (by assumption) (by omega)) ?_
      refine o_step rfl (s_ld rfl ((RdK.old0 h1).ld j 0 (at0_get (by omega)) rfl (by decide) (by omega))) ?_
      refine o_step rfl (s_assign rfl) ?_
      refine o_step rfl (s_assign rfl) ?_
      refine o_nil ?_
      refine x_then (hK12 _ _ ?_)
      refine c_seq fun _ hK13 => ?_
      refine c_seq fun _ hK14 => ?_
      refine c_region ?_
      refine o_step rfl (s_move rfl) ?_
      refine o_step rfl (s_indexA rfl rfl (by omega)) ?_
      refine o_step rfl (s_ld rfl ((RdPK.own (by repeat (first | exact List.mem_cons_self | apply List.mem_cons_of_mem | apply mem_assoc | apply mem_app))).cel (j := (at0 f j).toNat) (flatEbo_get (hsn _)) (by omega))) ?_
      refine o_nil ?_
      refine x_then (hK14 _ _ ?_)
      refine c_if rfl (fun hse => ?_) (fun hse => ?_)
      · skip
        refine c_seq fun _ hK15 => ?_
        refine c_region ?_
        refine o_step rfl (s_build0 rfl) ?_
        refine o_stW rfl rfl (by repeat (first | exact .here | apply Upd.there | apply Upd.assoc | apply Upd.skip)) (by first | (rw [flat_len, Nat.mul_one]; first | assumption | exact List.length_replicate) | exact List.length_replicate | rfl) (by first | (rw [flat_len, Nat.mul_one]; first | assumption | exact List.length_replicate) | exact List.length_replicate | rfl) (by first | exact flat_one _ _ | exact one_rep rfl | (simp [Value.oneCell']; done)) ?_
        refine o_step rfl (s_assign rfl) ?_
        refine o_nil ?_
        refine x_then (hK15 _ _ ?_)
        refine c_ret ?_
        refine x_then_ret (x_block_ret (x_then_ret (x_then_ret (x_block_ret (x_then_ret (?_))))))
        exact x_ret rfl (.agg inferInstance inferInstance rfl (RdPK.cels (.own (by repeat (first | exact List.mem_cons_self | apply List.mem_cons_of_mem | apply mem_assoc | apply mem_app)))) (by first | (rw [flat_len, Nat.mul_one]; first | assumption | exact List.length_replicate) | exact List.length_replicate | rfl) (.tmp rfl (.nil))) (tab_none (newR_none hse (by omega)))
      · skip
        refine c_skip ?_
        refine x_then (hK13 _ _ ?_)
        refine c_seq fun _ hK16 => ?_
        refine c_region ?_
        refine o_step rfl (s_move rfl) ?_
        refine o_step rfl (s_indexA rfl rfl (by omega)) ?_
        refine o_stBo (l := sn) (i := (at0 f j).toNat) true rfl rfl (by omega) (by omega) (by repeat (first | exact .here | apply Upd.there | apply Upd.assoc | apply Upd.skip)) ?_
        refine o_nil ?_
        refine x_then (hK16 _ _ ?_)
        refine c_region ?_
        refine o_step rfl (s_move rfl) ?_
        refine o_step rfl (s_move rfl) ?_
        refine o_step rfl (s_move rfl) ?_
        refine o_step rfl (s_idx rfl rfl (by assumption) (by omega)) ?_
        refine o_step rfl (s_ld rfl ((RdK.old0 h2).ld j 0 (at0_get (by omega)) rfl (by decide) (by omega))) ?_
        refine o_step rfl (s_indexA rfl rfl (by omega)) ?_
        refine o_stB (l := l) (i := (at0 f j).toNat) (at0 t j) rfl rfl (by omega) (by omega) (by repeat (first | exact .here | apply Upd.there | apply Upd.assoc | apply Upd.skip)) ?_
        refine o_nil ?_
        refine x_block ?_
        refine x_then (hK11 _ _ ?_)
        refine c_region ?_
        refine o_step rfl (s_add rfl rfl (by omega)) ?_
        refine o_step rfl (s_move rfl) ?_
        refine o_nil ?_
        exact x_then (x_inv (j + 1, _, _) ⟨by omega, by simp only [newAt]; rw [if_neg hse, hl]; rfl, by rw [List.length_set]; exact hsl, seen_step (by omega) hsl hsn⟩ (by first | omega | (dsimp only; omega)) (by repeat (first | exact Sub.nil | refine Sub.cons rfl ?_)) (by repeat (first | exact HSub.refl _ | exact HSub.nil | refine HSub.takeC (by first | ((repeat (first | exact .one | exact .here | exact .all | apply Pick.cons | apply Pick.app)); done) | ((repeat (first | exact .one | exact .here | exact .all | apply Pick.cons | apply Pick.assoc | apply Pick.app)); done) | exact Pick.takeA (by repeat (first | exact .one | exact .here | exact .all | apply Pick.cons | apply Pick.assoc | apply Pick.app)) (by repeat (first | exact .one | exact .here | exact .all | apply Pick.cons | apply Pick.assoc | apply Pick.app))) ?_ | refine HSub.take (by first | ((repeat (first | exact .one | exact .here | exact .all | apply Pick.cons | apply Pick.app)); done) | ((repeat (first | exact .one | exact .here | exact .all | apply Pick.cons | apply Pick.assoc | apply Pick.app)); done) | exact Pick.takeA (by repeat (first | exact .one | exact .here | exact .all | apply Pick.cons | apply Pick.assoc | apply Pick.app)) (by repeat (first | exact .one | exact .here | exact .all | apply Pick.cons | apply Pick.assoc | apply Pick.app))) ?_ | exact HSub.of_pick (by first | ((repeat (first | exact .one | exact .here | exact .all | apply Pick.cons | apply Pick.app)); done) | ((repeat (first | exact .one | exact .here | exact .all | apply Pick.cons | apply Pick.assoc | apply Pick.app)); done) | exact Pick.takeA (by repeat (first | exact .one | exact .here | exact .all | apply Pick.cons | apply Pick.assoc | apply Pick.app)) (by repeat (first | exact .one | exact .here | exact .all | apply Pick.cons | apply Pick.assoc | apply Pick.app))))))
    · skip
      refine c_exit ?_
      refine x_then_exit ?_
      refine x_then_exit ?_
      refine x_block_exit ?_
      refine x_then (hK7 _ _ ?_)
      refine c_seq fun _ hK17 => ?_
      refine c_region ?_
      refine o_step rfl (s_ldB rfl (RdPK.cels (.own (by repeat (first | exact List.mem_cons_self | apply List.mem_cons_of_mem | apply mem_assoc | apply mem_app)))) (by first | (rw [flat_len, Nat.mul_one]; first | assumption | exact List.length_replicate) | exact List.length_replicate | rfl)) ?_
      refine o_stW rfl rfl (by repeat (first | exact .here | apply Upd.there | apply Upd.assoc | apply Upd.skip)) (by first | (rw [flat_len, Nat.mul_one]; first | assumption | exact List.length_replicate) | exact List.length_replicate | rfl) (by first | (rw [flat_len, Nat.mul_one]; first | assumption | exact List.length_replicate) | exact List.length_replicate | rfl) (by first | exact flat_one _ _ | exact one_rep rfl | (simp [Value.oneCell']; done)) ?_
      refine o_step rfl (s_assign rfl) ?_
      refine o_nil ?_
      refine x_then (hK17 _ _ ?_)
      refine c_ret ?_
      refine ?_
      exact x_ret rfl (.agg inferInstance inferInstance rfl (RdPK.cels (.own (by repeat (first | exact List.mem_cons_self | apply List.mem_cons_of_mem | apply mem_assoc | apply mem_app)))) (by first | (rw [flat_len, Nat.mul_one]; first | assumption | exact List.length_replicate) | exact List.length_replicate | rfl) (.tmp rfl (.nil))) (tab_some (newR_some hl hle (by omega) hj))

theorem lives_fn  : HL.Fn Try.prog 26 [] (fun _ => True) [] (fun v _ => v = .bool true) := by
  refine fn_of Try.func26 rfl rfl rfl fun w0 hw => ?_
  refine c_seq fun _ hK1 => ?_
  refine c_region ?_
  refine o_step rfl (s_assign rfl) ?_
  refine o_nil ?_
  refine x_then (hK1 _ _ ?_)
  refine c_seq fun _ hK2 => ?_
  refine c_region ?_
  refine o_bs (E := Eb) (xs := [97, 98]) (vs := [_, _]) rfl rfl rfl rfl rfl (by decide) (by decide) fun b6 S6 hS6 => ?_
  refine o_conv_same rfl hS6 (by first | ((repeat (first | exact .one | exact .here | exact .all | apply Pick.cons | apply Pick.app)); done) | ((repeat (first | exact .one | exact .here | exact .all | apply Pick.cons | apply Pick.assoc | apply Pick.app)); done) | exact Pick.takeA (by repeat (first | exact .one | exact .here | exact .all | apply Pick.cons | apply Pick.assoc | apply Pick.app)) (by repeat (first | exact .one | exact .here | exact .all | apply Pick.cons | apply Pick.assoc | apply Pick.app))) rfl fun S7 hS7 => ?_
  refine o_bs (E := Eb) (xs := [120, 121]) (vs := [_, _]) rfl rfl rfl rfl rfl (by decide) (by decide) fun b8 S8 hS8 => ?_
  refine o_conv_same rfl hS8 (by first | ((repeat (first | exact .one | exact .here | exact .all | apply Pick.cons | apply Pick.app)); done) | ((repeat (first | exact .one | exact .here | exact .all | apply Pick.cons | apply Pick.assoc | apply Pick.app)); done) | exact Pick.takeA (by repeat (first | exact .one | exact .here | exact .all | apply Pick.cons | apply Pick.assoc | apply Pick.app)) (by repeat (first | exact .one | exact .here | exact .all | apply Pick.cons | apply Pick.assoc | apply Pick.app))) rfl fun S9 hS9 => ?_
  refine o_callP (new_fn (some _) (some _) 2 2 [97, 98] [120, 121]) rfl rfl rfl (fun w st => ⟨(hS7.rdk (by repeat (first | exact HIn.here | exact HIn.all | exact HIn.one | apply HIn.cons | apply HIn.assoc | apply HIn.app))).out w st, (hS9.rdk (by repeat (first | exact HIn.here | exact HIn.all | exact HIn.one | apply HIn.cons | apply HIn.assoc | apply HIn.app))).out w st⟩) (fun v10 hv10 => ?_)
  rw [lv1] at hv10
  subst hv10
  refine o_step rfl (s_move rfl) ?_
  refine o_step rfl (s_extract rfl rfl) ?_
  refine o_step rfl (s_extract rfl rfl) ?_
  refine o_alloc rfl rfl fun b1 => ?_
  refine o_stW rfl rfl (by repeat (first | exact .here | apply Upd.there | apply Upd.assoc | apply Upd.skip)) (by rw [flat_len, Nat.mul_one]; exact xyT_len) (by first | (rw [flat_len, Nat.mul_one]; first | assumption | exact List.length_replicate) | exact List.length_replicate | rfl) (by first | exact flat_one _ _ | exact one_rep rfl | (simp [Value.oneCell']; done)) ?_
  refine o_step rfl (s_assign rfl) ?_
  refine o_nil ?_
  refine x_then (hK2 _ _ ?_)
  refine c_seq fun _ hK3 => ?_
  refine c_region ?_
  refine o_bs (E := Eb) (xs := [97, 97]) (vs := [_, _]) rfl rfl rfl rfl rfl (by decide) (by decide) fun b14 S14 hS14 => ?_
  refine o_conv_same rfl hS14 (by first | ((repeat (first | exact .one | exact .here | exact .all | apply Pick.cons | apply Pick.app)); done) | ((repeat (first | exact .one | exact .here | exact .all | apply Pick.cons | apply Pick.assoc | apply Pick.app)); done) | exact Pick.takeA (by repeat (first | exact .one | exact .here | exact .all | apply Pick.cons | apply Pick.assoc | apply Pick.app)) (by repeat (first | exact .one | exact .here | exact .all | apply Pick.cons | apply Pick.assoc | apply Pick.app))) rfl fun S15 hS15 => ?_
  refine o_bs (E := Eb) (xs := [120, 121]) (vs := [_, _]) rfl rfl rfl rfl rfl (by decide) (by decide) fun b16 S16 hS16 => ?_
  refine o_conv_same rfl hS16 (by first | ((repeat (first | exact .one | exact .here | exact .all | apply Pick.cons | apply Pick.app)); done) | ((repeat (first | exact .one | exact .here | exact .all | apply Pick.cons | apply Pick.assoc | apply Pick.app)); done) | exact Pick.takeA (by repeat (first | exact .one | exact .here | exact .all | apply Pick.cons | apply Pick.assoc | apply Pick.app)) (by repeat (first | exact .one | exact .here | exact .all | apply Pick.cons | apply Pick.assoc | apply Pick.app))) rfl fun S17 hS17 => ?_
  refine o_callP (new_fn (some _) (some _) 2 2 [97, 97] [120, 121]) rfl rfl rfl (fun w st => ⟨(hS15.rdk (by repeat (first | exact HIn.here | exact HIn.all | exact HIn.one | apply HIn.cons | apply HIn.assoc | apply HIn.app))).out w st, (hS17.rdk (by repeat (first | exact HIn.here | exact HIn.all | exact HIn.one | apply HIn.cons | apply HIn.assoc | apply HIn.app))).out w st⟩) (fun v18 hv18 => ?_)
  rw [lv2] at hv18
  subst hv18
  refine o_step rfl (s_move rfl) ?_
  refine o_step rfl (s_extract rfl rfl) ?_
  refine o_step rfl (s_extract rfl rfl) ?_
  refine o_alloc rfl rfl fun b3 => ?_
  refine o_stW rfl rfl (by repeat (first | exact .here | apply Upd.there | apply Upd.assoc | apply Upd.skip)) (by rw [flat_len, Nat.mul_one]; exact zT_len) (by first | (rw [flat_len, Nat.mul_one]; first | assumption | exact List.length_replicate) | exact List.length_replicate | rfl) (by first | exact flat_one _ _ | exact one_rep rfl | (simp [Value.oneCell']; done)) ?_
  refine o_step rfl (s_assign rfl) ?_
  refine o_nil ?_
  refine x_then (hK3 _ _ ?_)
  refine c_seq fun _ hK4 => ?_
  refine c_region ?_
  refine o_step rfl (s_move rfl) ?_
  refine o_step rfl (s_eql_t rfl rfl rfl) ?_
  refine o_step rfl (s_move rfl) ?_
  refine o_yes rfl rfl ?_
  refine o_step rfl (s_move rfl) ?_
  refine o_yes rfl rfl ?_
  refine o_step rfl (s_eql_t rfl rfl rfl) ?_
  refine o_step rfl (s_pick_t rfl rfl) ?_
  refine o_step rfl (s_move rfl) ?_
  refine o_yes rfl rfl ?_
  refine o_bs (E := Eb) (xs := [97, 98, 99, 97, 98]) (vs := [_, _, _, _, _]) rfl rfl rfl rfl rfl (by decide) (by decide) fun b28 S28 hS28 => ?_
  refine o_yes rfl rfl ?_
  refine o_conv_same rfl hS28 (by first | ((repeat (first | exact .one | exact .here | exact .all | apply Pick.cons | apply Pick.app)); done) | ((repeat (first | exact .one | exact .here | exact .all | apply Pick.cons | apply Pick.assoc | apply Pick.app)); done) | exact Pick.takeA (by repeat (first | exact .one | exact .here | exact .all | apply Pick.cons | apply Pick.assoc | apply Pick.app)) (by repeat (first | exact .one | exact .here | exact .all | apply Pick.cons | apply Pick.assoc | apply Pick.app))) rfl fun S29 hS29 => ?_
  refine o_yes rfl rfl ?_
  refine o_call (apply_fn _ _ (some _) 5 xyT [97, 98, 99, 97, 98] xyT_len) rfl rfl rfl (by exact .nil) (fun w st => ⟨(RdPK.own (by repeat (first | exact List.mem_cons_self | apply List.mem_cons_of_mem | apply mem_assoc | apply mem_app))).out w st, (hS29.rdk (by repeat (first | exact HIn.here | exact HIn.all | exact HIn.one | apply HIn.cons | apply HIn.assoc | apply HIn.app))).out w st⟩) (fun v30 S30 ⟨a30, c30, hv30, hS30⟩ => ?_)
  subst hv30
  refine o_yes rfl rfl ?_
  refine o_bs (E := Eb) (xs := [120, 121, 99, 120, 121]) (vs := [_, _, _, _, _]) rfl rfl rfl rfl rfl (by decide) (by decide) fun b31 S31 hS31 => ?_
  refine o_yes rfl rfl ?_
  refine o_conv_same rfl hS31 (by first | ((repeat (first | exact .one | exact .here | exact .all | apply Pick.cons | apply Pick.app)); done) | ((repeat (first | exact .one | exact .here | exact .all | apply Pick.cons | apply Pick.assoc | apply Pick.app)); done) | exact Pick.takeA (by repeat (first | exact .one | exact .here | exact .all | apply Pick.cons | apply Pick.assoc | apply Pick.app)) (by repeat (first | exact .one | exact .here | exact .all | apply Pick.cons | apply Pick.assoc | apply Pick.app))) rfl fun S32 hS32 => ?_
  refine o_yes rfl rfl ?_
  refine o_callP (eqBytes_fn a30 (some _) c30 5 _ [120, 121, 99, 120, 121]) rfl rfl rfl (fun w st => ⟨(hS30.rdk (by repeat (first | exact HIn.here | exact HIn.all | exact HIn.one | apply HIn.cons | apply HIn.assoc | apply HIn.app))).out w st, (hS32.rdk (by repeat (first | exact HIn.here | exact HIn.all | exact HIn.one | apply HIn.cons | apply HIn.assoc | apply HIn.app))).out w st⟩) (fun v33 hv33 => ?_)
  rw [decide_eq_true lv3] at hv33
  subst hv33
  refine o_step rfl (s_pick_t rfl rfl) ?_
  refine o_step rfl (s_assign rfl) ?_
  refine o_nil ?_
  refine x_then (hK4 _ _ ?_)
  refine c_ret ?_
  refine ?_
  exact x_ret rfl (.tmp rfl (.nil)) (rfl)
end Go.Proofs.Ythbnkifjplbhgaa
