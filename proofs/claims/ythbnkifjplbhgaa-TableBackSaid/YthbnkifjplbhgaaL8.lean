/- Proved: the law TableBack returns true for every table and every list of bytes. Conditions: none. -/
import Derived.Test.YthbnkifjplbhgaaW7
import Derived.Test.YthbnkifjplbhgaaRows
namespace Go.Proofs.Ythbnkifjplbhgaa
open Go Go.HL Go.Proofs Go.Tab
theorem tableBack_fn (t : List UInt8) (ht : t.length = 256) (a : Option Addr) (c : Nat) (xs : List UInt8) : HL.Fn Try.prog 7 [.agg (flat Eb t).toArray, .slice a xs.length c] (fun w => Rd Eb w (.slice a xs.length c) xs) [] (fun v _ => v = .bool true) := by
  refine fn_of Try.func7 rfl rfl rfl fun w0 hw => ?_
  have hsx := hw.sl
  have hbx := hsx.le
  have hil := idT_len
  have hlF := pF_len t 256
  have hlT := pT_len t 256
  have hlI := pIdx_len t 256
  have hnp := newR_print ht
  refine c_seq fun _ hK1 => ?_
  refine c_region ?_
  refine o_box rfl rfl rfl fun b2 => ?_
  refine o_step rfl (s_assign rfl) ?_
  refine o_nil ?_
  refine x_then (hK1 _ _ ?_)
  refine c_seq fun _ hK2 => ?_
  refine c_seq fun _ hK3 => ?_
  refine c_region ?_
  refine o_step rfl (s_move rfl) ?_
  refine o_step rfl (s_len rfl) ?_
  refine o_callP (long_fn _) rfl rfl rfl (fun _ _ => trivial) (fun v18 hv18 => ?_)
  subst hv18
  refine o_nil ?_
  refine x_then (hK3 _ _ ?_)
  refine c_if rfl (fun hlong => ?_) (fun hlong => ?_)
  · skip
    refine c_seq fun _ hK4 => ?_
    refine c_region ?_
    refine o_step rfl (s_assign rfl) ?_
    refine o_nil ?_
    refine x_then (hK4 _ _ ?_)
    refine c_ret ?_
    refine x_then_ret (?_)
    exact x_ret rfl (.tmp rfl (.nil)) (rfl)
  · skip
    refine c_skip ?_
    refine x_then (hK2 _ _ ?_)
    refine c_seq fun _ hK5 => ?_
    refine c_region ?_
    refine o_callP (lives_fn) rfl rfl rfl (fun _ _ => trivial) (fun v19 hv19 => ?_)
    subst hv19
    refine o_step rfl (s_assign rfl) ?_
    refine o_nil ?_
    refine x_then (hK5 _ _ ?_)
    refine c_seq fun _ hK6 => ?_
    refine c_region ?_
    refine o_call (print_fn b2 0 t ht) rfl rfl rfl (by exact .nil) (fun w st => (RdPK.own (by repeat (first | exact List.mem_cons_self | apply List.mem_cons_of_mem | apply mem_app))).out w st) (fun v21 S21 ⟨aF, cF, aT, cT, SF, ST, hv21, hS21, hF, hT⟩ => ?_)
    subst hv21
    subst hS21
    rw [List.append_assoc]
    have hslF := hF.sl
    have hslT := hT.sl
    refine o_step rfl (s_move rfl) ?_
    refine o_step rfl (s_extract rfl rfl) ?_
    refine o_step rfl (s_extract rfl rfl) ?_
    refine o_step rfl (s_assign rfl) ?_
    refine o_step rfl (s_assign rfl) ?_
    refine o_nil ?_
    refine x_then (hK6 _ _ ?_)
    refine c_seq fun _ hK7 => ?_
    refine c_region ?_
    refine o_step rfl (s_move rfl) ?_
    refine o_step rfl (s_move rfl) ?_
    refine o_callP (new_fn aF aT cF cT _ _) rfl rfl rfl (fun w st => ⟨(hF.rdk (by repeat (first | exact HIn.here | exact HIn.all | exact HIn.one | apply HIn.cons | apply HIn.app))).out w st, (hT.rdk (by repeat (first | exact HIn.here | exact HIn.all | exact HIn.one | apply HIn.cons | apply HIn.app))).out w st⟩) (fun v27 hv27 => ?_)
    rw [hnp] at hv27
    subst hv27
    refine o_step rfl (s_move rfl) ?_
    refine o_step rfl (s_extract rfl rfl) ?_
    refine o_step rfl (s_extract rfl rfl) ?_
    refine o_alloc rfl rfl fun b8 => ?_
    refine o_stW rfl rfl (by repeat (first | exact .here | apply Upd.there | apply Upd.skip)) (by first | (rw [flat_len, Nat.mul_one]; first | assumption | exact List.length_replicate) | exact List.length_replicate | rfl) (by first | (rw [flat_len, Nat.mul_one]; first | assumption | exact List.length_replicate) | exact List.length_replicate | rfl) (by first | exact flat_one _ _ | exact one_rep rfl | (simp [Value.oneCell']; done)) ?_
    refine o_step rfl (s_assign rfl) ?_
    refine o_nil ?_
    refine x_then (hK7 _ _ ?_)
    refine c_seq fun _ hK8 => ?_
    refine c_seq fun _ hK9 => ?_
    refine c_region ?_
    refine o_step rfl (s_move rfl) ?_
    refine o_step rfl (s_not rfl) ?_
    refine o_step rfl (s_move rfl) ?_
    refine o_yes rfl rfl ?_
    refine o_step rfl (s_move rfl) ?_
    refine o_yes rfl rfl ?_
    refine o_step rfl (s_neq_f rfl rfl rfl) ?_
    refine o_step rfl (s_pick_f rfl rfl) ?_
    refine o_step rfl (s_move rfl) ?_
    refine o_yes rfl rfl ?_
    refine o_step rfl (s_ldB rfl (RdPK.cels (.own (by repeat (first | exact List.mem_cons_self | apply List.mem_cons_of_mem | apply mem_app)))) (by first | (rw [flat_len, Nat.mul_one]; first | assumption | exact List.length_replicate) | exact List.length_replicate | rfl)) ?_
    refine o_yes rfl rfl ?_
    refine o_step rfl (s_ldB rfl (RdPK.cels (.own (by repeat (first | exact List.mem_cons_self | apply List.mem_cons_of_mem | apply mem_app)))) (by first | (rw [flat_len, Nat.mul_one]; first | assumption | exact List.length_replicate) | exact List.length_replicate | rfl)) ?_
    refine o_yes rfl rfl ?_
    refine o_step rfl (step_false (by simp) (s_neq_tab (xs := t) (ys := t) rfl rfl ht ht)) ?_
    refine o_step rfl (s_pick_f rfl rfl) ?_
    refine o_step rfl (s_move rfl) ?_
    refine o_yes rfl rfl ?_
    refine o_step rfl (s_move rfl) ?_
    refine o_yes rfl rfl ?_
    refine o_step rfl (s_len rfl) ?_
    refine o_yes rfl rfl ?_
    refine o_step rfl (s_move rfl) ?_
    refine o_yes rfl rfl ?_
    refine o_step rfl (s_len rfl) ?_
    refine o_yes rfl rfl ?_
    refine o_step rfl (s_neq_f rfl rfl (by omega)) ?_
    refine o_step rfl (s_pick_f rfl rfl) ?_
    refine o_nil ?_
    refine x_then (hK9 _ _ ?_)
    refine c_false rfl ?_
    refine c_skip ?_
    refine x_then (hK8 _ _ ?_)
    refine c_seq fun _ hK10 => ?_
    refine c_seq fun _ hK11 => ?_
    refine c_region ?_
    refine o_step rfl (s_assign rfl) ?_
    refine o_nil ?_
    refine x_then (hK11 _ _ ?_)
    refine c_block ?_
    -- not carried: 4
    refine c_loopB (fun (j : Nat) => j ≤ (pF t 256).length) (fun (j : Nat) => [(10, .int .i64 j)]) [(1, _), (2, _), (6, _), (7, _)] (fun (j : Nat) => _) (fun (j : Nat) => (pF t 256).length - j) 0 (Nat.zero_le _) (by repeat (first | exact Sub.nil | refine Sub.cons rfl ?_)) (by repeat (first | exact Sub.nil | refine Sub.cons rfl ?_)) (by repeat (first | exact HSub.refl _ | exact HSub.nil | refine HSub.takeC (by repeat (first | exact .one | exact .here | exact .all | apply Pick.cons | apply Pick.app)) ?_ | refine HSub.take (by repeat (first | exact .one | exact .here | exact .all | apply Pick.cons | apply Pick.app)) ?_ | exact HSub.of_pick (by repeat (first | exact .one | exact .here | exact .all | apply Pick.cons | apply Pick.app)))) ?_
    rintro j hj
    refine c_seq fun _ hK12 => ?_
    refine c_seq fun _ hK13 => ?_
    refine c_region ?_
    refine o_step rfl (s_move rfl) ?_
    refine o_step rfl (s_move rfl) ?_
    refine o_step rfl (s_len rfl) ?_
    refine o_step rfl (s_lss rfl rfl) ?_
    refine o_nil ?_
    refine x_then (hK13 _ _ ?_)
    refine c_if rfl (fun hlt => ?_) (fun hlt => ?_)
    · skip
      have hne := p_ne (t := t) (i := j) (by omega)
      refine c_skip ?_
      refine x_then (hK12 _ _ ?_)
      refine c_seq fun _ hK14 => ?_
      refine c_block ?_
      refine c_seq fun _ hK15 => ?_
      refine c_quiet (by kernel_rfl) ?_
      refine .op rfl (s_move rfl) ?_
      refine .op rfl (s_move rfl) ?_
      refine .op rfl (s_idx rfl rfl (by assumption) (by omega)) ?_
      refine .op rfl (s_ld rfl ((hF.rdk (by repeat (first | exact HIn.here | exact HIn.all | exact HIn.one | apply HIn.cons | apply HIn.app))).ld j 0 (at0_get (by omega)) rfl (by decide) (by omega))) ?_
      refine .op rfl (s_move rfl) ?_
      refine .op rfl (s_move rfl) ?_
      refine .op rfl (s_idx rfl rfl (by assumption) (by omega)) ?_
      refine .op rfl (s_ld rfl ((hT.rdk (by repeat (first | exact HIn.here | exact HIn.all | exact HIn.one | apply HIn.cons | apply HIn.app))).ld j 0 (at0_get (by omega)) rfl (by decide) (by omega))) ?_
      refine .op rfl (s_eql_f rfl rfl (fun e => hne (UInt8.toNat_inj.1 (by omega)))) ?_
      refine .op rfl (s_move rfl) ?_
      refine .yes rfl rfl rfl (s_move rfl) ?_
      by_cases hj0 : 0 < j
      · skip
        refine .yes rfl rfl rfl (s_gtr_t rfl rfl (by omega)) ?_
        refine .yes rfl rfl rfl (s_move rfl) ?_
        refine .yes rfl rfl rfl (s_move rfl) ?_
        refine .yes rfl rfl rfl (s_move rfl) ?_
        refine .yes rfl rfl rfl (s_sub rfl rfl (by omega)) ?_
        refine .yes rfl rfl rfl (s_idx rfl rfl (by assumption) (by omega)) ?_
        refine .yes rfl rfl rfl (s_ld rfl ((hF.rdk (by repeat (first | exact HIn.here | exact HIn.all | exact HIn.one | apply HIn.cons | apply HIn.app))).ld (j - 1) 0 (at0_get (by omega)) rfl (by decide) (by omega))) ?_
        refine .yes rfl rfl rfl (s_move rfl) ?_
        refine .yes rfl rfl rfl (s_move rfl) ?_
        refine .yes rfl rfl rfl (s_idx rfl rfl (by assumption) (by omega)) ?_
        refine .yes rfl rfl rfl (s_ld rfl ((hF.rdk (by repeat (first | exact HIn.here | exact HIn.all | exact HIn.one | apply HIn.cons | apply HIn.app))).ld j 0 (at0_get (by omega)) rfl (by decide) (by omega))) ?_
        refine .yes rfl rfl rfl (s_geq_f rfl rfl (by have := p_rise (t := t) (i := j - 1) (k := j) (by omega) (by omega); omega)) ?_
        refine .yes rfl rfl rfl (s_pick_t rfl rfl) ?_
        refine .op rfl (s_pick_f rfl rfl) ?_
        refine .nil ?_
        refine x_then (hK15 _ _ ?_)
        refine c_false rfl ?_
        refine c_skip ?_
        refine x_block ?_
        refine x_then (hK14 _ _ ?_)
        refine c_region ?_
        refine o_step rfl (s_move rfl) ?_
        refine o_step rfl (s_add rfl rfl (by omega)) ?_
        refine o_step rfl (s_assign rfl) ?_
        refine o_nil ?_
        exact x_then (x_inv (j + 1) (by omega) (by first | omega | (dsimp only; omega)) (by repeat (first | exact Sub.nil | refine Sub.cons rfl ?_)) (by repeat (first | exact HSub.refl _ | exact HSub.nil | refine HSub.takeC (by repeat (first | exact .one | exact .here | exact .all | apply Pick.cons | apply Pick.app)) ?_ | refine HSub.take (by repeat (first | exact .one | exact .here | exact .all | apply Pick.cons | apply Pick.app)) ?_ | exact HSub.of_pick (by repeat (first | exact .one | exact .here | exact .all | apply Pick.cons | apply Pick.app)))))
      · skip
        refine .yes rfl rfl rfl (s_gtr_f rfl rfl (by omega)) ?_
        refine .yes rfl rfl rfl (s_move rfl) ?_
        refine .no rfl rfl rfl rfl ?_
        refine .no rfl rfl rfl rfl ?_
        refine .no rfl rfl rfl rfl ?_
        refine .no rfl rfl rfl rfl ?_
        refine .no rfl rfl rfl rfl ?_
        refine .no rfl rfl rfl rfl ?_
        refine .no rfl rfl rfl rfl ?_
        refine .no rfl rfl rfl rfl ?_
        refine .no rfl rfl rfl rfl ?_
        refine .no rfl rfl rfl rfl ?_
        refine .yes rfl rfl rfl (s_pick_f rfl rfl) ?_
        refine .op rfl (s_pick_f rfl rfl) ?_
        refine .nil ?_
        refine x_then (hK15 _ _ ?_)
        refine c_false rfl ?_
        refine c_skip ?_
        refine x_block ?_
        refine x_then (hK14 _ _ ?_)
        refine c_region ?_
        refine o_step rfl (s_move rfl) ?_
        refine o_step rfl (s_add rfl rfl (by omega)) ?_
        refine o_step rfl (s_assign rfl) ?_
        refine o_nil ?_
        exact x_then (x_inv (j + 1) (by omega) (by first | omega | (dsimp only; omega)) (by repeat (first | exact Sub.nil | refine Sub.cons rfl ?_)) (by repeat (first | exact HSub.refl _ | exact HSub.nil | refine HSub.takeC (by repeat (first | exact .one | exact .here | exact .all | apply Pick.cons | apply Pick.app)) ?_ | refine HSub.take (by repeat (first | exact .one | exact .here | exact .all | apply Pick.cons | apply Pick.app)) ?_ | exact HSub.of_pick (by repeat (first | exact .one | exact .here | exact .all | apply Pick.cons | apply Pick.app)))))
    · skip
      refine c_exit ?_
      refine x_then_exit ?_
      refine x_then_exit ?_
      refine x_block_exit ?_
      refine x_then (hK10 _ _ ?_)
      refine c_seq fun _ hK16 => ?_
      refine c_region ?_
      refine o_alloc rfl rfl fun b11 => ?_
      refine o_nil ?_
      refine x_then (hK16 _ _ ?_)
      refine c_seq fun _ hK17 => ?_
      refine c_region ?_
      refine o_step rfl (s_assign rfl) ?_
      refine o_nil ?_
      refine x_then (hK17 _ _ ?_)
      refine c_seq fun _ hK18 => ?_
      refine c_seq fun _ hK19 => ?_
      refine c_region ?_
      refine o_step rfl (s_assign rfl) ?_
      refine o_nil ?_
      refine x_then (hK19 _ _ ?_)
      refine c_block ?_
      refine c_loop2 (fun (j : Nat) (sn : List Bool) => j ≤ 256 ∧ sn.length = 256 ∧ ∀ b : UInt8, sn[b.toNat]? = some (decide (b ∈ t.take j))) (fun (j : Nat) (sn : List Bool) => [(12, .bool (decide (t.take j).Nodup)), (13, .int .i64 j)]) [(1, _), (2, _), (6, _), (7, _), (11, _)] (fun (j : Nat) (sn : List Bool) => [(b11, .cells (flat Ebo sn).toArray 73 (0, 0)), (b2, .cells (flat Eb t).toArray 62 (0, 0))] ++ (SF ++ ST)) (fun (j : Nat) (sn : List Bool) => 256 - j) 0 (List.replicate 256 false) ⟨by omega, List.length_replicate, fun b => by rw [List.getElem?_replicate, if_pos b.toNat_lt]; simp⟩ (by exact Sub.cons' rfl (by rw [decide_eq_true (by simp)]) (Sub.cons rfl Sub.nil)) (by repeat (first | exact Sub.nil | refine Sub.cons rfl ?_)) (by rw [flatEbo_zeros]; repeat (first | exact HSub.refl _ | exact HSub.nil | refine HSub.takeC (by repeat (first | exact .one | exact .here | exact .all | apply Pick.cons | apply Pick.app)) ?_ | refine HSub.take (by repeat (first | exact .one | exact .here | exact .all | apply Pick.cons | apply Pick.app)) ?_ | exact HSub.of_pick (by repeat (first | exact .one | exact .here | exact .all | apply Pick.cons | apply Pick.app)))) ?_
      rintro j sn ⟨hj, hsl, hsn⟩
      refine c_seq fun _ hK20 => ?_
      refine c_seq fun _ hK21 => ?_
      refine c_region ?_
      refine o_step rfl (s_move rfl) ?_
      refine o_step rfl (s_lss rfl rfl) ?_
      refine o_nil ?_
      refine x_then (hK21 _ _ ?_)
      refine c_if rfl (fun hlt2 => ?_) (fun hlt2 => ?_)
      · skip
        have htl := UInt8.toNat_lt (at0 t j)
        refine c_skip ?_
        refine x_then (hK20 _ _ ?_)
        refine c_seq fun _ hK22 => ?_
        refine c_block ?_
        refine c_seq fun _ hK23 => ?_
        refine c_region ?_
        by_cases hnd : (t.take j).Nodup
        · skip
          refine o_step rfl (step_cast (v' := .bool true) (s_move rfl) (by rw [decide_eq_true hnd])) ?_
          refine o_step rfl (s_move rfl) ?_
          refine o_yes rfl rfl ?_
          refine o_step rfl (s_move rfl) ?_
          refine o_yes rfl rfl ?_
          refine o_step rfl (s_indexA rfl rfl (by omega)) ?_
          refine o_yes rfl rfl ?_
          refine o_step rfl (s_ld rfl ((RdPK.own (by repeat (first | exact List.mem_cons_self | apply List.mem_cons_of_mem | apply mem_app))).cel (j := j) (flatEb_get (at0_get (by omega))) (by omega))) ?_
          refine o_yes rfl rfl ?_
          refine o_step rfl (s_indexA rfl rfl (by omega)) ?_
          refine o_yes rfl rfl ?_
          refine o_step rfl (s_ld rfl ((RdPK.own (by repeat (first | exact List.mem_cons_self | apply List.mem_cons_of_mem | apply mem_app))).cel (j := (at0 t j).toNat) (flatEbo_get (hsn _)) (by omega))) ?_
          refine o_yes rfl rfl ?_
          refine o_step rfl (s_not rfl) ?_
          refine o_step rfl (step_cast (v' := .bool (decide (t.take (j + 1)).Nodup)) (s_pick_t rfl rfl) (by rw [nodup_step1 (by omega) hnd])) ?_
          refine o_step rfl (s_assign rfl) ?_
          refine o_nil ?_
          refine x_then (hK23 _ _ ?_)
          refine c_region ?_
          refine o_step rfl (s_move rfl) ?_
          refine o_step rfl (s_indexA rfl rfl (by omega)) ?_
          refine o_step rfl (s_ld rfl ((RdPK.own (by repeat (first | exact List.mem_cons_self | apply List.mem_cons_of_mem | apply mem_app))).cel (j := j) (flatEb_get (at0_get (by omega))) (by omega))) ?_
          refine o_step rfl (s_indexA rfl rfl (by omega)) ?_
          refine o_stBo (l := sn) (i := (at0 t j).toNat) true rfl rfl (by omega) (by omega) (by repeat (first | exact .here | apply Upd.there | apply Upd.skip)) ?_
          refine o_nil ?_
          refine x_block ?_
          refine x_then (hK22 _ _ ?_)
          refine c_region ?_
          refine o_step rfl (s_move rfl) ?_
          refine o_step rfl (s_add rfl rfl (by omega)) ?_
          refine o_step rfl (s_assign rfl) ?_
          refine o_nil ?_
          exact x_then (x_inv (j + 1, _) ⟨by omega, by rw [List.length_set]; exact hsl, seen_step (by omega) hsl hsn⟩ (by first | omega | (dsimp only; omega)) (by repeat (first | exact Sub.nil | refine Sub.cons rfl ?_)) (by repeat (first | exact HSub.refl _ | exact HSub.nil | refine HSub.takeC (by repeat (first | exact .one | exact .here | exact .all | apply Pick.cons | apply Pick.app)) ?_ | refine HSub.take (by repeat (first | exact .one | exact .here | exact .all | apply Pick.cons | apply Pick.app)) ?_ | exact HSub.of_pick (by repeat (first | exact .one | exact .here | exact .all | apply Pick.cons | apply Pick.app)))))
        · skip
          refine o_step rfl (step_cast (v' := .bool false) (s_move rfl) (by rw [decide_eq_false hnd])) ?_
          refine o_step rfl (s_move rfl) ?_
          refine o_no rfl rfl rfl rfl ?_
          refine o_no rfl rfl rfl rfl ?_
          refine o_no rfl rfl rfl rfl ?_
          refine o_no rfl rfl rfl rfl ?_
          refine o_no rfl rfl rfl rfl ?_
          refine o_no rfl rfl rfl rfl ?_
          refine o_step rfl (step_cast (v' := .bool (decide (t.take (j + 1)).Nodup)) (s_pick_f rfl rfl) (by rw [← nodup_step0 hnd])) ?_
          refine o_step rfl (s_assign rfl) ?_
          refine o_nil ?_
          refine x_then (hK23 _ _ ?_)
          refine c_region ?_
          refine o_step rfl (s_move rfl) ?_
          refine o_step rfl (s_indexA rfl rfl (by omega)) ?_
          refine o_step rfl (s_ld rfl ((RdPK.own (by repeat (first | exact List.mem_cons_self | apply List.mem_cons_of_mem | apply mem_app))).cel (j := j) (flatEb_get (at0_get (by omega))) (by omega))) ?_
          refine o_step rfl (s_indexA rfl rfl (by omega)) ?_
          refine o_stBo (l := sn) (i := (at0 t j).toNat) true rfl rfl (by omega) (by omega) (by repeat (first | exact .here | apply Upd.there | apply Upd.skip)) ?_
          refine o_nil ?_
          refine x_block ?_
          refine x_then (hK22 _ _ ?_)
          refine c_region ?_
          refine o_step rfl (s_move rfl) ?_
          refine o_step rfl (s_add rfl rfl (by omega)) ?_
          refine o_step rfl (s_assign rfl) ?_
          refine o_nil ?_
          exact x_then (x_inv (j + 1, _) ⟨by omega, by rw [List.length_set]; exact hsl, seen_step (by omega) hsl hsn⟩ (by first | omega | (dsimp only; omega)) (by repeat (first | exact Sub.nil | refine Sub.cons rfl ?_)) (by repeat (first | exact HSub.refl _ | exact HSub.nil | refine HSub.takeC (by repeat (first | exact .one | exact .here | exact .all | apply Pick.cons | apply Pick.app)) ?_ | refine HSub.take (by repeat (first | exact .one | exact .here | exact .all | apply Pick.cons | apply Pick.app)) ?_ | exact HSub.of_pick (by repeat (first | exact .one | exact .here | exact .all | apply Pick.cons | apply Pick.app)))))
      · skip
        obtain rfl : j = 256 := by omega
        have e256 : t.take 256 = t := List.take_of_length_le (by omega)
        rw [e256]
        refine c_exit ?_
        refine x_then_exit ?_
        refine x_then_exit ?_
        refine x_block_exit ?_
        refine x_then (hK18 _ _ ?_)
        refine c_seq fun _ hK24 => ?_
        refine c_region ?_
        refine o_step rfl (s_move rfl) ?_
        refine o_step rfl (s_move rfl) ?_
        refine o_callP (new_fn aT aF cT cF _ _) rfl rfl rfl (fun w st => ⟨(hT.rdk (by repeat (first | exact HIn.here | exact HIn.all | exact HIn.one | apply HIn.cons | apply HIn.app))).out w st, (hF.rdk (by repeat (first | exact HIn.here | exact HIn.all | exact HIn.one | apply HIn.cons | apply HIn.app))).out w st⟩) (fun v99 hv99 => ?_)
        subst hv99
        have hlq : ((newR (pT t 256) (pF t 256)).getD zT).length = 256 := getD_len (fun l h => newR_len h)
        refine o_step rfl (s_move rfl) ?_
        refine o_step rfl (s_extract rfl rfl) ?_
        refine o_step rfl (s_extract rfl rfl) ?_
        refine o_alloc rfl rfl fun b14 => ?_
        refine o_stW rfl rfl (by repeat (first | exact .here | apply Upd.there | apply Upd.skip)) (by first | (rw [flat_len, Nat.mul_one]; first | assumption | exact List.length_replicate) | exact List.length_replicate | rfl) (by first | (rw [flat_len, Nat.mul_one]; first | assumption | exact List.length_replicate) | exact List.length_replicate | rfl) (by first | exact flat_one _ _ | exact one_rep rfl | (simp [Value.oneCell']; done)) ?_
        refine o_step rfl (s_assign rfl) ?_
        refine o_nil ?_
        refine x_then (hK24 _ _ ?_)
        refine c_seq fun _ hK25 => ?_
        refine c_seq fun _ hK26 => ?_
        refine c_region ?_
        refine o_step rfl (s_move rfl) ?_
        refine o_step rfl (s_not rfl) ?_
        refine o_nil ?_
        refine x_then (hK26 _ _ ?_)
        refine c_ifn rfl (fun hnd => ?_) (fun hnd => ?_)
        · skip
          refine c_seq fun _ hK27 => ?_
          refine c_region ?_
          refine o_step rfl (s_move rfl) ?_
          by_cases hso : ¬ (newR (pT t 256) (pF t 256)).isSome = true
          · skip
            refine o_step rfl (s_eql_t rfl rfl (if_neg hso)) ?_
            refine o_step rfl (s_move rfl) ?_
            refine o_no rfl rfl rfl rfl ?_
            refine o_no rfl rfl rfl rfl ?_
            refine o_step rfl (s_pick_t rfl rfl) ?_
            refine o_step rfl (s_assign rfl) ?_
            refine o_nil ?_
            refine x_then (hK27 _ _ ?_)
            refine c_ret ?_
            refine x_then_ret (?_)
            exact x_ret rfl (.tmp rfl (.nil)) (rfl)
          · skip
            refine o_step rfl (s_eql_f rfl rfl (by rw [if_pos (Decidable.not_not.1 hso)]; decide)) ?_
            refine o_step rfl (s_move rfl) ?_
            refine o_yes rfl rfl ?_
            refine o_step rfl (s_move rfl) ?_
            refine o_yes rfl rfl ?_
            refine o_step rfl (s_eql_t rfl rfl (if_pos (Decidable.not_not.1 hso))) ?_
            refine o_step rfl (s_pick_f rfl rfl) ?_
            refine o_step rfl (s_assign rfl) ?_
            refine o_nil ?_
            refine x_then (hK27 _ _ ?_)
            refine c_ret ?_
            refine x_then_ret (?_)
            exact x_ret rfl (.tmp rfl (.nil)) (rfl)
        · skip
          obtain ⟨l, hl1, hl2, hback⟩ := newR_back ht hnd xs
          rw [hl1] at hlq ⊢
          have hback2 : applyT ((some l).getD zT) (applyT t xs) = xs := hback
          refine c_skip ?_
          refine x_then (hK25 _ _ ?_)
          refine c_seq fun _ hK28 => ?_
          refine c_region ?_
          refine o_step rfl (s_move rfl) ?_
          refine o_step rfl (s_eql_t rfl rfl rfl) ?_
          refine o_step rfl (s_move rfl) ?_
          refine o_yes rfl rfl ?_
          refine o_step rfl (s_move rfl) ?_
          refine o_yes rfl rfl ?_
          refine o_call (apply_fn b2 0 a c t xs ht) rfl rfl rfl (by exact .nil) (fun w st => ⟨(RdPK.own (by repeat (first | exact List.mem_cons_self | apply List.mem_cons_of_mem | apply mem_app))).out w st, (RdK.old0 hw).out w st⟩) (fun v114 S114 ⟨a114, c114, hv114, hS114⟩ => ?_)
          subst hv114
          refine o_yes rfl rfl ?_
          refine o_call (apply_fn b14 0 a114 c114 _ (applyT t xs) hlq) rfl rfl rfl (by exact .nil) (fun w st => ⟨(RdPK.own (by repeat (first | exact List.mem_cons_self | apply List.mem_cons_of_mem | apply mem_app))).out w st, (hS114.rdk (by repeat (first | exact HIn.here | exact HIn.all | exact HIn.one | apply HIn.cons | apply HIn.app))).out w st⟩) (fun v115 S115 ⟨a115, c115, hv115, hS115⟩ => ?_)
          subst hv115
          refine o_yes rfl rfl ?_
          refine o_step rfl (s_move rfl) ?_
          refine o_yes rfl rfl ?_
          refine o_callP (eqBytes_fn a115 a c115 c _ xs) rfl rfl rfl (fun w st => ⟨(hS115.rdk (by repeat (first | exact HIn.here | exact HIn.all | exact HIn.one | apply HIn.cons | apply HIn.app))).out w st, (RdK.old0 hw).out w st⟩) (fun v117 hv117 => ?_)
          rw [decide_eq_true hback2] at hv117
          subst hv117
          refine o_step rfl (s_pick_t rfl rfl) ?_
          refine o_step rfl (s_assign rfl) ?_
          refine o_nil ?_
          refine x_then (hK28 _ _ ?_)
          refine c_ret ?_
          refine ?_
          exact x_ret rfl (.tmp rfl (.nil)) (rfl)
theorem own : ownKnob Try.prog.godebug = none := by kernel_rfl
theorem laidOut : laidOutB Try.prog = true := by kernel_rfl

theorem tableBack_lifted (os : Os) (started : os.Started) (H : Type) (enc : TypeId × Value → H) :
    ReturnsInHanded {} Try.checked os 7 .any (Rows.tableBackSpec.pre6 enc Try.prog Try.f7 Rows.tableBackRow.domain false) (Rows.tableBackSpec.post enc Try.prog Try.f7 false true false false) := by
  refine lift_law (C := Try.checked) (bt := 4) own started (by kernel_rfl) Try.func7
    (ChangeSpec.witness6 (enc := enc) (C := Try.checked) false ⟨#[], #[.agg (Array.replicate 256 (.int .u8 0)), .slice none 0 0], []⟩ 8 (by kernel_rfl) (by kernel_rfl) (by kernel_rfl) (by kernel_rfl)) rfl rfl Try.underlying4 laidOut (by kernel_rfl) (fun H ds h => by
      match ds, h with
      | [_, _], _ => rfl) ?_
  intro W args ds ps hA hval hsz
  have hA0 : DataW.TrodAll enc Try.prog W 0 (fun _ => true) true [62, 35] args.toList ds ps := hA
  obtain ⟨v0, vs0, d0, ds0, p0, q0, hargs, rfl, rfl, h0, r0⟩ := ChangeShapes.trodAll_cons hA0
  obtain ⟨v1, vs1, d1, ds1, p1, q1, rfl, rfl, rfl, h1, r1⟩ := ChangeShapes.trodAll_cons r0
  obtain ⟨rfl, rfl, rfl⟩ := ChangeShapes.trodAll_nil r1
  obtain rfl : args = #[v0, v1] := by cases args; simp_all
  have w0 : ∀ n ∈ DataW.weights Try.prog 62 d0, n ≤ reachBytes := fun n hn => hsz n (DataW.weights_mem_each (ts := [62, 35]) (ds := [d0, d1]) (j := 0) rfl rfl n hn)
  have w1 : ∀ n ∈ DataW.weights Try.prog 35 d1, n ≤ reachBytes := fun n hn => hsz n (DataW.weights_mem_each (ts := [62, 35]) (ds := [d0, d1]) (j := 1) rfl rfl n hn)
  obtain ⟨t, rfl, hl_t, _⟩ := arg_array Try.underlying62 (open_array Try.underlying62 (by kernel_rfl) (by kernel_rfl) (open_u8 Try.underlying5)) (hval 0 62 v0 rfl rfl) h0 w0
  obtain ⟨b, rfl, hr_b, _, hb_b⟩ := arg_slice (E := Eb) Try.underlying35 (open_slice' Try.underlying35 (by kernel_rfl) (by decide) (of_decide_eq_true (by kernel_rfl)) (open_u8 Try.underlying5)) (hval 1 35 v1 rfl rfl) h1 w1
  exact (tableBack_fn t hl_t b.a b.c b.xs).calls W hr_b (Has.nil W)

theorem tableBack_holds : Rows.TableBackSaid :=
  OpenClaim.holds_of_wide 7 Try.f7 rfl rfl rfl rfl rfl rfl rfl ⟨rfl, rfl, rfl, rfl, rfl⟩ rfl rfl rfl rfl rfl (by kernel_rfl) Try.func7 (by kernel_rfl)
    (of_decide_eq_true (by kernel_rfl)) (by unfold Func.isWrapper; first | (rw [if_pos (by decide +kernel)]; kernel_rfl) | (rw [if_neg (by decide +kernel)]; exact ⟨rfl, rfl⟩))
    (fun os started H enc _ => tableBack_lifted os started H enc)
end Go.Proofs.Ythbnkifjplbhgaa
