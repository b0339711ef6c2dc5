/- Proved: the law TableNews returns true for all lists of bytes. Conditions: none. -/
import Derived.Test.YthbnkifjplbhgaaW9
import Derived.Test.YthbnkifjplbhgaaRows
namespace Go.Proofs.Ythbnkifjplbhgaa
open Go Go.HL Go.Proofs Go.Tab
theorem tableNews_fn (a1 a2 : Option Addr) (c1 c2 : Nat) (f t : List UInt8) : HL.Fn Try.prog 5 [.slice a1 f.length c1, .slice a2 t.length c2] (fun w => Rd Eb w (.slice a1 f.length c1) f ∧ Rd Eb w (.slice a2 t.length c2) t) [] (fun v _ => v = .bool true) := by
  refine fn_of Try.func5 rfl rfl rfl fun w0 hw => ?_
  obtain ⟨h1, h2⟩ := hw
  have hs1 := h1.sl
  have hb1 := hs1.le
  have hs2 := h2.sl
  have hb2 := hs2.le
  have hlq : ((newR f t).getD zT).length = 256 := getD_len (fun l h => newR_len h)
  refine c_seq fun _ hK1 => ?_
  refine c_region ?_
  refine o_step rfl (s_assign rfl) ?_
  refine o_nil ?_
  refine x_then (hK1 _ _ ?_)
  refine c_seq fun _ hK2 => ?_
  refine c_seq fun _ hK3 => ?_
  refine c_region ?_
  refine o_step rfl (s_move rfl) ?_
  refine o_step rfl (s_len rfl) ?_
  refine o_callP (long_fn _) rfl rfl rfl (fun _ _ => trivial) (fun v16 hv16 => ?_)
  subst hv16
  by_cases hlf : 2147483647 < (f.length : Int)
  · skip
    refine o_step rfl (step_cast (v' := .bool true) (s_move rfl) (by rw [decide_eq_true hlf])) ?_
    refine o_no rfl rfl rfl rfl ?_
    refine o_no rfl rfl rfl rfl ?_
    refine o_no rfl rfl rfl rfl ?_
    refine o_step rfl (s_pick_t rfl rfl) ?_
    refine o_nil ?_
    refine x_then (hK3 _ _ ?_)
    refine c_true rfl ?_
    refine c_seq fun _ hK4 => ?_
    refine c_region ?_
    refine o_step rfl (s_assign rfl) ?_
    refine o_nil ?_
    refine x_then (hK4 _ _ ?_)
    refine c_ret ?_
    refine x_then_ret (?_)
    exact x_ret rfl (.tmp rfl (.nil)) (rfl)
  · skip
    refine o_step rfl (step_cast (v' := .bool false) (s_move rfl) (by rw [decide_eq_false hlf])) ?_
    refine o_yes rfl rfl ?_
    refine o_step rfl (s_move rfl) ?_
    refine o_yes rfl rfl ?_
    refine o_step rfl (s_len rfl) ?_
    refine o_yes rfl rfl ?_
    refine o_callP (long_fn _) rfl rfl rfl (fun _ _ => trivial) (fun v20 hv20 => ?_)
    subst hv20
    refine o_step rfl (s_pick_f rfl rfl) ?_
    refine o_nil ?_
    refine x_then (hK3 _ _ ?_)
    refine c_if rfl (fun hlt => ?_) (fun hlt => ?_)
    · skip
      refine c_seq fun _ hK5 => ?_
      refine c_region ?_
      refine o_step rfl (s_assign rfl) ?_
      refine o_nil ?_
      refine x_then (hK5 _ _ ?_)
      refine c_ret ?_
      refine x_then_ret (?_)
      exact x_ret rfl (.tmp rfl (.nil)) (rfl)
    · skip
      refine c_skip ?_
      refine x_then (hK2 _ _ ?_)
      refine c_seq fun _ hK6 => ?_
      refine c_region ?_
      refine o_callP (lives_fn) rfl rfl rfl (fun _ _ => trivial) (fun v22 hv22 => ?_)
      subst hv22
      refine o_step rfl (s_assign rfl) ?_
      refine o_nil ?_
      refine x_then (hK6 _ _ ?_)
      refine c_seq fun _ hK7 => ?_
      refine c_region ?_
      refine o_step rfl (s_move rfl) ?_
      refine o_call (wideBytes_fn a1 c1 f (by omega)) rfl rfl rfl (by exact .nil) (fun w st => (RdK.old0 h1).out w st) (fun v24 S24 ⟨ax, hv24, hS24⟩ => ?_)
      subst hv24
      have hX := hS24.pre f.length (by rw [wide_len]; omega)
      rw [wide_take] at hX
      have hslX := hX.sl
      refine o_step rfl (s_assign rfl) ?_
      refine o_nil ?_
      refine x_then (hK7 _ _ ?_)
      refine c_seq fun _ hK8 => ?_
      refine c_region ?_
      refine o_step rfl (s_move rfl) ?_
      refine o_call (wideBytes_fn a2 c2 t (by omega)) rfl rfl rfl (by exact .nil) (fun w st => (RdK.old0 h2).out w st) (fun v26 S26 ⟨ay, hv26, hS26⟩ => ?_)
      subst hv26
      have hY := hS26.pre t.length (by rw [wide_len]; omega)
      rw [wide_take] at hY
      have hslY := hY.sl
      refine o_step rfl (s_assign rfl) ?_
      refine o_nil ?_
      refine x_then (hK8 _ _ ?_)
      refine c_seq fun _ hK9 => ?_
      refine c_region ?_
      refine o_step rfl (s_move rfl) ?_
      refine o_step rfl (s_move rfl) ?_
      refine o_callP (new_fn ax ay _ _ f t) rfl rfl rfl (fun w st => ⟨(hX.rdk (by repeat (first | exact HIn.here | exact HIn.all | exact HIn.one | apply HIn.cons | apply HIn.app))).out w st, (hY.rdk (by repeat (first | exact HIn.here | exact HIn.all | exact HIn.one | apply HIn.cons | apply HIn.app))).out w st⟩) (fun v30 hv30 => ?_)
      subst hv30
      refine o_step rfl (s_move rfl) ?_
      refine o_step rfl (s_extract rfl rfl) ?_
      refine o_step rfl (s_extract rfl rfl) ?_
      refine o_alloc rfl rfl fun b8 => ?_
      refine o_stW rfl rfl (by repeat (first | exact .here | apply Upd.there | apply Upd.skip)) (by first | (rw [flat_len, Nat.mul_one]; first | assumption | exact List.length_replicate) | exact List.length_replicate | rfl) (by first | (rw [flat_len, Nat.mul_one]; first | assumption | exact List.length_replicate) | exact List.length_replicate | rfl) (by first | exact flat_one _ _ | exact one_rep rfl | (simp [Value.oneCell']; done)) ?_
      refine o_step rfl (s_assign rfl) ?_
      refine o_nil ?_
      refine x_then (hK9 _ _ ?_)
      refine c_seq fun _ hK10 => ?_
      refine c_region ?_
      refine o_step rfl (s_move rfl) ?_
      refine o_step rfl (s_move rfl) ?_
      refine o_callP (refNew_fn a1 a2 c1 c2 f t) rfl rfl rfl (fun w st => ⟨(RdK.old0 h1).out w st, (RdK.old0 h2).out w st⟩) (fun v36 hv36 => ?_)
      subst hv36
      refine o_step rfl (s_move rfl) ?_
      refine o_step rfl (s_extract rfl rfl) ?_
      refine o_step rfl (s_extract rfl rfl) ?_
      refine o_alloc rfl rfl fun b10 => ?_
      refine o_stW rfl rfl (by repeat (first | exact .here | apply Upd.there | apply Upd.skip)) (by first | (rw [flat_len, Nat.mul_one]; first | assumption | exact List.length_replicate) | exact List.length_replicate | rfl) (by first | (rw [flat_len, Nat.mul_one]; first | assumption | exact List.length_replicate) | exact List.length_replicate | rfl) (by first | exact flat_one _ _ | exact one_rep rfl | (simp [Value.oneCell']; done)) ?_
      refine o_step rfl (s_assign rfl) ?_
      refine o_nil ?_
      refine x_then (hK10 _ _ ?_)
      refine c_seq fun _ hK11 => ?_
      refine c_seq fun _ hK12 => ?_
      refine c_region ?_
      refine o_step rfl (s_move rfl) ?_
      refine o_step rfl (s_not rfl) ?_
      refine o_step rfl (s_move rfl) ?_
      refine o_yes rfl rfl ?_
      refine o_step rfl (s_move rfl) ?_
      refine o_yes rfl rfl ?_
      refine o_step rfl (s_move rfl) ?_
      refine o_yes rfl rfl ?_
      refine o_step rfl (s_neq_f rfl rfl rfl) ?_
      refine o_step rfl (s_pick_f rfl rfl) ?_
      refine o_step rfl (s_move rfl) ?_
      refine o_yes rfl rfl ?_
      refine o_step rfl (s_ldB rfl (RdPK.cels (.own (by repeat (first | exact List.mem_cons_self | apply List.mem_cons_of_mem | apply mem_app)))) (by first | (rw [flat_len, Nat.mul_one]; first | assumption | exact List.length_replicate) | exact List.length_replicate | rfl)) ?_
      refine o_yes rfl rfl ?_
      refine o_step rfl (s_ldB rfl (RdPK.cels (.own (by repeat (first | exact List.mem_cons_self | apply List.mem_cons_of_mem | apply mem_app)))) (by first | (rw [flat_len, Nat.mul_one]; first | assumption | exact List.length_replicate) | exact List.length_replicate | rfl)) ?_
      refine o_yes rfl rfl ?_
      refine o_step rfl (step_false (by simp) (s_neq_tab rfl rfl hlq hlq)) ?_
      refine o_step rfl (s_pick_f rfl rfl) ?_
      refine o_step rfl (s_move rfl) ?_
      refine o_yes rfl rfl ?_
      refine o_step rfl (s_move rfl) ?_
      refine o_yes rfl rfl ?_
      refine o_step rfl (s_move rfl) ?_
      refine o_yes rfl rfl ?_
      refine o_callP (eqBytes_fn ax a1 _ c1 f f) rfl rfl rfl (fun w st => ⟨(hX.rdk (by repeat (first | exact HIn.here | exact HIn.all | exact HIn.one | apply HIn.cons | apply HIn.app))).out w st, (RdK.old0 h1).out w st⟩) (fun v54 hv54 => ?_)
      rw [decide_eq_true rfl] at hv54
      subst hv54
      refine o_yes rfl rfl ?_
      refine o_step rfl (s_not rfl) ?_
      refine o_step rfl (s_pick_f rfl rfl) ?_
      refine o_step rfl (s_move rfl) ?_
      refine o_yes rfl rfl ?_
      refine o_step rfl (s_move rfl) ?_
      refine o_yes rfl rfl ?_
      refine o_step rfl (s_move rfl) ?_
      refine o_yes rfl rfl ?_
      refine o_callP (eqBytes_fn ay a2 _ c2 t t) rfl rfl rfl (fun w st => ⟨(hY.rdk (by repeat (first | exact HIn.here | exact HIn.all | exact HIn.one | apply HIn.cons | apply HIn.app))).out w st, (RdK.old0 h2).out w st⟩) (fun v60 hv60 => ?_)
      rw [decide_eq_true rfl] at hv60
      subst hv60
      refine o_yes rfl rfl ?_
      refine o_step rfl (s_not rfl) ?_
      refine o_step rfl (s_pick_f rfl rfl) ?_
      refine o_step rfl (s_move rfl) ?_
      refine o_yes rfl rfl ?_
      refine o_step rfl (s_move rfl) ?_
      refine o_yes rfl rfl ?_
      refine o_callP (spareBytes_fn ax _ f (by omega)) rfl rfl rfl (fun w st => (hS24.rdk (by repeat (first | exact HIn.here | exact HIn.all | exact HIn.one | apply HIn.cons | apply HIn.app))).out w st) (fun v65 hv65 => ?_)
      subst hv65
      refine o_yes rfl rfl ?_
      refine o_step rfl (s_not rfl) ?_
      refine o_step rfl (s_pick_f rfl rfl) ?_
      refine o_step rfl (s_move rfl) ?_
      refine o_yes rfl rfl ?_
      refine o_step rfl (s_move rfl) ?_
      refine o_yes rfl rfl ?_
      refine o_callP (spareBytes_fn ay _ t (by omega)) rfl rfl rfl (fun w st => (hS26.rdk (by repeat (first | exact HIn.here | exact HIn.all | exact HIn.one | apply HIn.cons | apply HIn.app))).out w st) (fun v70 hv70 => ?_)
      subst hv70
      refine o_yes rfl rfl ?_
      refine o_step rfl (s_not rfl) ?_
      refine o_step rfl (s_pick_f rfl rfl) ?_
      refine o_nil ?_
      refine x_then (hK12 _ _ ?_)
      refine c_false rfl ?_
      refine c_skip ?_
      refine x_then (hK11 _ _ ?_)
      refine c_seq fun _ hK13 => ?_
      refine c_seq fun _ hK14 => ?_
      refine c_region ?_
      refine o_step rfl (s_assign rfl) ?_
      refine o_nil ?_
      refine x_then (hK14 _ _ ?_)
      refine c_block ?_
      refine c_loop3 (fun (j : Nat) (X : List UInt8) (SX : Hp) => j ≤ f.length ∧ X.length = f.length ∧ OwnS Eb 1 5 (.slice ax f.length (f.length + 64)) X SX) (fun (j : Nat) (X : List UInt8) (SX : Hp) => [(12, .int .i64 j)]) [(4, _), (6, _), (7, _), (8, _), (9, _), (10, _), (11, _)] (fun (j : Nat) (X : List UInt8) (SX : Hp) => SX ++ (S26 ++ [(b8, .cells (flat Eb ((newR f t).getD zT)).toArray 62 (0, 0)), (b10, .cells (flat Eb ((newR f t).getD zT)).toArray 62 (0, 0))])) (fun (j : Nat) (X : List UInt8) (SX : Hp) => f.length - j) 0 _ _ ⟨by omega, rfl, hX⟩ (by repeat (first | exact Sub.nil | refine Sub.cons rfl ?_)) (by repeat (first | exact Sub.nil | refine Sub.cons rfl ?_)) (by repeat (first | exact HSub.refl _ | exact HSub.nil | refine HSub.takeC (by repeat (first | exact .one | exact .here | exact .all | apply Pick.cons | apply Pick.app)) ?_ | refine HSub.take (by repeat (first | exact .one | exact .here | exact .all | apply Pick.cons | apply Pick.app)) ?_ | exact HSub.of_pick (by repeat (first | exact .one | exact .here | exact .all | apply Pick.cons | apply Pick.app)))) ?_
      rintro j X SX ⟨hj, hlX, hSX⟩
      refine c_seq fun _ hK15 => ?_
      refine c_seq fun _ hK16 => ?_
      refine c_region ?_
      refine o_step rfl (s_move rfl) ?_
      refine o_step rfl (s_move rfl) ?_
      refine o_step rfl (s_len rfl) ?_
      refine o_step rfl (s_lss rfl rfl) ?_
      refine o_nil ?_
      refine x_then (hK16 _ _ ?_)
      refine c_if rfl (fun hlx => ?_) (fun hlx => ?_)
      · skip
        refine c_skip ?_
        refine x_then (hK15 _ _ ?_)
        refine c_seq fun _ hK17 => ?_
        refine c_block ?_
        refine c_region ?_
        refine o_step rfl (s_move rfl) ?_
        refine o_step rfl (s_move rfl) ?_
        refine o_step rfl (s_move rfl) ?_
        refine o_step rfl (s_move rfl) ?_
        refine o_step rfl (s_idx rfl rfl (by assumption) (by omega)) ?_
        refine o_step rfl (s_ld rfl ((hSX.rdk (by repeat (first | exact HIn.here | exact HIn.all | exact HIn.one | apply HIn.cons | apply HIn.app))).ld j 0 (at0_get (by omega)) rfl (by decide) (by omega))) ?_
        refine o_step rfl (step_cast (v' := .int .u8 (UInt8.ofNat ((at0 X j).toNat + 1)).toNat) (s_addw rfl rfl) (by rw [← wrap_u8]; rfl)) ?_
        refine o_step rfl (s_idx rfl rfl (by assumption) (by omega)) ?_
        refine o_stS1 j (UInt8.ofNat ((at0 X j).toNat + 1)) hSX (by repeat (first | exact .one | exact .here | exact .all | apply Pick.cons | apply Pick.app)) rfl rfl rfl (by omega) (by rw [Int.toNat_natCast, Nat.mul_one]) fun S' hS' => ?_
        refine o_nil ?_
        refine x_block ?_
        refine x_then (hK17 _ _ ?_)
        refine c_region ?_
        refine o_step rfl (s_move rfl) ?_
        refine o_step rfl (s_add rfl rfl (by omega)) ?_
        refine o_step rfl (s_assign rfl) ?_
        refine o_nil ?_
        exact x_then (x_inv (j + 1, _, _) ⟨by omega, by rw [List.length_set]; exact hlX, hS'⟩ (by first | omega | (dsimp only; omega)) (by repeat (first | exact Sub.nil | refine Sub.cons rfl ?_)) (by repeat (first | exact HSub.refl _ | exact HSub.nil | refine HSub.takeC (by repeat (first | exact .one | exact .here | exact .all | apply Pick.cons | apply Pick.app)) ?_ | refine HSub.take (by repeat (first | exact .one | exact .here | exact .all | apply Pick.cons | apply Pick.app)) ?_ | exact HSub.of_pick (by repeat (first | exact .one | exact .here | exact .all | apply Pick.cons | apply Pick.app)))))
      · skip
        rw [← hlX] at hSX ⊢
        refine c_exit ?_
        refine x_then_exit ?_
        refine x_then_exit ?_
        refine x_block_exit ?_
        refine x_then (hK13 _ _ ?_)
        refine c_seq fun _ hK18 => ?_
        refine c_seq fun _ hK19 => ?_
        refine c_region ?_
        refine o_step rfl (s_assign rfl) ?_
        refine o_nil ?_
        refine x_then (hK19 _ _ ?_)
        refine c_block ?_
        refine c_loop3 (fun (j : Nat) (Y : List UInt8) (SY : Hp) => j ≤ t.length ∧ Y.length = t.length ∧ OwnS Eb 1 5 (.slice ay t.length (t.length + 64)) Y SY) (fun (j : Nat) (Y : List UInt8) (SY : Hp) => [(13, .int .i64 j)]) [(4, _), (6, _), (7, _), (8, _), (9, _), (10, _), (11, _)] (fun (j : Nat) (Y : List UInt8) (SY : Hp) => SY ++ (SX ++ [(b8, .cells (flat Eb ((newR f t).getD zT)).toArray 62 (0, 0)), (b10, .cells (flat Eb ((newR f t).getD zT)).toArray 62 (0, 0))])) (fun (j : Nat) (Y : List UInt8) (SY : Hp) => t.length - j) 0 _ _ ⟨by omega, rfl, hY⟩ (by repeat (first | exact Sub.nil | refine Sub.cons rfl ?_)) (by repeat (first | exact Sub.nil | refine Sub.cons rfl ?_)) (by repeat (first | exact HSub.refl _ | exact HSub.nil | refine HSub.takeC (by repeat (first | exact .one | exact .here | exact .all | apply Pick.cons | apply Pick.app)) ?_ | refine HSub.take (by repeat (first | exact .one | exact .here | exact .all | apply Pick.cons | apply Pick.app)) ?_ | exact HSub.of_pick (by repeat (first | exact .one | exact .here | exact .all | apply Pick.cons | apply Pick.app)))) ?_
        rintro j Y SY ⟨hj, hlY, hSY⟩
        refine c_seq fun _ hK20 => ?_
        refine c_seq fun _ hK21 => ?_
        refine c_region ?_
        refine o_step rfl (s_move rfl) ?_
        refine o_step rfl (s_move rfl) ?_
        refine o_step rfl (s_len rfl) ?_
        refine o_step rfl (s_lss rfl rfl) ?_
        refine o_nil ?_
        refine x_then (hK21 _ _ ?_)
        refine c_if rfl (fun hly => ?_) (fun hly => ?_)
        · skip
          refine c_skip ?_
          refine x_then (hK20 _ _ ?_)
          refine c_seq fun _ hK22 => ?_
          refine c_block ?_
          refine c_region ?_
          refine o_step rfl (s_move rfl) ?_
          refine o_step rfl (s_move rfl) ?_
          refine o_step rfl (s_move rfl) ?_
          refine o_step rfl (s_move rfl) ?_
          refine o_step rfl (s_idx rfl rfl (by assumption) (by omega)) ?_
          refine o_step rfl (s_ld rfl ((hSY.rdk (by repeat (first | exact HIn.here | exact HIn.all | exact HIn.one | apply HIn.cons | apply HIn.app))).ld j 0 (at0_get (by omega)) rfl (by decide) (by omega))) ?_
          refine o_step rfl (step_cast (v' := .int .u8 (UInt8.ofNat (BitVec.ofInt 8 ((at0 Y j).toNat : Int) ^^^ BitVec.ofInt 8 9).toNat).toNat) (s_xor rfl rfl) (by rw [← wrap_u8]; rfl)) ?_
          refine o_step rfl (s_idx rfl rfl (by assumption) (by omega)) ?_
          refine o_stS1 j (UInt8.ofNat (BitVec.ofInt 8 ((at0 Y j).toNat : Int) ^^^ BitVec.ofInt 8 9).toNat) hSY (by repeat (first | exact .one | exact .here | exact .all | apply Pick.cons | apply Pick.app)) rfl rfl rfl (by omega) (by rw [Int.toNat_natCast, Nat.mul_one]) fun S' hS' => ?_
          refine o_nil ?_
          refine x_block ?_
          refine x_then (hK22 _ _ ?_)
          refine c_region ?_
          refine o_step rfl (s_move rfl) ?_
          refine o_step rfl (s_add rfl rfl (by omega)) ?_
          refine o_step rfl (s_assign rfl) ?_
          refine o_nil ?_
          exact x_then (x_inv (j + 1, _, _) ⟨by omega, by rw [List.length_set]; exact hlY, hS'⟩ (by first | omega | (dsimp only; omega)) (by repeat (first | exact Sub.nil | refine Sub.cons rfl ?_)) (by repeat (first | exact HSub.refl _ | exact HSub.nil | refine HSub.takeC (by repeat (first | exact .one | exact .here | exact .all | apply Pick.cons | apply Pick.app)) ?_ | refine HSub.take (by repeat (first | exact .one | exact .here | exact .all | apply Pick.cons | apply Pick.app)) ?_ | exact HSub.of_pick (by repeat (first | exact .one | exact .here | exact .all | apply Pick.cons | apply Pick.app)))))
        · skip
          rw [← hlY] at hSY ⊢
          refine c_exit ?_
          refine x_then_exit ?_
          refine x_then_exit ?_
          refine x_block_exit ?_
          refine x_then (hK18 _ _ ?_)
          refine c_seq fun _ hK23 => ?_
          refine c_region ?_
          refine o_step rfl (s_move rfl) ?_
          refine o_call (copy_fn ax _ X) rfl rfl rfl (by exact .nil) (fun w st => (hSX.rdk (by repeat (first | exact HIn.here | exact HIn.all | exact HIn.one | apply HIn.cons | apply HIn.app))).out w st) (fun v103 S103 ⟨a103, c103, hv103, hS103⟩ => ?_)
          subst hv103
          refine o_step rfl (s_move rfl) ?_
          refine o_call (copy_fn ay _ Y) rfl rfl rfl (by exact .nil) (fun w st => (hSY.rdk (by repeat (first | exact HIn.here | exact HIn.all | exact HIn.one | apply HIn.cons | apply HIn.app))).out w st) (fun v105 S105 ⟨a105, c105, hv105, hS105⟩ => ?_)
          subst hv105
          refine o_callP (refNew_fn a103 a105 c103 c105 X Y) rfl rfl rfl (fun w st => ⟨(hS103.rdk (by repeat (first | exact HIn.here | exact HIn.all | exact HIn.one | apply HIn.cons | apply HIn.app))).out w st, (hS105.rdk (by repeat (first | exact HIn.here | exact HIn.all | exact HIn.one | apply HIn.cons | apply HIn.app))).out w st⟩) (fun v106 hv106 => ?_)
          subst hv106
          have hlq2 : ((newR X Y).getD zT).length = 256 := getD_len (fun l h => newR_len h)
          refine o_step rfl (s_move rfl) ?_
          refine o_step rfl (s_extract rfl rfl) ?_
          refine o_step rfl (s_extract rfl rfl) ?_
          refine o_stW rfl rfl (by repeat (first | exact .here | apply Upd.there | apply Upd.skip)) (by first | (rw [flat_len, Nat.mul_one]; first | assumption | exact List.length_replicate) | exact List.length_replicate | rfl) (by first | (rw [flat_len, Nat.mul_one]; first | assumption | exact List.length_replicate) | exact List.length_replicate | rfl) (by first | exact flat_one _ _ | exact one_rep rfl | (simp [Value.oneCell']; done)) ?_
          refine o_step rfl (s_assign rfl) ?_
          refine o_nil ?_
          refine x_then (hK23 _ _ ?_)
          refine c_seq fun _ hK24 => ?_
          refine c_region ?_
          refine o_step rfl (s_move rfl) ?_
          refine o_step rfl (s_move rfl) ?_
          refine o_callP (new_fn ax ay _ _ X Y) rfl rfl rfl (fun w st => ⟨(hSX.rdk (by repeat (first | exact HIn.here | exact HIn.all | exact HIn.one | apply HIn.cons | apply HIn.app))).out w st, (hSY.rdk (by repeat (first | exact HIn.here | exact HIn.all | exact HIn.one | apply HIn.cons | apply HIn.app))).out w st⟩) (fun v112 hv112 => ?_)
          subst hv112
          refine o_step rfl (s_move rfl) ?_
          refine o_step rfl (s_extract rfl rfl) ?_
          refine o_step rfl (s_extract rfl rfl) ?_
          refine o_stW rfl rfl (by repeat (first | exact .here | apply Upd.there | apply Upd.skip)) (by first | (rw [flat_len, Nat.mul_one]; first | assumption | exact List.length_replicate) | exact List.length_replicate | rfl) (by first | (rw [flat_len, Nat.mul_one]; first | assumption | exact List.length_replicate) | exact List.length_replicate | rfl) (by first | exact flat_one _ _ | exact one_rep rfl | (simp [Value.oneCell']; done)) ?_
          refine o_step rfl (s_assign rfl) ?_
          refine o_nil ?_
          refine x_then (hK24 _ _ ?_)
          refine c_seq fun _ hK25 => ?_
          refine c_region ?_
          refine o_step rfl (s_move rfl) ?_
          refine o_step rfl (s_move rfl) ?_
          refine o_step rfl (s_eql_t rfl rfl rfl) ?_
          refine o_step rfl (s_move rfl) ?_
          refine o_yes rfl rfl ?_
          refine o_step rfl (s_ldB rfl (RdPK.cels (.own (by repeat (first | exact List.mem_cons_self | apply List.mem_cons_of_mem | apply mem_app)))) (by first | (rw [flat_len, Nat.mul_one]; first | assumption | exact List.length_replicate) | exact List.length_replicate | rfl)) ?_
          refine o_yes rfl rfl ?_
          refine o_step rfl (s_ldB rfl (RdPK.cels (.own (by repeat (first | exact List.mem_cons_self | apply List.mem_cons_of_mem | apply mem_app)))) (by first | (rw [flat_len, Nat.mul_one]; first | assumption | exact List.length_replicate) | exact List.length_replicate | rfl)) ?_
          refine o_yes rfl rfl ?_
          refine o_step rfl (step_true rfl (s_eql_tab rfl rfl hlq2 hlq2)) ?_
          refine o_step rfl (s_pick_t rfl rfl) ?_
          refine o_step rfl (s_assign rfl) ?_
          refine o_nil ?_
          refine x_then (hK25 _ _ ?_)
          refine c_ret ?_
          refine ?_
          exact x_ret rfl (.tmp rfl (.nil)) (rfl)
theorem own : ownKnob Try.prog.godebug = none := by kernel_rfl
theorem laidOut : laidOutB Try.prog = true := by kernel_rfl

theorem tableNews_lifted (os : Os) (started : os.Started) (H : Type) (enc : TypeId × Value → H) :
    ReturnsInHanded {} Try.checked os 5 .any (Rows.tableNewsSpec.pre6 enc Try.prog Try.f5 Rows.tableNewsRow.domain false) (Rows.tableNewsSpec.post enc Try.prog Try.f5 false true false false) := by
  refine lift_law (C := Try.checked) (bt := 4) own started (by kernel_rfl) Try.func5
    (ChangeSpec.witness6 (enc := enc) (C := Try.checked) false ⟨#[], #[.slice none 0 0, .slice none 0 0], []⟩ 8 (by kernel_rfl) (by kernel_rfl) (by kernel_rfl) (by kernel_rfl)) rfl rfl Try.underlying4 laidOut (by kernel_rfl) (fun H ds h => by
      match ds, h with
      | [_, _], _ => rfl) ?_
  intro W args ds ps hA hval hsz
  have hA0 : DataW.TrodAll enc Try.prog W 0 (fun _ => true) true [35, 35] args.toList ds ps := hA
  obtain ⟨v0, vs0, d0, ds0, p0, q0, hargs, rfl, rfl, h0, r0⟩ := ChangeShapes.trodAll_cons hA0
  obtain ⟨v1, vs1, d1, ds1, p1, q1, rfl, rfl, rfl, h1, r1⟩ := ChangeShapes.trodAll_cons r0
  obtain ⟨rfl, rfl, rfl⟩ := ChangeShapes.trodAll_nil r1
  obtain rfl : args = #[v0, v1] := by cases args; simp_all
  have w0 : ∀ n ∈ DataW.weights Try.prog 35 d0, n ≤ reachBytes := fun n hn => hsz n (DataW.weights_mem_each (ts := [35, 35]) (ds := [d0, d1]) (j := 0) rfl rfl n hn)
  have w1 : ∀ n ∈ DataW.weights Try.prog 35 d1, n ≤ reachBytes := fun n hn => hsz n (DataW.weights_mem_each (ts := [35, 35]) (ds := [d0, d1]) (j := 1) rfl rfl n hn)
  obtain ⟨f, rfl, hr_f, _, hb_f⟩ := arg_slice (E := Eb) Try.underlying35 (open_slice' Try.underlying35 (by kernel_rfl) (by decide) (of_decide_eq_true (by kernel_rfl)) (open_u8 Try.underlying5)) (hval 0 35 v0 rfl rfl) h0 w0
  obtain ⟨t, rfl, hr_t, _, hb_t⟩ := arg_slice (E := Eb) Try.underlying35 (open_slice' Try.underlying35 (by kernel_rfl) (by decide) (of_decide_eq_true (by kernel_rfl)) (open_u8 Try.underlying5)) (hval 1 35 v1 rfl rfl) h1 w1
  exact (tableNews_fn f.a t.a f.c t.c f.xs t.xs).calls W ⟨hr_f, hr_t⟩ (Has.nil W)

theorem tableNews_holds : Rows.TableNewsSaid :=
  OpenClaim.holds_of_wide 5 Try.f5 rfl rfl rfl rfl rfl rfl rfl ⟨rfl, rfl, rfl, rfl, rfl⟩ rfl rfl rfl rfl rfl (by kernel_rfl) Try.func5 (by kernel_rfl)
    (of_decide_eq_true (by kernel_rfl)) (by unfold Func.isWrapper; first | (rw [if_pos (by decide +kernel)]; kernel_rfl) | (rw [if_neg (by decide +kernel)]; exact ⟨rfl, rfl⟩))
    (fun os started H enc _ => tableNews_lifted os started H enc)
end Go.Proofs.Ythbnkifjplbhgaa
