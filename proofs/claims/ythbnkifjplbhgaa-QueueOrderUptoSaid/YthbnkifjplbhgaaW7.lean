/- Part of the proofs over this seat: see the text that holds the theorem. Conditions: each theorem bears its own. -/
import Derived.Test.YthbnkifjplbhgaaW4
import Derived.Test.YthbnkifjplbhgaaM2
import Derived.Test.YthbnkifjplbhgaaHlB
namespace Go.Proofs.Ythbnkifjplbhgaa
open Go Go.HL Go.Proofs Go.Tab
theorem long_fn (n : Int) : HL.Fn Try.prog 25 [.int .i64 n] (fun _ => True) [] (fun v _ => v = .bool (decide (2147483647 < n))) := by
  refine fn_of Try.func25 rfl rfl rfl fun w0 hw => ?_
  refine c_seq fun _ hK1 => ?_
  refine c_region ?_
  refine o_step rfl (s_assign rfl) ?_
  refine o_nil ?_
  refine x_then (hK1 _ _ ?_)
  refine c_seq fun _ hK2 => ?_
  refine c_region ?_
  refine o_step rfl (s_move rfl) ?_
  refine o_step rfl (s_gtr rfl rfl) ?_
  refine o_step rfl (s_assign rfl) ?_
  refine o_nil ?_
  refine x_then (hK2 _ _ ?_)
  refine c_ret ?_
  refine ?_
  exact x_ret rfl (.tmp rfl (.nil)) (rfl)

theorem print_fn (b1 o1 : Nat) (t : List UInt8) (ht : t.length = 256) : HL.Fn Try.prog 34 [.pointer (some ⟨b1, o1, none⟩)] (fun w => RdP w b1 o1 (flat Eb t)) [] (fun v S' => ∃ a c a' c' S1 S2, v = .tuple #[.slice a (pF t 256).length c, .slice a' (pT t 256).length c'] ∧ S' = S1 ++ S2 ∧ OwnS Eb 1 5 (.slice a (pF t 256).length c) (pF t 256) S1 ∧ OwnS Eb 1 5 (.slice a' (pT t 256).length c') (pT t 256) S2) := by
  refine fn_of Try.func34 rfl rfl rfl fun w0 hw => ?_
  refine c_seq fun _ hK1 => ?_
  refine c_region ?_
  refine o_step rfl (s_assign rfl) ?_
  refine o_step rfl (s_assign rfl) ?_
  refine o_nil ?_
  refine x_then (hK1 _ _ ?_)
  refine c_seq fun _ hK2 => ?_
  refine c_region ?_
  refine o_step rfl (s_assign rfl) ?_
  refine o_step rfl (s_assign rfl) ?_
  refine o_nil ?_
  refine x_then (hK2 _ _ ?_)
  refine c_seq fun _ hK3 => ?_
  refine c_seq fun _ hK4 => ?_
  refine c_region ?_
  refine o_step rfl (s_move rfl) ?_
  refine o_step rfl (step_cast (v' := .bool false) (s_eql_nilp rfl rfl) rfl) ?_
  refine o_nil ?_
  refine x_then (hK4 _ _ ?_)
  refine c_false rfl ?_
  refine c_skip ?_
  refine x_then (hK3 _ _ ?_)
  refine c_seq fun _ hK5 => ?_
  refine c_seq fun _ hK6 => ?_
  refine c_region ?_
  refine o_step rfl (s_move rfl) ?_
  refine o_step rfl (s_move rfl) ?_
  refine o_nil ?_
  refine x_then (hK6 _ _ ?_)
  refine c_block ?_
  refine c_loop7 (fun (j : Nat) (a : Option Addr) (c : Nat) (a2 : Option Addr) (c2 : Nat) (S : Hp) (S2 : Hp) => j ≤ 256 ∧ OwnS Eb 1 5 (.slice a (pF t j).length c) (pF t j) S ∧ OwnS Eb 1 5 (.slice a2 (pT t j).length c2) (pT t j) S2) (fun (j : Nat) (a : Option Addr) (c : Nat) (a2 : Option Addr) (c2 : Nat) (S : Hp) (S2 : Hp) => [(4, .slice a (pF t j).length c), (5, .slice a2 (pT t j).length c2), (11, .int .i64 j)]) [(2, _), (3, _), (10, _)] (fun (j : Nat) (a : Option Addr) (c : Nat) (a2 : Option Addr) (c2 : Nat) (S : Hp) (S2 : Hp) => S ++ S2) (fun (j : Nat) (a : Option Addr) (c : Nat) (a2 : Option Addr) (c2 : Nat) (S : Hp) (S2 : Hp) => 256 - j) 0 none 0 none 0 [] [] ⟨by omega, .nil, .nil⟩ (by repeat (first | exact Sub.nil | refine Sub.cons rfl ?_)) (by repeat (first | exact Sub.nil | refine Sub.cons rfl ?_)) (by exact HSub.refl _) ?_
  rintro j a c a2 c2 S S2 ⟨hj, hS, hT⟩
  have hlF := pF_len t j
  have hlT := pT_len t j
  have hlI := pIdx_len t j
  refine c_seq fun _ hK7 => ?_
  refine c_region ?_
  refine o_step rfl (s_lss rfl rfl) ?_
  refine o_nil ?_
  refine x_then (hK7 _ _ ?_)
  refine c_seq fun _ hK8 => ?_
  refine c_if rfl (fun hlt => ?_) (fun hlt => ?_)
  · skip
    refine c_skip ?_
    refine x_then (hK8 _ _ ?_)
    refine c_seq fun _ hK9 => ?_
    refine c_block ?_
    refine c_seq fun _ hK10 => ?_
    refine c_quiet (by kernel_rfl) ?_
    refine .op rfl (s_move rfl) ?_
    refine .op rfl (s_nil rfl) ?_
    refine .op rfl (s_indexA rfl rfl (by omega)) ?_
    refine .op rfl (s_ld rfl ((RdPK.old0 hw).cel (j := j) (flatEb_get (at0_get (by omega))) (by omega))) ?_
    refine .op rfl (s_assign rfl) ?_
    refine .op rfl (s_assign rfl) ?_
    refine .nil ?_
    refine x_then (hK10 _ _ ?_)
    refine c_seq fun _ hK11 => ?_
    refine c_region ?_
    refine o_step rfl (s_move rfl) ?_
    refine o_step rfl (s_convB rfl) ?_
    refine o_step rfl (s_move rfl) ?_
    refine o_step rfl (s_neq rfl rfl) ?_
    refine o_nil ?_
    refine x_then (hK11 _ _ ?_)
    refine c_if rfl (fun hq => ?_) (fun hq => ?_)
    · skip
      have hy : at0 t j ≠ UInt8.ofNat j := fun e => hq (by rw [e])
      refine c_region ?_
      refine o_step rfl (s_move rfl) ?_
      refine o_step rfl (s_move rfl) ?_
      refine o_step rfl (s_convB rfl) ?_
      refine o_bs (E := Eb) (xs := [UInt8.ofNat j]) (vs := [_]) rfl rfl rfl rfl rfl (by decide) (by decide) fun b24 S24 hS24 => ?_
      refine o_app hS (hS24.rdk (by repeat (first | exact HIn.here | exact HIn.all | exact HIn.one | apply HIn.cons | apply HIn.assoc | apply HIn.app))) rfl rfl rfl rfl (by rw [hlF]; show ((pIdx t j).length + 1) * 1 ≤ _; omega) (by rw [hlF]; show (pIdx t j).length + 1 ≤ _; omega) rfl (by first | ((repeat (first | exact .one | exact .here | exact .all | apply Pick.cons | apply Pick.app)); done) | ((repeat (first | exact .one | exact .here | exact .all | apply Pick.cons | apply Pick.assoc | apply Pick.app)); done) | exact Pick.takeA (by repeat (first | exact .one | exact .here | exact .all | apply Pick.cons | apply Pick.assoc | apply Pick.app)) (by repeat (first | exact .one | exact .here | exact .all | apply Pick.cons | apply Pick.assoc | apply Pick.app))) fun a25 c25 S25 hS25 => ?_
      rw [← pF_yes hy] at hS25 ⊢
      refine o_step rfl (s_move rfl) ?_
      refine o_step rfl (s_move rfl) ?_
      refine o_bs (E := Eb) (xs := [at0 t j]) (vs := [_]) rfl rfl rfl rfl rfl (by decide) (by decide) fun b28 S28 hS28 => ?_
      refine o_app hT (hS28.rdk (by repeat (first | exact HIn.here | exact HIn.all | exact HIn.one | apply HIn.cons | apply HIn.assoc | apply HIn.app))) rfl rfl rfl rfl (by rw [hlT]; show ((pIdx t j).length + 1) * 1 ≤ _; omega) (by rw [hlT]; show (pIdx t j).length + 1 ≤ _; omega) rfl (by first | ((repeat (first | exact .one | exact .here | exact .all | apply Pick.cons | apply Pick.app)); done) | ((repeat (first | exact .one | exact .here | exact .all | apply Pick.cons | apply Pick.assoc | apply Pick.app)); done) | exact Pick.takeA (by repeat (first | exact .one | exact .here | exact .all | apply Pick.cons | apply Pick.assoc | apply Pick.app)) (by repeat (first | exact .one | exact .here | exact .all | apply Pick.cons | apply Pick.assoc | apply Pick.app))) fun a29 c29 S29 hS29 => ?_
      rw [← pT_yes hy] at hS29 ⊢
      refine o_step rfl (s_assign rfl) ?_
      refine o_step rfl (s_assign rfl) ?_
      refine o_nil ?_
      refine x_block ?_
      refine x_then (hK9 _ _ ?_)
      refine c_region ?_
      refine o_step rfl (s_add rfl rfl (by omega)) ?_
      refine o_step rfl (s_move rfl) ?_
      refine o_nil ?_
      exact x_then (x_inv (j + 1, _, _, _, _, _, _) ⟨by omega, hS25, hS29⟩ (by first | omega | (dsimp only; omega)) (by repeat (first | exact Sub.nil | refine Sub.cons rfl ?_)) (by repeat (first | exact HSub.refl _ | exact HSub.nil | refine HSub.takeC (by first | ((repeat (first | exact .one | exact .here | exact .all | apply Pick.cons | apply Pick.app)); done) | ((repeat (first | exact .one | exact .here | exact .all | apply Pick.cons | apply Pick.assoc | apply Pick.app)); done) | exact Pick.takeA (by repeat (first | exact .one | exact .here | exact .all | apply Pick.cons | apply Pick.assoc | apply Pick.app)) (by repeat (first | exact .one | exact .here | exact .all | apply Pick.cons | apply Pick.assoc | apply Pick.app))) ?_ | refine HSub.take (by first | ((repeat (first | exact .one | exact .here | exact .all | apply Pick.cons | apply Pick.app)); done) | ((repeat (first | exact .one | exact .here | exact .all | apply Pick.cons | apply Pick.assoc | apply Pick.app)); done) | exact Pick.takeA (by repeat (first | exact .one | exact .here | exact .all | apply Pick.cons | apply Pick.assoc | apply Pick.app)) (by repeat (first | exact .one | exact .here | exact .all | apply Pick.cons | apply Pick.assoc | apply Pick.app))) ?_ | exact HSub.of_pick (by first | ((repeat (first | exact .one | exact .here | exact .all | apply Pick.cons | apply Pick.app)); done) | ((repeat (first | exact .one | exact .here | exact .all | apply Pick.cons | apply Pick.assoc | apply Pick.app)); done) | exact Pick.takeA (by repeat (first | exact .one | exact .here | exact .all | apply Pick.cons | apply Pick.assoc | apply Pick.app)) (by repeat (first | exact .one | exact .here | exact .all | apply Pick.cons | apply Pick.assoc | apply Pick.app))))))
    · skip
      have hno : ¬ at0 t j ≠ UInt8.ofNat j := fun e => hq (fun e2 => e (UInt8.toNat_inj.1 (by omega)))
      refine c_skip ?_
      refine x_block ?_
      refine x_then (hK9 _ _ ?_)
      refine c_region ?_
      refine o_step rfl (s_add rfl rfl (by omega)) ?_
      refine o_step rfl (s_move rfl) ?_
      refine o_nil ?_
      rw [← pF_no hno] at hS ⊢
      rw [← pT_no hno] at hT ⊢
      exact x_then (x_inv (j + 1, _, _, _, _, _, _) ⟨by omega, hS, hT⟩ (by first | omega | (dsimp only; omega)) (by repeat (first | exact Sub.nil | refine Sub.cons rfl ?_)) (by repeat (first | exact HSub.refl _ | exact HSub.nil | refine HSub.takeC (by first | ((repeat (first | exact .one | exact .here | exact .all | apply Pick.cons | apply Pick.app)); done) | ((repeat (first | exact .one | exact .here | exact .all | apply Pick.cons | apply Pick.assoc | apply Pick.app)); done) | exact Pick.takeA (by repeat (first | exact .one | exact .here | exact .all | apply Pick.cons | apply Pick.assoc | apply Pick.app)) (by repeat (first | exact .one | exact .here | exact .all | apply Pick.cons | apply Pick.assoc | apply Pick.app))) ?_ | refine HSub.take (by first | ((repeat (first | exact .one | exact .here | exact .all | apply Pick.cons | apply Pick.app)); done) | ((repeat (first | exact .one | exact .here | exact .all | apply Pick.cons | apply Pick.assoc | apply Pick.app)); done) | exact Pick.takeA (by repeat (first | exact .one | exact .here | exact .all | apply Pick.cons | apply Pick.assoc | apply Pick.app)) (by repeat (first | exact .one | exact .here | exact .all | apply Pick.cons | apply Pick.assoc | apply Pick.app))) ?_ | exact HSub.of_pick (by first | ((repeat (first | exact .one | exact .here | exact .all | apply Pick.cons | apply Pick.app)); done) | ((repeat (first | exact .one | exact .here | exact .all | apply Pick.cons | apply Pick.assoc | apply Pick.app)); done) | exact Pick.takeA (by repeat (first | exact .one | exact .here | exact .all | apply Pick.cons | apply Pick.assoc | apply Pick.app)) (by repeat (first | exact .one | exact .here | exact .all | apply Pick.cons | apply Pick.assoc | apply Pick.app))))))
  · skip
    obtain rfl : j = 256 := by omega
    refine c_exit ?_
    refine x_then_exit ?_
    refine x_then_exit ?_
    refine x_block_exit ?_
    refine x_then (hK5 _ _ ?_)
    refine c_seq fun _ hK12 => ?_
    refine c_region ?_
    refine o_step rfl (s_move rfl) ?_
    refine o_step rfl (s_move rfl) ?_
    refine o_step rfl (s_assign rfl) ?_
    refine o_step rfl (s_assign rfl) ?_
    refine o_nil ?_
    refine x_then (hK12 _ _ ?_)
    refine c_ret ?_
    refine ?_
    exact x_ret rfl (.tmp rfl (.tmp rfl (.nil))) (⟨_, _, _, _, _, _, rfl, rfl, hS, hT⟩)
end Go.Proofs.Ythbnkifjplbhgaa
