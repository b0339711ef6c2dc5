/- Part of the proofs over this seat: see the text that holds the theorem. Conditions: each theorem bears its own. -/
import Derived.Test.YthbnkifjplbhgaaF1
import Derived.Test.YthbnkifjplbhgaaM1
namespace Go.Proofs.Ythbnkifjplbhgaa
open Go Go.HL Go.Proofs Go.Tab
theorem eqBytes_fn (a a2 : Option Addr) (c c2 : Nat) (xs ys : List UInt8) : HL.Fn Try.prog 30 [.slice a xs.length c, .slice a2 ys.length c2] (fun w => Rd Eb w (.slice a xs.length c) xs ∧ Rd Eb w (.slice a2 ys.length c2) ys) [] (fun v _ => v = .bool (decide (xs = ys))) := by
  refine fn_of Try.func30 rfl rfl rfl fun w0 hw => ?_
  obtain ⟨hx, hy⟩ := hw
  have hsx := hx.sl
  have hsy := hy.sl
  have hbx := hsx.le
  have hby := hsy.le
  refine c_seq fun _ hK1 => ?_
  refine c_region ?_
  refine o_step rfl (s_assign rfl) ?_
  refine o_nil ?_
  refine x_then (hK1 _ _ ?_)
  refine c_seq fun _ hK2 => ?_
  refine c_seq fun _ hK3 => ?_
  refine c_region ?_
  refine o_step rfl (s_move rfl) ?_
  refine o_step rfl (s_len rfl) ?_
  refine o_step rfl (s_move rfl) ?_
  refine o_step rfl (s_len rfl) ?_
  refine o_step rfl (s_neq rfl rfl) ?_
  refine o_nil ?_
  refine x_then (hK3 _ _ ?_)
  refine c_if rfl (fun hl => ?_) (fun hl => ?_)
  · skip
    refine c_seq fun _ hK4 => ?_
    refine c_region ?_
    refine o_step rfl (s_assign rfl) ?_
    refine o_nil ?_
    refine x_then (hK4 _ _ ?_)
    refine c_ret ?_
    refine x_then_ret (?_)
    exact x_ret rfl (.tmp rfl (.nil)) (retF (by intro e; subst e; omega))
  · skip
    refine c_skip ?_
    refine x_then (hK2 _ _ ?_)
    refine c_seq fun _ hK5 => ?_
    refine c_seq fun _ hK6 => ?_
    refine c_region ?_
    refine o_step rfl (s_assign rfl) ?_
    refine o_nil ?_
    refine x_then (hK6 _ _ ?_)
    refine c_block ?_
    -- not carried: 4
    refine c_loopB (fun (j : Nat) => j ≤ xs.length ∧ xs.take j = ys.take j) (fun (j : Nat) => [(5, .int .i64 j)]) [(0, _), (1, _)] (fun (j : Nat) => _) (fun (j : Nat) => xs.length - j) 0 (by simp) (by repeat (first | exact Sub.nil | refine Sub.cons rfl ?_)) (by repeat (first | exact Sub.nil | refine Sub.cons rfl ?_)) (by repeat (first | exact HSub.refl _ | exact HSub.nil | refine HSub.takeC (by first | ((repeat (first | exact .one | exact .here | exact .all | apply Pick.cons | apply Pick.app)); done) | ((repeat (first | exact .one | exact .here | exact .all | apply Pick.cons | apply Pick.assoc | apply Pick.app)); done) | exact Pick.takeA (by repeat (first | exact .one | exact .here | exact .all | apply Pick.cons | apply Pick.assoc | apply Pick.app)) (by repeat (first | exact .one | exact .here | exact .all | apply Pick.cons | apply Pick.assoc | apply Pick.app))) ?_ | refine HSub.take (by first | ((repeat (first | exact .one | exact .here | exact .all | apply Pick.cons | apply Pick.app)); done) | ((repeat (first | exact .one | exact .here | exact .all | apply Pick.cons | apply Pick.assoc | apply Pick.app)); done) | exact Pick.takeA (by repeat (first | exact .one | exact .here | exact .all | apply Pick.cons | apply Pick.assoc | apply Pick.app)) (by repeat (first | exact .one | exact .here | exact .all | apply Pick.cons | apply Pick.assoc | apply Pick.app))) ?_ | exact HSub.of_pick (by first | ((repeat (first | exact .one | exact .here | exact .all | apply Pick.cons | apply Pick.app)); done) | ((repeat (first | exact .one | exact .here | exact .all | apply Pick.cons | apply Pick.assoc | apply Pick.app)); done) | exact Pick.takeA (by repeat (first | exact .one | exact .here | exact .all | apply Pick.cons | apply Pick.assoc | apply Pick.app)) (by repeat (first | exact .one | exact .here | exact .all | apply Pick.cons | apply Pick.assoc | apply Pick.app))))) ?_
    rintro j ⟨hj, hjt⟩
    refine c_seq fun _ hK7 => ?_
    refine c_seq fun _ hK8 => ?_
    refine c_region ?_
    refine o_step rfl (s_move rfl) ?_
    refine o_step rfl (s_move rfl) ?_
    refine o_step rfl (s_len rfl) ?_
    refine o_step rfl (s_lss rfl rfl) ?_
    refine o_nil ?_
    refine x_then (hK8 _ _ ?_)
    refine c_if rfl (fun hlt => ?_) (fun hlt => ?_)
    · skip
      have hjx : j < xs.length := by omega
      have hjy : j < ys.length := by omega
      have ex := List.getElem?_eq_getElem hjx
      have ey := List.getElem?_eq_getElem hjy
      refine c_skip ?_
      refine x_then (hK7 _ _ ?_)
      refine c_seq fun _ hK9 => ?_
      refine c_block ?_
      refine c_seq fun _ hK10 => ?_
      refine c_quiet (by kernel_rfl) ?_
      refine .op rfl (s_move rfl) ?_
      refine .op rfl (s_move rfl) ?_
      refine .op rfl (s_idx rfl rfl (by assumption) (by omega)) ?_
      refine .op rfl (s_ld rfl ((RdK.old0 hx).ld j 0 ex rfl (by decide) (by omega))) ?_
      refine .op rfl (s_move rfl) ?_
      refine .op rfl (s_move rfl) ?_
      refine .op rfl (s_idx rfl rfl (by assumption) (by omega)) ?_
      refine .op rfl (s_ld rfl ((RdK.old0 hy).ld j 0 ey rfl (by decide) (by omega))) ?_
      refine .op rfl (s_neq rfl rfl) ?_
      refine .nil ?_
      refine x_then (hK10 _ _ ?_)
      refine c_if rfl (fun hne => ?_) (fun hne => ?_)
      · skip
        refine c_seq fun _ hK11 => ?_
        refine c_region ?_
        refine o_step rfl (s_assign rfl) ?_
        refine o_nil ?_
        refine x_then (hK11 _ _ ?_)
        refine c_ret ?_
        refine x_block_ret (x_then_ret (x_then_ret (x_block_ret (x_then_ret (?_)))))
        exact x_ret rfl (.tmp rfl (.nil)) (retF (by intro e; subst e; exact hne rfl))
      · skip
        refine c_skip ?_
        refine x_block ?_
        refine x_then (hK9 _ _ ?_)
        refine c_region ?_
        refine o_step rfl (s_move rfl) ?_
        refine o_step rfl (s_add rfl rfl (by omega)) ?_
        refine o_step rfl (s_assign rfl) ?_
        refine o_nil ?_
        have he : xs[j] = ys[j] := UInt8.toNat_inj.1 (by omega)
        exact x_then (x_inv (j + 1) ⟨by omega, by rw [List.take_add_one, List.take_add_one, hjt, ex, ey, he]⟩ (by first | omega | (dsimp only; omega)) (by repeat (first | exact Sub.nil | refine Sub.cons rfl ?_)) (by repeat (first | exact HSub.refl _ | exact HSub.nil | refine HSub.takeC (by first | ((repeat (first | exact .one | exact .here | exact .all | apply Pick.cons | apply Pick.app)); done) | ((repeat (first | exact .one | exact .here | exact .all | apply Pick.cons | apply Pick.assoc | apply Pick.app)); done) | exact Pick.takeA (by repeat (first | exact .one | exact .here | exact .all | apply Pick.cons | apply Pick.assoc | apply Pick.app)) (by repeat (first | exact .one | exact .here | exact .all | apply Pick.cons | apply Pick.assoc | apply Pick.app))) ?_ | refine HSub.take (by first | ((repeat (first | exact .one | exact .here | exact .all | apply Pick.cons | apply Pick.app)); done) | ((repeat (first | exact .one | exact .here | exact .all | apply Pick.cons | apply Pick.assoc | apply Pick.app)); done) | exact Pick.takeA (by repeat (first | exact .one | exact .here | exact .all | apply Pick.cons | apply Pick.assoc | apply Pick.app)) (by repeat (first | exact .one | exact .here | exact .all | apply Pick.cons | apply Pick.assoc | apply Pick.app))) ?_ | exact HSub.of_pick (by first | ((repeat (first | exact .one | exact .here | exact .all | apply Pick.cons | apply Pick.app)); done) | ((repeat (first | exact .one | exact .here | exact .all | apply Pick.cons | apply Pick.assoc | apply Pick.app)); done) | exact Pick.takeA (by repeat (first | exact .one | exact .here | exact .all | apply Pick.cons | apply Pick.assoc | apply Pick.app)) (by repeat (first | exact .one | exact .here | exact .all | apply Pick.cons | apply Pick.assoc | apply Pick.app))))))
    · skip
      refine c_exit ?_
      refine x_then_exit ?_
      refine x_then_exit ?_
      refine x_block_exit ?_
      refine x_then (hK5 _ _ ?_)
      refine c_seq fun _ hK12 => ?_
      refine c_region ?_
      refine o_step rfl (s_assign rfl) ?_
      refine o_nil ?_
      refine x_then (hK12 _ _ ?_)
      refine c_ret ?_
      refine ?_
      exact x_ret rfl (.tmp rfl (.nil)) (retT (by have e1 : xs.take j = xs := List.take_of_length_le (by omega); have e2 : ys.take j = ys := List.take_of_length_le (by omega); rw [← e1, ← e2]; exact hjt))

theorem clone_fn (a : Option Addr) (c : Nat) (xs : List UInt8) : HL.Fn Try.prog 53 [.slice a xs.length c] (fun w => Rd Eb w (.slice a xs.length c) xs) [] (fun v S' => ∃ a' c', v = .slice a' xs.length c' ∧ OwnS Eb 1 5 (.slice a' xs.length c') xs S') := by
  refine fn_of Try.func53 rfl rfl rfl fun w0 hw => ?_
  have hsx := hw.sl
  have hbx := hsx.le
  refine c_seq fun _ hK1 => ?_
  refine c_region ?_
  refine o_step rfl (s_assign rfl) ?_
  refine o_nil ?_
  refine x_then (hK1 _ _ ?_)
  refine c_seq fun _ hK2 => ?_
  refine c_seq fun _ hK3 => ?_
  refine c_region ?_
  refine o_step rfl (s_move rfl) ?_
  refine o_step rfl (s_eql_nils rfl rfl) ?_
  refine o_nil ?_
  refine x_then (hK3 _ _ ?_)
  refine c_cond rfl (fun hn => ?_) (fun hn => ?_)
  · skip
    have ha : a = none := Option.isNone_iff_eq_none.1 hn
    subst ha
    have hx0 : xs = [] := List.eq_nil_of_length_eq_zero hsx.none
    subst hx0
    refine c_seq fun _ hK4 => ?_
    refine c_region ?_
    refine o_step rfl (s_assign rfl) ?_
    refine o_nil ?_
    refine x_then (hK4 _ _ ?_)
    refine c_ret ?_
    refine x_then_ret (?_)
    exact x_ret rfl (.tmp rfl (.nil)) (⟨_, _, rfl, .nil⟩)
  · skip
    refine c_skip ?_
    refine x_then (hK2 _ _ ?_)
    refine c_seq fun _ hK5 => ?_
    refine c_region ?_
    refine o_bs (E := Eb) (xs := []) (vs := []) rfl rfl rfl rfl rfl (by decide) (by decide) fun b5 S5 hS5 => ?_
    refine o_step rfl (s_move rfl) ?_
    refine o_app hS5 (RdK.old0 hw) rfl rfl rfl rfl (by simp; omega) (by simp; omega) rfl (by first | ((repeat (first | exact .one | exact .here | exact .all | apply Pick.cons | apply Pick.app)); done) | ((repeat (first | exact .one | exact .here | exact .all | apply Pick.cons | apply Pick.assoc | apply Pick.app)); done) | exact Pick.takeA (by repeat (first | exact .one | exact .here | exact .all | apply Pick.cons | apply Pick.assoc | apply Pick.app)) (by repeat (first | exact .one | exact .here | exact .all | apply Pick.cons | apply Pick.assoc | apply Pick.app))) fun a7 c7 S7 hS7 => ?_
    refine o_step rfl (s_assign rfl) ?_
    refine o_nil ?_
    refine x_then (hK5 _ _ ?_)
    refine c_ret ?_
    refine ?_
    simp only [List.nil_append] at hS7
    exact x_ret rfl (.tmp rfl (.nil)) (⟨_, _, rfl, by simpa using hS7⟩)

theorem plain_fn  : HL.Fn Try.prog 57 [] (fun _ => True) [] (fun v _ => v = .agg (flat Eb idT).toArray) := by
  refine fn_of Try.func57 rfl rfl rfl fun w0 hw => ?_
  refine c_seq fun _ hK1 => ?_
  refine c_region ?_
  refine o_alloc rfl rfl fun b0 => ?_
  refine o_nil ?_
  refine x_then (hK1 _ _ ?_)
  refine c_seq fun _ hK2 => ?_
  refine c_region ?_
  refine o_make (E := Eb) (zx := 0) (n := 256) rfl rfl rfl (by omega) (by omega) rfl fun b3 S3 hS3 => ?_
  refine o_step rfl (s_assign rfl) ?_
  refine o_nil ?_
  refine x_then (hK2 _ _ ?_)
  refine c_seq fun _ hK3 => ?_
  refine c_seq fun _ hK4 => ?_
  refine c_region ?_
  refine o_step rfl (s_move rfl) ?_
  refine o_step rfl (s_len rfl) ?_
  refine o_step rfl (s_move rfl) ?_
  refine o_nil ?_
  refine x_then (hK4 _ _ ?_)
  refine c_block ?_
  refine c_loop3 (fun (j : Nat) (l : List UInt8) (S : Hp) => j ≤ 256 ∧ Fill UInt8.ofNat 256 j l ∧ OwnS Eb 1 5 (.slice (some ⟨b3, 0, none⟩) 256 256) l S) (fun (j : Nat) (l : List UInt8) (S : Hp) => [(6, .int .i64 j)]) [(0, _), (1, _), (5, _)] (fun (j : Nat) (l : List UInt8) (S : Hp) => S ++ [(b0, .cells (List.replicate 256 (.int .u8 0)).toArray 62 (0, 0))]) (fun (j : Nat) (l : List UInt8) (S : Hp) => 256 - j) 0 _ _ ⟨by omega, .zero List.length_replicate, hS3⟩ (by repeat (first | exact Sub.nil | refine Sub.cons rfl ?_)) (by repeat (first | exact Sub.nil | refine Sub.cons rfl ?_)) (by repeat (first | exact HSub.refl _ | exact HSub.nil | refine HSub.takeC (by first | ((repeat (first | exact .one | exact .here | exact .all | apply Pick.cons | apply Pick.app)); done) | ((repeat (first | exact .one | exact .here | exact .all | apply Pick.cons | apply Pick.assoc | apply Pick.app)); done) | exact Pick.takeA (by repeat (first | exact .one | exact .here | exact .all | apply Pick.cons | apply Pick.assoc | apply Pick.app)) (by repeat (first | exact .one | exact .here | exact .all | apply Pick.cons | apply Pick.assoc | apply Pick.app))) ?_ | refine HSub.take (by first | ((repeat (first | exact .one | exact .here | exact .all | apply Pick.cons | apply Pick.app)); done) | ((repeat (first | exact .one | exact .here | exact .all | apply Pick.cons | apply Pick.assoc | apply Pick.app)); done) | exact Pick.takeA (by repeat (first | exact .one | exact .here | exact .all | apply Pick.cons | apply Pick.assoc | apply Pick.app)) (by repeat (first | exact .one | exact .here | exact .all | apply Pick.cons | apply Pick.assoc | apply Pick.app))) ?_ | exact HSub.of_pick (by first | ((repeat (first | exact .one | exact .here | exact .all | apply Pick.cons | apply Pick.app)); done) | ((repeat (first | exact .one | exact .here | exact .all | apply Pick.cons | apply Pick.assoc | apply Pick.app)); done) | exact Pick.takeA (by repeat (first | exact .one | exact .here | exact .all | apply Pick.cons | apply Pick.assoc | apply Pick.app)) (by repeat (first | exact .one | exact .here | exact .all | apply Pick.cons | apply Pick.assoc | apply Pick.app))))) ?_
  rintro j l S ⟨hj, hl, hS⟩
  have hsl := hS.sl
  have hll := hl.len
  refine c_seq fun _ hK5 => ?_
  refine c_region ?_
  refine o_step rfl (s_lss rfl rfl) ?_
  refine o_nil ?_
  refine x_then (hK5 _ _ ?_)
  refine c_seq fun _ hK6 => ?_
  refine c_if rfl (fun hlt => ?_) (fun hlt => ?_)
  · skip
    refine c_skip ?_
    refine x_then (hK6 _ _ ?_)
    refine c_seq fun _ hK7 => ?_
    refine c_block ?_
    refine c_seq fun _ hK8 => ?_
    refine c_region ?_
    refine o_step rfl (s_move rfl) ?_
    refine o_step rfl (s_assign rfl) ?_
    refine o_nil ?_
    refine x_then (hK8 _ _ ?_)
    refine c_region ?_
    refine o_step rfl (s_move rfl) ?_
    refine o_step rfl (s_move rfl) ?_
    refine o_step rfl (s_move rfl) ?_
    refine o_step rfl (s_convB rfl) ?_
    refine o_step rfl (s_idx rfl rfl (by rw [hll] at hsl; exact hsl) (by omega)) ?_
    refine o_stS1 j (UInt8.ofNat j) hS (by first | ((repeat (first | exact .one | exact .here | exact .all | apply Pick.cons | apply Pick.app)); done) | ((repeat (first | exact .one | exact .here | exact .all | apply Pick.cons | apply Pick.assoc | apply Pick.app)); done) | exact Pick.takeA (by repeat (first | exact .one | exact .here | exact .all | apply Pick.cons | apply Pick.assoc | apply Pick.app)) (by repeat (first | exact .one | exact .here | exact .all | apply Pick.cons | apply Pick.assoc | apply Pick.app))) rfl rfl rfl (by omega) (by rw [Int.toNat_natCast, Nat.mul_one]) fun S' hS' => ?_
    refine o_nil ?_
    refine x_block ?_
    refine x_then (hK7 _ _ ?_)
    refine c_region ?_
    refine o_step rfl (s_add rfl rfl (by omega)) ?_
    refine o_step rfl (s_move rfl) ?_
    refine o_nil ?_
    exact x_then (x_inv (j + 1, _, _) ⟨by omega, hl.step (by omega) rfl, hS'⟩ (by first | omega | (dsimp only; omega)) (by repeat (first | exact Sub.nil | refine Sub.cons rfl ?_)) (by repeat (first | exact HSub.refl _ | exact HSub.nil | refine HSub.takeC (by first | ((repeat (first | exact .one | exact .here | exact .all | apply Pick.cons | apply Pick.app)); done) | ((repeat (first | exact .one | exact .here | exact .all | apply Pick.cons | apply Pick.assoc | apply Pick.app)); done) | exact Pick.takeA (by repeat (first | exact .one | exact .here | exact .all | apply Pick.cons | apply Pick.assoc | apply Pick.app)) (by repeat (first | exact .one | exact .here | exact .all | apply Pick.cons | apply Pick.assoc | apply Pick.app))) ?_ | refine HSub.take (by first | ((repeat (first | exact .one | exact .here | exact .all | apply Pick.cons | apply Pick.app)); done) | ((repeat (first | exact .one | exact .here | exact .all | apply Pick.cons | apply Pick.assoc | apply Pick.app)); done) | exact Pick.takeA (by repeat (first | exact .one | exact .here | exact .all | apply Pick.cons | apply Pick.assoc | apply Pick.app)) (by repeat (first | exact .one | exact .here | exact .all | apply Pick.cons | apply Pick.assoc | apply Pick.app))) ?_ | exact HSub.of_pick (by first | ((repeat (first | exact .one | exact .here | exact .all | apply Pick.cons | apply Pick.app)); done) | ((repeat (first | exact .one | exact .here | exact .all | apply Pick.cons | apply Pick.assoc | apply Pick.app)); done) | exact Pick.takeA (by repeat (first | exact .one | exact .here | exact .all | apply Pick.cons | apply Pick.assoc | apply Pick.app)) (by repeat (first | exact .one | exact .here | exact .all | apply Pick.cons | apply Pick.assoc | apply Pick.app))))))
  · skip
    have hd := fill_id hl (by omega)
    subst hd
    have hidl := idT_len
    refine c_exit ?_
    refine x_then_exit ?_
    refine x_then_exit ?_
    refine x_block_exit ?_
    refine x_then (hK3 _ _ ?_)
    refine c_seq fun _ hK9 => ?_
    refine c_region ?_
    refine o_step rfl (s_move rfl) ?_
    refine o_step rfl (s_s2a rfl (by omega)) ?_
    refine o_step rfl (s_ldB rfl ((hS.rdk .here).all rfl) (by first | (rw [flat_len, Nat.mul_one]; first | assumption | exact List.length_replicate) | exact List.length_replicate | rfl)) ?_
    refine o_stW rfl rfl (by repeat (first | exact .here | apply Upd.there | apply Upd.assoc | apply Upd.skip)) (by first | (rw [flat_len, Nat.mul_one]; first | assumption | exact List.length_replicate) | exact List.length_replicate | rfl) (by first | (rw [flat_len, Nat.mul_one]; first | assumption | exact List.length_replicate) | exact List.length_replicate | rfl) (by first | exact flat_one _ _ | exact one_rep rfl | (simp [Value.oneCell']; done)) ?_
    refine o_nil ?_
    refine x_then (hK9 _ _ ?_)
    refine c_ret ?_
    refine ?_
    exact x_ret rfl (.agg inferInstance inferInstance rfl (RdPK.cels (.own (by repeat (first | exact List.mem_cons_self | apply List.mem_cons_of_mem | apply mem_assoc | apply mem_app)))) (by first | (rw [flat_len, Nat.mul_one]; first | assumption | exact List.length_replicate) | exact List.length_replicate | rfl) (.nil)) (rfl)
end Go.Proofs.Ythbnkifjplbhgaa
