/- Part of the proofs over this seat: see the text that holds the theorem. Conditions: each theorem bears its own. -/
import Derived.Test.YtmmajabfmhipeaaDoorTF1
import Derived.Test.YtmmajabfmhipeaaDoorM1Z
import Derived.Test.YtmmajabfmhipeaaDoorHlB
namespace Go.Proofs.YtmmajabfmhipeaaDoor
open Go Go.HL Go.Proofs Go.Tab
theorem eqBytes_fn (a a2 : Option Addr) (c c2 : Nat) (xs ys : List UInt8) : HL.Fn Tryd.prog 37 [.slice a xs.length c, .slice a2 ys.length c2] (fun w => Rd Eb w (.slice a xs.length c) xs ∧ Rd Eb w (.slice a2 ys.length c2) ys) [] (fun v _ => v = .bool (decide (xs = ys))) := by
  refine fn_of Tryd.func37 rfl rfl rfl fun w0 hw => ?_
  obtain ⟨hx, hy⟩ := hw
  have hsx := hx.sl
  have hsy := hy.sl
  have hbx := hsx.le
  have hby := hsy.le
  refine c_seq fun _ hK1 => ?_
  refine c_region ?_
  refine o_step rfl (s_assign rfl) ?_
  refine o_nil ?_
  refine x_then (hK1 _ _ ?_)
  refine c_seq fun _ hK2 => ?_
  refine c_seq fun _ hK3 => ?_
  refine c_region ?_
  refine o_step rfl (s_move rfl) ?_
  refine o_step rfl (s_len rfl) ?_
  refine o_step rfl (s_move rfl) ?_
  refine o_step rfl (s_len rfl) ?_
  refine o_step rfl (s_neq rfl rfl) ?_
  refine o_nil ?_
  refine x_then (hK3 _ _ ?_)
  refine c_if rfl (fun hl => ?_) (fun hl => ?_)
  · skip
    refine c_seq fun _ hK4 => ?_
    refine c_region ?_
    refine o_step rfl (s_assign rfl) ?_
    refine o_nil ?_
    refine x_then (hK4 _ _ ?_)
    refine c_ret ?_
    refine x_then_ret (?_)
    exact x_ret rfl (.tmp rfl (.nil)) (retF (by intro e; subst e; omega))
  · skip
    refine c_skip ?_
    refine x_then (hK2 _ _ ?_)
    refine c_seq fun _ hK5 => ?_
    refine c_seq fun _ hK6 => ?_
    refine c_region ?_
    refine o_step rfl (s_assign rfl) ?_
    refine o_nil ?_
    refine x_then (hK6 _ _ ?_)
    refine c_block ?_
    -- not carried: 4
    refine c_loopB (fun (j : Nat) => j ≤ xs.length ∧ xs.take j = ys.take j) (fun (j : Nat) => [(5, .int .i64 j)]) [(0, _), (1, _)] (fun (j : Nat) => _) (fun (j : Nat) => xs.length - j) 0 (by simp) sbA sbA hzB ?_
    rintro j ⟨hj, hjt⟩
    refine c_seq fun _ hK7 => ?_
    refine c_seq fun _ hK8 => ?_
    refine c_region ?_
    refine o_step rfl (s_move rfl) ?_
    refine o_step rfl (s_move rfl) ?_
    refine o_step rfl (s_len rfl) ?_
    refine o_step rfl (s_lss rfl rfl) ?_
    refine o_nil ?_
    refine x_then (hK8 _ _ ?_)
    refine c_if rfl (fun hlt => ?_) (fun hlt => ?_)
    · skip
      have hjx : j < xs.length := by omega
      have hjy : j < ys.length := by omega
      have ex := List.getElem?_eq_getElem hjx
      have ey := List.getElem?_eq_getElem hjy
      refine c_skip ?_
      refine x_then (hK7 _ _ ?_)
      refine c_seq fun _ hK9 => ?_
      refine c_block ?_
      refine c_seq fun _ hK10 => ?_
      refine c_quiet (by kernel_rfl) ?_
      refine .op rfl (s_move rfl) ?_
      refine .op rfl (s_move rfl) ?_
      refine .op rfl (s_idx rfl rfl (by assumption) (by omega)) ?_
      refine .op rfl (s_ld rfl ((RdK.old0 hx).ld j 0 ex rfl (by decide) (by omega))) ?_
      refine .op rfl (s_move rfl) ?_
      refine .op rfl (s_move rfl) ?_
      refine .op rfl (s_idx rfl rfl (by assumption) (by omega)) ?_
      refine .op rfl (s_ld rfl ((RdK.old0 hy).ld j 0 ey rfl (by decide) (by omega))) ?_
      refine .op rfl (s_neq rfl rfl) ?_
      refine .nil ?_
      refine x_then (hK10 _ _ ?_)
      refine c_if rfl (fun hne => ?_) (fun hne => ?_)
      · skip
        refine c_seq fun _ hK11 => ?_
        refine c_region ?_
        refine o_step rfl (s_assign rfl) ?_
        refine o_nil ?_
        refine x_then (hK11 _ _ ?_)
        refine c_ret ?_
        refine x_block_ret (x_then_ret (x_then_ret (x_block_ret (x_then_ret (?_)))))
        exact x_ret rfl (.tmp rfl (.nil)) (retF (by intro e; subst e; exact hne rfl))
      · skip
        refine c_skip ?_
        refine x_block ?_
        refine x_then (hK9 _ _ ?_)
        refine c_region ?_
        refine o_step rfl (s_move rfl) ?_
        refine o_step rfl (s_add rfl rfl (by omega)) ?_
        refine o_step rfl (s_assign rfl) ?_
        refine o_nil ?_
        have he : xs[j] = ys[j] := UInt8.toNat_inj.1 (by omega)
        exact x_then (x_inv (j + 1) ⟨by omega, by rw [List.take_add_one, List.take_add_one, hjt, ex, ey, he]⟩ (by first | omega | (dsimp only; omega)) sbA hzB)
    · skip
      refine c_exit ?_
      refine x_then_exit ?_
      refine x_then_exit ?_
      refine x_block_exit ?_
      refine x_then (hK5 _ _ ?_)
      refine c_seq fun _ hK12 => ?_
      refine c_region ?_
      refine o_step rfl (s_assign rfl) ?_
      refine o_nil ?_
      refine x_then (hK12 _ _ ?_)
      refine c_ret ?_
      refine ?_
      exact x_ret rfl (.tmp rfl (.nil)) (retT (by have e1 : xs.take j = xs := List.take_of_length_le (by omega); have e2 : ys.take j = ys := List.take_of_length_le (by omega); rw [← e1, ← e2]; exact hjt))
theorem clone_fn (a : Option Addr) (c : Nat) (xs : List UInt8) : HL.Fn Tryd.prog 81 [.slice a xs.length c] (fun w => Rd Eb w (.slice a xs.length c) xs) [] (fun v S' => ∃ a' c', v = .slice a' xs.length c' ∧ OwnS Eb 1 5 (.slice a' xs.length c') xs S') := by
  refine fn_of Tryd.func81 rfl rfl rfl fun w0 hw => ?_
  have hsx := hw.sl
  have hbx := hsx.le
  refine c_seq fun _ hK1 => ?_
  refine c_region ?_
  refine o_step rfl (s_assign rfl) ?_
  refine o_nil ?_
  refine x_then (hK1 _ _ ?_)
  refine c_seq fun _ hK2 => ?_
  refine c_seq fun _ hK3 => ?_
  refine c_region ?_
  refine o_step rfl (s_move rfl) ?_
  refine o_step rfl (s_eql_nils rfl rfl) ?_
  refine o_nil ?_
  refine x_then (hK3 _ _ ?_)
  refine c_cond rfl (fun hn => ?_) (fun hn => ?_)
  · skip
    have ha : a = none := Option.isNone_iff_eq_none.1 hn
    subst ha
    have hx0 : xs = [] := List.eq_nil_of_length_eq_zero hsx.none
    subst hx0
    refine c_seq fun _ hK4 => ?_
    refine c_region ?_
    refine o_step rfl (s_assign rfl) ?_
    refine o_nil ?_
    refine x_then (hK4 _ _ ?_)
    refine c_ret ?_
    refine x_then_ret (?_)
    exact x_ret rfl (.tmp rfl (.nil)) (⟨_, _, rfl, .nil⟩)
  · skip
    refine c_skip ?_
    refine x_then (hK2 _ _ ?_)
    refine c_seq fun _ hK5 => ?_
    refine c_region ?_
    refine o_bs (E := Eb) (xs := []) (vs := []) rfl rfl rfl rfl rfl (by decide) (by decide) fun b5 S5 hS5 => ?_
    refine o_step rfl (s_move rfl) ?_
    refine o_app hS5 (RdK.old0 hw) rfl rfl rfl rfl (by simp; omega) (by simp; omega) rfl pkA fun a7 c7 S7 hS7 => ?_
    refine o_step rfl (s_assign rfl) ?_
    refine o_nil ?_
    refine x_then (hK5 _ _ ?_)
    refine c_ret ?_
    refine ?_
    simp only [List.nil_append] at hS7
    exact x_ret rfl (.tmp rfl (.nil)) (⟨_, _, rfl, by simpa using hS7⟩)
theorem plain_fn  : HL.Fn Tryd.prog 80 [] (fun _ => True) [] (fun v _ => v = .agg (flat Eb idT).toArray) := by
  refine fn_of Tryd.func80 rfl rfl rfl fun w0 hw => ?_
  refine c_seq fun _ hK1 => ?_
  refine c_region ?_
  refine o_alloc rfl rfl fun b0 => ?_
  refine o_nil ?_
  refine x_then (hK1 _ _ ?_)
  refine c_seq fun _ hK2 => ?_
  refine c_region ?_
  refine o_make (E := Eb) (zx := 0) (n := 256) rfl rfl rfl (by omega) (by omega) rfl fun b3 S3 hS3 => ?_
  refine o_step rfl (s_assign rfl) ?_
  refine o_nil ?_
  refine x_then (hK2 _ _ ?_)
  refine c_seq fun _ hK3 => ?_
  refine c_seq fun _ hK4 => ?_
  refine c_region ?_
  refine o_step rfl (s_move rfl) ?_
  refine o_step rfl (s_len rfl) ?_
  refine o_step rfl (s_move rfl) ?_
  refine o_nil ?_
  refine x_then (hK4 _ _ ?_)
  refine c_block ?_
  refine c_loop3 (fun (j : Nat) (l : List UInt8) (S : Hp) => j ≤ 256 ∧ Fill UInt8.ofNat 256 j l ∧ OwnS Eb 1 5 (.slice (some ⟨b3, 0, none⟩) 256 256) l S) (fun (j : Nat) (l : List UInt8) (S : Hp) => [(6, .int .i64 j)]) [(0, _), (1, _), (5, _)] (fun (j : Nat) (l : List UInt8) (S : Hp) => S ++ [(b0, .cells (List.replicate 256 (.int .u8 0)).toArray 96 (0, 0))]) (fun (j : Nat) (l : List UInt8) (S : Hp) => 256 - j) 0 _ _ ⟨by omega, .zero List.length_replicate, hS3⟩ sbA sbA hzB ?_
  rintro j l S ⟨hj, hl, hS⟩
  have hsl := hS.sl
  have hll := hl.len
  refine c_seq fun _ hK5 => ?_
  refine c_region ?_
  refine o_step rfl (s_lss rfl rfl) ?_
  refine o_nil ?_
  refine x_then (hK5 _ _ ?_)
  refine c_seq fun _ hK6 => ?_
  refine c_if rfl (fun hlt => ?_) (fun hlt => ?_)
  · skip
    refine c_skip ?_
    refine x_then (hK6 _ _ ?_)
    refine c_seq fun _ hK7 => ?_
    refine c_block ?_
    refine c_seq fun _ hK8 => ?_
    refine c_region ?_
    refine o_step rfl (s_move rfl) ?_
    refine o_step rfl (s_assign rfl) ?_
    refine o_nil ?_
    refine x_then (hK8 _ _ ?_)
    refine c_region ?_
    refine o_step rfl (s_move rfl) ?_
    refine o_step rfl (s_move rfl) ?_
    refine o_step rfl (s_move rfl) ?_
    refine o_step rfl (s_convB rfl) ?_
    refine o_step rfl (s_idx rfl rfl (by rw [hll] at hsl; exact hsl) (by omega)) ?_
    refine o_stS1 j (UInt8.ofNat j) hS pkA rfl rfl rfl (by omega) (by rw [Int.toNat_natCast, Nat.mul_one]) fun S' hS' => ?_
    refine o_nil ?_
    refine x_block ?_
    refine x_then (hK7 _ _ ?_)
    refine c_region ?_
    refine o_step rfl (s_add rfl rfl (by omega)) ?_
    refine o_step rfl (s_move rfl) ?_
    refine o_nil ?_
    exact x_then (x_inv (j + 1, _, _) ⟨by omega, hl.step (by omega) rfl, hS'⟩ (by first | omega | (dsimp only; omega)) sbA hzB)
  · skip
    have hd := fill_id hl (by omega)
    subst hd
    have hidl := idT_len
    refine c_exit ?_
    refine x_then_exit ?_
    refine x_then_exit ?_
    refine x_block_exit ?_
    refine x_then (hK3 _ _ ?_)
    refine c_seq fun _ hK9 => ?_
    refine c_region ?_
    refine o_step rfl (s_move rfl) ?_
    refine o_step rfl (s_s2a rfl (by omega)) ?_
    refine o_step rfl (s_ldB rfl ((hS.rdk .here).all rfl) lnA) ?_
    refine o_stW rfl rfl upA lnA lnA (by first | exact flat_one _ _ | exact one_rep rfl | (simp [Value.oneCell']; done)) ?_
    refine o_nil ?_
    refine x_then (hK9 _ _ ?_)
    refine c_ret ?_
    refine ?_
    exact x_ret rfl (.agg inferInstance inferInstance rfl (RdPK.cels (.own meA)) lnA (.nil)) (rfl)
theorem then_fn (b1 o1 b2 o2 : Nat) (t u : List UInt8) (ht : t.length = 256) (hu : u.length = 256) : HL.Fn Tryd.prog 34 [.pointer (some ⟨b1, o1, none⟩), .pointer (some ⟨b2, o2, none⟩)] (fun w => RdP w b1 o1 (flat Eb t) ∧ RdP w b2 o2 (flat Eb u)) [] (fun v _ => v = .agg (flat Eb (thenT t u)).toArray) := by
  refine fn_of Tryd.func34 rfl rfl rfl fun w0 hw => ?_
  obtain ⟨h1, h2⟩ := hw
  refine c_seq fun _ hK1 => ?_
  refine c_region ?_
  refine o_alloc rfl rfl fun b4 => ?_
  refine o_nil ?_
  refine x_then (hK1 _ _ ?_)
  refine c_seq fun _ hK2 => ?_
  refine c_region ?_
  refine o_alloc rfl rfl fun b5 => ?_
  refine o_nil ?_
  refine x_then (hK2 _ _ ?_)
  refine c_seq fun _ hK3 => ?_
  refine c_seq fun _ hK4 => ?_
  refine c_region ?_
  refine o_step rfl (s_move rfl) ?_
  refine o_step rfl (step_cast (v' := .bool false) (s_eql_nilp rfl rfl) rfl) ?_
  refine o_step rfl (s_move rfl) ?_
  refine o_yes rfl rfl ?_
  refine o_step rfl (s_move rfl) ?_
  refine o_yes rfl rfl ?_
  refine o_step rfl (step_cast (v' := .bool false) (s_eql_nilp rfl rfl) rfl) ?_
  refine o_step rfl (s_pick_f rfl rfl) ?_
  refine o_nil ?_
  refine x_then (hK4 _ _ ?_)
  refine c_false rfl ?_
  refine c_skip ?_
  refine x_then (hK3 _ _ ?_)
  refine c_seq fun _ hK5 => ?_
  refine c_seq fun _ hK6 => ?_
  refine c_region ?_
  refine o_step rfl (s_move rfl) ?_
  refine o_nil ?_
  refine x_then (hK6 _ _ ?_)
  refine c_block ?_
  refine c_loop2 (fun (j : Nat) (l : List UInt8) => j ≤ 256 ∧ Fill (fun i => at0 u (at0 t i).toNat) 256 j l) (fun (j : Nat) (l : List UInt8) => [(14, .int .i64 j)]) [(0, _), (1, _), (4, _), (5, _)] (fun (j : Nat) (l : List UInt8) => [(b5, .cells (flat Eb l).toArray 96 (0, 0)), (b4, .cells (List.replicate 256 (.int .u8 0)).toArray 96 (0, 0))]) (fun (j : Nat) (l : List UInt8) => 256 - j) 0 zT ⟨by omega, .zero zT_len⟩ sbA sbA (by rw [zT, flatEb_zeros]; exact HSub.refl _) ?_
  rintro j l ⟨hj, hl⟩
  have hll := hl.len
  refine c_seq fun _ hK7 => ?_
  refine c_region ?_
  refine o_step rfl (s_lss rfl rfl) ?_
  refine o_nil ?_
  refine x_then (hK7 _ _ ?_)
  refine c_seq fun _ hK8 => ?_
  refine c_if rfl (fun hlt => ?_) (fun hlt => ?_)
  · skip
    have hb := byte_lt (at0 t j)
    refine c_skip ?_
    refine x_then (hK8 _ _ ?_)
    refine c_seq fun _ hK9 => ?_
    refine c_block ?_
    refine c_seq fun _ hK10 => ?_
    refine c_region ?_
    refine o_step rfl (s_move rfl) ?_
    refine o_step rfl (s_assign rfl) ?_
    refine o_nil ?_
    refine x_then (hK10 _ _ ?_)
    refine c_tail 10 (by kernel_rfl) ?_
    refine .op rfl (s_move rfl) ?_
    refine .op rfl (s_move rfl) ?_
    refine .op rfl (s_move rfl) ?_
    refine .op rfl (s_move rfl) ?_
    refine .op rfl (s_nil rfl) ?_
    refine .op rfl (s_indexA rfl rfl (by omega)) ?_
    refine .op rfl (s_ld rfl ((RdPK.old0 h1).cel (j := j) (flatEb_get (at0_get (by omega))) (by omega))) ?_
    refine .op rfl (s_nil rfl) ?_
    refine .op rfl (s_indexA rfl rfl (by omega)) ?_
    refine .op rfl (s_ld rfl ((RdPK.old0 h2).cel (j := (at0 t j).toNat) (flatEb_get (at0_get (by omega))) (by omega))) ?_
    refine .nil ?_
    refine o_step rfl (s_indexA rfl rfl (by omega)) ?_
    refine o_stB (l := l) (i := j) (at0 u (at0 t j).toNat) rfl rfl (by omega) (by omega) upA ?_
    refine o_nil ?_
    refine x_block ?_
    refine x_then (hK9 _ _ ?_)
    refine c_region ?_
    refine o_step rfl (s_add rfl rfl (by omega)) ?_
    refine o_step rfl (s_move rfl) ?_
    refine o_nil ?_
    exact x_then (x_inv (j + 1, _) ⟨by omega, hl.step (by omega) rfl⟩ (by first | omega | (dsimp only; omega)) sbA hzB)
  · skip
    have hd := fill_then hl (by omega)
    subst hd
    refine c_exit ?_
    refine x_then_exit ?_
    refine x_then_exit ?_
    refine x_block_exit ?_
    refine x_then (hK5 _ _ ?_)
    refine c_seq fun _ hK11 => ?_
    refine c_region ?_
    refine o_step rfl (s_ldB rfl (RdPK.cels (.own meA)) lnA) ?_
    refine o_stW rfl rfl upA lnA lnA (by first | exact flat_one _ _ | exact one_rep rfl | (simp [Value.oneCell']; done)) ?_
    refine o_nil ?_
    refine x_then (hK11 _ _ ?_)
    refine c_ret ?_
    refine ?_
    exact x_ret rfl (.agg inferInstance inferInstance rfl (RdPK.cels (.own meA)) lnA (.nil)) (rfl)
theorem apply_fn (b1 o1 : Nat) (a : Option Addr) (c : Nat) (t xs : List UInt8) (ht : t.length = 256) : HL.Fn Tryd.prog 33 [.pointer (some ⟨b1, o1, none⟩), .slice a xs.length c] (fun w => RdP w b1 o1 (flat Eb t) ∧ Rd Eb w (.slice a xs.length c) xs) [] (fun v S' => ∃ a' c', v = .slice a' (applyT t xs).length c' ∧ OwnS Eb 1 5 (.slice a' (applyT t xs).length c') (applyT t xs) S') := by
  refine fn_of Tryd.func33 rfl rfl rfl fun w0 hw => ?_
  obtain ⟨h1, h2⟩ := hw
  have hsx := h2.sl
  have hbx := hsx.le
  have hil := idT_len
  refine c_seq fun _ hK1 => ?_
  refine c_region ?_
  refine o_step rfl (s_assign rfl) ?_
  refine o_nil ?_
  refine x_then (hK1 _ _ ?_)
  refine c_seq fun _ hK2 => ?_
  refine c_seq fun _ hK3 => ?_
  refine c_region ?_
  refine o_step rfl (s_move rfl) ?_
  refine o_step rfl (step_cast (v' := .bool false) (s_eql_nilp rfl rfl) rfl) ?_
  refine o_nil ?_
  refine x_then (hK3 _ _ ?_)
  refine c_false rfl ?_
  refine c_skip ?_
  refine x_then (hK2 _ _ ?_)
  refine c_seq fun _ hK4 => ?_
  refine c_seq fun _ hK5 => ?_
  refine c_quiet (by kernel_rfl) ?_
  refine .op rfl (s_move rfl) ?_
  refine .op rfl (s_nil rfl) ?_
  refine .op rfl (s_ldB rfl ((RdPK.old0 h1).cels) lnA) ?_
  refine .call (fun _ _ => rfl) rfl rfl rfl (plain_fn) (fun _ _ => trivial) ?_
  refine .op rfl (s_eql_tab (xs := t) (ys := idT) rfl rfl ht idT_len) ?_
  refine .nil ?_
  refine x_then (hK5 _ _ ?_)
  refine c_if rfl (fun hid => ?_) (fun hid => ?_)
  · skip
    refine c_seq fun _ hK6 => ?_
    refine c_region ?_
    refine o_step rfl (s_move rfl) ?_
    refine o_call (clone_fn a c xs) rfl rfl rfl (by exact .nil) (fun w st => (RdK.old0 h2).out w st) (fun v16 S16 ⟨a', c', hv, hS16⟩ => ?_)
    subst hv
    refine o_step rfl (s_assign rfl) ?_
    refine o_nil ?_
    refine x_then (hK6 _ _ ?_)
    refine c_ret ?_
    refine x_then_ret (?_)
    subst hid
    exact x_ret rfl (.tmp rfl (.nil)) (⟨_, _, by rw [applyT_len]; rfl, by rw [applyT_len, applyT_id]; simpa using hS16⟩)
  · skip
    refine c_skip ?_
    refine x_then (hK4 _ _ ?_)
    refine c_seq fun _ hK7 => ?_
    refine c_region ?_
    refine o_step rfl (s_move rfl) ?_
    refine o_step rfl (s_len rfl) ?_
    refine o_make (E := Eb) (zx := 0) (n := xs.length) rfl rfl rfl (by omega) (by omega) rfl fun b19 S19 hS19 => ?_
    refine o_step rfl (s_assign rfl) ?_
    refine o_nil ?_
    refine x_then (hK7 _ _ ?_)
    refine c_seq fun _ hK8 => ?_
    refine c_seq fun _ hK9 => ?_
    refine c_region ?_
    refine o_step rfl (s_move rfl) ?_
    refine o_step rfl (s_len rfl) ?_
    refine o_step rfl (s_move rfl) ?_
    refine o_nil ?_
    refine x_then (hK9 _ _ ?_)
    refine c_block ?_
    refine c_loop3 (fun (j : Nat) (l : List UInt8) (S : Hp) => j ≤ xs.length ∧ Fill (fun i => at0 t (at0 xs i).toNat) xs.length j l ∧ OwnS Eb 1 5 (.slice (some ⟨b19, 0, none⟩) xs.length xs.length) l S) (fun (j : Nat) (l : List UInt8) (S : Hp) => [(22, .int .i64 j)]) [(0, _), (4, _), (5, _), (20, _), (21, _)] (fun (j : Nat) (l : List UInt8) (S : Hp) => S) (fun (j : Nat) (l : List UInt8) (S : Hp) => xs.length - j) 0 _ _ ⟨by omega, .zero List.length_replicate, hS19⟩ sbA sbA (by exact HSub.of_perm (by simp)) ?_
    rintro j l S ⟨hj, hl, hS⟩
    have hsl := hS.sl
    have hll := hl.len
    rw [hll] at hsl
    refine c_seq fun _ hK10 => ?_
    refine c_region ?_
    refine o_step rfl (s_lss rfl rfl) ?_
    refine o_nil ?_
    refine x_then (hK10 _ _ ?_)
    refine c_seq fun _ hK11 => ?_
    refine c_if rfl (fun hlt => ?_) (fun hlt => ?_)
    · skip
      have hb := byte_lt (at0 xs j)
      have hbn := UInt8.toNat_lt (at0 xs j)
      refine c_skip ?_
      refine x_then (hK11 _ _ ?_)
      refine c_seq fun _ hK12 => ?_
      refine c_block ?_
      refine c_seq fun _ hK13 => ?_
      refine c_region ?_
      refine o_step rfl (s_move rfl) ?_
      refine o_step rfl (s_idx rfl rfl (by assumption) (by omega)) ?_
      refine o_step rfl (s_ld rfl ((RdK.old0 h2).ld j 0 (at0_get (by omega)) rfl (by decide) (by omega))) ?_
      refine o_step rfl (s_assign rfl) ?_
      refine o_step rfl (s_assign rfl) ?_
      refine o_nil ?_
      refine x_then (hK13 _ _ ?_)
      refine c_region ?_
      refine o_step rfl (s_move rfl) ?_
      refine o_step rfl (s_move rfl) ?_
      refine o_step rfl (s_move rfl) ?_
      refine o_step rfl (s_move rfl) ?_
      refine o_step rfl (s_nil rfl) ?_
      refine o_step rfl (s_indexA rfl rfl (by omega)) ?_
      refine o_step rfl (s_ld rfl ((RdPK.old0 h1).cel (j := (at0 xs j).toNat) (flatEb_get (at0_get (by omega))) (by omega))) ?_
      refine o_step rfl (s_idx rfl rfl (by assumption) (by omega)) ?_
      refine o_stS1 j (at0 t (at0 xs j).toNat) hS (by exact .all) rfl rfl rfl (by omega) (by rw [Int.toNat_natCast, Nat.mul_one]) fun S' hS' => ?_
      refine o_nil ?_
      refine x_block ?_
      refine x_then (hK12 _ _ ?_)
      refine c_region ?_
      refine o_step rfl (s_add rfl rfl (by omega)) ?_
      refine o_step rfl (s_move rfl) ?_
      refine o_nil ?_
      exact x_then (x_inv (j + 1, _, _) ⟨by omega, hl.step (by omega) rfl, hS'⟩ (by first | omega | (dsimp only; omega)) sbA (by exact HSub.of_perm (by simp)))
    · skip
      have hd := fill_apply hl (by omega)
      subst hd
      refine c_exit ?_
      refine x_then_exit ?_
      refine x_then_exit ?_
      refine x_block_exit ?_
      refine x_then (hK8 _ _ ?_)
      refine c_seq fun _ hK14 => ?_
      refine c_region ?_
      refine o_step rfl (s_move rfl) ?_
      refine o_step rfl (s_assign rfl) ?_
      refine o_nil ?_
      refine x_then (hK14 _ _ ?_)
      refine c_ret ?_
      refine ?_
      exact x_ret rfl (.tmp rfl (.nil)) (⟨_, _, by rw [applyT_len]; rfl, by rw [applyT_len]; exact hS⟩)
theorem new_fn (a a2 : Option Addr) (c c2 : Nat) (f t : List UInt8) : HL.Fn Tryd.prog 79 [.slice a f.length c, .slice a2 t.length c2] (fun w => Rd Eb w (.slice a f.length c) f ∧ Rd Eb w (.slice a2 t.length c2) t) [] (fun v _ => v = tabV (newR f t)) := by
  refine fn_of Tryd.func79 rfl rfl rfl fun w0 hw => ?_
  obtain ⟨h1, h2⟩ := hw
  have hs1 := h1.sl
  have hb1 := hs1.le
  have hs2 := h2.sl
  have hb2 := hs2.le
  have hil := idT_len
  refine c_seq fun _ hK1 => ?_
  refine c_region ?_
  refine o_alloc rfl rfl fun b4 => ?_
  refine o_step rfl (s_assign rfl) ?_
  refine o_nil ?_
  refine x_then (hK1 _ _ ?_)
  refine c_seq fun _ hK2 => ?_
  refine c_seq fun _ hK3 => ?_
  refine c_region ?_
  refine o_step rfl (s_move rfl) ?_
  refine o_step rfl (s_len rfl) ?_
  refine o_step rfl (s_move rfl) ?_
  refine o_step rfl (s_len rfl) ?_
  refine o_step rfl (s_neq rfl rfl) ?_
  refine o_nil ?_
  refine x_then (hK3 _ _ ?_)
  refine c_if rfl (fun hne => ?_) (fun hne => ?_)
  · skip
    refine c_seq fun _ hK4 => ?_
    refine c_region ?_
    refine o_step rfl (s_build0 rfl) ?_
    refine o_stW rfl rfl upA lnA lnA (by first | exact flat_one _ _ | exact one_rep rfl | (simp [Value.oneCell']; done)) ?_
    refine o_step rfl (s_assign rfl) ?_
    refine o_nil ?_
    refine x_then (hK4 _ _ ?_)
    refine c_ret ?_
    refine x_then_ret (?_)
    exact x_ret rfl (.agg inferInstance inferInstance rfl (RdPK.cels (.own meA)) lnA (.tmp rfl (.nil))) (tab_none (if_neg (by omega)))
  · skip
    have hle : f.length = t.length := by omega
    refine c_skip ?_
    refine x_then (hK2 _ _ ?_)
    refine c_seq fun _ hK5 => ?_
    refine c_region ?_
    refine o_callP (plain_fn) rfl rfl rfl (fun _ _ => trivial) (fun v16 hv16 => ?_)
    subst hv16
    refine o_alloc rfl rfl fun b6 => ?_
    refine o_stW rfl rfl upA lnA lnA (by first | exact flat_one _ _ | exact one_rep rfl | (simp [Value.oneCell']; done)) ?_
    refine o_nil ?_
    refine x_then (hK5 _ _ ?_)
    refine c_seq fun _ hK6 => ?_
    refine c_region ?_
    refine o_alloc rfl rfl fun b7 => ?_
    refine o_nil ?_
    refine x_then (hK6 _ _ ?_)
    refine c_seq fun _ hK7 => ?_
    refine c_seq fun _ hK8 => ?_
    refine c_region ?_
    refine o_step rfl (s_move rfl) ?_
    refine o_step rfl (s_len rfl) ?_
    refine o_step rfl (s_move rfl) ?_
    refine o_nil ?_
    refine x_then (hK8 _ _ ?_)
    refine c_block ?_
    -- not carried: 5
    refine c_loop3 (fun (j : Nat) (l : List UInt8) (sn : List Bool) => j ≤ f.length ∧ newAt f t j = some l ∧ sn.length = 256 ∧ ∀ b : UInt8, sn[b.toNat]? = some (decide (b ∈ f.take j))) (fun (j : Nat) (l : List UInt8) (sn : List Bool) => [(19, .int .i64 j)]) [(1, _), (4, _), (6, _), (7, _), (17, _), (18, _)] (fun (j : Nat) (l : List UInt8) (sn : List Bool) => [(b7, .cells (flat Ebo sn).toArray 199 (0, 0)), (b6, .cells (flat Eb l).toArray 96 (0, 0)), (b4, .cells (List.replicate 256 (.int .u8 0)).toArray 96 (0, 0))]) (fun (j : Nat) (l : List UInt8) (sn : List Bool) => f.length - j) 0 idT (List.replicate 256 false) ⟨by omega, rfl, List.length_replicate, fun b => by rw [List.getElem?_replicate, if_pos b.toNat_lt]; simp⟩ sbA sbA (by rw [flatEbo_zeros]; exact HSub.refl _) ?_
    rintro j l sn ⟨hj, hl, hsl, hsn⟩
    have hll := newAt_len hl
    refine c_seq fun _ hK9 => ?_
    refine c_region ?_
    refine o_step rfl (s_lss rfl rfl) ?_
    refine o_nil ?_
    refine x_then (hK9 _ _ ?_)
    refine c_seq fun _ hK10 => ?_
    refine c_if rfl (fun hlt => ?_) (fun hlt => ?_)
    · skip
      have hb := UInt8.toNat_lt (at0 f j)
      refine c_skip ?_
      refine x_then (hK10 _ _ ?_)
      refine c_seq fun _ hK11 => ?_
      refine c_block ?_
      refine c_seq fun _ hK12 => ?_
      refine c_region ?_
      refine o_step rfl (s_move rfl) ?_
      refine o_step rfl (s_idx rfl rfl (by assumption) (by omega)) ?_
      refine o_step rfl (s_ld rfl ((RdK.old0 h1).ld j 0 (at0_get (by omega)) rfl (by decide) (by omega))) ?_
      refine o_step rfl (s_assign rfl) ?_
      refine o_step rfl (s_assign rfl) ?_
      refine o_nil ?_
      refine x_then (hK12 _ _ ?_)
      refine c_seq fun _ hK13 => ?_
      refine c_seq fun _ hK14 => ?_
      refine c_region ?_
      refine o_step rfl (s_move rfl) ?_
      refine o_step rfl (s_indexA rfl rfl (by omega)) ?_
      refine o_step rfl (s_ld rfl ((RdPK.own meA).cel (j := (at0 f j).toNat) (flatEbo_get (hsn _)) (by omega))) ?_
      refine o_nil ?_
      refine x_then (hK14 _ _ ?_)
      refine c_if rfl (fun hse => ?_) (fun hse => ?_)
      · skip
        refine c_seq fun _ hK15 => ?_
        refine c_region ?_
        refine o_step rfl (s_build0 rfl) ?_
        refine o_stW rfl rfl upA lnA lnA (by first | exact flat_one _ _ | exact one_rep rfl | (simp [Value.oneCell']; done)) ?_
        refine o_step rfl (s_assign rfl) ?_
        refine o_nil ?_
        refine x_then (hK15 _ _ ?_)
        refine c_ret ?_
        refine x_then_ret (x_block_ret (x_then_ret (x_then_ret (x_block_ret (x_then_ret (?_))))))
        exact x_ret rfl (.agg inferInstance inferInstance rfl (RdPK.cels (.own meA)) lnA (.tmp rfl (.nil))) (tab_none (newR_none hse (by omega)))
      · skip
        refine c_skip ?_
        refine x_then (hK13 _ _ ?_)
        refine c_seq fun _ hK16 => ?_
        refine c_region ?_
        refine o_step rfl (s_move rfl) ?_
        refine o_step rfl (s_indexA rfl rfl (by omega)) ?_
        refine o_stBo (l := sn) (i := (at0 f j).toNat) true rfl rfl (by omega) (by omega) upA ?_
        refine o_nil ?_
        refine x_then (hK16 _ _ ?_)
        refine c_region ?_
        refine o_step rfl (s_move rfl) ?_
        refine o_step rfl (s_move rfl) ?_
        refine o_step rfl (s_move rfl) ?_
        refine o_step rfl (s_idx rfl rfl (by assumption) (by omega)) ?_
        refine o_step rfl (s_ld rfl ((RdK.old0 h2).ld j 0 (at0_get (by omega)) rfl (by decide) (by omega))) ?_
        refine o_step rfl (s_indexA rfl rfl (by omega)) ?_
        refine o_stB (l := l) (i := (at0 f j).toNat) (at0 t j) rfl rfl (by omega) (by omega) upA ?_
        refine o_nil ?_
        refine x_block ?_
        refine x_then (hK11 _ _ ?_)
        refine c_region ?_
        refine o_step rfl (s_add rfl rfl (by omega)) ?_
        refine o_step rfl (s_move rfl) ?_
        refine o_nil ?_
        exact x_then (x_inv (j + 1, _, _) ⟨by omega, by simp only [newAt]; rw [if_neg hse, hl]; rfl, by rw [List.length_set]; exact hsl, seen_step (by omega) hsl hsn⟩ (by first | omega | (dsimp only; omega)) sbA hzB)
    · skip
      refine c_exit ?_
      refine x_then_exit ?_
      refine x_then_exit ?_
      refine x_block_exit ?_
      refine x_then (hK7 _ _ ?_)
      refine c_seq fun _ hK17 => ?_
      refine c_region ?_
      refine o_step rfl (s_ldB rfl (RdPK.cels (.own meA)) lnA) ?_
      refine o_stW rfl rfl upA lnA lnA (by first | exact flat_one _ _ | exact one_rep rfl | (simp [Value.oneCell']; done)) ?_
      refine o_step rfl (s_assign rfl) ?_
      refine o_nil ?_
      refine x_then (hK17 _ _ ?_)
      refine c_ret ?_
      refine ?_
      exact x_ret rfl (.agg inferInstance inferInstance rfl (RdPK.cels (.own meA)) lnA (.tmp rfl (.nil))) (tab_some (newR_some hl hle (by omega) hj))
theorem lives_fn  : HL.Fn Tryd.prog 30 [] (fun _ => True) [] (fun v _ => v = .bool true) := by
  refine fn_of Tryd.func30 rfl rfl rfl fun w0 hw => ?_
  refine c_seq fun _ hK1 => ?_
  refine c_region ?_
  refine o_step rfl (s_assign rfl) ?_
  refine o_nil ?_
  refine x_then (hK1 _ _ ?_)
  refine c_seq fun _ hK2 => ?_
  refine c_region ?_
  refine o_bs (E := Eb) (xs := [97, 98]) (vs := [_, _]) rfl rfl rfl rfl rfl (by decide) (by decide) fun b6 S6 hS6 => ?_
  refine o_conv_same rfl hS6 pkA rfl fun S7 hS7 => ?_
  refine o_bs (E := Eb) (xs := [120, 121]) (vs := [_, _]) rfl rfl rfl rfl rfl (by decide) (by decide) fun b8 S8 hS8 => ?_
  refine o_conv_same rfl hS8 pkA rfl fun S9 hS9 => ?_
  refine o_callP (new_fn (some _) (some _) 2 2 [97, 98] [120, 121]) rfl rfl rfl (fun w st => ⟨(hS7.rdk hiA).out w st, (hS9.rdk hiA).out w st⟩) (fun v10 hv10 => ?_)
  rw [lv1] at hv10
  subst hv10
  refine o_step rfl (s_move rfl) ?_
  refine o_step rfl (s_extract rfl rfl) ?_
  refine o_step rfl (s_extract rfl rfl) ?_
  refine o_alloc rfl rfl fun b1 => ?_
  refine o_stW rfl rfl upA (by rw [flat_len, Nat.mul_one]; exact xyT_len) lnA (by first | exact flat_one _ _ | exact one_rep rfl | (simp [Value.oneCell']; done)) ?_
  refine o_step rfl (s_assign rfl) ?_
  refine o_nil ?_
  refine x_then (hK2 _ _ ?_)
  refine c_seq fun _ hK3 => ?_
  refine c_region ?_
  refine o_bs (E := Eb) (xs := [97, 97]) (vs := [_, _]) rfl rfl rfl rfl rfl (by decide) (by decide) fun b14 S14 hS14 => ?_
  refine o_conv_same rfl hS14 pkA rfl fun S15 hS15 => ?_
  refine o_bs (E := Eb) (xs := [120, 121]) (vs := [_, _]) rfl rfl rfl rfl rfl (by decide) (by decide) fun b16 S16 hS16 => ?_
  refine o_conv_same rfl hS16 pkA rfl fun S17 hS17 => ?_
  refine o_callP (new_fn (some _) (some _) 2 2 [97, 97] [120, 121]) rfl rfl rfl (fun w st => ⟨(hS15.rdk hiA).out w st, (hS17.rdk hiA).out w st⟩) (fun v18 hv18 => ?_)
  rw [lv2] at hv18
  subst hv18
  refine o_step rfl (s_move rfl) ?_
  refine o_step rfl (s_extract rfl rfl) ?_
  refine o_step rfl (s_extract rfl rfl) ?_
  refine o_alloc rfl rfl fun b3 => ?_
  refine o_stW rfl rfl upA (by rw [flat_len, Nat.mul_one]; exact zT_len) lnA (by first | exact flat_one _ _ | exact one_rep rfl | (simp [Value.oneCell']; done)) ?_
  refine o_step rfl (s_assign rfl) ?_
  refine o_nil ?_
  refine x_then (hK3 _ _ ?_)
  refine c_seq fun _ hK4 => ?_
  refine c_region ?_
  refine o_step rfl (s_move rfl) ?_
  refine o_step rfl (s_eql_t rfl rfl rfl) ?_
  refine o_step rfl (s_move rfl) ?_
  refine o_yes rfl rfl ?_
  refine o_step rfl (s_move rfl) ?_
  refine o_yes rfl rfl ?_
  refine o_step rfl (s_eql_t rfl rfl rfl) ?_
  refine o_step rfl (s_pick_t rfl rfl) ?_
  refine o_step rfl (s_move rfl) ?_
  refine o_yes rfl rfl ?_
  refine o_bs (E := Eb) (xs := [97, 98, 99, 97, 98]) (vs := [_, _, _, _, _]) rfl rfl rfl rfl rfl (by decide) (by decide) fun b28 S28 hS28 => ?_
  refine o_yes rfl rfl ?_
  refine o_conv_same rfl hS28 pkA rfl fun S29 hS29 => ?_
  refine o_yes rfl rfl ?_
  refine o_call (apply_fn _ _ (some _) 5 xyT [97, 98, 99, 97, 98] xyT_len) rfl rfl rfl (by exact .nil) (fun w st => ⟨(RdPK.own meA).out w st, (hS29.rdk hiA).out w st⟩) (fun v30 S30 ⟨a30, c30, hv30, hS30⟩ => ?_)
  subst hv30
  refine o_yes rfl rfl ?_
  refine o_bs (E := Eb) (xs := [120, 121, 99, 120, 121]) (vs := [_, _, _, _, _]) rfl rfl rfl rfl rfl (by decide) (by decide) fun b31 S31 hS31 => ?_
  refine o_yes rfl rfl ?_
  refine o_conv_same rfl hS31 pkA rfl fun S32 hS32 => ?_
  refine o_yes rfl rfl ?_
  refine o_callP (eqBytes_fn a30 (some _) c30 5 _ [120, 121, 99, 120, 121]) rfl rfl rfl (fun w st => ⟨(hS30.rdk hiA).out w st, (hS32.rdk hiA).out w st⟩) (fun v33 hv33 => ?_)
  rw [decide_eq_true lv3] at hv33
  subst hv33
  refine o_step rfl (s_pick_t rfl rfl) ?_
  refine o_step rfl (s_assign rfl) ?_
  refine o_nil ?_
  refine x_then (hK4 _ _ ?_)
  refine c_ret ?_
  refine ?_
  exact x_ret rfl (.tmp rfl (.nil)) (rfl)
theorem long_fn (n : Int) : HL.Fn Tryd.prog 29 [.int .i64 n] (fun _ => True) [] (fun v _ => v = .bool (decide (2147483647 < n))) := by
  refine fn_of Tryd.func29 rfl rfl rfl fun w0 hw => ?_
  refine c_seq fun _ hK1 => ?_
  refine c_region ?_
  refine o_step rfl (s_assign rfl) ?_
  refine o_nil ?_
  refine x_then (hK1 _ _ ?_)
  refine c_seq fun _ hK2 => ?_
  refine c_region ?_
  refine o_step rfl (s_move rfl) ?_
  refine o_step rfl (s_gtr rfl rfl) ?_
  refine o_step rfl (s_assign rfl) ?_
  refine o_nil ?_
  refine x_then (hK2 _ _ ?_)
  refine c_ret ?_
  refine ?_
  exact x_ret rfl (.tmp rfl (.nil)) (rfl)
theorem print_fn (b1 o1 : Nat) (t : List UInt8) (ht : t.length = 256) : HL.Fn Tryd.prog 35 [.pointer (some ⟨b1, o1, none⟩)] (fun w => RdP w b1 o1 (flat Eb t)) [] (fun v S' => ∃ a c a' c' S1 S2, v = .tuple #[.slice a (pF t 256).length c, .slice a' (pT t 256).length c'] ∧ S' = S1 ++ S2 ∧ OwnS Eb 1 5 (.slice a (pF t 256).length c) (pF t 256) S1 ∧ OwnS Eb 1 5 (.slice a' (pT t 256).length c') (pT t 256) S2) := by
  refine fn_of Tryd.func35 rfl rfl rfl fun w0 hw => ?_
  refine c_seq fun _ hK1 => ?_
  refine c_region ?_
  refine o_step rfl (s_assign rfl) ?_
  refine o_step rfl (s_assign rfl) ?_
  refine o_nil ?_
  refine x_then (hK1 _ _ ?_)
  refine c_seq fun _ hK2 => ?_
  refine c_region ?_
  refine o_step rfl (s_assign rfl) ?_
  refine o_step rfl (s_assign rfl) ?_
  refine o_nil ?_
  refine x_then (hK2 _ _ ?_)
  refine c_seq fun _ hK3 => ?_
  refine c_seq fun _ hK4 => ?_
  refine c_region ?_
  refine o_step rfl (s_move rfl) ?_
  refine o_step rfl (step_cast (v' := .bool false) (s_eql_nilp rfl rfl) rfl) ?_
  refine o_nil ?_
  refine x_then (hK4 _ _ ?_)
  refine c_false rfl ?_
  refine c_skip ?_
  refine x_then (hK3 _ _ ?_)
  refine c_seq fun _ hK5 => ?_
  refine c_seq fun _ hK6 => ?_
  refine c_region ?_
  refine o_step rfl (s_move rfl) ?_
  refine o_step rfl (s_move rfl) ?_
  refine o_nil ?_
  refine x_then (hK6 _ _ ?_)
  refine c_block ?_
  refine c_loop7 (fun (j : Nat) (a : Option Addr) (c : Nat) (a2 : Option Addr) (c2 : Nat) (S : Hp) (S2 : Hp) => j ≤ 256 ∧ OwnS Eb 1 5 (.slice a (pF t j).length c) (pF t j) S ∧ OwnS Eb 1 5 (.slice a2 (pT t j).length c2) (pT t j) S2) (fun (j : Nat) (a : Option Addr) (c : Nat) (a2 : Option Addr) (c2 : Nat) (S : Hp) (S2 : Hp) => [(4, .slice a (pF t j).length c), (5, .slice a2 (pT t j).length c2), (11, .int .i64 j)]) [(2, _), (3, _), (10, _)] (fun (j : Nat) (a : Option Addr) (c : Nat) (a2 : Option Addr) (c2 : Nat) (S : Hp) (S2 : Hp) => S ++ S2) (fun (j : Nat) (a : Option Addr) (c : Nat) (a2 : Option Addr) (c2 : Nat) (S : Hp) (S2 : Hp) => 256 - j) 0 none 0 none 0 [] [] ⟨by omega, .nil, .nil⟩ sbA sbA (by exact HSub.refl _) ?_
  rintro j a c a2 c2 S S2 ⟨hj, hS, hT⟩
  have hlF := pF_len t j
  have hlT := pT_len t j
  have hlI := pIdx_len t j
  refine c_seq fun _ hK7 => ?_
  refine c_region ?_
  refine o_step rfl (s_lss rfl rfl) ?_
  refine o_nil ?_
  refine x_then (hK7 _ _ ?_)
  refine c_seq fun _ hK8 => ?_
  refine c_if rfl (fun hlt => ?_) (fun hlt => ?_)
  · skip
    refine c_skip ?_
    refine x_then (hK8 _ _ ?_)
    refine c_seq fun _ hK9 => ?_
    refine c_block ?_
    refine c_seq fun _ hK10 => ?_
    refine c_quiet (by kernel_rfl) ?_
    refine .op rfl (s_move rfl) ?_
    refine .op rfl (s_nil rfl) ?_
    refine .op rfl (s_indexA rfl rfl (by omega)) ?_
    refine .op rfl (s_ld rfl ((RdPK.old0 hw).cel (j := j) (flatEb_get (at0_get (by omega))) (by omega))) ?_
    refine .op rfl (s_assign rfl) ?_
    refine .op rfl (s_assign rfl) ?_
    refine .nil ?_
    refine x_then (hK10 _ _ ?_)
    refine c_seq fun _ hK11 => ?_
    refine c_region ?_
    refine o_step rfl (s_move rfl) ?_
    refine o_step rfl (s_convB rfl) ?_
    refine o_step rfl (s_move rfl) ?_
    refine o_step rfl (s_neq rfl rfl) ?_
    refine o_nil ?_
    refine x_then (hK11 _ _ ?_)
    refine c_if rfl (fun hq => ?_) (fun hq => ?_)
    · skip
      have hy : at0 t j ≠ UInt8.ofNat j := fun e => hq (by rw [e])
      refine c_region ?_
      refine o_step rfl (s_move rfl) ?_
      refine o_step rfl (s_move rfl) ?_
      refine o_step rfl (s_convB rfl) ?_
      refine o_bs (E := Eb) (xs := [UInt8.ofNat j]) (vs := [_]) rfl rfl rfl rfl rfl (by decide) (by decide) fun b24 S24 hS24 => ?_
      refine o_app hS (hS24.rdk hiA) rfl rfl rfl rfl (by rw [hlF]; show ((pIdx t j).length + 1) * 1 ≤ _; omega) (by rw [hlF]; show (pIdx t j).length + 1 ≤ _; omega) rfl pkA fun a25 c25 S25 hS25 => ?_
      rw [← pF_yes hy] at hS25 ⊢
      refine o_step rfl (s_move rfl) ?_
      refine o_step rfl (s_move rfl) ?_
      refine o_bs (E := Eb) (xs := [at0 t j]) (vs := [_]) rfl rfl rfl rfl rfl (by decide) (by decide) fun b28 S28 hS28 => ?_
      refine o_app hT (hS28.rdk hiA) rfl rfl rfl rfl (by rw [hlT]; show ((pIdx t j).length + 1) * 1 ≤ _; omega) (by rw [hlT]; show (pIdx t j).length + 1 ≤ _; omega) rfl pkA fun a29 c29 S29 hS29 => ?_
      rw [← pT_yes hy] at hS29 ⊢
      refine o_step rfl (s_assign rfl) ?_
      refine o_step rfl (s_assign rfl) ?_
      refine o_nil ?_
      refine x_block ?_
      refine x_then (hK9 _ _ ?_)
      refine c_region ?_
      refine o_step rfl (s_add rfl rfl (by omega)) ?_
      refine o_step rfl (s_move rfl) ?_
      refine o_nil ?_
      exact x_then (x_inv (j + 1, _, _, _, _, _, _) ⟨by omega, hS25, hS29⟩ (by first | omega | (dsimp only; omega)) sbA hzB)
    · skip
      have hno : ¬ at0 t j ≠ UInt8.ofNat j := fun e => hq (fun e2 => e (UInt8.toNat_inj.1 (by omega)))
      refine c_skip ?_
      refine x_block ?_
      refine x_then (hK9 _ _ ?_)
      refine c_region ?_
      refine o_step rfl (s_add rfl rfl (by omega)) ?_
      refine o_step rfl (s_move rfl) ?_
      refine o_nil ?_
      rw [← pF_no hno] at hS ⊢
      rw [← pT_no hno] at hT ⊢
      exact x_then (x_inv (j + 1, _, _, _, _, _, _) ⟨by omega, hS, hT⟩ (by first | omega | (dsimp only; omega)) sbA hzB)
  · skip
    obtain rfl : j = 256 := by omega
    refine c_exit ?_
    refine x_then_exit ?_
    refine x_then_exit ?_
    refine x_block_exit ?_
    refine x_then (hK5 _ _ ?_)
    refine c_seq fun _ hK12 => ?_
    refine c_region ?_
    refine o_step rfl (s_move rfl) ?_
    refine o_step rfl (s_move rfl) ?_
    refine o_step rfl (s_assign rfl) ?_
    refine o_step rfl (s_assign rfl) ?_
    refine o_nil ?_
    refine x_then (hK12 _ _ ?_)
    refine c_ret ?_
    refine ?_
    exact x_ret rfl (.tmp rfl (.tmp rfl (.nil))) (⟨_, _, _, _, _, _, rfl, rfl, hS, hT⟩)
theorem copy_fn (a : Option Addr) (c : Nat) (xs : List UInt8) : HL.Fn Tryd.prog 40 [.slice a xs.length c] (fun w => Rd Eb w (.slice a xs.length c) xs) [] (fun v S' => ∃ a' c', v = .slice a' xs.length c' ∧ OwnS Eb 1 5 (.slice a' xs.length c') xs S') := by
  refine fn_of Tryd.func40 rfl rfl rfl fun w0 hw => ?_
  have hsx := hw.sl
  have hbx := hsx.le
  have h0 : OwnS Eb 1 5 (.slice none 0 0) [] [] := .nil
  refine c_seq fun _ hK1 => ?_
  refine c_region ?_
  refine o_step rfl (s_assign rfl) ?_
  refine o_nil ?_
  refine x_then (hK1 _ _ ?_)
  refine c_seq fun _ hK2 => ?_
  refine c_region ?_
  refine o_step rfl (s_assign rfl) ?_
  refine o_nil ?_
  refine x_then (hK2 _ _ ?_)
  refine c_seq fun _ hK3 => ?_
  refine c_region ?_
  refine o_step rfl (s_move rfl) ?_
  refine o_step rfl (s_move rfl) ?_
  refine o_app h0 (RdK.old0 hw) rfl rfl rfl rfl (by simp; omega) (by simp; omega) rfl pkA fun a6 c6 S6 hS6 => ?_
  refine o_step rfl (s_assign rfl) ?_
  refine o_nil ?_
  refine x_then (hK3 _ _ ?_)
  refine c_ret ?_
  refine ?_
  simp only [List.nil_append] at hS6
  exact x_ret rfl (.tmp rfl (.nil)) (⟨_, _, rfl, by simpa using hS6⟩)
theorem wideBytes_fn (a : Option Addr) (c : Nat) (xs : List UInt8) (hn : xs.length ≤ 2147483647) : HL.Fn Tryd.prog 31 [.slice a xs.length c] (fun w => Rd Eb w (.slice a xs.length c) xs) [] (fun v S' => ∃ a', v = .slice a' xs.length (xs.length + 64) ∧ OwnS Eb 1 5 (.slice a' (wide xs).length (xs.length + 64)) (wide xs) S') := by
  refine fn_of Tryd.func31 rfl rfl rfl fun w0 hw => ?_
  have hsx := hw.sl
  have hbx := hsx.le
  have hwl := wide_len xs
  refine c_seq fun _ hK1 => ?_
  refine c_region ?_
  refine o_step rfl (s_assign rfl) ?_
  refine o_nil ?_
  refine x_then (hK1 _ _ ?_)
  refine c_seq fun _ hK2 => ?_
  refine c_region ?_
  refine o_step rfl (s_move rfl) ?_
  refine o_step rfl (s_len rfl) ?_
  refine o_step rfl (s_add rfl rfl (by omega)) ?_
  refine o_make (E := Eb) (zx := 0) (n := xs.length + 64) rfl rfl rfl (by omega) (by omega) rfl fun b8 S8 hS8 => ?_
  refine o_step rfl (s_assign rfl) ?_
  refine o_nil ?_
  refine x_then (hK2 _ _ ?_)
  refine c_seq fun _ hK3 => ?_
  refine c_seq fun _ hK4 => ?_
  refine c_region ?_
  refine o_step rfl (s_assign rfl) ?_
  refine o_nil ?_
  refine x_then (hK4 _ _ ?_)
  refine c_block ?_
  refine c_loop3 (fun (j : Nat) (l : List UInt8) (S : Hp) => j ≤ xs.length + 64 ∧ Fill (wideF xs) (xs.length + 64) j l ∧ OwnS Eb 1 5 (.slice (some ⟨b8, 0, none⟩) (xs.length + 64) (xs.length + 64)) l S) (fun (j : Nat) (l : List UInt8) (S : Hp) => [(4, .int .i64 j)]) [(0, _), (2, _), (3, _)] (fun (j : Nat) (l : List UInt8) (S : Hp) => S) (fun (j : Nat) (l : List UInt8) (S : Hp) => xs.length + 64 - j) 0 _ _ ⟨by omega, .zero List.length_replicate, hS8⟩ sbA sbA hzB ?_
  rintro j l S ⟨hj, hl, hS⟩
  have hsl := hS.sl
  have hll := hl.len
  rw [hll] at hsl
  refine c_seq fun _ hK5 => ?_
  refine c_seq fun _ hK6 => ?_
  refine c_region ?_
  refine o_step rfl (s_move rfl) ?_
  refine o_step rfl (s_move rfl) ?_
  refine o_step rfl (s_len rfl) ?_
  refine o_step rfl (s_lss rfl rfl) ?_
  refine o_nil ?_
  refine x_then (hK6 _ _ ?_)
  refine c_if rfl (fun hlt => ?_) (fun hlt => ?_)
  · skip
    refine c_skip ?_
    refine x_then (hK5 _ _ ?_)
    refine c_seq fun _ hK7 => ?_
    refine c_block ?_
    refine c_seq fun _ hK8 => ?_
    refine c_region ?_
    refine o_step rfl (s_move rfl) ?_
    refine o_step rfl (s_move rfl) ?_
    refine o_step rfl (s_len rfl) ?_
    refine o_step rfl (s_lss rfl rfl) ?_
    refine o_nil ?_
    refine x_then (hK8 _ _ ?_)
    refine c_if rfl (fun hin => ?_) (fun hin => ?_)
    · skip
      refine c_region ?_
      refine o_step rfl (s_move rfl) ?_
      refine o_step rfl (s_move rfl) ?_
      refine o_step rfl (s_move rfl) ?_
      refine o_step rfl (s_move rfl) ?_
      refine o_step rfl (s_idx rfl rfl (by assumption) (by omega)) ?_
      refine o_step rfl (s_ld rfl ((RdK.old0 hw).ld j 0 (at0_get (by omega)) rfl (by decide) (by omega))) ?_
      refine o_step rfl (s_idx rfl rfl (by assumption) (by omega)) ?_
      refine o_stS1 j (at0 xs j) hS pkA rfl rfl rfl (by omega) (by rw [Int.toNat_natCast, Nat.mul_one]) fun S' hS' => ?_
      refine o_nil ?_
      refine x_block ?_
      refine x_then (hK7 _ _ ?_)
      refine c_region ?_
      refine o_step rfl (s_move rfl) ?_
      refine o_step rfl (s_add rfl rfl (by omega)) ?_
      refine o_step rfl (s_assign rfl) ?_
      refine o_nil ?_
      exact x_then (x_inv (j + 1, _, _) ⟨by omega, hl.step (by omega) (wideF_in (by omega)), hS'⟩ (by first | omega | (dsimp only; omega)) sbA hzB)
    · skip
      refine c_region ?_
      refine o_step rfl (s_move rfl) ?_
      refine o_step rfl (s_move rfl) ?_
      refine o_step rfl (s_move rfl) ?_
      refine o_step rfl (s_mul rfl rfl (by omega)) ?_
      refine o_step rfl (s_add rfl rfl (by omega)) ?_
      refine o_step rfl (s_add rfl rfl (by omega)) ?_
      refine o_step rfl (s_convB (j := 279 + 7 * j + 3) rfl) ?_
      refine o_step rfl (s_idx rfl rfl (by assumption) (by omega)) ?_
      refine o_stS1 j (UInt8.ofNat (279 + 7 * j + 3)) hS pkA rfl rfl rfl (by omega) (by rw [Int.toNat_natCast, Nat.mul_one]) fun S' hS' => ?_
      refine o_nil ?_
      refine x_block ?_
      refine x_then (hK7 _ _ ?_)
      refine c_region ?_
      refine o_step rfl (s_move rfl) ?_
      refine o_step rfl (s_add rfl rfl (by omega)) ?_
      refine o_step rfl (s_assign rfl) ?_
      refine o_nil ?_
      exact x_then (x_inv (j + 1, _, _) ⟨by omega, hl.step (by omega) (wideF_out (by omega)), hS'⟩ (by first | omega | (dsimp only; omega)) sbA hzB)
  · skip
    have hd := fill_wide hl (by omega)
    subst hd
    refine c_exit ?_
    refine x_then_exit ?_
    refine x_then_exit ?_
    refine x_block_exit ?_
    refine x_then (hK3 _ _ ?_)
    refine c_seq fun _ hK9 => ?_
    refine c_region ?_
    refine o_step rfl (s_move rfl) ?_
    refine o_step rfl (s_move rfl) ?_
    refine o_step rfl (s_len rfl) ?_
    refine o_step rfl (s_slice_hi rfl rfl (by omega)) ?_
    refine o_step rfl (s_assign rfl) ?_
    refine o_nil ?_
    refine x_then (hK9 _ _ ?_)
    refine c_ret ?_
    refine ?_
    exact x_ret rfl (.tmp rfl (.nil)) (⟨_, rfl, by rw [hwl]; exact hS⟩)
theorem spareBytes_fn (a : Option Addr) (c : Nat) (xs : List UInt8) (hn : xs.length ≤ 2147483647) : HL.Fn Tryd.prog 39 [.slice a xs.length c] (fun w => Rd Eb w (.slice a (wide xs).length c) (wide xs)) [] (fun v _ => v = .bool true) := by
  refine fn_of Tryd.func39 rfl rfl rfl fun w0 hw => ?_
  have hwl := wide_len xs
  have hsx := hw.sl
  have hc := hsx.cap
  refine c_seq fun _ hK1 => ?_
  refine c_region ?_
  refine o_step rfl (s_assign rfl) ?_
  refine o_nil ?_
  refine x_then (hK1 _ _ ?_)
  refine c_seq fun _ hK2 => ?_
  refine c_region ?_
  refine o_step rfl (s_move rfl) ?_
  refine o_step rfl (s_move rfl) ?_
  refine o_step rfl (s_len rfl) ?_
  refine o_step rfl (s_add rfl rfl (by omega)) ?_
  refine o_step rfl (s_slice_hi rfl rfl (by omega)) ?_
  rw [show ((xs.length : Int) + 64).toNat = (wide xs).length from by rw [wide_len]; omega]
  refine o_step rfl (s_assign rfl) ?_
  refine o_nil ?_
  refine x_then (hK2 _ _ ?_)
  refine c_seq fun _ hK3 => ?_
  refine c_seq fun _ hK4 => ?_
  refine c_region ?_
  refine o_step rfl (s_move rfl) ?_
  refine o_step rfl (s_len rfl) ?_
  refine o_step rfl (s_assign rfl) ?_
  refine o_nil ?_
  refine x_then (hK4 _ _ ?_)
  refine c_block ?_
  -- not carried: 2
  refine c_loopB (fun (j : Nat) => xs.length ≤ j ∧ j ≤ xs.length + 64) (fun (j : Nat) => [(4, .int .i64 j)]) [(3, _)] (fun (j : Nat) => _) (fun (j : Nat) => xs.length + 64 - j) xs.length ⟨by omega, by omega⟩ sbA sbA hzB ?_
  rintro j ⟨hj1, hj2⟩
  refine c_seq fun _ hK5 => ?_
  refine c_seq fun _ hK6 => ?_
  refine c_region ?_
  refine o_step rfl (s_move rfl) ?_
  refine o_step rfl (s_move rfl) ?_
  refine o_step rfl (s_len rfl) ?_
  refine o_step rfl (s_lss rfl rfl) ?_
  refine o_nil ?_
  refine x_then (hK6 _ _ ?_)
  refine c_if rfl (fun hlt => ?_) (fun hlt => ?_)
  · skip
    refine c_skip ?_
    refine x_then (hK5 _ _ ?_)
    refine c_seq fun _ hK7 => ?_
    refine c_block ?_
    refine c_seq fun _ hK8 => ?_
    refine c_region ?_
    refine o_step rfl (s_move rfl) ?_
    refine o_step rfl (s_move rfl) ?_
    refine o_step rfl (s_idx rfl rfl (by assumption) (by omega)) ?_
    refine o_step rfl (s_ld rfl ((RdK.old0 hw).ld j 0 (at0_get (by omega)) rfl (by decide) (by omega))) ?_
    refine o_step rfl (s_move rfl) ?_
    refine o_step rfl (s_mul rfl rfl (by omega)) ?_
    refine o_step rfl (s_add rfl rfl (by omega)) ?_
    refine o_step rfl (s_add rfl rfl (by omega)) ?_
    refine o_step rfl (s_convB (j := 279 + 7 * j + 3) rfl) ?_
    refine o_step rfl (s_eql_t rfl rfl (by rw [wide_at (by omega), ← wideF_out (by omega)])) ?_
    refine o_step rfl (s_not rfl) ?_
    refine o_nil ?_
    refine x_then (hK8 _ _ ?_)
    refine c_false rfl ?_
    refine c_skip ?_
    refine x_block ?_
    refine x_then (hK7 _ _ ?_)
    refine c_region ?_
    refine o_step rfl (s_move rfl) ?_
    refine o_step rfl (s_add rfl rfl (by omega)) ?_
    refine o_step rfl (s_assign rfl) ?_
    refine o_nil ?_
    exact x_then (x_inv (j + 1) ⟨by omega, by omega⟩ (by first | omega | (dsimp only; omega)) sbA hzB)
  · skip
    refine c_exit ?_
    refine x_then_exit ?_
    refine x_then_exit ?_
    refine x_block_exit ?_
    refine x_then (hK3 _ _ ?_)
    refine c_seq fun _ hK9 => ?_
    refine c_region ?_
    refine o_step rfl (s_assign rfl) ?_
    refine o_nil ?_
    refine x_then (hK9 _ _ ?_)
    refine c_ret ?_
    refine ?_
    exact x_ret rfl (.tmp rfl (.nil)) (rfl)
end Go.Proofs.YtmmajabfmhipeaaDoor
namespace Go.Proofs.YtmmajabfmhipeaaDoor
open Go Go.HL Go.Proofs
instance m141 : TM Tryd.prog 141 "galley/queue.says" 135 := tm_of (by kernel_rfl) (by kernel_rfl)
instance m133 : TM Tryd.prog 133 "galley/queue.says" 134 := tm_of (by kernel_rfl) (by kernel_rfl)
theorem ta141 : ((Tryd.prog.underlying 138).bind fun d => (Tryd.prog.info? 141).map fun i => match d with | .interface want => (want.toList.filter fun p => !i.methods.any fun m => m.name == p.1 && m.sig == p.2).isEmpty | _ => true) = some false := by kernel_rfl
theorem ta133 : ((Tryd.prog.underlying 138).bind fun d => (Tryd.prog.info? 133).map fun i => match d with | .interface want => (Instr.missingMethod want i.methods).isNone | _ => false) = some true := by kernel_rfl
/-- what waits in a queue, as it lies there -/
structure IV where
  t : TypeId
  v : Value
def Eiv (x : IV) : List Value := [.iface x.t x.v]
instance : Enc Eiv 1 := ⟨fun _ => rfl, fun _ _ h => by simp [Eiv] at h; subst h; rfl⟩
theorem put_raw (bq : Nat) (x : IV) (qa : Option Addr) (qc : Nat) (ql : List IV) (So : Hp) (hO : OwnS Eiv 1 135 (.slice qa ql.length qc) ql So) (hle : ql.length ≤ 4294967296) : HL.Fn Tryd.prog 82 [.pointer (some ⟨bq, 0, none⟩), .iface x.t x.v] (fun _ => True) ((bq, .cells [.bool true, .slice qa ql.length qc].toArray 109 (0, 0)) :: So) (fun v S' => v = .tuple #[] ∧ ∃ qa' qc' So', S' = (bq, .cells [.bool true, .slice qa' (ql ++ [x]).length qc'].toArray 109 (0, 0)) :: So' ∧ OwnS Eiv 1 135 (.slice qa' (ql ++ [x]).length qc') (ql ++ [x]) So') := by
  refine fn_of Tryd.func82 rfl rfl rfl fun w0 hw => ?_
  refine c_seq fun _ hK1 => ?_
  refine c_region ?_
  refine o_step rfl (s_move rfl) ?_
  refine o_step rfl (step_cast (v' := .bool true) (s_neq_nilp rfl rfl) rfl) ?_
  refine o_step rfl (s_move rfl) ?_
  refine o_yes rfl rfl ?_
  refine o_step rfl (s_move rfl) ?_
  refine o_yes rfl rfl ?_
  refine o_step rfl (s_nil rfl) ?_
  refine o_yes rfl rfl ?_
  refine o_step rfl (s_field rfl rfl (by decide)) ?_
  refine o_yes rfl rfl ?_
  refine o_step rfl (s_ld rfl (.own meA rfl)) ?_
  refine o_step rfl (s_pick_t rfl rfl) ?_
  refine o_nil ?_
  refine x_then (hK1 _ _ ?_)
  refine c_true rfl ?_
  refine c_region ?_
  refine o_step rfl (s_move rfl) ?_
  refine o_step rfl (s_move rfl) ?_
  refine o_step rfl (s_nil rfl) ?_
  refine o_step rfl (s_field rfl rfl (by decide)) ?_
  refine o_step rfl (s_ld rfl (.own meA rfl)) ?_
  refine o_step rfl (s_move rfl) ?_
  refine o_bs (E := Eiv) (xs := [x]) (vs := [_]) rfl rfl rfl rfl rfl (by decide) (by decide) fun b18 S18 hS18 => ?_
  refine o_app hO (hS18.rdk hiA) rfl rfl rfl rfl (by show (ql.length + 1) * 16 ≤ _; omega) (by show ql.length + 1 ≤ _; omega) rfl pkA fun a19 c19 S19 hS19 => ?_
  refine o_step rfl (s_nil rfl) ?_
  refine o_step rfl (s_field rfl rfl (by decide)) ?_
  refine o_store rfl rfl rfl upA (by first | decide | omega | (simp; done) | (simp; omega)) rfl ?_
  refine o_nil ?_
  refine x_sub (Sub.refl _) (H' := (bq, .cells [.bool true, .slice a19 (ql ++ [x]).length c19].toArray 109 (0, 0)) :: S19) hzB ?_
  exact x_end rfl (.nil) (⟨rfl, _, _, _, rfl, hS19⟩)
theorem len_fn (bq : Nat) (m : Value) (qa : Option Addr) (n qc : Nat) : HL.Fn Tryd.prog 45 [.pointer (some ⟨bq, 0, none⟩)] (fun w => RdP w bq 0 [m, .slice qa n qc]) [] (fun v _ => v = .int .i64 n) := by
  refine fn_of Tryd.func45 rfl rfl rfl fun w0 hw => ?_
  refine c_seq fun _ hK1 => ?_
  refine c_region ?_
  refine o_step rfl (s_assign rfl) ?_
  refine o_nil ?_
  refine x_then (hK1 _ _ ?_)
  refine c_seq fun _ hK2 => ?_
  refine c_seq fun _ hK3 => ?_
  refine c_region ?_
  refine o_step rfl (s_move rfl) ?_
  refine o_step rfl (step_cast (v' := .bool false) (s_eql_nilp rfl rfl) rfl) ?_
  refine o_nil ?_
  refine x_then (hK3 _ _ ?_)
  refine c_false rfl ?_
  refine c_skip ?_
  refine x_then (hK2 _ _ ?_)
  refine c_seq fun _ hK4 => ?_
  refine c_region ?_
  refine o_step rfl (s_move rfl) ?_
  refine o_step rfl (s_nil rfl) ?_
  refine o_step rfl (s_field rfl rfl (by decide)) ?_
  refine o_step rfl (s_ld rfl ((RdPK.old0 hw).cel (j := 1) rfl rfl)) ?_
  refine o_step rfl (s_len rfl) ?_
  refine o_step rfl (s_assign rfl) ?_
  refine o_nil ?_
  refine x_then (hK4 _ _ ?_)
  refine c_ret ?_
  refine ?_
  exact x_ret rfl (.tmp rfl (.nil)) (rfl)
theorem queueNew_fn  : HL.Fn Tryd.prog 7 [] (fun _ => True) [] (fun v S' => ∃ bq, v = .pointer (some ⟨bq, 0, none⟩) ∧ S' = [(bq, .cells [.bool true, .slice none 0 0].toArray 109 (0, 0))]) := by
  refine fn_of Tryd.func7 rfl rfl rfl fun w0 hw => ?_
  refine c_seq fun _ hK1 => ?_
  refine c_region ?_
  refine o_step rfl (s_assign rfl) ?_
  refine o_nil ?_
  refine x_then (hK1 _ _ ?_)
  refine c_seq fun _ hK2 => ?_
  refine c_region ?_
  refine o_step rfl (s_build (cs := [_, _]) (vs := [_]) rfl rfl (.cons rfl rfl rfl rfl rfl (.nil))) ?_
  refine o_box rfl rfl rfl fun b2 => ?_
  refine o_step rfl (s_assign rfl) ?_
  refine o_nil ?_
  refine x_then (hK2 _ _ ?_)
  refine c_ret ?_
  refine ?_
  exact x_ret rfl (.tmp rfl (.nil)) (⟨_, rfl, rfl⟩)
theorem cloneT_fn (a : Option Addr) (c : Nat) (xs : List UInt8) : HL.Fn Tryd.prog 136 [.slice a xs.length c] (fun w => Rd Eb w (.slice a xs.length c) xs) [] (fun v S' => ∃ a' c', v = .slice a' xs.length c' ∧ OwnS Eb 1 5 (.slice a' xs.length c') xs S') := by
  refine fn_of Tryd.func136 rfl rfl rfl fun w0 hw => ?_
  have hsx := hw.sl
  have hbx := hsx.le
  refine c_seq fun _ hK1 => ?_
  refine c_region ?_
  refine o_step rfl (s_assign rfl) ?_
  refine o_nil ?_
  refine x_then (hK1 _ _ ?_)
  refine c_seq fun _ hK2 => ?_
  refine c_seq fun _ hK3 => ?_
  refine c_region ?_
  refine o_step rfl (s_move rfl) ?_
  refine o_step rfl (s_eql_nils rfl rfl) ?_
  refine o_nil ?_
  refine x_then (hK3 _ _ ?_)
  refine c_cond rfl (fun hn => ?_) (fun hn => ?_)
  · skip
    have ha : a = none := Option.isNone_iff_eq_none.1 hn
    subst ha
    have hx0 : xs = [] := List.eq_nil_of_length_eq_zero hsx.none
    subst hx0
    refine c_seq fun _ hK4 => ?_
    refine c_region ?_
    refine o_step rfl (s_assign rfl) ?_
    refine o_nil ?_
    refine x_then (hK4 _ _ ?_)
    refine c_ret ?_
    refine x_then_ret (?_)
    exact x_ret rfl (.tmp rfl (.nil)) (⟨_, _, rfl, .nil⟩)
  · skip
    refine c_skip ?_
    refine x_then (hK2 _ _ ?_)
    refine c_seq fun _ hK5 => ?_
    refine c_region ?_
    refine o_bs (E := Eb) (xs := []) (vs := []) rfl rfl rfl rfl rfl (by decide) (by decide) fun b5 S5 hS5 => ?_
    refine o_step rfl (s_move rfl) ?_
    refine o_app hS5 (RdK.old0 hw) rfl rfl rfl rfl (by simp; omega) (by simp; omega) rfl pkA fun a7 c7 S7 hS7 => ?_
    refine o_step rfl (s_assign rfl) ?_
    refine o_nil ?_
    refine x_then (hK5 _ _ ?_)
    refine c_ret ?_
    refine ?_
    simp only [List.nil_append] at hS7
    exact x_ret rfl (.tmp rfl (.nil)) (⟨_, _, rfl, by simpa using hS7⟩)
theorem saysText_fn (a : Option Addr) (c : Nat) (xs : List UInt8) (f : Value) (hle : xs.length ≤ 1099511627776) : HL.Fn Tryd.prog 135 [.slice a xs.length c, f] (fun w => Rd Eb w (.slice a xs.length c) xs) [] (fun v S' => ∃ a' c', v = .slice a' (xs ++ [10]).length c' ∧ OwnS Eb 1 5 (.slice a' (xs ++ [10]).length c') (xs ++ [10]) S') := by
  refine fn_of Tryd.func135 rfl rfl rfl fun w0 hw => ?_
  refine c_seq fun _ hK1 => ?_
  refine c_region ?_
  refine o_step rfl (s_assign rfl) ?_
  refine o_nil ?_
  refine x_then (hK1 _ _ ?_)
  refine c_seq fun _ hK2 => ?_
  refine c_region ?_
  refine o_step rfl (s_move rfl) ?_
  refine o_call (cloneT_fn a c xs) rfl rfl rfl (by exact .nil) (fun w st => (RdK.old0 hw).out w st) (fun v6 S6 ⟨a6, c6, hv6, hS6⟩ => ?_)
  subst hv6
  refine o_bs (E := Eb) (xs := [10]) (vs := [_]) rfl rfl rfl rfl rfl (by decide) (by decide) fun b7 S7 hS7 => ?_
  refine o_app hS6 (hS7.rdk hiA) rfl rfl rfl rfl (by show (xs.length + 1) * 1 ≤ _; omega) (by show xs.length + 1 ≤ _; omega) rfl pkA fun a8 c8 S8 hS8 => ?_
  refine o_step rfl (s_assign rfl) ?_
  refine o_nil ?_
  refine x_then (hK2 _ _ ?_)
  refine c_ret ?_
  refine ?_
  refine x_sub (Sub.refl _) (H' := S8) hzB ?_
  exact x_ret rfl (.tmp rfl (.nil)) (⟨_, _, rfl, hS8⟩)
theorem saysFile_fn (fR : FuncId) (us cs : List Value) (n : ByteArray) (S : Hp) (p1 : List UInt8 → Hp → Prop) (hR : HL.Fn Tryd.prog fR (us ++ [.string n] ++ cs) (fun _ => True) S (fun v S' => ∃ a c b, v = .slice a b.length c ∧ RdS Eb (.slice a b.length c) b S' ∧ p1 b S')) : HL.Fn Tryd.prog 134 [.string n, .func (.func fR) us.toArray cs.toArray] (fun _ => True) S (fun v S' => ∃ a' c' b Sb S1, v = .slice a' b.length c' ∧ S' = Sb ++ S1 ∧ OwnS Eb 1 5 (.slice a' b.length c') b Sb ∧ p1 b S1) := by
  refine fn_of Tryd.func134 rfl rfl rfl fun w0 hw => ?_
  refine c_seq fun _ hK1 => ?_
  refine c_region ?_
  refine o_step rfl (s_assign rfl) ?_
  refine o_nil ?_
  refine x_then (hK1 _ _ ?_)
  refine c_seq fun _ hK2 => ?_
  refine c_region ?_
  refine o_step rfl (s_move rfl) ?_
  refine o_step rfl (s_move rfl) ?_
  refine o_callC (us := us) (vs := [_]) (cs := cs) (hR) rfl rfl rfl (by exact .all) (fun _ _ => trivial) (fun v7 S7 ⟨a7, c7, b7, hv7, hr7, hp7⟩ => ?_)
  subst hv7
  refine o_call (clone_fn a7 c7 b7) rfl rfl rfl (by exact .nil) (fun w st => (hr7.rdk hiA).out w st) (fun v8 S8 ⟨a8, c8, hv8, hS8⟩ => ?_)
  subst hv8
  refine o_step rfl (s_assign rfl) ?_
  refine o_nil ?_
  refine x_then (hK2 _ _ ?_)
  refine c_ret ?_
  refine ?_
  refine x_sub (Sub.refl _) (H' := S8 ++ S7) hzB ?_
  exact x_ret rfl (.tmp rfl (.nil)) (⟨_, _, _, _, _, rfl, rfl, hS8, hp7⟩)
end Go.Proofs.YtmmajabfmhipeaaDoor
