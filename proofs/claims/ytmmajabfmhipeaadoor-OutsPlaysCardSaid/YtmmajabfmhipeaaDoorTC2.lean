/- Part of the proofs over this seat: see the text that holds the theorem. Conditions: each theorem bears its own. -/
import Derived.Test.YtmmajabfmhipeaaDoorTC1
namespace Go.Tab
open Go Go.HL
theorem applyT_take {t xs : List UInt8} {j : Nat} (h : j < xs.length) : (applyT t xs).take j ++ [at0 t (at0 xs j).toNat] = (applyT t xs).take (j + 1) := by
  rw [List.take_add_one]
  have : (applyT t xs)[j]? = some (at0 t (at0 xs j).toNat) := by simp [applyT, List.getElem?_range h]
  rw [this]; rfl
end Go.Tab
namespace Go.Proofs.YtmmajabfmhipeaaDoor
open Go Go.HL Go.Proofs Go.Tab
theorem rApply_fn (b1 o1 : Nat) (a : Option Addr) (c : Nat) (t xs : List UInt8) (ht : t.length = 256) (hn : xs.length ≤ 2147483647) : HL.Fn Tryd.prog 32 [.pointer (some ⟨b1, o1, none⟩), .slice a xs.length c] (fun w => RdP w b1 o1 (flat Eb t) ∧ Rd Eb w (.slice a xs.length c) xs) [] (fun v S' => ∃ a' c', v = .slice a' (applyT t xs).length c' ∧ OwnS Eb 1 5 (.slice a' (applyT t xs).length c') (applyT t xs) S') := by
  refine fn_of Tryd.func32 rfl rfl rfl fun w0 hw => ?_
  obtain ⟨h1, h2⟩ := hw
  have hsx := h2.sl
  have hbx := hsx.le
  refine c_seq fun _ hK1 => ?_
  refine c_region ?_
  refine o_step rfl (s_assign rfl) ?_
  refine o_nil ?_
  refine x_then (hK1 _ _ ?_)
  refine c_seq fun _ hK2 => ?_
  refine c_region ?_
  refine o_step rfl (s_assign rfl) ?_
  refine o_nil ?_
  refine x_then (hK2 _ _ ?_)
  refine c_seq fun _ hK3 => ?_
  refine c_seq fun _ hK4 => ?_
  refine c_region ?_
  refine o_step rfl (s_assign rfl) ?_
  refine o_nil ?_
  refine x_then (hK4 _ _ ?_)
  refine c_block ?_
  refine c_loop3 (fun (j : Nat) (q : Sl UInt8) (S : Hp) => j ≤ xs.length ∧ q.xs = (applyT t xs).take j ∧ OwnS Eb 1 5 (.slice q.a q.xs.length q.c) q.xs S) (fun (j : Nat) (q : Sl UInt8) (S : Hp) => [(6, .int .i64 j), (5, .slice q.a q.xs.length q.c)]) [(0, _), (1, _), (4, _)] (fun (j : Nat) (q : Sl UInt8) (S : Hp) => S) (fun (j : Nat) (q : Sl UInt8) (S : Hp) => xs.length - j) 0 ⟨none, 0, []⟩ [] ⟨by omega, rfl, .nil⟩ sbA sbA hzB ?_
  rintro j q S ⟨hj, hq, hS⟩
  have hql : q.xs.length = j := by rw [hq, List.length_take, applyT_len]; omega
  refine c_seq fun _ hK5 => ?_
  refine c_seq fun _ hK6 => ?_
  refine c_region ?_
  refine o_step rfl (s_move rfl) ?_
  refine o_step rfl (s_move rfl) ?_
  refine o_step rfl (s_len rfl) ?_
  by_cases hjl : j < xs.length
  ·
   have hb := byte_lt (at0 xs j)
   have hbn := UInt8.toNat_lt (at0 xs j)
   refine o_step rfl (step_cast (v' := .bool true) (s_lss rfl rfl) (by rw [decide_eq_true (by omega)])) ?_
   refine o_step rfl (s_move rfl) ?_
   refine o_yes rfl rfl ?_
   refine o_step rfl (s_move rfl) ?_
   refine o_yes rfl rfl ?_
   refine o_step rfl (step_cast (v' := .bool true) (s_neq_nilp rfl rfl) rfl) ?_
   refine o_step rfl (s_pick_t rfl rfl) ?_
   refine o_nil ?_
   refine x_then (hK6 _ _ ?_)
   refine c_true rfl ?_
   refine c_skip ?_
   refine x_then (hK5 _ _ ?_)
   refine c_seq fun _ hK7 => ?_
   refine c_block ?_
   refine c_drawE ([]) (fun i => false) ?_
   refine e_take 0 rfl (by kernel_rfl) (by kernel_rfl) (by kernel_rfl) (by kernel_rfl) (fun _ _ => rfl) rfl (by exact HSub.nil) (s_move rfl) ?_
   refine e_take 1 rfl (by kernel_rfl) (by kernel_rfl) (by kernel_rfl) (by kernel_rfl) (fun _ _ => rfl) rfl (by exact HSub.nil) (s_move rfl) ?_
   refine e_take 2 rfl (by kernel_rfl) (by kernel_rfl) (by kernel_rfl) (by kernel_rfl) (fun _ _ => rfl) rfl (by exact HSub.nil) (s_move rfl) ?_
   refine e_take 3 rfl (by kernel_rfl) (by kernel_rfl) (by kernel_rfl) (by kernel_rfl) (fun _ _ => rfl) rfl (by exact HSub.nil) (s_move rfl) ?_
   refine e_take 4 rfl (by kernel_rfl) (by kernel_rfl) (by kernel_rfl) (by kernel_rfl) (fun _ _ => rfl) rfl (by exact HSub.nil) (s_idx rfl rfl hsx (by omega)) ?_
   refine e_take 5 rfl (by kernel_rfl) (by kernel_rfl) (by kernel_rfl) (by kernel_rfl) (fun _ _ => rfl) rfl (by exact HSub.nil) (s_ld rfl ((RdK.old0 h2).ld j 0 (at0_get (by omega)) rfl (by decide) (by omega))) ?_
   refine e_take 6 rfl (by kernel_rfl) (by kernel_rfl) (by kernel_rfl) (by kernel_rfl) (fun _ _ => rfl) rfl (by exact HSub.nil) (s_nil rfl) ?_
   refine e_take 7 rfl (by kernel_rfl) (by kernel_rfl) (by kernel_rfl) (by kernel_rfl) (fun _ _ => rfl) rfl (by exact HSub.nil) (s_indexA rfl rfl (by omega)) ?_
   refine e_take 8 rfl (by kernel_rfl) (by kernel_rfl) (by kernel_rfl) (by kernel_rfl) (fun _ _ => rfl) rfl (by exact HSub.nil) (s_ld rfl ((RdPK.old0 h1).cel (j := (at0 xs j).toNat) (flatEb_get (at0_get (by omega))) (by omega))) ?_
   refine e_one 9 rfl (by kernel_rfl) ?_
   refine o_bs (E := Eb) (xs := [at0 t (at0 xs j).toNat]) (vs := [_]) rfl rfl rfl rfl rfl (by decide) (by decide) fun b26 S26 hS26 => ?_
   refine o_nil ?_
   refine x_oneS (by exact HSub.nil) ?_
   refine e_one 10 rfl (by kernel_rfl) ?_
   refine o_app hS (hS26.rdk hiA) rfl rfl rfl rfl (by simp only [List.length_singleton]; omega) (by simp only [List.length_singleton]; omega) rfl pkA fun a27 c27 S27 hS27 => ?_
   refine o_nil ?_
   refine x_oneS (by exact HSub.nil) ?_
   refine e_one 11 rfl (by kernel_rfl) ?_
   refine o_step rfl (s_assign rfl) ?_
   refine o_nil ?_
   refine x_oneS (by exact HSub.nil) ?_
   refine e_done (by kernel_rfl) ?_
   refine x_block ?_
   refine x_then (hK7 _ _ ?_)
   refine c_region ?_
   refine o_step rfl (s_move rfl) ?_
   refine o_step rfl (s_add rfl rfl (by omega)) ?_
   refine o_step rfl (s_assign rfl) ?_
   refine o_nil ?_
   exact x_then (x_inv (j + 1, ⟨a27, c27, q.xs ++ [at0 t (at0 xs j).toNat]⟩, S27) ⟨by omega, by rw [hq, applyT_take hjl], hS27⟩ (by first | omega | (dsimp only; omega)) sbA hzB)
  ·
   refine o_step rfl (step_cast (v' := .bool false) (s_lss rfl rfl) (by rw [decide_eq_false (by omega)])) ?_
   refine o_step rfl (s_move rfl) ?_
   refine o_no rfl rfl rfl rfl ?_
   refine o_no rfl rfl rfl rfl ?_
   refine o_step rfl (s_pick_f rfl rfl) ?_
   refine o_nil ?_
   refine x_then (hK6 _ _ ?_)
   refine c_false rfl ?_
   refine c_exit ?_
   refine x_then_exit ?_
   refine x_then_exit ?_
   refine x_block_exit ?_
   refine x_then (hK3 _ _ ?_)
   refine c_seq fun _ hK8 => ?_
   refine c_region ?_
   refine o_step rfl (s_move rfl) ?_
   refine o_step rfl (s_assign rfl) ?_
   refine o_nil ?_
   refine x_then (hK8 _ _ ?_)
   refine c_ret ?_
   refine ?_
   have hqe : q.xs = applyT t xs := by rw [hq]; exact List.take_of_length_le (by rw [applyT_len]; omega)
   exact x_ret rfl (.tmp rfl (.nil)) (⟨_, _, by rw [hqe]; rfl, by rw [← hqe]; exact hS⟩)

theorem rThen_fn (b1 o1 b2 o2 : Nat) (t u : List UInt8) (ht : t.length = 256) (hu : u.length = 256) : HL.Fn Tryd.prog 38 [.pointer (some ⟨b1, o1, none⟩), .pointer (some ⟨b2, o2, none⟩)] (fun w => RdP w b1 o1 (flat Eb t) ∧ RdP w b2 o2 (flat Eb u)) [] (fun v _ => v = .agg (flat Eb (thenT t u)).toArray) := by
  refine fn_of Tryd.func38 rfl rfl rfl fun w0 hw => ?_
  obtain ⟨h1, h2⟩ := hw
  refine c_seq fun _ hK1 => ?_
  refine c_region ?_
  refine o_alloc rfl rfl fun b4 => ?_
  refine o_nil ?_
  refine x_then (hK1 _ _ ?_)
  refine c_seq fun _ hK2 => ?_
  refine c_region ?_
  refine o_alloc rfl rfl fun b5 => ?_
  refine o_nil ?_
  refine x_then (hK2 _ _ ?_)
  refine c_seq fun _ hK3 => ?_
  refine c_seq fun _ hK4 => ?_
  refine c_region ?_
  refine o_step rfl (s_assign rfl) ?_
  refine o_nil ?_
  refine x_then (hK4 _ _ ?_)
  refine c_block ?_
  refine c_loop2 (fun (j : Nat) (l : List UInt8) => j ≤ 256 ∧ Fill (fun i => at0 u (at0 t i).toNat) 256 j l) (fun (j : Nat) (l : List UInt8) => [(6, .int .i64 j)]) [(0, _), (1, _), (4, _), (5, _)] (fun (j : Nat) (l : List UInt8) => [(b5, .cells (flat Eb l).toArray 96 (0, 0)), (b4, .cells (List.replicate 256 (.int .u8 0)).toArray 96 (0, 0))]) (fun (j : Nat) (l : List UInt8) => 256 - j) 0 zT ⟨by omega, .zero zT_len⟩ sbA sbA (by rw [zT, flatEb_zeros]; exact HSub.refl _) ?_
  rintro j l ⟨hj, hl⟩
  have hll := hl.len
  refine c_seq fun _ hK5 => ?_
  refine c_seq fun _ hK6 => ?_
  refine c_region ?_
  refine o_step rfl (s_move rfl) ?_
  by_cases hlt : j < 256
  ·
   have hb := byte_lt (at0 t j)
   refine o_step rfl (step_cast (v' := .bool true) (s_lss rfl rfl) (by rw [decide_eq_true (by omega)])) ?_
   refine o_step rfl (s_move rfl) ?_
   refine o_yes rfl rfl ?_
   refine o_step rfl (s_move rfl) ?_
   refine o_yes rfl rfl ?_
   refine o_step rfl (step_cast (v' := .bool true) (s_neq_nilp rfl rfl) rfl) ?_
   refine o_step rfl (s_pick_t rfl rfl) ?_
   refine o_step rfl (s_move rfl) ?_
   refine o_yes rfl rfl ?_
   refine o_step rfl (s_move rfl) ?_
   refine o_yes rfl rfl ?_
   refine o_step rfl (step_cast (v' := .bool true) (s_neq_nilp rfl rfl) rfl) ?_
   refine o_step rfl (s_pick_t rfl rfl) ?_
   refine o_nil ?_
   refine x_then (hK6 _ _ ?_)
   refine c_true rfl ?_
   refine c_skip ?_
   refine x_then (hK5 _ _ ?_)
   refine c_seq fun _ hK7 => ?_
   refine c_block ?_
   refine c_drawE ([(b5, .cells (flat Eb l).toArray 96 (0, 0)), (b4, .cells (List.replicate 256 (.int .u8 0)).toArray 96 (0, 0))]) (fun i => Nat.beq i 11) ?_
   refine e_take 0 rfl (by kernel_rfl) (by kernel_rfl) (by kernel_rfl) (by kernel_rfl) (fun _ _ => rfl) rfl hzB (s_move rfl) ?_
   refine e_take 1 rfl (by kernel_rfl) (by kernel_rfl) (by kernel_rfl) (by kernel_rfl) (fun _ _ => rfl) rfl hzB (s_move rfl) ?_
   refine e_take 2 rfl (by kernel_rfl) (by kernel_rfl) (by kernel_rfl) (by kernel_rfl) (fun _ _ => rfl) rfl hzB (s_move rfl) ?_
   refine e_take 3 rfl (by kernel_rfl) (by kernel_rfl) (by kernel_rfl) (by kernel_rfl) (fun _ _ => rfl) rfl hzB (s_move rfl) ?_
   refine e_take 4 rfl (by kernel_rfl) (by kernel_rfl) (by kernel_rfl) (by kernel_rfl) (fun _ _ => rfl) rfl hzB (s_nil rfl) ?_
   refine e_take 5 rfl (by kernel_rfl) (by kernel_rfl) (by kernel_rfl) (by kernel_rfl) (fun _ _ => rfl) rfl hzB (s_indexA rfl rfl (by omega)) ?_
   refine e_take 6 rfl (by kernel_rfl) (by kernel_rfl) (by kernel_rfl) (by kernel_rfl) (fun _ _ => rfl) rfl hzB (s_ld rfl ((RdPK.old0 h1).cel (j := j) (flatEb_get (at0_get (by omega))) (by omega))) ?_
   refine e_take 7 rfl (by kernel_rfl) (by kernel_rfl) (by kernel_rfl) (by kernel_rfl) (fun _ _ => rfl) rfl hzB (s_nil rfl) ?_
   refine e_take 8 rfl (by kernel_rfl) (by kernel_rfl) (by kernel_rfl) (by kernel_rfl) (fun _ _ => rfl) rfl hzB (s_indexA rfl rfl (by omega)) ?_
   refine e_take 9 rfl (by kernel_rfl) (by kernel_rfl) (by kernel_rfl) (by kernel_rfl) (fun _ _ => rfl) rfl hzB (s_ld rfl ((RdPK.old0 h2).cel (j := (at0 t j).toNat) (flatEb_get (at0_get (by omega))) (by omega))) ?_
   refine e_take 10 rfl (by kernel_rfl) (by kernel_rfl) (by kernel_rfl) (by kernel_rfl) (fun _ _ => rfl) rfl hzB (s_indexA rfl rfl (by omega)) ?_
   refine e_one 11 rfl (by kernel_rfl) ?_
   refine o_stB (l := l) (i := j) (at0 u (at0 t j).toNat) rfl rfl (by omega) (by omega) upA ?_
   refine o_nil ?_
   refine x_oneL rfl ?_
   refine e_done (by kernel_rfl) ?_
   refine x_block ?_
   refine x_then (hK7 _ _ ?_)
   refine c_region ?_
   refine o_step rfl (s_move rfl) ?_
   refine o_step rfl (s_add rfl rfl (by omega)) ?_
   refine o_step rfl (s_assign rfl) ?_
   refine o_nil ?_
   exact x_then (x_inv (j + 1, _) ⟨by omega, hl.step (by omega) rfl⟩ (by first | omega | (dsimp only; omega)) sbA hzB)
  ·
   have hd := fill_then hl (by omega)
   subst hd
   refine o_step rfl (step_cast (v' := .bool false) (s_lss rfl rfl) (by rw [decide_eq_false (by omega)])) ?_
   refine o_step rfl (s_move rfl) ?_
   refine o_no rfl rfl rfl rfl ?_
   refine o_no rfl rfl rfl rfl ?_
   refine o_step rfl (s_pick_f rfl rfl) ?_
   refine o_step rfl (s_move rfl) ?_
   refine o_no rfl rfl rfl rfl ?_
   refine o_no rfl rfl rfl rfl ?_
   refine o_step rfl (s_pick_f rfl rfl) ?_
   refine o_nil ?_
   refine x_then (hK6 _ _ ?_)
   refine c_false rfl ?_
   refine c_exit ?_
   refine x_then_exit ?_
   refine x_then_exit ?_
   refine x_block_exit ?_
   refine x_then (hK3 _ _ ?_)
   refine c_seq fun _ hK8 => ?_
   refine c_region ?_
   refine o_step rfl (s_ldB rfl (RdPK.cels (.own meA)) lnA) ?_
   refine o_stW rfl rfl upA lnA lnA (by first | exact flat_one _ _ | exact one_rep rfl | (simp [Value.oneCell']; done)) ?_
   refine o_nil ?_
   refine x_then (hK8 _ _ ?_)
   refine c_ret ?_
   refine ?_
   exact x_ret rfl (.agg inferInstance inferInstance rfl (RdPK.cels (.own meA)) lnA (.nil)) (rfl)

theorem rPrint_fn (b1 o1 : Nat) (t : List UInt8) (ht : t.length = 256) : HL.Fn Tryd.prog 36 [.pointer (some ⟨b1, o1, none⟩)] (fun w => RdP w b1 o1 (flat Eb t)) [] (fun v S' => ∃ a c a' c' S1 S2, v = .tuple #[.slice a (pF t 256).length c, .slice a' (pT t 256).length c'] ∧ S' = S1 ++ S2 ∧ OwnS Eb 1 5 (.slice a (pF t 256).length c) (pF t 256) S1 ∧ OwnS Eb 1 5 (.slice a' (pT t 256).length c') (pT t 256) S2) := by
  refine fn_of Tryd.func36 rfl rfl rfl fun w0 hw => ?_
  refine c_seq fun _ hK1 => ?_
  refine c_region ?_
  refine o_step rfl (s_assign rfl) ?_
  refine o_step rfl (s_assign rfl) ?_
  refine o_nil ?_
  refine x_then (hK1 _ _ ?_)
  refine c_seq fun _ hK2 => ?_
  refine c_region ?_
  refine o_step rfl (s_assign rfl) ?_
  refine o_step rfl (s_assign rfl) ?_
  refine o_nil ?_
  refine x_then (hK2 _ _ ?_)
  refine c_seq fun _ hK3 => ?_
  refine c_seq fun _ hK4 => ?_
  refine c_region ?_
  refine o_step rfl (s_assign rfl) ?_
  refine o_nil ?_
  refine x_then (hK4 _ _ ?_)
  refine c_block ?_
  refine c_loop7 (fun (j : Nat) (a : Option Addr) (c : Nat) (a2 : Option Addr) (c2 : Nat) (S : Hp) (S2 : Hp) => j ≤ 256 ∧ OwnS Eb 1 5 (.slice a (pF t j).length c) (pF t j) S ∧ OwnS Eb 1 5 (.slice a2 (pT t j).length c2) (pT t j) S2) (fun (j : Nat) (a : Option Addr) (c : Nat) (a2 : Option Addr) (c2 : Nat) (S : Hp) (S2 : Hp) => [(4, .slice a (pF t j).length c), (5, .slice a2 (pT t j).length c2), (6, .int .i64 j)]) [(0, _), (2, _), (3, _)] (fun (j : Nat) (a : Option Addr) (c : Nat) (a2 : Option Addr) (c2 : Nat) (S : Hp) (S2 : Hp) => S ++ S2) (fun (j : Nat) (a : Option Addr) (c : Nat) (a2 : Option Addr) (c2 : Nat) (S : Hp) (S2 : Hp) => 256 - j) 0 none 0 none 0 [] [] ⟨by omega, .nil, .nil⟩ sbA sbA (by exact HSub.refl _) ?_
  rintro j a c a2 c2 S S2 ⟨hj, hS, hT⟩
  have hlF := pF_len t j
  have hlT := pT_len t j
  have hlI := pIdx_len t j
  refine c_seq fun _ hK5 => ?_
  refine c_seq fun _ hK6 => ?_
  refine c_region ?_
  refine o_step rfl (s_move rfl) ?_
  by_cases hlt : j < 256
  ·
   refine o_step rfl (step_cast (v' := .bool true) (s_lss rfl rfl) (by rw [decide_eq_true (by omega)])) ?_
   refine o_step rfl (s_move rfl) ?_
   refine o_yes rfl rfl ?_
   refine o_step rfl (s_move rfl) ?_
   refine o_yes rfl rfl ?_
   refine o_step rfl (step_cast (v' := .bool true) (s_neq_nilp rfl rfl) rfl) ?_
   refine o_step rfl (s_pick_t rfl rfl) ?_
   refine o_nil ?_
   refine x_then (hK6 _ _ ?_)
   refine c_true rfl ?_
   refine c_skip ?_
   refine x_then (hK5 _ _ ?_)
   refine c_seq fun _ hK7 => ?_
   refine c_block ?_
   refine c_seq fun _ hK8 => ?_
   refine c_region ?_
   refine o_step rfl (s_move rfl) ?_
   refine o_step rfl (s_move rfl) ?_
   refine o_step rfl (s_nil rfl) ?_
   refine o_step rfl (s_indexA rfl rfl (by omega)) ?_
   refine o_step rfl (s_ld rfl ((RdPK.old0 hw).cel (j := j) (flatEb_get (at0_get (by omega))) (by omega))) ?_
   refine o_step rfl (s_move rfl) ?_
   refine o_step rfl (s_convB rfl) ?_
   refine o_step rfl (s_neq rfl rfl) ?_
   refine o_nil ?_
   refine x_then (hK8 _ _ ?_)
   refine c_if rfl (fun hq => ?_) (fun hq => ?_)
   ·
    have hy : at0 t j ≠ UInt8.ofNat j := fun e => hq (by rw [e])
    refine c_seq fun _ hK9 => ?_
    refine c_region ?_
    refine o_step rfl (s_move rfl) ?_
    refine o_step rfl (s_move rfl) ?_
    refine o_step rfl (s_convB rfl) ?_
    refine o_bs (E := Eb) (xs := [UInt8.ofNat j]) (vs := [_]) rfl rfl rfl rfl rfl (by decide) (by decide) fun b26 S26 hS26 => ?_
    refine o_app hS (hS26.rdk hiA) rfl rfl rfl rfl (by rw [hlF]; show ((pIdx t j).length + 1) * 1 ≤ _; omega) (by rw [hlF]; show (pIdx t j).length + 1 ≤ _; omega) rfl pkA fun a27 c27 S27 hS27 => ?_
    rw [← pF_yes hy] at hS27 ⊢
    refine o_step rfl (s_assign rfl) ?_
    refine o_nil ?_
    refine x_then (hK9 _ _ ?_)
    refine c_region ?_
    refine o_step rfl (s_move rfl) ?_
    refine o_step rfl (s_move rfl) ?_
    refine o_step rfl (s_move rfl) ?_
    refine o_step rfl (s_nil rfl) ?_
    refine o_step rfl (s_indexA rfl rfl (by omega)) ?_
    refine o_step rfl (s_ld rfl ((RdPK.old0 hw).cel (j := j) (flatEb_get (at0_get (by omega))) (by omega))) ?_
    refine o_bs (E := Eb) (xs := [at0 t j]) (vs := [_]) rfl rfl rfl rfl rfl (by decide) (by decide) fun b34 S34 hS34 => ?_
    refine o_app hT (hS34.rdk hiA) rfl rfl rfl rfl (by rw [hlT]; show ((pIdx t j).length + 1) * 1 ≤ _; omega) (by rw [hlT]; show (pIdx t j).length + 1 ≤ _; omega) rfl pkA fun a35 c35 S35 hS35 => ?_
    rw [← pT_yes hy] at hS35 ⊢
    refine o_step rfl (s_assign rfl) ?_
    refine o_nil ?_
    refine x_block ?_
    refine x_then (hK7 _ _ ?_)
    refine c_region ?_
    refine o_step rfl (s_move rfl) ?_
    refine o_step rfl (s_add rfl rfl (by omega)) ?_
    refine o_step rfl (s_assign rfl) ?_
    refine o_nil ?_
    exact x_then (x_inv (j + 1, _, _, _, _, _, _) ⟨by omega, hS27, hS35⟩ (by first | omega | (dsimp only; omega)) sbA hzB)
   ·
    have hno : ¬ at0 t j ≠ UInt8.ofNat j := fun e => hq (fun e2 => e (UInt8.toNat_inj.1 (by omega)))
    refine c_skip ?_
    refine x_block ?_
    refine x_then (hK7 _ _ ?_)
    refine c_region ?_
    refine o_step rfl (s_move rfl) ?_
    refine o_step rfl (s_add rfl rfl (by omega)) ?_
    refine o_step rfl (s_assign rfl) ?_
    refine o_nil ?_
    rw [← pF_no hno] at hS ⊢
    rw [← pT_no hno] at hT ⊢
    exact x_then (x_inv (j + 1, _, _, _, _, _, _) ⟨by omega, hS, hT⟩ (by first | omega | (dsimp only; omega)) sbA hzB)
  ·
   obtain rfl : j = 256 := by omega
   refine o_step rfl (step_cast (v' := .bool false) (s_lss rfl rfl) (by rw [decide_eq_false (by omega)])) ?_
   refine o_step rfl (s_move rfl) ?_
   refine o_no rfl rfl rfl rfl ?_
   refine o_no rfl rfl rfl rfl ?_
   refine o_step rfl (s_pick_f rfl rfl) ?_
   refine o_nil ?_
   refine x_then (hK6 _ _ ?_)
   refine c_false rfl ?_
   refine c_exit ?_
   refine x_then_exit ?_
   refine x_then_exit ?_
   refine x_block_exit ?_
   refine x_then (hK3 _ _ ?_)
   refine c_seq fun _ hK10 => ?_
   refine c_region ?_
   refine o_step rfl (s_move rfl) ?_
   refine o_step rfl (s_move rfl) ?_
   refine o_step rfl (s_assign rfl) ?_
   refine o_step rfl (s_assign rfl) ?_
   refine o_nil ?_
   refine x_then (hK10 _ _ ?_)
   refine c_ret ?_
   refine ?_
   exact x_ret rfl (.tmp rfl (.tmp rfl (.nil))) (⟨_, _, _, _, _, _, rfl, rfl, hS, hT⟩)
end Go.Proofs.YtmmajabfmhipeaaDoor
