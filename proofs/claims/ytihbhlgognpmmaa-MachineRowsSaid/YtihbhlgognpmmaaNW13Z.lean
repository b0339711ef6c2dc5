/- Part of the proofs over this seat: see the text that holds the theorem. Conditions: each theorem bears its own. -/
import Derived.Test.YtihbhlgognpmmaaNW12Z
import Derived.Test.YtihbhlgognpmmaaNW11Z
import Derived.Test.YtihbhlgognpmmaaNF1Z
namespace Go.Proofs.Ytihbhlgognpmmaa
open Go Go.HL Go.Proofs Go.HL.Kl Go.HL.Kl.Mc
set_option maxHeartbeats 2000000 in
theorem reach_fn (n p : Nat) (ra : Option Addr) (rc : Nat) (m : List In) (hM : MOk m) (f : Nat) (hf : f < m.length) (sa : Option Addr) (sc : Nat) (s0 : List Bool) (Ss : Hp) (hO : OwnS Ebo 1 4 (.slice sa m.length sc) s0 Ss) (hcl : ∀ i j : Nat, s0[i]? = some true → Eps m n p i j → s0[j]? = some true) : HL.Fn Try.prog 39 [.slice ra m.length rc, .int .i64 f, .slice sa m.length sc, .int .i64 p, .int .i64 n] (fun w => Rd Ein w (.slice ra m.length rc) m ∧ Apart (keys Ss) (.slice ra m.length rc)) Ss (fun _ S' => ∃ sn, OwnS Ebo 1 4 (.slice sa m.length sc) sn S' ∧ (∀ i : Nat, sn[i]? = some true ↔ s0[i]? = some true ∨ EpsS m n p f i) ∧ ∀ i j : Nat, sn[i]? = some true → Eps m n p i j → sn[j]? = some true) := by
  refine fn_of Try.func39 rfl rfl rfl fun w0 hw => ?_
  have hsl := hw.1.sl
  have hbl := hM.2.1
  have hs0l : s0.length = m.length := by obtain ⟨a', c', e', _⟩ := hO.sl.out; simp at e'; exact e'.2.1.symm
  have hun := unseen_le s0
  refine c_seq fun _ hK1 => ?_
  refine c_region ?_
  refine o_step rfl (s_move rfl) ?_
  refine o_bs (E := Eix) (xs := [f]) (vs := [_]) rfl rfl rfl rfl rfl (by decide) (by decide) fun b13 S13 hS13 => ?_
  refine o_step rfl (s_assign rfl) ?_
  refine o_nil ?_
  refine x_then (hK1 _ _ ?_)
  refine c_block ?_
  refine c_loop4 (fun (sn : List Bool) (S1 : Hp) (q : Sl Nat) (Sd : Hp) => Srch m n p f s0 sn q.xs ∧ OwnS Ebo 1 4 (.slice sa m.length sc) sn S1 ∧ OwnS Eix 1 3 (.slice q.a q.xs.length q.c) q.xs Sd ∧ q.xs.length + 2 * unseen sn ≤ 2 * m.length + 1) (fun (sn : List Bool) (S1 : Hp) (q : Sl Nat) (Sd : Hp) => [(10, .slice q.a q.xs.length q.c)]) [(0, _), (2, _), (3, _), (4, _)] (fun (sn : List Bool) (S1 : Hp) (q : Sl Nat) (Sd : Hp) => S1 ++ Sd) (fun (sn : List Bool) (S1 : Hp) (q : Sl Nat) (Sd : Hp) => 3 * unseen sn + q.xs.length) s0 Ss ⟨some ⟨b13, 0, none⟩, 1, [f]⟩ S13 ⟨.start hs0l hf hcl, hO, hS13, by simp; omega⟩ sbA sbA hzB ?_
  rintro sn S1 q Sd ⟨hR, hO1, hD, hb⟩
  have hO1s := hO1.sl
  have hsnl := hR.len
  rw [hsnl] at hO1s
  have hDs := hD.sl
  refine c_seq fun _ hK2 => ?_
  refine c_seq fun _ hK3 => ?_
  refine c_region ?_
  refine o_step rfl (s_move rfl) ?_
  refine o_step rfl (s_len rfl) ?_
  by_cases hpos : (q.xs.length : Int) > 0
  ·
   obtain ⟨tl, t, htd⟩ := last_split (show 0 < q.xs.length by omega)
   have htdl : q.xs.length = tl.length + 1 := by rw [htd]; simp
   rw [htd] at hR
   have htm := (hR.c t (by simp)).2
   obtain ⟨u, hu⟩ : ∃ u, m[t]? = some u := ⟨_, List.getElem?_eq_getElem htm⟩
   have hui := (hM.2.2 t u hu).1
   have hub := hui.bnd
   have huo := hui.1
   have hD1 := hD.pre tl.length (by omega)
   rw [show q.xs.take tl.length = tl by rw [htd]; simp] at hD1
   obtain ⟨_, cx, hcx, hccl, _⟩ := hDs.out
   have hcx2 : cx = q.c := by cases hcx; rfl
   refine o_step rfl (step_cast (v' := .bool true) (s_gtr rfl rfl) (by rw [decide_eq_true (by omega)])) ?_
   refine o_nil ?_
   refine x_then (hK3 _ _ ?_)
   refine c_true rfl ?_
   refine c_skip ?_
   refine x_then (hK2 _ _ ?_)
   refine c_block ?_
   refine c_seq fun _ hK4 => ?_
   refine c_region ?_
   refine o_step rfl (s_move rfl) ?_
   refine o_step rfl (s_move rfl) ?_
   refine o_step rfl (s_len rfl) ?_
   refine o_step rfl (s_sub rfl rfl (by omega)) ?_
   refine o_step rfl (s_idx rfl rfl hDs (by omega)) ?_
   refine o_step rfl (s_ld rfl ((hD.rdk hiA).ld tl.length 0 (show q.xs[tl.length]? = some t by rw [htd]; simp) rfl (by decide) (by omega))) ?_
   refine o_step rfl (s_assign rfl) ?_
   refine o_nil ?_
   refine x_then (hK4 _ _ ?_)
   refine c_seq fun _ hK5 => ?_
   refine c_region ?_
   refine o_step rfl (s_move rfl) ?_
   refine o_step rfl (s_move rfl) ?_
   refine o_step rfl (s_len rfl) ?_
   refine o_step rfl (s_sub rfl rfl (by omega)) ?_
   refine o_step rfl (step_cast (v' := .slice q.a tl.length q.c) (s_slice_hi rfl rfl (by omega)) (by rw [show ((q.xs.length : Int) - 1).toNat = tl.length by omega])) ?_
   refine o_step rfl (s_assign rfl) ?_
   refine o_nil ?_
   refine x_then (hK5 _ _ ?_)
   refine c_seq fun _ hK6 => ?_
   refine c_seq fun _ hK7 => ?_
   refine c_region ?_
   refine o_step rfl (s_move rfl) ?_
   refine o_step rfl (s_move rfl) ?_
   refine o_step rfl (s_idx rfl rfl hO1s (by omega)) ?_
   by_cases hb1 : sn[t]? = some true
   ·
    refine o_step rfl (s_ld rfl ((hO1.rdk hiA).ld t 0 hb1 rfl (by decide) (by omega))) ?_
    refine o_nil ?_
    refine x_then (hK7 _ _ ?_)
    refine c_true rfl ?_
    refine c_exit ?_
    refine x_then_exit ?_
    refine x_block_exit ?_
    exact x_then (x_inv (sn, S1, ⟨q.a, q.c, tl⟩, Sd) ⟨hR.pop hb1, hO1, hD1, by dsimp only; omega⟩ (by rw [htdl]; dsimp only; omega) sbA hzB)
   ·
    have hb2 := get_false hb1 (by omega)
    have hus := unseen_set sn t hb2
    refine o_step rfl (s_ld rfl ((hO1.rdk hiA).ld t 0 hb2 rfl (by decide) (by omega))) ?_
    refine o_nil ?_
    refine x_then (hK7 _ _ ?_)
    refine c_false rfl ?_
    refine c_skip ?_
    refine x_then (hK6 _ _ ?_)
    refine c_seq fun _ hK8 => ?_
    refine c_region ?_
    refine o_step rfl (s_move rfl) ?_
    refine o_step rfl (s_move rfl) ?_
    refine o_step rfl (s_idx rfl rfl hO1s (by omega)) ?_
    refine o_stS1 t true hO1 pkA rfl rfl rfl (by omega) (by omega) fun S' hS' => ?_
    refine o_nil ?_
    refine x_then (hK8 _ _ ?_)
    refine c_seq fun _ hK9 => ?_
    refine c_region ?_
    refine o_step rfl (s_move rfl) ?_
    refine o_step rfl (s_move rfl) ?_
    refine o_step rfl (s_idx rfl rfl hsl (by omega)) ?_
    refine o_step rfl (s_field rfl rfl (by decide)) ?_
    refine o_step rfl (s_ld rfl ((RdK.old hw.1 hw.2).ld t 0 hu rfl (by decide) (by omega))) ?_
    refine o_step rfl (s_convI rfl (by omega)) ?_
    refine o_nil ?_
    refine x_then (hK9 _ _ ?_)
    refine c_block ?_
    refine c_seq fun _ hK10 => ?_
    refine c_region ?_
    by_cases k2 : u.op = 2
    ·
     refine o_step rfl (step_cast (v' := .bool true) (s_eql rfl rfl) (by rw [decide_eq_true (by omega)])) ?_
     refine o_step rfl (s_assign rfl) ?_
     refine o_nil ?_
     refine x_then (hK10 _ _ ?_)
     refine c_true rfl ?_
     refine c_seq fun _ hK11 => ?_
     refine c_region ?_
     refine o_step rfl (s_move rfl) ?_
     by_cases hp0 : p = 0
     ·
      refine o_step rfl (step_cast (v' := .bool true) (s_eql rfl rfl) (by rw [decide_eq_true (by omega)])) ?_
      refine o_nil ?_
      refine x_then (hK11 _ _ ?_)
      refine c_true rfl ?_
      refine c_region ?_
      refine o_step rfl (s_move rfl) ?_
      refine o_step rfl (s_move rfl) ?_
      refine o_step rfl (s_add rfl rfl (by omega)) ?_
      refine o_bs (E := Eix) (xs := [t + 1]) (vs := [_]) rfl rfl rfl rfl rfl (by decide) (by decide) fun b48 S48 hS48 => ?_
      refine o_app hD1 (hS48.rdk hiA) rfl rfl rfl rfl (by simp only [List.length_cons, List.length_nil]; omega) (by simp only [List.length_cons, List.length_nil]; omega) rfl pkA fun a49 c49 S49 hS49 => ?_
      refine o_step rfl (s_assign rfl) ?_
      refine o_nil ?_
      refine x_block ?_
      refine x_block ?_
      exact x_then (x_inv ((sn.set t true), S', ⟨a49, c49, tl ++ [t + 1]⟩, S49) ⟨by have := hR.go hM hu; rwa [show succs u n p t = [t + 1] by simp [succs, k2, hp0]] at this, hS', hS49, by simp only [List.length_append, List.length_cons, List.length_nil]; omega⟩ (by simp only [List.length_append, List.length_cons, List.length_nil]; omega) sbA hzB)
     ·
      refine o_step rfl (step_cast (v' := .bool false) (s_eql rfl rfl) (by rw [decide_eq_false (by omega)])) ?_
      refine o_nil ?_
      refine x_then (hK11 _ _ ?_)
      refine c_false rfl ?_
      refine c_skip ?_
      refine x_block ?_
      refine x_block ?_
      exact x_then (x_inv ((sn.set t true), S', ⟨q.a, q.c, tl⟩, Sd) ⟨by have := hR.go hM hu; rwa [show succs u n p t = [] by simp [succs, k2, hp0], List.append_nil] at this, hS', hD1, by simp only [List.length_append, List.length_cons, List.length_nil]; omega⟩ (by simp only [List.length_append, List.length_cons, List.length_nil]; omega) sbA hzB)
    ·
     refine o_step rfl (step_cast (v' := .bool false) (s_eql rfl rfl) (by rw [decide_eq_false (by omega)])) ?_
     refine o_step rfl (s_assign rfl) ?_
     refine o_nil ?_
     refine x_then (hK10 _ _ ?_)
     refine c_false rfl ?_
     refine c_seq fun _ hK12 => ?_
     refine c_region ?_
     by_cases k3 : u.op = 3
     ·
      refine o_step rfl (step_cast (v' := .bool true) (s_eql rfl rfl) (by rw [decide_eq_true (by omega)])) ?_
      refine o_step rfl (s_assign rfl) ?_
      refine o_nil ?_
      refine x_then (hK12 _ _ ?_)
      refine c_true rfl ?_
      refine c_seq fun _ hK13 => ?_
      refine c_region ?_
      refine o_step rfl (s_move rfl) ?_
      refine o_step rfl (s_move rfl) ?_
      by_cases hpn : p = n
      ·
       refine o_step rfl (step_cast (v' := .bool true) (s_eql rfl rfl) (by rw [decide_eq_true (by omega)])) ?_
       refine o_nil ?_
       refine x_then (hK13 _ _ ?_)
       refine c_true rfl ?_
       refine c_region ?_
       refine o_step rfl (s_move rfl) ?_
       refine o_step rfl (s_move rfl) ?_
       refine o_step rfl (s_add rfl rfl (by omega)) ?_
       refine o_bs (E := Eix) (xs := [t + 1]) (vs := [_]) rfl rfl rfl rfl rfl (by decide) (by decide) fun b58 S58 hS58 => ?_
       refine o_app hD1 (hS58.rdk hiA) rfl rfl rfl rfl (by simp only [List.length_cons, List.length_nil]; omega) (by simp only [List.length_cons, List.length_nil]; omega) rfl pkA fun a59 c59 S59 hS59 => ?_
       refine o_step rfl (s_assign rfl) ?_
       refine o_nil ?_
       refine x_block ?_
       refine x_block ?_
       exact x_then (x_inv ((sn.set t true), S', ⟨a59, c59, tl ++ [t + 1]⟩, S59) ⟨by have := hR.go hM hu; rwa [show succs u n p t = [t + 1] by simp [succs, k3, hpn]] at this, hS', hS59, by simp only [List.length_append, List.length_cons, List.length_nil]; omega⟩ (by simp only [List.length_append, List.length_cons, List.length_nil]; omega) sbA hzB)
      ·
       refine o_step rfl (step_cast (v' := .bool false) (s_eql rfl rfl) (by rw [decide_eq_false (by omega)])) ?_
       refine o_nil ?_
       refine x_then (hK13 _ _ ?_)
       refine c_false rfl ?_
       refine c_skip ?_
       refine x_block ?_
       refine x_block ?_
       exact x_then (x_inv ((sn.set t true), S', ⟨q.a, q.c, tl⟩, Sd) ⟨by have := hR.go hM hu; rwa [show succs u n p t = [] by simp [succs, k3, hpn], List.append_nil] at this, hS', hD1, by simp only [List.length_append, List.length_cons, List.length_nil]; omega⟩ (by simp only [List.length_append, List.length_cons, List.length_nil]; omega) sbA hzB)
     ·
      refine o_step rfl (step_cast (v' := .bool false) (s_eql rfl rfl) (by rw [decide_eq_false (by omega)])) ?_
      refine o_step rfl (s_assign rfl) ?_
      refine o_nil ?_
      refine x_then (hK12 _ _ ?_)
      refine c_false rfl ?_
      refine c_seq fun _ hK14 => ?_
      refine c_region ?_
      by_cases k4 : u.op = 4
      ·
       obtain ⟨X, hX⟩ : ∃ X : Nat, u.x = X := ⟨u.x.toNat, by omega⟩
       refine o_step rfl (step_cast (v' := .bool true) (s_eql rfl rfl) (by rw [decide_eq_true (by omega)])) ?_
       refine o_step rfl (s_assign rfl) ?_
       refine o_nil ?_
       refine x_then (hK14 _ _ ?_)
       refine c_true rfl ?_
       refine c_region ?_
       refine o_step rfl (s_move rfl) ?_
       refine o_step rfl (s_move rfl) ?_
       refine o_step rfl (s_move rfl) ?_
       refine o_step rfl (s_idx rfl rfl hsl (by omega)) ?_
       refine o_step rfl (s_field rfl rfl (by decide)) ?_
       refine o_step rfl (step_cast (v' := .int .i64 (X : Nat)) (s_ld rfl ((RdK.old hw.1 hw.2).ld t 5 hu rfl (by decide) (by omega))) (by rw [hX])) ?_
       refine o_bs (E := Eix) (xs := [X]) (vs := [_]) rfl rfl rfl rfl rfl (by decide) (by decide) fun b68 S68 hS68 => ?_
       refine o_app hD1 (hS68.rdk hiA) rfl rfl rfl rfl (by simp only [List.length_cons, List.length_nil]; omega) (by simp only [List.length_cons, List.length_nil]; omega) rfl pkA fun a69 c69 S69 hS69 => ?_
       refine o_step rfl (s_assign rfl) ?_
       refine o_nil ?_
       refine x_block ?_
       refine x_block ?_
       exact x_then (x_inv ((sn.set t true), S', ⟨a69, c69, tl ++ [X]⟩, S69) ⟨by have := hR.go hM hu; rwa [show succs u n p t = [X] by simp [succs, k4, hX]] at this, hS', hS69, by simp only [List.length_append, List.length_cons, List.length_nil]; omega⟩ (by simp only [List.length_append, List.length_cons, List.length_nil]; omega) sbA hzB)
      ·
       refine o_step rfl (step_cast (v' := .bool false) (s_eql rfl rfl) (by rw [decide_eq_false (by omega)])) ?_
       refine o_step rfl (s_assign rfl) ?_
       refine o_nil ?_
       refine x_then (hK14 _ _ ?_)
       refine c_false rfl ?_
       refine c_seq fun _ hK15 => ?_
       refine c_region ?_
       by_cases k5 : u.op = 5
       ·
        obtain ⟨X, hX⟩ : ∃ X : Nat, u.x = X := ⟨u.x.toNat, by omega⟩
        obtain ⟨Y, hY⟩ : ∃ Y : Nat, u.y = Y := ⟨u.y.toNat, by omega⟩
        refine o_step rfl (step_cast (v' := .bool true) (s_eql rfl rfl) (by rw [decide_eq_true (by omega)])) ?_
        refine o_step rfl (s_assign rfl) ?_
        refine o_nil ?_
        refine x_then (hK15 _ _ ?_)
        refine c_true rfl ?_
        refine c_drawE ([]) (fun i => false) ?_
        refine e_take 0 rfl (by kernel_rfl) (by kernel_rfl) (by kernel_rfl) (by kernel_rfl) (fun _ _ => rfl) rfl (by exact HSub.nil) (s_move rfl) ?_
        refine e_take 1 rfl (by kernel_rfl) (by kernel_rfl) (by kernel_rfl) (by kernel_rfl) (fun _ _ => rfl) rfl (by exact HSub.nil) (s_move rfl) ?_
        refine e_take 2 rfl (by kernel_rfl) (by kernel_rfl) (by kernel_rfl) (by kernel_rfl) (fun _ _ => rfl) rfl (by exact HSub.nil) (s_move rfl) ?_
        refine e_take 3 rfl (by kernel_rfl) (by kernel_rfl) (by kernel_rfl) (by kernel_rfl) (fun _ _ => rfl) rfl (by exact HSub.nil) (s_idx rfl rfl hsl (by omega)) ?_
        refine e_take 4 rfl (by kernel_rfl) (by kernel_rfl) (by kernel_rfl) (by kernel_rfl) (fun _ _ => rfl) rfl (by exact HSub.nil) (s_field rfl rfl (by decide)) ?_
        refine e_take 5 rfl (by kernel_rfl) (by kernel_rfl) (by kernel_rfl) (by kernel_rfl) (fun _ _ => rfl) rfl (by exact HSub.nil) (step_cast (v' := .int .i64 (X : Nat)) (s_ld rfl ((RdK.old hw.1 hw.2).ld t 5 hu rfl (by decide) (by omega))) (by rw [hX])) ?_
        refine e_take 6 rfl (by kernel_rfl) (by kernel_rfl) (by kernel_rfl) (by kernel_rfl) (fun _ _ => rfl) rfl (by exact HSub.nil) (s_move rfl) ?_
        refine e_take 7 rfl (by kernel_rfl) (by kernel_rfl) (by kernel_rfl) (by kernel_rfl) (fun _ _ => rfl) rfl (by exact HSub.nil) (s_move rfl) ?_
        refine e_take 8 rfl (by kernel_rfl) (by kernel_rfl) (by kernel_rfl) (by kernel_rfl) (fun _ _ => rfl) rfl (by exact HSub.nil) (s_idx rfl rfl hsl (by omega)) ?_
        refine e_take 9 rfl (by kernel_rfl) (by kernel_rfl) (by kernel_rfl) (by kernel_rfl) (fun _ _ => rfl) rfl (by exact HSub.nil) (s_field rfl rfl (by decide)) ?_
        refine e_take 10 rfl (by kernel_rfl) (by kernel_rfl) (by kernel_rfl) (by kernel_rfl) (fun _ _ => rfl) rfl (by exact HSub.nil) (step_cast (v' := .int .i64 (Y : Nat)) (s_ld rfl ((RdK.old hw.1 hw.2).ld t 6 hu rfl (by decide) (by omega))) (by rw [hY])) ?_
        refine e_one 11 rfl (by kernel_rfl) ?_
        refine o_bs (E := Eix) (xs := [X, Y]) (vs := [_, _]) rfl rfl rfl rfl rfl (by decide) (by decide) fun b83 S83 hS83 => ?_
        refine o_nil ?_
        refine x_oneS (by exact HSub.nil) ?_
        refine e_one 12 rfl (by kernel_rfl) ?_
        refine o_app hD1 (hS83.rdk hiA) rfl rfl rfl rfl (by simp only [List.length_cons, List.length_nil]; omega) (by simp only [List.length_cons, List.length_nil]; omega) rfl pkA fun a84 c84 S84 hS84 => ?_
        refine o_nil ?_
        refine x_oneS (by exact HSub.nil) ?_
        refine e_one 13 rfl (by kernel_rfl) ?_
        refine o_step rfl (s_assign rfl) ?_
        refine o_nil ?_
        refine x_oneS (by exact HSub.nil) ?_
        refine e_done (by kernel_rfl) ?_
        refine x_block ?_
        refine x_block ?_
        exact x_then (x_inv ((sn.set t true), S', ⟨a84, c84, tl ++ [X, Y]⟩, S84) ⟨by have := hR.go hM hu; rwa [show succs u n p t = [X, Y] by simp [succs, k5, hX, hY]] at this, hS', hS84, by simp only [List.length_append, List.length_cons, List.length_nil]; omega⟩ (by simp only [List.length_append, List.length_cons, List.length_nil]; omega) sbA hzB)
       ·
        refine o_step rfl (step_cast (v' := .bool false) (s_eql rfl rfl) (by rw [decide_eq_false (by omega)])) ?_
        refine o_step rfl (s_assign rfl) ?_
        refine o_nil ?_
        refine x_then (hK15 _ _ ?_)
        refine c_false rfl ?_
        refine c_skip ?_
        refine x_block ?_
        refine x_block ?_
        exact x_then (x_inv ((sn.set t true), S', ⟨q.a, q.c, tl⟩, Sd) ⟨by have := hR.go hM hu; rwa [show succs u n p t = [] by simp [succs, k2, k3, k4, k5], List.append_nil] at this, hS', hD1, by simp only [List.length_append, List.length_cons, List.length_nil]; omega⟩ (by simp only [List.length_append, List.length_cons, List.length_nil]; omega) sbA hzB)
  ·
   have hxe : q.xs = [] := List.eq_nil_of_length_eq_zero (by omega)
   rw [hxe] at hR
   refine o_step rfl (step_cast (v' := .bool false) (s_gtr rfl rfl) (by rw [decide_eq_false (by omega)])) ?_
   refine o_nil ?_
   refine x_then (hK3 _ _ ?_)
   refine c_false rfl ?_
   refine c_exit ?_
   refine x_then_exit ?_
   refine x_then_exit ?_
   refine x_block_exit ?_
   refine x_sub (Sub.refl _) (H' := S1) hzB ?_
   exact x_end rfl (.nil) (⟨sn, hO1, hR.done⟩)
end Go.Proofs.Ytihbhlgognpmmaa

/- Part of the proofs over this seat: see the text that holds the theorem. Conditions: each theorem bears its own. -/
namespace Go.Proofs.Ytihbhlgognpmmaa
open Go Go.HL Go.Proofs Go.HL.Kl Go.HL.Kl.Mc
theorem rHas_fn (c : Cl) (x : Nat) (hx : x < 256) : HL.Fn Try.prog 40 [.agg (Ec c).toArray, .int .u8 x] (fun _ => True) [] (fun v _ => v = .bool (c.getLsbD x)) := by
  refine fn_of Try.func40 rfl rfl rfl fun w0 hw => ?_
  refine c_seq fun _ hK1 => ?_
  refine c_region ?_
  refine o_box rfl rfl rfl fun b2 => ?_
  refine o_step rfl (s_assign rfl) ?_
  refine o_nil ?_
  refine x_then (hK1 _ _ ?_)
  refine c_seq fun _ hK2 => ?_
  refine c_region ?_
  refine o_step rfl (s_move rfl) ?_
  refine o_step rfl (step_cast (v' := .int .u8 ((x / 64 : Nat) : Int)) (s_quo rfl rfl (by decide)) (congrArg _ (quo64 hx))) ?_
  refine o_step rfl (s_idx1 rfl rfl (by omega)) ?_
  refine o_step rfl (s_ld rfl ((RdPK.own meA).cel (j := x / 64) (Ec_get _ (by omega)) (by omega))) ?_
  refine o_step rfl (s_move rfl) ?_
  refine o_step rfl (step_cast (v' := .int .u8 ((x % 64 : Nat) : Int)) (s_rem rfl rfl (by decide)) (congrArg _ (rem64 hx))) ?_
  refine o_step rfl (s_shr rfl rfl (by omega)) ?_
  refine o_step rfl (s_and rfl rfl) ?_
  refine o_step rfl (step_cast (v' := .bool (c.getLsbD x)) (s_eql rfl rfl) (congrArg Value.bool (hasB c hx))) ?_
  refine o_step rfl (s_assign rfl) ?_
  refine o_nil ?_
  refine x_then (hK2 _ _ ?_)
  refine c_ret ?_
  refine ?_
  exact x_ret rfl (.tmp rfl (.nil)) (rfl)
end Go.Proofs.Ytihbhlgognpmmaa

/- Where runs lead, place by place. Conditions: none. -/
namespace Go.HL.Kl.Mc
open Go Go.HL Go.HL.Kl
/-- the steps of the machine at which a place is begun -/
def Begn (m : List In) (w : List UInt8) (f p j : Nat) : Prop := (p = f ∧ j = 0) ∨ (f < p ∧ ∃ i, j = i + 1 ∧ Run m w (0, f) (i, p - 1) ∧ Eat m w i (p - 1))
theorem run_start {m : List In} {w : List UInt8} {f p i : Nat} (hf : f ≤ p) : Run m w (0, f) (i, p) ↔ ∃ j, Begn m w f p j ∧ EpsS m w.length p j i := by
  constructor
  · intro h
    rcases Nat.eq_or_lt_of_le hf with he | hl
    · subst he
      exact ⟨0, .inl ⟨rfl, rfl⟩, run_base.1 h⟩
    · obtain ⟨q, rfl⟩ : ∃ q, p = q + 1 := ⟨p - 1, by omega⟩
      obtain ⟨j, h1, h2, h3⟩ := (run_succ (by omega)).1 h
      exact ⟨j + 1, .inr ⟨hl, j, rfl, h1, h2⟩, h3⟩
  · rintro ⟨j, h | h, h2⟩
    · obtain ⟨rfl, rfl⟩ := h
      exact run_base.2 h2
    · obtain ⟨hl, k, rfl, h3, h4⟩ := h
      obtain ⟨q, rfl⟩ : ∃ q, p = q + 1 := ⟨p - 1, by omega⟩
      exact (run_succ (by omega)).2 ⟨k, h3, h4, h2⟩
theorem start_none {m : List In} {w : List UInt8} {f p : Nat} (hf : f ≤ p) (h : ∀ j, ¬ Begn m w f p j) : ∀ (k i : Nat), ¬ Run m w (0, f) (i, p + k) := by
  intro k
  induction k with
  | zero =>
    intro i h1
    obtain ⟨j, h2, _⟩ := (run_start hf).1 h1
    exact h j h2
  | succ k ih =>
    intro i h1
    obtain ⟨j, h2, _⟩ := (run_start (p := p + (k + 1)) (by omega)).1 h1
    rcases h2 with h2 | ⟨_, i', _, h3, _⟩
    · omega
    · exact ih i' (by rwa [show p + (k + 1) - 1 = p + k by omega] at h3)
theorem start_lt {m : List In} {w : List UInt8} {f p j : Nat} (hM : MOk m) (h : Begn m w f p j) : j < m.length := by
  rcases h with ⟨_, rfl⟩ | ⟨_, i, rfl, _, t, b, ht, ho, _⟩
  · exact hM.1
  · exact (hM.2.2 i t ht).2 (by omega)
theorem begn_start {m : List In} {w : List UInt8} {g : Nat} : ∀ j, j ∈ [0] ↔ Begn m w g g j := fun j => by
  rw [List.mem_singleton]
  exact ⟨fun h => .inl ⟨rfl, h⟩, fun h => h.elim (·.2) fun h => by have := h.1; omega⟩
theorem begn_nil {m : List In} {w : List UInt8} {g p : Nat} {q : List Nat} (hq : ∀ j, j ∈ q ↔ Begn m w g p j) (h : ¬ ((q.length : Int) > 0)) : ∀ j, ¬ Begn m w g p j := fun j hj => by
  have := (hq j).2 hj
  rw [List.eq_nil_of_length_eq_zero (l := q) (by omega)] at this
  cases this
end Go.HL.Kl.Mc

/- What Ends answers. Conditions: none. -/
namespace Go.HL.Kl.Mc
open Go Go.HL Go.HL.Kl
theorem runN_in {m : List In} {w : List UInt8} {n : Nat} {c c' : Nat × Nat} (h : RunN m w n c c') (hc : c.2 ≤ w.length) : c'.2 ≤ w.length := by
  induction h with
  | zero => exact hc
  | @step n c c' c'' s _ ih =>
    refine ih ?_
    obtain ⟨i, p⟩ := c; obtain ⟨j, q⟩ := c'
    rcases stp_iff.1 s with ⟨h, _⟩ | ⟨h, _, t, b, _, _, hb, _⟩
    · simp only at hc ⊢; omega
    · have := (List.getElem?_eq_some_iff.1 hb).1
      simp only; omega
theorem hit_in {m : List In} {w : List UInt8} {f p : Nat} (h : Hit m w f p) (hf : f ≤ w.length) : f ≤ p ∧ p ≤ w.length := by
  obtain ⟨i, t, ⟨n, h⟩, _⟩ := h
  exact ⟨runN_le h, runN_in h hf⟩
/-- the answer -/
def EndsP (m : List In) (w : List UInt8) (f : Int) (out : List Bool) : Prop := out.length = w.length + 1 ∧ ∀ t : Nat, out[t]? = some true ↔ MOk m ∧ ∃ g : Nat, f = g ∧ g ≤ w.length ∧ Hit m w g t
theorem no_true {n t : Nat} : ¬ (List.replicate n false)[t]? = some true := by
  intro h
  have := List.mem_of_getElem? h
  simp at this
theorem EndsP.no {m : List In} {w : List UInt8} {f : Int} (h : f < 0 ∨ f > w.length ∨ ¬ MOk m) : EndsP m w f (List.replicate (w.length + 1) false) :=
  ⟨by simp, fun t => ⟨fun h1 => absurd h1 no_true, fun ⟨h1, g, h2, h3, _⟩ => by rcases h with h | h | h; (· omega); (· omega); exact absurd h1 h⟩⟩
theorem EndsP.yes {m : List In} {w : List UInt8} {g : Nat} {out : List Bool} (hM : MOk m) (hg : g ≤ w.length) (hl : out.length = w.length + 1) (h : ∀ t : Nat, out[t]? = some true ↔ t < w.length + 1 ∧ Hit m w g t) : EndsP m w g out :=
  ⟨hl, fun t => (h t).trans ⟨fun h1 => ⟨hM, g, rfl, hg, h1.2⟩, fun ⟨_, g', h2, h3, h4⟩ => by
    obtain rfl : g = g' := by omega
    exact ⟨by have := (hit_in h4 hg).2; omega, h4⟩⟩⟩
theorem ends_start {m : List In} {w : List UInt8} {g n t : Nat} : (List.replicate n false)[t]? = some true ↔ t < g ∧ Hit m w g t :=
  ⟨fun h => absurd h no_true, fun ⟨h1, i, u, ⟨n, h2⟩, _⟩ => by have := runN_le h2; simp only at this; omega⟩
theorem ends_end {m : List In} {w : List UInt8} {g p t : Nat} (hg : g ≤ p) (hgw : g ≤ w.length) (hp : p ≤ w.length + 1) (hn : p = w.length + 1 ∨ ∀ j, ¬ Begn m w g p j) : (t < p ∧ Hit m w g t) ↔ (t < w.length + 1 ∧ Hit m w g t) := by
  constructor
  · exact fun ⟨h1, h2⟩ => ⟨by omega, h2⟩
  · rintro ⟨h1, h2⟩
    rcases hn with rfl | hn
    · exact ⟨h1, h2⟩
    · refine ⟨Nat.lt_of_not_le fun h => ?_, h2⟩
      obtain ⟨i, u, h3, _⟩ := h2
      exact start_none hg hn (t - p) i (by rwa [show p + (t - p) = t by omega])
/-- what reach has seen of the first k begun steps -/
def SeenP (m : List In) (w : List UInt8) (p : Nat) (q : List Nat) (k : Nat) (sn : List Bool) : Prop :=
  sn.length = m.length ∧ (∀ i : Nat, sn[i]? = some true ↔ ∃ t j : Nat, t < k ∧ q[t]? = some j ∧ EpsS m w.length p j i) ∧ ∀ i j : Nat, sn[i]? = some true → Eps m w.length p i j → sn[j]? = some true
theorem SeenP.start {m : List In} {w : List UInt8} {p : Nat} {q : List Nat} : SeenP m w p q 0 (List.replicate m.length false) :=
  ⟨by simp, fun i => ⟨fun h => absurd h no_true, fun ⟨_, _, h, _⟩ => by omega⟩, fun i j h => absurd h no_true⟩
theorem SeenP.step {m : List In} {w : List UInt8} {p k j : Nat} {q : List Nat} {sn s2 : List Bool} (h : SeenP m w p q k sn) (hj : q[k]? = some j) (hl : s2.length = m.length) (h2 : ∀ i : Nat, s2[i]? = some true ↔ sn[i]? = some true ∨ EpsS m w.length p j i) (h3 : ∀ i j : Nat, s2[i]? = some true → Eps m w.length p i j → s2[j]? = some true) : SeenP m w p q (k + 1) s2 := by
  refine ⟨hl, fun i => ?_, h3⟩
  rw [h2, h.2.1]
  constructor
  · rintro (⟨t, u, h4, h5, h6⟩ | h4)
    · exact ⟨t, u, by omega, h5, h6⟩
    · exact ⟨k, j, by omega, hj, h4⟩
  · rintro ⟨t, u, h4, h5, h6⟩
    rcases Nat.lt_or_ge t k with h7 | h7
    · exact .inl ⟨t, u, h7, h5, h6⟩
    · obtain rfl : t = k := by omega
      rw [hj] at h5; cases h5
      exact .inr h6
theorem SeenP.run {m : List In} {w : List UInt8} {g p i : Nat} {q : List Nat} {sn : List Bool} (hg : g ≤ p) (hq : ∀ j, j ∈ q ↔ Begn m w g p j) (h : SeenP m w p q q.length sn) : sn[i]? = some true ↔ Run m w (0, g) (i, p) := by
  rw [h.2.1, run_start hg]
  constructor
  · rintro ⟨t, j, _, h2, h3⟩
    exact ⟨j, (hq j).1 (List.mem_of_getElem? h2), h3⟩
  · rintro ⟨j, h2, h3⟩
    obtain ⟨t, h4⟩ := List.getElem?_of_mem ((hq j).2 h2)
    exact ⟨t, j, (List.getElem?_eq_some_iff.1 h4).1, h4, h3⟩
/-- the second pass over the first k steps -/
structure PassP (m : List In) (w : List UInt8) (p : Nat) (sn out : List Bool) (k : Nat) (o2 : List Bool) (q2 : List Nat) : Prop where
  len : o2.length = out.length
  st : ∀ j, j ∈ q2 ↔ ∃ i, i < k ∧ j = i + 1 ∧ sn[i]? = some true ∧ Eat m w i p
  out : ∀ t : Nat, o2[t]? = some true ↔ out[t]? = some true ∨ (t = p ∧ ∃ i u, i < k ∧ sn[i]? = some true ∧ m[i]? = some u ∧ u.op = 6)
  le : q2.length ≤ k
theorem PassP.start {m : List In} {w : List UInt8} {p : Nat} {sn out : List Bool} : PassP m w p sn out 0 out [] :=
  ⟨rfl, fun j => ⟨fun h => (by cases h), fun ⟨_, h, _⟩ => by omega⟩, fun t => ⟨.inl, fun h => h.elim id fun h => by obtain ⟨_, _, _, h, _⟩ := h; omega⟩, Nat.le_refl _⟩
theorem PassP.next {m : List In} {w : List UInt8} {g p : Nat} {sn out o2 : List Bool} {q q2 : List Nat} (hg : g ≤ p) (hq : ∀ j, j ∈ q ↔ Begn m w g p j) (hs : SeenP m w p q q.length sn) (h : PassP m w p sn out m.length o2 q2) : ∀ j, j ∈ q2 ↔ Begn m w g (p + 1) j := by
  intro j
  rw [h.st]
  constructor
  · rintro ⟨i, _, rfl, h3, h4⟩
    exact .inr ⟨by omega, i, rfl, (hs.run hg hq).1 h3, h4⟩
  · rintro (⟨h1, _⟩ | ⟨_, i, rfl, h3, h4⟩)
    · omega
    · obtain ⟨t, b, h5, _⟩ := id h4
      exact ⟨i, (List.getElem?_eq_some_iff.1 h5).1, rfl, (hs.run hg hq).2 h3, h4⟩
theorem PassP.hits {m : List In} {w : List UInt8} {g p : Nat} {sn out o2 : List Bool} {q q2 : List Nat} (hg : g ≤ p) (hq : ∀ j, j ∈ q ↔ Begn m w g p j) (hs : SeenP m w p q q.length sn) (ho : ∀ t : Nat, out[t]? = some true ↔ t < p ∧ Hit m w g t) (h : PassP m w p sn out m.length o2 q2) : ∀ t : Nat, o2[t]? = some true ↔ t < p + 1 ∧ Hit m w g t := by
  intro t
  rw [h.out, ho]
  constructor
  · rintro (⟨h1, h2⟩ | ⟨rfl, i, u, _, h2, h3, h4⟩)
    · exact ⟨by omega, h2⟩
    · exact ⟨by omega, i, u, (hs.run hg hq).1 h2, h3, h4⟩
  · rintro ⟨h1, h2⟩
    rcases Nat.lt_or_ge t p with h3 | h3
    · exact .inl ⟨h3, h2⟩
    · obtain rfl : t = p := by omega
      obtain ⟨i, u, h4, h5, h6⟩ := h2
      exact .inr ⟨rfl, i, u, (List.getElem?_eq_some_iff.1 h5).1, (hs.run hg hq).2 h4, h5, h6⟩
theorem PassP.skip {m : List In} {w : List UInt8} {p k : Nat} {sn out o2 : List Bool} {q2 : List Nat} (h : PassP m w p sn out k o2 q2) (hn : sn[k]? = some true → ¬ Eat m w k p ∧ ∀ u, m[k]? = some u → u.op ≠ 6) : PassP m w p sn out (k + 1) o2 q2 := by
  refine ⟨h.len, fun j => ?_, fun t => ?_, by have := h.le; omega⟩
  · rw [h.st]
    constructor
    · rintro ⟨i, h1, h2⟩; exact ⟨i, by omega, h2⟩
    · rintro ⟨i, h1, h2, h3, h4⟩
      rcases Nat.lt_or_ge i k with h5 | h5
      · exact ⟨i, h5, h2, h3, h4⟩
      · obtain rfl : i = k := by omega
        exact absurd h4 (hn h3).1
  · rw [h.out]
    refine or_congr_right (and_congr_right fun _ => ?_)
    constructor
    · rintro ⟨i, u, h1, h2⟩; exact ⟨i, u, by omega, h2⟩
    · rintro ⟨i, u, h1, h2, h3, h4⟩
      rcases Nat.lt_or_ge i k with h5 | h5
      · exact ⟨i, u, h5, h2, h3, h4⟩
      · obtain rfl : i = k := by omega
        exact absurd h4 ((hn h2).2 u h3)
theorem PassP.eat {m : List In} {w : List UInt8} {p k : Nat} {sn out o2 : List Bool} {q2 : List Nat} (h : PassP m w p sn out k o2 q2) (hs : sn[k]? = some true) (he : Eat m w k p) : PassP m w p sn out (k + 1) o2 (q2 ++ [k + 1]) := by
  refine ⟨h.len, fun j => ?_, fun t => ?_, by have := h.le; simp; omega⟩
  · rw [List.mem_append, h.st, List.mem_singleton]
    constructor
    · rintro (⟨i, h1, h2⟩ | rfl)
      · exact ⟨i, by omega, h2⟩
      · exact ⟨k, by omega, rfl, hs, he⟩
    · rintro ⟨i, h1, h2, h3, h4⟩
      rcases Nat.lt_or_ge i k with h5 | h5
      · exact .inl ⟨i, h5, h2, h3, h4⟩
      · obtain rfl : i = k := by omega
        exact .inr h2
  · rw [h.out]
    refine or_congr_right (and_congr_right fun _ => ?_)
    constructor
    · rintro ⟨i, u, h1, h2⟩; exact ⟨i, u, by omega, h2⟩
    · rintro ⟨i, u, h1, h2, h3, h4⟩
      rcases Nat.lt_or_ge i k with h5 | h5
      · exact ⟨i, u, h5, h2, h3, h4⟩
      · obtain rfl : i = k := by omega
        obtain ⟨t', b, h6, h7, _⟩ := he
        rw [h3] at h6; cases h6; omega
theorem PassP.done {m : List In} {w : List UInt8} {p k : Nat} {sn out o2 : List Bool} {q2 : List Nat} {u : In} (h : PassP m w p sn out k o2 q2) (hs : sn[k]? = some true) (hu : m[k]? = some u) (ho : u.op = 6) (hp : p < o2.length) : PassP m w p sn out (k + 1) (o2.set p true) q2 := by
  refine ⟨by rw [List.length_set]; exact h.len, fun j => ?_, fun t => ?_, by have := h.le; omega⟩
  · rw [h.st]
    constructor
    · rintro ⟨i, h1, h2⟩; exact ⟨i, by omega, h2⟩
    · rintro ⟨i, h1, h2, h3, h4⟩
      rcases Nat.lt_or_ge i k with h5 | h5
      · exact ⟨i, h5, h2, h3, h4⟩
      · obtain rfl : i = k := by omega
        obtain ⟨t', b, h6, h7, _⟩ := h4
        rw [hu] at h6; cases h6; omega
  · rw [List.getElem?_set]
    by_cases hpt : p = t
    · subst hpt
      rw [if_pos rfl, if_pos hp]
      exact ⟨fun _ => .inr ⟨rfl, k, u, by omega, hs, hu, ho⟩, fun _ => rfl⟩
    · rw [if_neg hpt, h.out]
      exact or_congr_right ⟨fun h1 => absurd h1.1.symm hpt, fun h1 => absurd h1.1.symm hpt⟩
/-- the answer of Ends: memory of its own -/
def EndsC (m : List In) (w : List UInt8) (f : Int) (v : Value) (S : Hp) : Prop := ∃ (a : Option Addr) (c : Nat) (out : List Bool), v = .slice a (w.length + 1) c ∧ OwnS Ebo 1 4 v out S ∧ EndsP m w f out
theorem EndsC.of {m : List In} {w : List UInt8} {f : Int} {a : Option Addr} {c : Nat} {out : List Bool} {S : Hp} (h : OwnS Ebo 1 4 (.slice a (w.length + 1) c) out S) (hE : EndsP m w f out) : EndsC m w f (.slice a (w.length + 1) c) S := ⟨a, c, out, rfl, h, hE⟩
theorem eat_iff {m : List In} {w : List UInt8} {k p : Nat} {u : In} {y : UInt8} (hu : m[k]? = some u) (h1 : u.op = 1) (hy : w[p]? = some y) : Eat m w k p ↔ u.set.getLsbD y.toNat = true :=
  ⟨fun ⟨t, b, e1, _, e3, e4⟩ => by rw [hu] at e1; rw [hy] at e3; cases e1; cases e3; exact e4, fun h => ⟨u, y, hu, h1, hy, h⟩⟩
theorem eat_no1 {m : List In} {w : List UInt8} {k p : Nat} {u : In} (hu : m[k]? = some u) (h1 : ¬ u.op = 1) : ¬ Eat m w k p := fun ⟨t, b, e1, e2, _⟩ => by rw [hu] at e1; cases e1; exact h1 e2
theorem eat_noP {m : List In} {w : List UInt8} {k p : Nat} (h : ¬ p < w.length) : ¬ Eat m w k p := fun ⟨t, b, _, _, e, _⟩ => h (List.getElem?_eq_some_iff.1 e).1
theorem skip6 {m : List In} {k : Nat} {u : In} (hu : m[k]? = some u) (h : ¬ u.op = 6) : ∀ v, m[k]? = some v → v.op ≠ 6 := fun v e => by rw [hu] at e; cases e; exact h
end Go.HL.Kl.Mc
