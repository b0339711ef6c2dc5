/- Part of the proofs over this seat: see the text that holds the theorem. Conditions: each theorem bears its own. -/
import Derived.Test.YtihbhlgognpmmaaDoorDW12Z
import Derived.Test.YtihbhlgognpmmaaDoorDW11
import Derived.Test.YtihbhlgognpmmaaDoorMC1Z
namespace Go.Proofs.YtihbhlgognpmmaaDoor
open Go Go.HL Go.Proofs Go.HL.Kl Go.HL.Kl.Mc
set_option maxHeartbeats 2000000 in
theorem reach_fn (n p : Nat) (ra : Option Addr) (rc : Nat) (m : List In) (hM : MOk m) (f : Nat) (hf : f < m.length) (sa : Option Addr) (sc : Nat) (s0 : List Bool) (Ss : Hp) (hO : OwnS Ebo 1 4 (.slice sa m.length sc) s0 Ss) (hcl : ∀ i j : Nat, s0[i]? = some true → Eps m n p i j → s0[j]? = some true) : HL.Fn Tryd.prog 53 [.slice ra m.length rc, .int .i64 f, .slice sa m.length sc, .int .i64 p, .int .i64 n] (fun w => Rd Ein w (.slice ra m.length rc) m ∧ Apart (keys Ss) (.slice ra m.length rc)) Ss (fun _ S' => ∃ sn, OwnS Ebo 1 4 (.slice sa m.length sc) sn S' ∧ (∀ i : Nat, sn[i]? = some true ↔ s0[i]? = some true ∨ EpsS m n p f i) ∧ ∀ i j : Nat, sn[i]? = some true → Eps m n p i j → sn[j]? = some true) := by
  refine fn_of Tryd.func53 rfl rfl rfl fun w0 hw => ?_
  have hsl := hw.1.sl
  have hbl := hM.2.1
  have hs0l : s0.length = m.length := by obtain ⟨a', c', e', _⟩ := hO.sl.out; simp at e'; exact e'.2.1.symm
  have hun := unseen_le s0
  refine c_seq fun _ hK1 => ?_
  refine c_region ?_
  refine o_step rfl (s_move rfl) ?_
  refine o_bs (E := Eix) (xs := [f]) (vs := [_]) rfl rfl rfl rfl rfl (by decide) (by decide) fun b13 S13 hS13 => ?_
  refine o_step rfl (s_assign rfl) ?_
  refine o_nil ?_
  refine x_then (hK1 _ _ ?_)
  refine c_block ?_
  refine c_loop4 (fun (sn : List Bool) (S1 : Hp) (q : Sl Nat) (Sd : Hp) => Srch m n p f s0 sn q.xs ∧ OwnS Ebo 1 4 (.slice sa m.length sc) sn S1 ∧ OwnS Eix 1 3 (.slice q.a q.xs.length q.c) q.xs Sd ∧ q.xs.length + 2 * unseen sn ≤ 2 * m.length + 1) (fun (sn : List Bool) (S1 : Hp) (q : Sl Nat) (Sd : Hp) => [(10, .slice q.a q.xs.length q.c)]) [(0, _), (2, _), (3, _), (4, _)] (fun (sn : List Bool) (S1 : Hp) (q : Sl Nat) (Sd : Hp) => S1 ++ Sd) (fun (sn : List Bool) (S1 : Hp) (q : Sl Nat) (Sd : Hp) => 3 * unseen sn + q.xs.length) s0 Ss ⟨some ⟨b13, 0, none⟩, 1, [f]⟩ S13 ⟨.start hs0l hf hcl, hO, hS13, by simp; omega⟩ sbA sbA hzB ?_
  rintro sn S1 q Sd ⟨hR, hO1, hD, hb⟩
  have hO1s := hO1.sl
  have hsnl := hR.len
  rw [hsnl] at hO1s
  have hDs := hD.sl
  refine c_seq fun _ hK2 => ?_
  refine c_seq fun _ hK3 => ?_
  refine c_region ?_
  refine o_step rfl (s_move rfl) ?_
  refine o_step rfl (s_len rfl) ?_
  by_cases hpos : (q.xs.length : Int) > 0
  ·
   obtain ⟨tl, t, htd⟩ := last_split (show 0 < q.xs.length by omega)
   have htdl : q.xs.length = tl.length + 1 := by rw [htd]; simp
   rw [htd] at hR
   have htm := (hR.c t (by simp)).2
   obtain ⟨u, hu⟩ : ∃ u, m[t]? = some u := ⟨_, List.getElem?_eq_getElem htm⟩
   have hui := (hM.2.2 t u hu).1
   have hub := hui.bnd
   have huo := hui.1
   have hD1 := hD.pre tl.length (by omega)
   rw [show q.xs.take tl.length = tl by rw [htd]; simp] at hD1
   obtain ⟨_, cx, hcx, hccl, _⟩ := hDs.out
   have hcx2 : cx = q.c := by cases hcx; rfl
   refine o_step rfl (step_cast (v' := .bool true) (s_gtr rfl rfl) (by rw [decide_eq_true (by omega)])) ?_
   refine o_nil ?_
   refine x_then (hK3 _ _ ?_)
   refine c_true rfl ?_
   refine c_skip ?_
   refine x_then (hK2 _ _ ?_)
   refine c_block ?_
   refine c_seq fun _ hK4 => ?_
   refine c_region ?_
   refine o_step rfl (s_move rfl) ?_
   refine o_step rfl (s_move rfl) ?_
   refine o_step rfl (s_len rfl) ?_
   refine o_step rfl (s_sub rfl rfl (by omega)) ?_
   refine o_step rfl (s_idx rfl rfl hDs (by omega)) ?_
   refine o_step rfl (s_ld rfl ((hD.rdk hiA).ld tl.length 0 (show q.xs[tl.length]? = some t by rw [htd]; simp) rfl (by decide) (by omega))) ?_
   refine o_step rfl (s_assign rfl) ?_
   refine o_nil ?_
   refine x_then (hK4 _ _ ?_)
   refine c_seq fun _ hK5 => ?_
   refine c_region ?_
   refine o_step rfl (s_move rfl) ?_
   refine o_step rfl (s_move rfl) ?_
   refine o_step rfl (s_len rfl) ?_
   refine o_step rfl (s_sub rfl rfl (by omega)) ?_
   refine o_step rfl (step_cast (v' := .slice q.a tl.length q.c) (s_slice_hi rfl rfl (by omega)) (by rw [show ((q.xs.length : Int) - 1).toNat = tl.length by omega])) ?_
   refine o_step rfl (s_assign rfl) ?_
   refine o_nil ?_
   refine x_then (hK5 _ _ ?_)
   refine c_seq fun _ hK6 => ?_
   refine c_seq fun _ hK7 => ?_
   refine c_region ?_
   refine o_step rfl (s_move rfl) ?_
   refine o_step rfl (s_move rfl) ?_
   refine o_step rfl (s_idx rfl rfl hO1s (by omega)) ?_
   by_cases hb1 : sn[t]? = some true
   ·
    refine o_step rfl (s_ld rfl ((hO1.rdk hiA).ld t 0 hb1 rfl (by decide) (by omega))) ?_
    refine o_nil ?_
    refine x_then (hK7 _ _ ?_)
    refine c_true rfl ?_
    refine c_exit ?_
    refine x_then_exit ?_
    refine x_block_exit ?_
    exact x_then (x_inv (sn, S1, ⟨q.a, q.c, tl⟩, Sd) ⟨hR.pop hb1, hO1, hD1, by dsimp only; omega⟩ (by rw [htdl]; dsimp only; omega) sbA hzB)
   ·
    have hb2 := get_false hb1 (by omega)
    have hus := unseen_set sn t hb2
    refine o_step rfl (s_ld rfl ((hO1.rdk hiA).ld t 0 hb2 rfl (by decide) (by omega))) ?_
    refine o_nil ?_
    refine x_then (hK7 _ _ ?_)
    refine c_false rfl ?_
    refine c_skip ?_
    refine x_then (hK6 _ _ ?_)
    refine c_seq fun _ hK8 => ?_
    refine c_region ?_
    refine o_step rfl (s_move rfl) ?_
    refine o_step rfl (s_move rfl) ?_
    refine o_step rfl (s_idx rfl rfl hO1s (by omega)) ?_
    refine o_stS1 t true hO1 pkA rfl rfl rfl (by omega) (by omega) fun S' hS' => ?_
    refine o_nil ?_
    refine x_then (hK8 _ _ ?_)
    refine c_seq fun _ hK9 => ?_
    refine c_region ?_
    refine o_step rfl (s_move rfl) ?_
    refine o_step rfl (s_move rfl) ?_
    refine o_step rfl (s_idx rfl rfl hsl (by omega)) ?_
    refine o_step rfl (s_field rfl rfl (by decide)) ?_
    refine o_step rfl (s_ld rfl ((RdK.old hw.1 hw.2).ld t 0 hu rfl (by decide) (by omega))) ?_
    refine o_step rfl (s_convI rfl (by omega)) ?_
    refine o_nil ?_
    refine x_then (hK9 _ _ ?_)
    refine c_block ?_
    refine c_seq fun _ hK10 => ?_
    refine c_region ?_
    by_cases k2 : u.op = 2
    ·
     refine o_step rfl (step_cast (v' := .bool true) (s_eql rfl rfl) (by rw [decide_eq_true (by omega)])) ?_
     refine o_step rfl (s_assign rfl) ?_
     refine o_nil ?_
     refine x_then (hK10 _ _ ?_)
     refine c_true rfl ?_
     refine c_seq fun _ hK11 => ?_
     refine c_region ?_
     refine o_step rfl (s_move rfl) ?_
     by_cases hp0 : p = 0
     ·
      refine o_step rfl (step_cast (v' := .bool true) (s_eql rfl rfl) (by rw [decide_eq_true (by omega)])) ?_
      refine o_nil ?_
      refine x_then (hK11 _ _ ?_)
      refine c_true rfl ?_
      refine c_region ?_
      refine o_step rfl (s_move rfl) ?_
      refine o_step rfl (s_move rfl) ?_
      refine o_step rfl (s_add rfl rfl (by omega)) ?_
      refine o_bs (E := Eix) (xs := [t + 1]) (vs := [_]) rfl rfl rfl rfl rfl (by decide) (by decide) fun b48 S48 hS48 => ?_
      refine o_app hD1 (hS48.rdk hiA) rfl rfl rfl rfl (by simp only [List.length_cons, List.length_nil]; omega) (by simp only [List.length_cons, List.length_nil]; omega) rfl pkA fun a49 c49 S49 hS49 => ?_
      refine o_step rfl (s_assign rfl) ?_
      refine o_nil ?_
      refine x_block ?_
      refine x_block ?_
      exact x_then (x_inv ((sn.set t true), S', ⟨a49, c49, tl ++ [t + 1]⟩, S49) ⟨by have := hR.go hM hu; rwa [show succs u n p t = [t + 1] by simp [succs, k2, hp0]] at this, hS', hS49, by simp only [List.length_append, List.length_cons, List.length_nil]; omega⟩ (by simp only [List.length_append, List.length_cons, List.length_nil]; omega) sbA hzB)
     ·
      refine o_step rfl (step_cast (v' := .bool false) (s_eql rfl rfl) (by rw [decide_eq_false (by omega)])) ?_
      refine o_nil ?_
      refine x_then (hK11 _ _ ?_)
      refine c_false rfl ?_
      refine c_skip ?_
      refine x_block ?_
      refine x_block ?_
      exact x_then (x_inv ((sn.set t true), S', ⟨q.a, q.c, tl⟩, Sd) ⟨by have := hR.go hM hu; rwa [show succs u n p t = [] by simp [succs, k2, hp0], List.append_nil] at this, hS', hD1, by simp only [List.length_append, List.length_cons, List.length_nil]; omega⟩ (by simp only [List.length_append, List.length_cons, List.length_nil]; omega) sbA hzB)
    ·
     refine o_step rfl (step_cast (v' := .bool false) (s_eql rfl rfl) (by rw [decide_eq_false (by omega)])) ?_
     refine o_step rfl (s_assign rfl) ?_
     refine o_nil ?_
     refine x_then (hK10 _ _ ?_)
     refine c_false rfl ?_
     refine c_seq fun _ hK12 => ?_
     refine c_region ?_
     by_cases k3 : u.op = 3
     ·
      refine o_step rfl (step_cast (v' := .bool true) (s_eql rfl rfl) (by rw [decide_eq_true (by omega)])) ?_
      refine o_step rfl (s_assign rfl) ?_
      refine o_nil ?_
      refine x_then (hK12 _ _ ?_)
      refine c_true rfl ?_
      refine c_seq fun _ hK13 => ?_
      refine c_region ?_
      refine o_step rfl (s_move rfl) ?_
      refine o_step rfl (s_move rfl) ?_
      by_cases hpn : p = n
      ·
       refine o_step rfl (step_cast (v' := .bool true) (s_eql rfl rfl) (by rw [decide_eq_true (by omega)])) ?_
       refine o_nil ?_
       refine x_then (hK13 _ _ ?_)
       refine c_true rfl ?_
       refine c_region ?_
       refine o_step rfl (s_move rfl) ?_
       refine o_step rfl (s_move rfl) ?_
       refine o_step rfl (s_add rfl rfl (by omega)) ?_
       refine o_bs (E := Eix) (xs := [t + 1]) (vs := [_]) rfl rfl rfl rfl rfl (by decide) (by decide) fun b58 S58 hS58 => ?_
       refine o_app hD1 (hS58.rdk hiA) rfl rfl rfl rfl (by simp only [List.length_cons, List.length_nil]; omega) (by simp only [List.length_cons, List.length_nil]; omega) rfl pkA fun a59 c59 S59 hS59 => ?_
       refine o_step rfl (s_assign rfl) ?_
       refine o_nil ?_
       refine x_block ?_
       refine x_block ?_
       exact x_then (x_inv ((sn.set t true), S', ⟨a59, c59, tl ++ [t + 1]⟩, S59) ⟨by have := hR.go hM hu; rwa [show succs u n p t = [t + 1] by simp [succs, k3, hpn]] at this, hS', hS59, by simp only [List.length_append, List.length_cons, List.length_nil]; omega⟩ (by simp only [List.length_append, List.length_cons, List.length_nil]; omega) sbA hzB)
      ·
       refine o_step rfl (step_cast (v' := .bool false) (s_eql rfl rfl) (by rw [decide_eq_false (by omega)])) ?_
       refine o_nil ?_
       refine x_then (hK13 _ _ ?_)
       refine c_false rfl ?_
       refine c_skip ?_
       refine x_block ?_
       refine x_block ?_
       exact x_then (x_inv ((sn.set t true), S', ⟨q.a, q.c, tl⟩, Sd) ⟨by have := hR.go hM hu; rwa [show succs u n p t = [] by simp [succs, k3, hpn], List.append_nil] at this, hS', hD1, by simp only [List.length_append, List.length_cons, List.length_nil]; omega⟩ (by simp only [List.length_append, List.length_cons, List.length_nil]; omega) sbA hzB)
     ·
      refine o_step rfl (step_cast (v' := .bool false) (s_eql rfl rfl) (by rw [decide_eq_false (by omega)])) ?_
      refine o_step rfl (s_assign rfl) ?_
      refine o_nil ?_
      refine x_then (hK12 _ _ ?_)
      refine c_false rfl ?_
      refine c_seq fun _ hK14 => ?_
      refine c_region ?_
      by_cases k4 : u.op = 4
      ·
       obtain ⟨X, hX⟩ : ∃ X : Nat, u.x = X := ⟨u.x.toNat, by omega⟩
       refine o_step rfl (step_cast (v' := .bool true) (s_eql rfl rfl) (by rw [decide_eq_true (by omega)])) ?_
       refine o_step rfl (s_assign rfl) ?_
       refine o_nil ?_
       refine x_then (hK14 _ _ ?_)
       refine c_true rfl ?_
       refine c_region ?_
       refine o_step rfl (s_move rfl) ?_
       refine o_step rfl (s_move rfl) ?_
       refine o_step rfl (s_move rfl) ?_
       refine o_step rfl (s_idx rfl rfl hsl (by omega)) ?_
       refine o_step rfl (s_field rfl rfl (by decide)) ?_
       refine o_step rfl (step_cast (v' := .int .i64 (X : Nat)) (s_ld rfl ((RdK.old hw.1 hw.2).ld t 5 hu rfl (by decide) (by omega))) (by rw [hX])) ?_
       refine o_bs (E := Eix) (xs := [X]) (vs := [_]) rfl rfl rfl rfl rfl (by decide) (by decide) fun b68 S68 hS68 => ?_
       refine o_app hD1 (hS68.rdk hiA) rfl rfl rfl rfl (by simp only [List.length_cons, List.length_nil]; omega) (by simp only [List.length_cons, List.length_nil]; omega) rfl pkA fun a69 c69 S69 hS69 => ?_
       refine o_step rfl (s_assign rfl) ?_
       refine o_nil ?_
       refine x_block ?_
       refine x_block ?_
       exact x_then (x_inv ((sn.set t true), S', ⟨a69, c69, tl ++ [X]⟩, S69) ⟨by have := hR.go hM hu; rwa [show succs u n p t = [X] by simp [succs, k4, hX]] at this, hS', hS69, by simp only [List.length_append, List.length_cons, List.length_nil]; omega⟩ (by simp only [List.length_append, List.length_cons, List.length_nil]; omega) sbA hzB)
      ·
       refine o_step rfl (step_cast (v' := .bool false) (s_eql rfl rfl) (by rw [decide_eq_false (by omega)])) ?_
       refine o_step rfl (s_assign rfl) ?_
       refine o_nil ?_
       refine x_then (hK14 _ _ ?_)
       refine c_false rfl ?_
       refine c_seq fun _ hK15 => ?_
       refine c_region ?_
       by_cases k5 : u.op = 5
       ·
        obtain ⟨X, hX⟩ : ∃ X : Nat, u.x = X := ⟨u.x.toNat, by omega⟩
        obtain ⟨Y, hY⟩ : ∃ Y : Nat, u.y = Y := ⟨u.y.toNat, by omega⟩
        refine o_step rfl (step_cast (v' := .bool true) (s_eql rfl rfl) (by rw [decide_eq_true (by omega)])) ?_
        refine o_step rfl (s_assign rfl) ?_
        refine o_nil ?_
        refine x_then (hK15 _ _ ?_)
        refine c_true rfl ?_
        refine c_drawE ([]) (fun i => false) ?_
        refine e_take 0 rfl (by kernel_rfl) (by kernel_rfl) (by kernel_rfl) (by kernel_rfl) (fun _ _ => rfl) rfl (by exact HSub.nil) (s_move rfl) ?_
        refine e_take 1 rfl (by kernel_rfl) (by kernel_rfl) (by kernel_rfl) (by kernel_rfl) (fun _ _ => rfl) rfl (by exact HSub.nil) (s_move rfl) ?_
        refine e_take 2 rfl (by kernel_rfl) (by kernel_rfl) (by kernel_rfl) (by kernel_rfl) (fun _ _ => rfl) rfl (by exact HSub.nil) (s_move rfl) ?_
        refine e_take 3 rfl (by kernel_rfl) (by kernel_rfl) (by kernel_rfl) (by kernel_rfl) (fun _ _ => rfl) rfl (by exact HSub.nil) (s_idx rfl rfl hsl (by omega)) ?_
        refine e_take 4 rfl (by kernel_rfl) (by kernel_rfl) (by kernel_rfl) (by kernel_rfl) (fun _ _ => rfl) rfl (by exact HSub.nil) (s_field rfl rfl (by decide)) ?_
        refine e_take 5 rfl (by kernel_rfl) (by kernel_rfl) (by kernel_rfl) (by kernel_rfl) (fun _ _ => rfl) rfl (by exact HSub.nil) (step_cast (v' := .int .i64 (X : Nat)) (s_ld rfl ((RdK.old hw.1 hw.2).ld t 5 hu rfl (by decide) (by omega))) (by rw [hX])) ?_
        refine e_take 6 rfl (by kernel_rfl) (by kernel_rfl) (by kernel_rfl) (by kernel_rfl) (fun _ _ => rfl) rfl (by exact HSub.nil) (s_move rfl) ?_
        refine e_take 7 rfl (by kernel_rfl) (by kernel_rfl) (by kernel_rfl) (by kernel_rfl) (fun _ _ => rfl) rfl (by exact HSub.nil) (s_move rfl) ?_
        refine e_take 8 rfl (by kernel_rfl) (by kernel_rfl) (by kernel_rfl) (by kernel_rfl) (fun _ _ => rfl) rfl (by exact HSub.nil) (s_idx rfl rfl hsl (by omega)) ?_
        refine e_take 9 rfl (by kernel_rfl) (by kernel_rfl) (by kernel_rfl) (by kernel_rfl) (fun _ _ => rfl) rfl (by exact HSub.nil) (s_field rfl rfl (by decide)) ?_
        refine e_take 10 rfl (by kernel_rfl) (by kernel_rfl) (by kernel_rfl) (by kernel_rfl) (fun _ _ => rfl) rfl (by exact HSub.nil) (step_cast (v' := .int .i64 (Y : Nat)) (s_ld rfl ((RdK.old hw.1 hw.2).ld t 6 hu rfl (by decide) (by omega))) (by rw [hY])) ?_
        refine e_one 11 rfl (by kernel_rfl) ?_
        refine o_bs (E := Eix) (xs := [X, Y]) (vs := [_, _]) rfl rfl rfl rfl rfl (by decide) (by decide) fun b83 S83 hS83 => ?_
        refine o_nil ?_
        refine x_oneS (by exact HSub.nil) ?_
        refine e_one 12 rfl (by kernel_rfl) ?_
        refine o_app hD1 (hS83.rdk hiA) rfl rfl rfl rfl (by simp only [List.length_cons, List.length_nil]; omega) (by simp only [List.length_cons, List.length_nil]; omega) rfl pkA fun a84 c84 S84 hS84 => ?_
        refine o_nil ?_
        refine x_oneS (by exact HSub.nil) ?_
        refine e_one 13 rfl (by kernel_rfl) ?_
        refine o_step rfl (s_assign rfl) ?_
        refine o_nil ?_
        refine x_oneS (by exact HSub.nil) ?_
        refine e_done (by kernel_rfl) ?_
        refine x_block ?_
        refine x_block ?_
        exact x_then (x_inv ((sn.set t true), S', ⟨a84, c84, tl ++ [X, Y]⟩, S84) ⟨by have := hR.go hM hu; rwa [show succs u n p t = [X, Y] by simp [succs, k5, hX, hY]] at this, hS', hS84, by simp only [List.length_append, List.length_cons, List.length_nil]; omega⟩ (by simp only [List.length_append, List.length_cons, List.length_nil]; omega) sbA hzB)
       ·
        refine o_step rfl (step_cast (v' := .bool false) (s_eql rfl rfl) (by rw [decide_eq_false (by omega)])) ?_
        refine o_step rfl (s_assign rfl) ?_
        refine o_nil ?_
        refine x_then (hK15 _ _ ?_)
        refine c_false rfl ?_
        refine c_skip ?_
        refine x_block ?_
        refine x_block ?_
        exact x_then (x_inv ((sn.set t true), S', ⟨q.a, q.c, tl⟩, Sd) ⟨by have := hR.go hM hu; rwa [show succs u n p t = [] by simp [succs, k2, k3, k4, k5], List.append_nil] at this, hS', hD1, by simp only [List.length_append, List.length_cons, List.length_nil]; omega⟩ (by simp only [List.length_append, List.length_cons, List.length_nil]; omega) sbA hzB)
  ·
   have hxe : q.xs = [] := List.eq_nil_of_length_eq_zero (by omega)
   rw [hxe] at hR
   refine o_step rfl (step_cast (v' := .bool false) (s_gtr rfl rfl) (by rw [decide_eq_false (by omega)])) ?_
   refine o_nil ?_
   refine x_then (hK3 _ _ ?_)
   refine c_false rfl ?_
   refine c_exit ?_
   refine x_then_exit ?_
   refine x_then_exit ?_
   refine x_block_exit ?_
   refine x_sub (Sub.refl _) (H' := S1) hzB ?_
   exact x_end rfl (.nil) (⟨sn, hO1, hR.done⟩)
end Go.Proofs.YtihbhlgognpmmaaDoor

/- Part of the proofs over this seat: see the text that holds the theorem. Conditions: each theorem bears its own. -/
namespace Go.Proofs.YtihbhlgognpmmaaDoor
open Go Go.HL Go.Proofs Go.HL.Kl Go.HL.Kl.Mc
theorem rHas_fn (c : Cl) (x : Nat) (hx : x < 256) : HL.Fn Tryd.prog 54 [.agg (Ec c).toArray, .int .u8 x] (fun _ => True) [] (fun v _ => v = .bool (c.getLsbD x)) := by
  refine fn_of Tryd.func54 rfl rfl rfl fun w0 hw => ?_
  refine c_seq fun _ hK1 => ?_
  refine c_region ?_
  refine o_box rfl rfl rfl fun b2 => ?_
  refine o_step rfl (s_assign rfl) ?_
  refine o_nil ?_
  refine x_then (hK1 _ _ ?_)
  refine c_seq fun _ hK2 => ?_
  refine c_region ?_
  refine o_step rfl (s_move rfl) ?_
  refine o_step rfl (step_cast (v' := .int .u8 ((x / 64 : Nat) : Int)) (s_quo rfl rfl (by decide)) (congrArg _ (quo64 hx))) ?_
  refine o_step rfl (s_idx1 rfl rfl (by omega)) ?_
  refine o_step rfl (s_ld rfl ((RdPK.own meA).cel (j := x / 64) (Ec_get _ (by omega)) (by omega))) ?_
  refine o_step rfl (s_move rfl) ?_
  refine o_step rfl (step_cast (v' := .int .u8 ((x % 64 : Nat) : Int)) (s_rem rfl rfl (by decide)) (congrArg _ (rem64 hx))) ?_
  refine o_step rfl (s_shr rfl rfl (by omega)) ?_
  refine o_step rfl (s_and rfl rfl) ?_
  refine o_step rfl (step_cast (v' := .bool (c.getLsbD x)) (s_eql rfl rfl) (congrArg Value.bool (hasB c hx))) ?_
  refine o_step rfl (s_assign rfl) ?_
  refine o_nil ?_
  refine x_then (hK2 _ _ ?_)
  refine c_ret ?_
  refine ?_
  exact x_ret rfl (.tmp rfl (.nil)) (rfl)
end Go.Proofs.YtihbhlgognpmmaaDoor
