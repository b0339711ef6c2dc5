/- Part of the proofs over this seat: see the text that holds the theorem. Conditions: each theorem bears its own. -/
import Derived.Test.YtopmnmigpbdddaaGreatDoorZT8Z
import Derived.Test.YtopmnmigpbdddaaGreatDoorZN5Z
import Derived.Test.YtopmnmigpbdddaaGreatDoorMT7Z
import Derived.Test.YtopmnmigpbdddaaGreatDoorHTZ
import Derived.Test.YtopmnmigpbdddaaGreatDoorMT3Z
import Derived.Test.YtopmnmigpbdddaaGreatDoorZE6Z
import Derived.Test.YtopmnmigpbdddaaGreatDoorHMZ
namespace Go.Proofs.YtopmnmigpbdddaaGreatDoor
open Go Go.HL Go.Proofs Go.HL.Kl Go.HL.Kl.Mc
theorem rWeight_fn (ra : Option Addr) (rc : Nat) (re : List Nd) (hre : ∀ x ∈ re, -128 ≤ x.op ∧ x.op < 128) : HL.Fn Tryz.prog 109 [.slice ra re.length rc] (fun w => Rd En w (.slice ra re.length rc) re) [] (fun v _ => ∃ n : Nat, n ≤ 16385 ∧ v = .int .i64 n) := by
  refine fn_of Tryz.func109 rfl rfl rfl fun w0 hw => ?_; refine c_seq fun _ hK1 => ?_; refine c_region ?_; refine o_step rfl (s_assign rfl) ?_; refine o_nil ?_; refine x_then (hK1 _ _ ?_); refine c_seq fun _ hK2 => ?_; refine c_seq fun _ hK3 => ?_; refine c_region ?_; refine o_step rfl (s_move rfl) ?_; refine o_callP (rShaped_fn ra rc re hre) rfl rfl rfl (fun w st => (RdK.old0 hw).out w st) (fun v6 hv6 => ?_); subst hv6
  cases hsb : shapedB re
  ·
   refine o_step rfl (s_not rfl) ?_; refine o_nil ?_; refine x_then (hK3 _ _ ?_); refine c_true rfl ?_; refine c_seq fun _ hK4 => ?_; refine c_region ?_; refine o_step rfl (s_assign rfl) ?_; refine o_nil ?_; refine x_then (hK4 _ _ ?_); refine c_ret ?_; refine x_then_ret (?_); exact x_ret rfl (.tmp rfl (.nil)) (⟨0, by omega, rfl⟩)
  ·
   obtain ⟨_, x, ks, hs⟩ := shapedB_iff.1 hsb
   refine o_step rfl (s_not rfl) ?_; refine o_nil ?_; refine x_then (hK3 _ _ ?_); refine c_false rfl ?_; refine c_skip ?_; refine x_then (hK2 _ _ ?_); refine c_seq fun _ hK5 => ?_; refine c_region ?_; refine o_step rfl (s_move rfl) ?_; refine o_callP (rWeigh_fn (ks.size + 1) x ks (by omega) ra rc re 0 _ hre hs.part) rfl rfl rfl (fun w st => (RdK.old0 hw).out w st) (fun v10 hv10 => ?_); subst hv10
   refine o_step rfl (s_move rfl) ?_; refine o_step rfl (s_extract rfl rfl) ?_; refine o_step rfl (s_extract rfl rfl) ?_; refine o_step rfl (s_assign rfl) ?_; refine o_step rfl (s_assign rfl) ?_; refine o_nil ?_; refine x_then (hK5 _ _ ?_); refine c_seq fun _ hK6 => ?_; refine c_region ?_; refine o_step rfl (s_move rfl) ?_; refine o_step rfl (s_assign rfl) ?_; refine o_nil ?_; refine x_then (hK6 _ _ ?_); refine c_ret ?_; refine ?_; exact x_ret rfl (.tmp rfl (.nil)) (⟨_, cut_le _, rfl⟩)

set_option maxHeartbeats 1000000 in
theorem beyond_fn (ra : Option Addr) (rc : Nat) (re : List Nd) (hre : ∀ x ∈ re, -128 ≤ x.op ∧ x.op < 128) : HL.Fn Tryz.prog 102 [.slice ra re.length rc] (fun w => Rd En w (.slice ra re.length rc) re) [] (fun v _ => ∃ b, v = .bool b) := by
  refine fn_of Tryz.func102 rfl rfl rfl fun w0 hw => ?_
  have hsl := hw.sl
  have hbl := hsl.le
  refine c_seq fun _ hK1 => ?_; refine c_region ?_; refine o_step rfl (s_assign rfl) ?_; refine o_nil ?_; refine x_then (hK1 _ _ ?_); refine c_seq fun _ hK2 => ?_; refine c_region ?_; refine o_step rfl (s_assign rfl) ?_; refine o_nil ?_; refine x_then (hK2 _ _ ?_); refine c_seq fun _ hK3 => ?_; refine c_seq fun _ hK4 => ?_; refine c_region ?_; refine o_step rfl (s_assign rfl) ?_; refine o_nil ?_; refine x_then (hK4 _ _ ?_); refine c_block ?_
  -- not carried: 2
  refine c_loop3 (fun (j : Nat) (q : Sl Int) (S : Hp) => j ≤ re.length ∧ q.xs.length ≤ 65536 ∧ OwnS Ei 1 3 (.slice q.a q.xs.length q.c) q.xs S) (fun (j : Nat) (q : Sl Int) (S : Hp) => [(4, .int .i64 j), (3, .slice q.a q.xs.length q.c)]) [(0, _)] (fun (j : Nat) (q : Sl Int) (S : Hp) => S) (fun (j : Nat) (q : Sl Int) (S : Hp) => re.length - j) 0 ⟨none, 0, []⟩ [] ⟨by omega, by simp, .nil⟩ sbA sbA hzB ?_
  rintro j q0 S0 ⟨hj, hq0, hO0⟩
  refine c_seq fun _ hK5 => ?_; refine c_seq fun _ hK6 => ?_; refine c_region ?_; refine o_step rfl (s_move rfl) ?_; refine o_step rfl (s_move rfl) ?_; refine o_step rfl (s_len rfl) ?_
  by_cases hjl : j < re.length
  ·
   obtain ⟨x, hx⟩ : ∃ x, re[j]? = some x := ⟨_, List.getElem?_eq_getElem hjl⟩
   refine o_step rfl (step_cast (v' := .bool true) (s_lss rfl rfl) (by rw [decide_eq_true (by omega)])) ?_; refine o_nil ?_; refine x_then (hK6 _ _ ?_); refine c_true rfl ?_; refine c_skip ?_; refine x_then (hK5 _ _ ?_); refine c_seq fun _ hK7 => ?_; refine c_block ?_; refine c_seq fun _ hK8 => ?_; refine c_block ?_; refine c_loop2 (fun (q : Sl Int) (S : Hp) => q.xs.length ≤ 65536 ∧ OwnS Ei 1 3 (.slice q.a q.xs.length q.c) q.xs S) (fun (q : Sl Int) (S : Hp) => [(3, .slice q.a q.xs.length q.c)]) [(0, _), (4, _), (5, _), (6, _), (7, _), (8, _)] (fun (q : Sl Int) (S : Hp) => S) (fun (q : Sl Int) (S : Hp) => q.xs.length) q0 S0 ⟨hq0, hO0⟩ sbA sbA hzB ?_
   rintro q S ⟨hq, hO⟩
   have hOs := hO.sl
   have hOc := hOs.cap
   refine c_seq fun _ hK9 => ?_; refine c_seq fun _ hK10 => ?_; refine c_region ?_; refine o_step rfl (s_move rfl) ?_; refine o_step rfl (s_len rfl) ?_
   by_cases hp0 : (q.xs.length : Int) > 0
   ·
    obtain ⟨u, hu⟩ : ∃ u, q.xs[q.xs.length - 1]? = some u := ⟨_, List.getElem?_eq_getElem (by omega)⟩
    have hO1 := hO.pre (q.xs.length - 1) (by omega)
    have hql1 : (q.xs.take (q.xs.length - 1)).length = q.xs.length - 1 := by rw [List.length_take]; omega
    refine o_step rfl (step_cast (v' := .bool true) (s_gtr rfl rfl) (by rw [decide_eq_true (by omega)])) ?_; refine o_step rfl (s_move rfl) ?_; refine o_yes rfl rfl ?_; refine o_step rfl (s_move rfl) ?_; refine o_yes rfl rfl ?_; refine o_step rfl (s_move rfl) ?_; refine o_yes rfl rfl ?_; refine o_step rfl (s_len rfl) ?_; refine o_yes rfl rfl ?_; refine o_step rfl (s_sub rfl rfl (by omega)) ?_; refine o_yes rfl rfl ?_; refine o_step rfl (s_idx rfl rfl hOs (by omega)) ?_; refine o_yes rfl rfl ?_; refine o_step rfl (s_ld rfl ((hO.rdk hiA).ld (q.xs.length - 1) 0 hu rfl (by decide) (by omega))) ?_; refine o_yes rfl rfl ?_
    by_cases hle : u ≤ 0
    ·
     refine o_step rfl (step_cast (v' := .bool true) (s_leq rfl rfl) (by rw [decide_eq_true (by omega)])) ?_; refine o_step rfl (s_pick_t rfl rfl) ?_; refine o_nil ?_; refine x_then (hK10 _ _ ?_); refine c_true rfl ?_; refine c_skip ?_; refine x_then (hK9 _ _ ?_); refine c_block ?_; refine c_region ?_; refine o_step rfl (s_move rfl) ?_; refine o_step rfl (s_move rfl) ?_; refine o_step rfl (s_len rfl) ?_; refine o_step rfl (s_sub rfl rfl (by omega)) ?_; refine o_step rfl (step_cast (v' := .slice q.a (q.xs.take (q.xs.length - 1)).length q.c) (s_slice_hi rfl rfl (by omega)) (by rw [hql1]; congr 1; omega)) ?_; refine o_step rfl (s_assign rfl) ?_; refine o_nil ?_; refine x_block ?_; exact x_then (x_inv (⟨q.a, q.c, q.xs.take (q.xs.length - 1)⟩, S) ⟨by rw [hql1]; omega, by dsimp only; rw [hql1]; exact hO1⟩ (by dsimp only; rw [hql1]; omega) sbA hzB)
    ·
     refine o_step rfl (step_cast (v' := .bool false) (s_leq rfl rfl) (by rw [decide_eq_false (by omega)])) ?_; refine o_step rfl (s_pick_t rfl rfl) ?_; refine o_nil ?_; refine x_then (hK10 _ _ ?_); refine c_false rfl ?_; refine c_exit ?_; refine x_then_exit ?_; refine x_then_exit ?_; refine x_block_exit ?_; refine x_then (hK8 _ _ ?_); refine c_seq fun _ hK11 => ?_; refine c_seq fun _ hK12 => ?_; refine c_region ?_; refine o_step rfl (s_move rfl) ?_; refine o_step rfl (s_len rfl) ?_
     by_cases hp1 : (q.xs.length : Int) > 0
     ·
      obtain ⟨u2, hu2⟩ : ∃ u, q.xs[q.xs.length - 1]? = some u := ⟨_, List.getElem?_eq_getElem (by omega)⟩
      refine o_step rfl (step_cast (v' := .bool true) (s_gtr rfl rfl) (by rw [decide_eq_true (by omega)])) ?_; refine o_nil ?_; refine x_then (hK12 _ _ ?_); refine c_true rfl ?_; refine c_region ?_; refine o_step rfl (s_move rfl) ?_; refine o_step rfl (s_move rfl) ?_; refine o_step rfl (s_len rfl) ?_; refine o_step rfl (s_sub rfl rfl (by omega)) ?_; refine o_step rfl (s_move rfl) ?_; refine o_step rfl (s_move rfl) ?_; refine o_step rfl (s_len rfl) ?_; refine o_step rfl (s_sub rfl rfl (by omega)) ?_; refine o_step rfl (s_idx rfl rfl hOs (by omega)) ?_; refine o_step rfl (s_ld rfl ((hO.rdk hiA).ld (q.xs.length - 1) 0 hu2 rfl (by decide) (by omega))) ?_; refine o_step rfl (s_subw rfl rfl) ?_; refine o_step rfl (s_idx rfl rfl hOs (by omega)) ?_; refine o_stS1 (q.xs.length - 1) _ hO pkA rfl rfl rfl (by omega) (by omega) fun S' hS' => ?_
      have hO := hS'
      refine o_nil ?_; refine x_then (hK11 _ _ ?_); refine c_seq fun _ hK13 => ?_; refine c_region ?_; refine o_step rfl (s_move rfl) ?_; refine o_step rfl (s_move rfl) ?_; refine o_step rfl (s_move rfl) ?_; refine o_step rfl (s_idx rfl rfl hsl (by omega)) ?_; refine o_step rfl (s_field rfl rfl (by decide)) ?_; refine o_step rfl (s_ld rfl ((RdK.old0 hw).ld j 8 hx rfl (by decide) (by omega))) ?_; refine o_bs (E := Ei) (xs := [x.kids]) (vs := [_]) rfl rfl rfl rfl rfl (by decide) (by decide) fun b49 S49 hS49 => ?_; refine o_app hO (hS49.rdk hiA) rfl rfl rfl rfl (by simp; omega) (by simp; omega) rfl pkA fun a50 c50 S50 hS50 => ?_; refine o_step rfl (s_assign rfl) ?_; refine o_nil ?_; refine x_then (hK13 _ _ ?_); refine c_seq fun _ hK14 => ?_; refine c_region ?_; refine o_step rfl (s_move rfl) ?_; refine o_step rfl (s_len rfl) ?_; refine o_step rfl (s_gtr rfl rfl) ?_; refine o_nil ?_; refine x_then (hK14 _ _ ?_)
      refine c_if rfl (fun hbig => ?_) (fun hbig => ?_)
      ·
       refine c_seq fun _ hK15 => ?_; refine c_region ?_; refine o_step rfl (s_assign rfl) ?_; refine o_nil ?_; refine x_then (hK15 _ _ ?_); refine c_ret ?_; refine x_block_ret (x_then_ret (x_then_ret (x_block_ret (x_then_ret (?_)))))
       exact x_ret rfl (.tmp rfl (.nil)) (⟨_, rfl⟩)
      ·
       refine c_skip ?_; refine x_block ?_; refine x_then (hK7 _ _ ?_); refine c_region ?_; refine o_step rfl (s_move rfl) ?_; refine o_step rfl (s_add rfl rfl (by omega)) ?_; refine o_step rfl (s_assign rfl) ?_; refine o_nil ?_; exact x_then (x_inv (j + 1, ⟨a50, c50, _⟩, S50) ⟨by omega, by dsimp only; omega, hS50⟩ (by first | omega | (dsimp only; omega)) sbA hzB)
     ·
      refine o_step rfl (step_cast (v' := .bool false) (s_gtr rfl rfl) (by rw [decide_eq_false (by omega)])) ?_; refine o_nil ?_; refine x_then (hK12 _ _ ?_); refine c_false rfl ?_; refine c_skip ?_; refine x_then (hK11 _ _ ?_); refine c_seq fun _ hK16 => ?_; refine c_region ?_; refine o_step rfl (s_move rfl) ?_; refine o_step rfl (s_move rfl) ?_; refine o_step rfl (s_move rfl) ?_; refine o_step rfl (s_idx rfl rfl hsl (by omega)) ?_; refine o_step rfl (s_field rfl rfl (by decide)) ?_; refine o_step rfl (s_ld rfl ((RdK.old0 hw).ld j 8 hx rfl (by decide) (by omega))) ?_; refine o_bs (E := Ei) (xs := [x.kids]) (vs := [_]) rfl rfl rfl rfl rfl (by decide) (by decide) fun b49 S49 hS49 => ?_; refine o_app hO (hS49.rdk hiA) rfl rfl rfl rfl (by simp; omega) (by simp; omega) rfl pkA fun a50 c50 S50 hS50 => ?_; refine o_step rfl (s_assign rfl) ?_; refine o_nil ?_; refine x_then (hK16 _ _ ?_); refine c_seq fun _ hK17 => ?_
      refine c_region ?_; refine o_step rfl (s_move rfl) ?_; refine o_step rfl (s_len rfl) ?_; refine o_step rfl (s_gtr rfl rfl) ?_; refine o_nil ?_; refine x_then (hK17 _ _ ?_); refine c_if rfl (fun hbig => ?_) (fun hbig => ?_)
      ·
       refine c_seq fun _ hK18 => ?_; refine c_region ?_; refine o_step rfl (s_assign rfl) ?_; refine o_nil ?_; refine x_then (hK18 _ _ ?_); refine c_ret ?_; refine x_block_ret (x_then_ret (x_then_ret (x_block_ret (x_then_ret (?_)))))
       exact x_ret rfl (.tmp rfl (.nil)) (⟨_, rfl⟩)
      ·
       refine c_skip ?_; refine x_block ?_; refine x_then (hK7 _ _ ?_); refine c_region ?_; refine o_step rfl (s_move rfl) ?_; refine o_step rfl (s_add rfl rfl (by omega)) ?_; refine o_step rfl (s_assign rfl) ?_; refine o_nil ?_; exact x_then (x_inv (j + 1, ⟨a50, c50, _⟩, S50) ⟨by omega, by dsimp only; omega, hS50⟩ (by first | omega | (dsimp only; omega)) sbA hzB)
   ·
    refine o_step rfl (step_cast (v' := .bool false) (s_gtr rfl rfl) (by rw [decide_eq_false (by omega)])) ?_; refine o_step rfl (s_move rfl) ?_; refine o_no rfl rfl rfl rfl ?_; refine o_no rfl rfl rfl rfl ?_; refine o_no rfl rfl rfl rfl ?_; refine o_no rfl rfl rfl rfl ?_; refine o_no rfl rfl rfl rfl ?_; refine o_no rfl rfl rfl rfl ?_; refine o_no rfl rfl rfl rfl ?_; refine o_step rfl (s_pick_f rfl rfl) ?_; refine o_nil ?_; refine x_then (hK10 _ _ ?_); refine c_false rfl ?_; refine c_exit ?_; refine x_then_exit ?_; refine x_then_exit ?_; refine x_block_exit ?_; refine x_then (hK8 _ _ ?_); refine c_seq fun _ hK19 => ?_; refine c_seq fun _ hK20 => ?_; refine c_region ?_; refine o_step rfl (s_move rfl) ?_; refine o_step rfl (s_len rfl) ?_
    by_cases hp1 : (q.xs.length : Int) > 0
    ·
     obtain ⟨u2, hu2⟩ : ∃ u, q.xs[q.xs.length - 1]? = some u := ⟨_, List.getElem?_eq_getElem (by omega)⟩
     refine o_step rfl (step_cast (v' := .bool true) (s_gtr rfl rfl) (by rw [decide_eq_true (by omega)])) ?_; refine o_nil ?_; refine x_then (hK20 _ _ ?_); refine c_true rfl ?_; refine c_region ?_; refine o_step rfl (s_move rfl) ?_; refine o_step rfl (s_move rfl) ?_; refine o_step rfl (s_len rfl) ?_; refine o_step rfl (s_sub rfl rfl (by omega)) ?_; refine o_step rfl (s_move rfl) ?_; refine o_step rfl (s_move rfl) ?_; refine o_step rfl (s_len rfl) ?_; refine o_step rfl (s_sub rfl rfl (by omega)) ?_; refine o_step rfl (s_idx rfl rfl hOs (by omega)) ?_; refine o_step rfl (s_ld rfl ((hO.rdk hiA).ld (q.xs.length - 1) 0 hu2 rfl (by decide) (by omega))) ?_; refine o_step rfl (s_subw rfl rfl) ?_; refine o_step rfl (s_idx rfl rfl hOs (by omega)) ?_; refine o_stS1 (q.xs.length - 1) _ hO pkA rfl rfl rfl (by omega) (by omega) fun S' hS' => ?_
     have hO := hS'
     refine o_nil ?_; refine x_then (hK19 _ _ ?_); refine c_seq fun _ hK21 => ?_; refine c_region ?_; refine o_step rfl (s_move rfl) ?_; refine o_step rfl (s_move rfl) ?_; refine o_step rfl (s_move rfl) ?_; refine o_step rfl (s_idx rfl rfl hsl (by omega)) ?_; refine o_step rfl (s_field rfl rfl (by decide)) ?_; refine o_step rfl (s_ld rfl ((RdK.old0 hw).ld j 8 hx rfl (by decide) (by omega))) ?_; refine o_bs (E := Ei) (xs := [x.kids]) (vs := [_]) rfl rfl rfl rfl rfl (by decide) (by decide) fun b49 S49 hS49 => ?_; refine o_app hO (hS49.rdk hiA) rfl rfl rfl rfl (by simp; omega) (by simp; omega) rfl pkA fun a50 c50 S50 hS50 => ?_; refine o_step rfl (s_assign rfl) ?_; refine o_nil ?_; refine x_then (hK21 _ _ ?_); refine c_seq fun _ hK22 => ?_; refine c_region ?_; refine o_step rfl (s_move rfl) ?_; refine o_step rfl (s_len rfl) ?_; refine o_step rfl (s_gtr rfl rfl) ?_; refine o_nil ?_; refine x_then (hK22 _ _ ?_)
     refine c_if rfl (fun hbig => ?_) (fun hbig => ?_)
     ·
      refine c_seq fun _ hK23 => ?_; refine c_region ?_; refine o_step rfl (s_assign rfl) ?_; refine o_nil ?_; refine x_then (hK23 _ _ ?_); refine c_ret ?_; refine x_block_ret (x_then_ret (x_then_ret (x_block_ret (x_then_ret (?_)))))
      exact x_ret rfl (.tmp rfl (.nil)) (⟨_, rfl⟩)
     ·
      refine c_skip ?_; refine x_block ?_; refine x_then (hK7 _ _ ?_); refine c_region ?_; refine o_step rfl (s_move rfl) ?_; refine o_step rfl (s_add rfl rfl (by omega)) ?_; refine o_step rfl (s_assign rfl) ?_; refine o_nil ?_; exact x_then (x_inv (j + 1, ⟨a50, c50, _⟩, S50) ⟨by omega, by dsimp only; omega, hS50⟩ (by first | omega | (dsimp only; omega)) sbA hzB)
    ·
     refine o_step rfl (step_cast (v' := .bool false) (s_gtr rfl rfl) (by rw [decide_eq_false (by omega)])) ?_; refine o_nil ?_; refine x_then (hK20 _ _ ?_); refine c_false rfl ?_; refine c_skip ?_; refine x_then (hK19 _ _ ?_); refine c_seq fun _ hK24 => ?_; refine c_region ?_; refine o_step rfl (s_move rfl) ?_; refine o_step rfl (s_move rfl) ?_; refine o_step rfl (s_move rfl) ?_; refine o_step rfl (s_idx rfl rfl hsl (by omega)) ?_; refine o_step rfl (s_field rfl rfl (by decide)) ?_; refine o_step rfl (s_ld rfl ((RdK.old0 hw).ld j 8 hx rfl (by decide) (by omega))) ?_; refine o_bs (E := Ei) (xs := [x.kids]) (vs := [_]) rfl rfl rfl rfl rfl (by decide) (by decide) fun b49 S49 hS49 => ?_; refine o_app hO (hS49.rdk hiA) rfl rfl rfl rfl (by simp; omega) (by simp; omega) rfl pkA fun a50 c50 S50 hS50 => ?_; refine o_step rfl (s_assign rfl) ?_; refine o_nil ?_; refine x_then (hK24 _ _ ?_); refine c_seq fun _ hK25 => ?_
     refine c_region ?_; refine o_step rfl (s_move rfl) ?_; refine o_step rfl (s_len rfl) ?_; refine o_step rfl (s_gtr rfl rfl) ?_; refine o_nil ?_; refine x_then (hK25 _ _ ?_); refine c_if rfl (fun hbig => ?_) (fun hbig => ?_)
     ·
      refine c_seq fun _ hK26 => ?_; refine c_region ?_; refine o_step rfl (s_assign rfl) ?_; refine o_nil ?_; refine x_then (hK26 _ _ ?_); refine c_ret ?_; refine x_block_ret (x_then_ret (x_then_ret (x_block_ret (x_then_ret (?_)))))
      exact x_ret rfl (.tmp rfl (.nil)) (⟨_, rfl⟩)
     ·
      refine c_skip ?_; refine x_block ?_; refine x_then (hK7 _ _ ?_); refine c_region ?_; refine o_step rfl (s_move rfl) ?_; refine o_step rfl (s_add rfl rfl (by omega)) ?_; refine o_step rfl (s_assign rfl) ?_; refine o_nil ?_; exact x_then (x_inv (j + 1, ⟨a50, c50, _⟩, S50) ⟨by omega, by dsimp only; omega, hS50⟩ (by first | omega | (dsimp only; omega)) sbA hzB)
  ·
   refine o_step rfl (step_cast (v' := .bool false) (s_lss rfl rfl) (by rw [decide_eq_false (by omega)])) ?_; refine o_nil ?_; refine x_then (hK6 _ _ ?_); refine c_false rfl ?_; refine c_exit ?_; refine x_then_exit ?_; refine x_then_exit ?_; refine x_block_exit ?_; refine x_then (hK3 _ _ ?_); refine c_seq fun _ hK27 => ?_; refine c_region ?_; refine o_step rfl (s_assign rfl) ?_; refine o_nil ?_; refine x_then (hK27 _ _ ?_); refine c_ret ?_; refine ?_; exact x_ret rfl (.tmp rfl (.nil)) (⟨_, rfl⟩)

end Go.Proofs.YtopmnmigpbdddaaGreatDoor

/- Part of the proofs over this seat: see the text that holds the theorem. Conditions: each theorem bears its own. -/
namespace Go.Proofs.YtopmnmigpbdddaaGreatDoor
open Go Go.HL Go.Proofs Go.HL.Kl Go.HL.Kl.Mc Go.HL.Kl.Mc.AskE
theorem costly_fn (ra : Option Addr) (rc : Nat) (re : List Nd) (hre : ∀ x ∈ re, -128 ≤ x.op ∧ x.op < 128) (n : Int) : HL.Fn Tryz.prog 107 [.slice ra re.length rc, .int .i64 n] (fun W => Rd En W (.slice ra re.length rc) re) [] (fun v _ => ∃ b : Bool, v = .bool b) := by
  refine fn_of Tryz.func107 rfl rfl rfl fun w0 hw => ?_; refine c_seq fun _ hK1 => ?_; refine c_region ?_; refine o_step rfl (s_assign rfl) ?_; refine o_nil ?_; refine x_then (hK1 _ _ ?_); refine c_seq fun _ hK2 => ?_; refine c_region ?_; refine o_step rfl (s_move rfl) ?_; refine o_step rfl (s_move rfl) ?_; refine o_callP (looked_fn ra rc re hre n) rfl rfl rfl (fun _ st => (RdK.old0 hw).out _ st) (fun v7 hv7 => ?_)
  obtain ⟨k, rfl⟩ := hv7
  refine o_step rfl (s_gtr rfl rfl) ?_; refine o_step rfl (s_assign rfl) ?_; refine o_nil ?_; refine x_then (hK2 _ _ ?_); refine c_ret ?_; refine ?_; exact x_ret rfl (.tmp rfl (.nil)) (⟨_, rfl⟩)

theorem squared_fn (m : Nat) (n : Int) : HL.Fn Tryz.prog 108 [.int .i64 m, .int .i64 n] (fun _ => True) [] (fun v _ => ∃ b : Bool, v = .bool b) := by
  refine fn_of Tryz.func108 rfl rfl rfl fun w0 hw => ?_; refine c_seq fun _ hK1 => ?_; refine c_region ?_; refine o_step rfl (s_assign rfl) ?_; refine o_nil ?_; refine x_then (hK1 _ _ ?_); refine c_seq fun _ hK2 => ?_; refine c_region ?_; refine o_step rfl (s_move rfl) ?_
  by_cases hn4 : n > 400
  ·
   refine o_step rfl (step_cast (v' := .bool true) (s_gtr rfl rfl) (by rw [decide_eq_true (by omega)])) ?_; refine o_step rfl (s_move rfl) ?_; refine o_no rfl rfl rfl rfl ?_; refine o_no rfl rfl rfl rfl ?_; refine o_no rfl rfl rfl rfl ?_; refine o_noU rfl rfl rfl ?_; refine o_noU rfl rfl rfl ?_; refine o_noU rfl rfl rfl ?_; refine o_noU rfl rfl rfl ?_; refine o_noU rfl rfl rfl ?_; refine o_noU rfl rfl rfl ?_; refine o_noU rfl rfl rfl ?_; refine o_noU rfl rfl rfl ?_; refine o_no rfl rfl rfl rfl ?_; refine o_step rfl (s_pick_t rfl rfl) ?_; refine o_step rfl (s_assign rfl) ?_; refine o_nil ?_; refine x_then (hK2 _ _ ?_); refine c_ret ?_; refine ?_; exact x_ret rfl (.tmp rfl (.nil)) (⟨_, rfl⟩)
  ·
   refine o_step rfl (step_cast (v' := .bool false) (s_gtr rfl rfl) (by rw [decide_eq_false (by omega)])) ?_; refine o_step rfl (s_move rfl) ?_; refine o_yes rfl rfl ?_; refine o_step rfl (s_move rfl) ?_; refine o_yes rfl rfl ?_
   by_cases hn0 : n ≥ 0
   ·
    obtain ⟨k, rfl⟩ : ∃ k : Nat, n = k := ⟨n.toNat, by omega⟩
    have hq0 : (0 : Int) < ((k : Int) + 1) * ((k : Int) + 1) := Int.mul_pos (by omega) (by omega)
    have hq1 : ((k : Int) + 1) * ((k : Int) + 1) ≤ 401 * 401 := Int.mul_le_mul (by omega) (by omega) (by omega) (by omega)
    refine o_step rfl (step_cast (v' := .bool true) (s_geq rfl rfl) (by rw [decide_eq_true (by omega)])) ?_; refine o_yes rfl rfl ?_; refine o_step rfl (s_move rfl) ?_; refine o_yes rfl rfl ?_; refine o_step rfl (s_move rfl) ?_; refine o_yes rfl rfl ?_; refine o_step rfl (s_move rfl) ?_; refine o_yes rfl rfl ?_; refine o_step rfl (s_add rfl rfl (by omega)) ?_; refine o_yes rfl rfl ?_; refine o_step rfl (s_move rfl) ?_; refine o_yes rfl rfl ?_; refine o_step rfl (s_add rfl rfl (by omega)) ?_; refine o_yes rfl rfl ?_; refine o_step rfl (s_mul rfl rfl (by omega)) ?_; refine o_yes rfl rfl ?_; refine o_step rfl (s_quo rfl rfl (by omega)) ?_; refine o_yes rfl rfl ?_; refine o_step rfl (s_gtr rfl rfl) ?_; refine o_yes rfl rfl ?_; refine o_step rfl (s_pick_t rfl rfl) ?_; refine o_step rfl (s_pick_f rfl rfl) ?_; refine o_step rfl (s_assign rfl) ?_; refine o_nil ?_; refine x_then (hK2 _ _ ?_); refine c_ret ?_
    refine ?_; exact x_ret rfl (.tmp rfl (.nil)) (⟨_, rfl⟩)
   ·
    refine o_step rfl (step_cast (v' := .bool false) (s_geq rfl rfl) (by rw [decide_eq_false (by omega)])) ?_; refine o_yes rfl rfl ?_; refine o_step rfl (s_move rfl) ?_; refine o_no rfl rfl rfl rfl ?_; refine o_no rfl rfl rfl rfl ?_; refine o_no rfl rfl rfl rfl ?_; refine o_no rfl rfl rfl rfl ?_; refine o_no rfl rfl rfl rfl ?_; refine o_no rfl rfl rfl rfl ?_; refine o_no rfl rfl rfl rfl ?_; refine o_no rfl rfl rfl rfl ?_; refine o_yes rfl rfl ?_; refine o_step rfl (s_pick_f rfl rfl) ?_; refine o_step rfl (s_pick_f rfl rfl) ?_; refine o_step rfl (s_assign rfl) ?_; refine o_nil ?_; refine x_then (hK2 _ _ ?_); refine c_ret ?_; refine ?_; exact x_ret rfl (.tmp rfl (.nil)) (⟨_, rfl⟩)

theorem heavy11_fn (ra : Option Addr) (rc : Nat) (re : List Nd) (hre : ∀ x ∈ re, -128 ≤ x.op ∧ x.op < 128) (n : Int) : HL.Fn Tryz.prog 55 [.slice ra re.length rc, .int .i64 n] (fun W => Rd En W (.slice ra re.length rc) re) [] (fun v _ => ∃ b : Bool, v = .bool b) := by
  refine fn_of Tryz.func55 rfl rfl rfl fun w0 hw => ?_; refine c_seq fun _ hK1 => ?_; refine c_region ?_; refine o_step rfl (s_assign rfl) ?_; refine o_nil ?_; refine x_then (hK1 _ _ ?_); refine c_seq fun _ hK2 => ?_; refine c_seq fun _ hK3 => ?_; refine c_region ?_; refine o_step rfl (s_move rfl) ?_; refine o_callP (rShaped_fn ra rc re hre) rfl rfl rfl (fun _ st => (RdK.old0 hw).out _ st) (fun v6 hv6 => ?_); subst hv6
  cases hsb : shapedB re
  ·
   refine o_step rfl (s_not rfl) ?_; refine o_step rfl (s_move rfl) ?_; refine o_no rfl rfl rfl rfl ?_; refine o_no rfl rfl rfl rfl ?_; refine o_step rfl (s_pick_t rfl rfl) ?_; refine o_nil ?_; refine x_then (hK3 _ _ ?_); refine c_true rfl ?_; refine c_seq fun _ hK4 => ?_; refine c_region ?_; refine o_step rfl (s_assign rfl) ?_; refine o_nil ?_; refine x_then (hK4 _ _ ?_); refine c_ret ?_; refine x_then_ret (?_); exact x_ret rfl (.tmp rfl (.nil)) (⟨_, rfl⟩)
  ·
   refine o_step rfl (s_not rfl) ?_; refine o_step rfl (s_move rfl) ?_; refine o_yes rfl rfl ?_; refine o_step rfl (s_move rfl) ?_; refine o_yes rfl rfl ?_
   by_cases hn0 : n < 0
   ·
    refine o_step rfl (step_cast (v' := .bool true) (s_lss rfl rfl) (by rw [decide_eq_true (by omega)])) ?_; refine o_step rfl (s_pick_f rfl rfl) ?_; refine o_nil ?_; refine x_then (hK3 _ _ ?_); refine c_true rfl ?_; refine c_seq fun _ hK5 => ?_; refine c_region ?_; refine o_step rfl (s_assign rfl) ?_; refine o_nil ?_; refine x_then (hK5 _ _ ?_); refine c_ret ?_; refine x_then_ret (?_); exact x_ret rfl (.tmp rfl (.nil)) (⟨_, rfl⟩)
   ·
    refine o_step rfl (step_cast (v' := .bool false) (s_lss rfl rfl) (by rw [decide_eq_false (by omega)])) ?_; refine o_step rfl (s_pick_f rfl rfl) ?_; refine o_nil ?_; refine x_then (hK3 _ _ ?_); refine c_false rfl ?_; refine c_skip ?_; refine x_then (hK2 _ _ ?_); refine c_seq fun _ hK6 => ?_; refine c_seq fun _ hK7 => ?_; refine c_region ?_; refine o_step rfl (s_move rfl) ?_; refine o_callP (rRefs_fn ra rc re hre) rfl rfl rfl (fun _ st => (RdK.old0 hw).out _ st) (fun v13 hv13 => ?_); subst hv13
    cases hrb : refsB re
    ·
     refine o_nil ?_; refine x_then (hK7 _ _ ?_); refine c_false rfl ?_; refine c_skip ?_; refine x_then (hK6 _ _ ?_); refine c_seq fun _ hK8 => ?_; refine c_region ?_; refine o_step rfl (s_move rfl) ?_; refine o_callP (rWeight_fn ra rc re hre) rfl rfl rfl (fun _ st => (RdK.old0 hw).out _ st) (fun v18 hv18 => ?_)
     obtain ⟨m, hm, rfl⟩ := hv18
     refine o_step rfl (s_move rfl) ?_; refine o_callP (squared_fn m n) rfl rfl rfl (fun _ _ => trivial) (fun v20 hv20 => ?_)
     obtain ⟨b, rfl⟩ := hv20
     refine o_step rfl (s_assign rfl) ?_; refine o_nil ?_; refine x_then (hK8 _ _ ?_); refine c_ret ?_; refine ?_; exact x_ret rfl (.tmp rfl (.nil)) (⟨_, rfl⟩)
    ·
     refine o_nil ?_; refine x_then (hK7 _ _ ?_); refine c_true rfl ?_; refine c_seq fun _ hK9 => ?_; refine c_region ?_; refine o_step rfl (s_move rfl) ?_; refine o_step rfl (s_move rfl) ?_; refine o_callP (costly_fn ra rc re hre n) rfl rfl rfl (fun _ st => (RdK.old0 hw).out _ st) (fun v16 hv16 => ?_)
     obtain ⟨b, rfl⟩ := hv16
     refine o_step rfl (s_assign rfl) ?_; refine o_nil ?_; refine x_then (hK9 _ _ ?_); refine c_ret ?_; refine x_then_ret (?_); exact x_ret rfl (.tmp rfl (.nil)) (⟨_, rfl⟩)

theorem longN_fn (n : Int) : HL.Fn Tryz.prog 42 [.int .i64 n] (fun _ => True) [] (fun v _ => v = .bool (decide (n > 2147483647))) := by
  refine fn_of Tryz.func42 rfl rfl rfl fun w0 hw => ?_; refine c_seq fun _ hK1 => ?_; refine c_region ?_; refine o_step rfl (s_assign rfl) ?_; refine o_nil ?_; refine x_then (hK1 _ _ ?_); refine c_seq fun _ hK2 => ?_; refine c_region ?_; refine o_step rfl (s_move rfl) ?_; refine o_step rfl (s_gtr rfl rfl) ?_; refine o_step rfl (s_assign rfl) ?_; refine o_nil ?_; refine x_then (hK2 _ _ ?_); refine c_ret ?_; refine ?_; exact x_ret rfl (.tmp rfl (.nil)) (rfl)

theorem long12_fn (ra : Option Addr) (rc : Nat) (re : List Nd) (hre : ∀ x ∈ re, -128 ≤ x.op ∧ x.op < 128)  (ta : Option Addr) (tc : Nat) (w : List UInt8) : HL.Fn Tryz.prog 41 [.slice ra re.length rc, .slice ta w.length tc] (fun W => Rd En W (.slice ra re.length rc) re) [] (fun v _ => ∃ b : Bool, v = .bool b) := by
  refine fn_of Tryz.func41 rfl rfl rfl fun w0 hw => ?_; refine c_seq fun _ hK1 => ?_; refine c_region ?_; refine o_step rfl (s_assign rfl) ?_; refine o_nil ?_; refine x_then (hK1 _ _ ?_); refine c_seq fun _ hK2 => ?_; refine c_region ?_; refine o_step rfl (s_move rfl) ?_; refine o_step rfl (s_len rfl) ?_; refine o_callP (longN_fn re.length) rfl rfl rfl (fun _ _ => trivial) (fun v7 hv7 => ?_); subst hv7
  cases decide ((re.length : Int) > 2147483647)
  ·
   refine o_step rfl (s_move rfl) ?_; refine o_yes rfl rfl ?_; refine o_step rfl (s_move rfl) ?_; refine o_yes rfl rfl ?_; refine o_callP (beyond_fn ra rc re hre) rfl rfl rfl (fun _ st => (RdK.old0 hw).out _ st) (fun v10 hv10 => ?_)
   obtain ⟨c10, rfl⟩ := hv10
   cases c10
   ·
    refine o_step rfl (s_pick_f rfl rfl) ?_; refine o_step rfl (s_move rfl) ?_; refine o_yes rfl rfl ?_; refine o_step rfl (s_move rfl) ?_; refine o_yes rfl rfl ?_; refine o_step rfl (s_len rfl) ?_; refine o_yes rfl rfl ?_; refine o_callP (longN_fn w.length) rfl rfl rfl (fun _ _ => trivial) (fun v15 hv15 => ?_); subst hv15
    refine o_step rfl (s_pick_f rfl rfl) ?_; refine o_step rfl (s_assign rfl) ?_; refine o_nil ?_; refine x_then (hK2 _ _ ?_); refine c_ret ?_; refine ?_; exact x_ret rfl (.tmp rfl (.nil)) (⟨_, rfl⟩)
   ·
    refine o_step rfl (s_pick_f rfl rfl) ?_; refine o_step rfl (s_move rfl) ?_; refine o_no rfl rfl rfl rfl ?_; refine o_no rfl rfl rfl rfl ?_; refine o_no rfl rfl rfl rfl ?_; refine o_step rfl (s_pick_t rfl rfl) ?_; refine o_step rfl (s_assign rfl) ?_; refine o_nil ?_; refine x_then (hK2 _ _ ?_); refine c_ret ?_; refine ?_; exact x_ret rfl (.tmp rfl (.nil)) (⟨_, rfl⟩)
  ·
   refine o_step rfl (s_move rfl) ?_; refine o_no rfl rfl rfl rfl ?_; refine o_no rfl rfl rfl rfl ?_; refine o_step rfl (s_pick_t rfl rfl) ?_; refine o_step rfl (s_move rfl) ?_; refine o_no rfl rfl rfl rfl ?_; refine o_no rfl rfl rfl rfl ?_; refine o_no rfl rfl rfl rfl ?_; refine o_step rfl (s_pick_t rfl rfl) ?_; refine o_step rfl (s_assign rfl) ?_; refine o_nil ?_; refine x_then (hK2 _ _ ?_); refine c_ret ?_; refine ?_; exact x_ret rfl (.tmp rfl (.nil)) (⟨_, rfl⟩)

theorem heavy12_fn (ra : Option Addr) (rc : Nat) (re : List Nd) (hre : ∀ x ∈ re, -128 ≤ x.op ∧ x.op < 128)  (ta : Option Addr) (tc : Nat) (w : List UInt8) : HL.Fn Tryz.prog 9 [.slice ra re.length rc, .slice ta w.length tc] (fun W => Rd En W (.slice ra re.length rc) re) [] (fun v _ => ∃ b : Bool, v = .bool b) := by
  refine fn_of Tryz.func9 rfl rfl rfl fun w0 hw => ?_; refine c_seq fun _ hK1 => ?_; refine c_region ?_; refine o_step rfl (s_assign rfl) ?_; refine o_nil ?_; refine x_then (hK1 _ _ ?_); refine c_seq fun _ hK2 => ?_; refine c_region ?_; refine o_step rfl (s_move rfl) ?_; refine o_step rfl (s_move rfl) ?_; refine o_callP (long12_fn ra rc re hre ta tc w) rfl rfl rfl (fun _ st => (RdK.old0 hw).out _ st) (fun v7 hv7 => ?_)
  obtain ⟨c7, rfl⟩ := hv7
  cases c7
  ·
   refine o_step rfl (s_move rfl) ?_; refine o_yes rfl rfl ?_; refine o_step rfl (s_move rfl) ?_; refine o_yes rfl rfl ?_; refine o_step rfl (s_move rfl) ?_; refine o_yes rfl rfl ?_; refine o_step rfl (s_len rfl) ?_; refine o_yes rfl rfl ?_; refine o_callP (heavy11_fn ra rc re hre w.length) rfl rfl rfl (fun _ st => (RdK.old0 hw).out _ st) (fun v12 hv12 => ?_)
   obtain ⟨b, rfl⟩ := hv12
   refine o_step rfl (s_pick_f rfl rfl) ?_; refine o_step rfl (s_assign rfl) ?_; refine o_nil ?_; refine x_then (hK2 _ _ ?_); refine c_ret ?_; refine ?_; exact x_ret rfl (.tmp rfl (.nil)) (⟨_, rfl⟩)
  ·
   refine o_step rfl (s_move rfl) ?_; refine o_no rfl rfl rfl rfl ?_; refine o_no rfl rfl rfl rfl ?_; refine o_no rfl rfl rfl rfl ?_; refine o_no rfl rfl rfl rfl ?_; refine o_step rfl (s_pick_t rfl rfl) ?_; refine o_step rfl (s_assign rfl) ?_; refine o_nil ?_; refine x_then (hK2 _ _ ?_); refine c_ret ?_; refine ?_; exact x_ret rfl (.tmp rfl (.nil)) (⟨_, rfl⟩)
end Go.Proofs.YtopmnmigpbdddaaGreatDoor

/- Mathematics of the longest match: the list of instructions to which runs come at a place. Conditions: none. -/
namespace Go.HL.Kl.Mc
open Go Go.HL Go.HL.Kl
def comeL (l : List Nat) (k : Nat) : List Nat := if k ∈ l then l else l ++ [k]
theorem comeL_mem {l : List Nat} {k j : Nat} : j ∈ comeL l k ↔ j ∈ l ∨ j = k := by
  unfold comeL
  split
  · exact ⟨.inl, fun h => h.elim id fun h => h ▸ ‹k ∈ l›⟩
  · simp
theorem comeL_pre {l : List Nat} {k i : Nat} (h : i < l.length) : (comeL l k)[i]? = l[i]? := by
  unfold comeL
  split
  · rfl
  · rw [List.getElem?_append_left h]
theorem comeL_len {l : List Nat} {k : Nat} : l.length ≤ (comeL l k).length ∧ (comeL l k).length ≤ l.length + 1 := by
  unfold comeL
  split <;> simp
theorem comeL_nd {l : List Nat} {k : Nat} (h : l.Nodup) : (comeL l k).Nodup := by
  unfold comeL
  split
  · exact h
  · rw [List.nodup_append]
    refine ⟨h, by simp, fun a ha b hb e => ?_⟩
    simp only [List.mem_singleton] at hb
    subst hb; subst e; exact ‹a ∉ l› ha
structure MetOk (mt : List Int) (st : Int) (l : List Nat) (N : Nat) : Prop where
  len : mt.length = N
  get : ∀ (k : Nat) v, mt[k]? = some v → (v = st ↔ k ∈ l)
  le : ∀ v ∈ mt, 0 ≤ v ∧ v ≤ st
  lt : ∀ k ∈ l, k < N
  nd : l.Nodup
theorem nodup_le : ∀ {N : Nat} {l : List Nat}, l.Nodup → (∀ k ∈ l, k < N) → l.length ≤ N
  | 0, l, _, hl => by
    cases l with
    | nil => exact Nat.le_refl _
    | cons a l => exact absurd (hl a List.mem_cons_self) (by omega)
  | N + 1, l, h, hl => by
    have h1 := nodup_le (N := N) (h.erase N) fun k hk => by
      have h2 := (h.mem_erase_iff).1 hk
      have := hl k h2.2
      have := h2.1
      omega
    by_cases hm : N ∈ l
    · rw [List.length_erase_of_mem hm] at h1; omega
    · rw [List.erase_of_not_mem hm] at h1; omega
theorem MetOk.big {mt : List Int} {st : Int} {l : List Nat} {N : Nat} (h : MetOk mt st l N) : l.length ≤ N := nodup_le h.nd h.lt
theorem MetOk.come {mt : List Int} {st : Int} {l : List Nat} {N k : Nat} (h : MetOk mt st l N) (hk : k < N) (hn : k ∉ l) (h0 : 0 ≤ st) : MetOk (mt.set k st) st (comeL l k) N := by
  refine ⟨by rw [List.length_set]; exact h.len, fun j v hv => ?_, fun v hv => ?_, fun j hj => ?_, comeL_nd h.nd⟩
  · rw [comeL_mem]
    by_cases e : k = j
    · subst e
      rw [List.getElem?_set_self (by rw [h.len]; exact hk)] at hv
      cases hv
      exact ⟨fun _ => .inr rfl, fun _ => rfl⟩
    · rw [List.getElem?_set_ne e] at hv
      rw [h.get j v hv]
      exact ⟨.inl, fun h => h.elim id fun e' => absurd e'.symm e⟩
  · rcases List.mem_or_eq_of_mem_set hv with h' | rfl
    · exact h.le v h'
    · exact ⟨h0, Int.le_refl _⟩
  · rcases comeL_mem.1 hj with h' | rfl
    · exact h.lt j h'
    · exact hk
variable {m : List In} {w : List UInt8}
structure Lst (m : List In) (n p : Nat) (B : Nat → Prop) (l : List Nat) (i : Nat) : Prop where
  lt : ∀ k ∈ l, k < m.length
  base : ∀ k, B k → k ∈ l
  src : ∀ k ∈ l, ∃ b, B b ∧ EpsS m n p b k
  cl : ∀ (j k k' : Nat), j < i → l[j]? = some k → Eps m n p k k' → k' ∈ l
theorem Lst.start {n p : Nat} {B : Nat → Prop} {l : List Nat} (hl : ∀ k, k ∈ l ↔ B k) (hb : ∀ k, B k → k < m.length) : Lst m n p B l 0 :=
  ⟨fun k hk => hb k ((hl k).1 hk), fun k hk => (hl k).2 hk, fun k hk => ⟨k, (hl k).1 hk, .refl⟩, fun j k k' h => by omega⟩
structure LstS (m : List In) (n p : Nat) (B : Nat → Prop) (l : List Nat) (i : Nat) (D : List Nat) : Prop where
  lst : Lst m n p B l i
  pl : i < l.length
  dn : ∀ k ∈ D, k ∈ l
theorem Lst.go {n p : Nat} {B : Nat → Prop} {l : List Nat} {i : Nat} (h : Lst m n p B l i) (hi : i < l.length) : LstS m n p B l i [] := ⟨h, hi, fun k hk => by cases hk⟩
theorem LstS.come {n p : Nat} {B : Nat → Prop} {l D : List Nat} {i k k' : Nat} (hm : MOk m) (h : LstS m n p B l i D) (hk : l[i]? = some k) (he : Eps m n p k k') : LstS m n p B (comeL l k') i (k' :: D) := by
  refine ⟨⟨fun j hj => ?_, fun j hj => comeL_mem.2 (.inl (h.lst.base j hj)), fun j hj => ?_, fun j x x' hj hx hxx => ?_⟩, Nat.lt_of_lt_of_le h.pl comeL_len.1, fun j hj => ?_⟩
  · rcases comeL_mem.1 hj with h' | rfl
    · exact h.lst.lt j h'
    · exact hm.lt he
  · rcases comeL_mem.1 hj with h' | rfl
    · exact h.lst.src j h'
    · obtain ⟨b, hb, hbk⟩ := h.lst.src k (List.mem_of_getElem? hk)
      exact ⟨b, hb, hbk.tail he⟩
  · rw [comeL_pre (Nat.lt_trans hj h.pl)] at hx
    exact comeL_mem.2 (.inl (h.lst.cl j x x' hj hx hxx))
  · rcases List.mem_cons.1 hj with rfl | hj
    · exact comeL_mem.2 (.inr rfl)
    · exact comeL_mem.2 (.inl (h.dn j hj))
theorem LstS.next {n p : Nat} {B : Nat → Prop} {l D : List Nat} {i k : Nat} (h : LstS m n p B l i D) (hk : l[i]? = some k) (hd : ∀ k', Eps m n p k k' → k' ∈ D) : Lst m n p B l (i + 1) := by
  refine ⟨h.lst.lt, h.lst.base, h.lst.src, fun j x x' hj hx hxx => ?_⟩
  by_cases e : j = i
  · subst e; rw [hk] at hx; cases hx
    exact h.dn x' (hd x' hxx)
  · exact h.lst.cl j x x' (by omega) hx hxx
theorem Lst.done {n p : Nat} {B : Nat → Prop} {l : List Nat} {i : Nat} (h : Lst m n p B l i) (hi : l.length ≤ i) (k : Nat) : k ∈ l ↔ ∃ b, B b ∧ EpsS m n p b k := by
  refine ⟨h.src k, fun ⟨b, hb, he⟩ => ?_⟩
  have key : ∀ {x y : Nat}, EpsS m n p x y → x ∈ l → y ∈ l := by
    intro x y he
    induction he with
    | refl => exact id
    | head h1 _ ih =>
      intro hx
      obtain ⟨j, hj⟩ := List.mem_iff_getElem?.1 hx
      exact ih (h.cl j _ _ (Nat.lt_of_lt_of_le (List.getElem?_eq_some_iff.1 hj).1 hi) hj h1)
  exact key he (h.base b hb)
def wayB (m : List In) (w : List UInt8) (p : Nat) (l : List Nat) (j : Nat) (k : Nat) : Prop := ∃ i x, i < j ∧ l[i]? = some x ∧ Eat m w x p ∧ k = x + 1
theorem wayB_zero {p : Nat} {l : List Nat} {k : Nat} : ¬ wayB m w p l 0 k := fun ⟨i, _, h, _⟩ => by omega
theorem wayB_yes {p j x : Nat} {l : List Nat} {k : Nat} (hx : l[j]? = some x) (he : Eat m w x p) : wayB m w p l (j + 1) k ↔ wayB m w p l j k ∨ k = x + 1 := by
  constructor
  · rintro ⟨i, y, h1, h2, h3, h4⟩
    by_cases e : i = j
    · subst e; rw [hx] at h2; cases h2; exact .inr h4
    · exact .inl ⟨i, y, by omega, h2, h3, h4⟩
  · rintro (⟨i, y, h1, h2, h3, h4⟩ | h)
    · exact ⟨i, y, by omega, h2, h3, h4⟩
    · exact ⟨j, x, by omega, hx, he, h⟩
theorem wayB_no {p j x : Nat} {l : List Nat} {k : Nat} (hx : l[j]? = some x) (he : ¬ Eat m w x p) : wayB m w p l (j + 1) k ↔ wayB m w p l j k := by
  constructor
  · rintro ⟨i, y, h1, h2, h3, h4⟩
    by_cases e : i = j
    · subst e; rw [hx] at h2; cases h2; exact absurd h3 he
    · exact ⟨i, y, by omega, h2, h3, h4⟩
  · rintro ⟨i, y, h1, h2, h3, h4⟩; exact ⟨i, y, by omega, h2, h3, h4⟩
def Base (m : List In) (w : List UInt8) (f p : Nat) (k : Nat) : Prop := (p = f ∧ k = 0) ∨ ∃ q x, p = q + 1 ∧ f ≤ q ∧ Run m w (0, f) (x, q) ∧ Eat m w x q ∧ k = x + 1
theorem run_base2 {f p k : Nat} (hf : f ≤ p) : Run m w (0, f) (k, p) ↔ ∃ b, Base m w f p b ∧ EpsS m w.length p b k := by
  rcases Nat.lt_or_ge f p with h | h
  · obtain ⟨q, rfl⟩ : ∃ q, p = q + 1 := ⟨p - 1, by omega⟩
    rw [run_succ (by omega)]
    constructor
    · rintro ⟨j, h1, h2, h3⟩; exact ⟨j + 1, .inr ⟨q, j, rfl, by omega, h1, h2, rfl⟩, h3⟩
    · rintro ⟨b, (⟨h1, _⟩ | ⟨q', x, h1, _, h2, h3, rfl⟩), h4⟩
      · omega
      · obtain rfl : q = q' := by omega
        exact ⟨x, h2, h3, h4⟩
  · obtain rfl : p = f := by omega
    rw [run_base]
    constructor
    · intro h; exact ⟨0, .inl ⟨rfl, rfl⟩, h⟩
    · rintro ⟨b, (⟨_, rfl⟩ | ⟨q', x, h1, h2, _⟩), h4⟩
      · exact h4
      · omega
theorem base_lt {f p k : Nat} (hm : MOk m) (h : Base m w f p k) : k < m.length := by
  rcases h with ⟨_, rfl⟩ | ⟨q, x, _, _, _, ⟨t, b, ht, ho, _⟩, rfl⟩
  · exact hm.1
  · exact (hm.2.2 x t ht).2 (by omega)
theorem way_base {f p : Nat} {l : List Nat} (hf : f ≤ p) (hl : ∀ k, k ∈ l ↔ Run m w (0, f) (k, p)) {k : Nat} : wayB m w p l l.length k ↔ Base m w f (p + 1) k := by
  constructor
  · rintro ⟨i, x, _, h2, h3, rfl⟩
    exact .inr ⟨p, x, rfl, hf, (hl x).1 (List.mem_of_getElem? h2), h3, rfl⟩
  · rintro (⟨h1, _⟩ | ⟨q, x, h1, _, h2, h3, rfl⟩)
    · omega
    · obtain rfl : p = q := by omega
      obtain ⟨i, hi⟩ := List.mem_iff_getElem?.1 ((hl x).2 h2)
      exact ⟨i, x, (List.getElem?_eq_some_iff.1 hi).1, hi, h3, rfl⟩
structure EndsTo (m : List In) (w : List UInt8) (f p : Nat) (es : List Bool) (last : Int) : Prop where
  len : es.length = w.length + 1
  get : ∀ q, q ≤ w.length → (es[q]? = some true ↔ f ≤ q ∧ q < p ∧ Hit m w f q)
  last : (last = -1 ∧ ∀ q, q ≤ w.length → ¬ (f ≤ q ∧ q < p ∧ Hit m w f q)) ∨ ∃ q : Nat, last = q ∧ f ≤ q ∧ q < p ∧ q ≤ w.length ∧ Hit m w f q ∧ ∀ q', q < q' → q' < p → q' ≤ w.length → ¬ Hit m w f q'
theorem EndsTo.zero {f : Nat} : EndsTo m w f f (List.replicate (w.length + 1) false) (-1) :=
  ⟨List.length_replicate, fun q hq => ⟨fun h => (by rw [List.getElem?_replicate] at h; split at h <;> cases h), fun ⟨h1, h2, _⟩ => by omega⟩, .inl ⟨rfl, fun q _ ⟨h1, h2, _⟩ => by omega⟩⟩
theorem EndsTo.step {f p : Nat} {es es' : List Bool} {last last' : Int} (h : EndsTo m w f p es last) (hf : f ≤ p) (hp : p ≤ w.length) (h1 : Hit m w f p → es' = es.set p true ∧ last' = p) (h2 : ¬ Hit m w f p → es' = es ∧ last' = last) : EndsTo m w f (p + 1) es' last' := by
  by_cases hh : Hit m w f p
  · obtain ⟨rfl, rfl⟩ := h1 hh
    refine ⟨by rw [List.length_set]; exact h.len, fun q hq => ?_, .inr ⟨p, rfl, hf, by omega, hp, hh, fun q' a b c => by omega⟩⟩
    by_cases e : p = q
    · subst e
      rw [List.getElem?_set_self (by rw [h.len]; omega)]
      exact ⟨fun _ => ⟨hf, by omega, hh⟩, fun _ => rfl⟩
    · rw [List.getElem?_set_ne e, h.get q hq]
      exact ⟨fun ⟨a, b, c⟩ => ⟨a, by omega, c⟩, fun ⟨a, b, c⟩ => ⟨a, by omega, c⟩⟩
  · obtain ⟨rfl, rfl⟩ := h2 hh
    refine ⟨h.len, fun q hq => ?_, ?_⟩
    · rw [h.get q hq]
      exact ⟨fun ⟨a, b, c⟩ => ⟨a, by omega, c⟩, fun ⟨a, b, c⟩ => ⟨a, by (by_cases e : q = p; (· subst e; exact absurd c hh); (· omega)), c⟩⟩
    · rcases h.last with ⟨e, hn⟩ | ⟨q, e, a, b, c, d, g⟩
      · exact .inl ⟨e, fun q hq ⟨a, b, c⟩ => by (by_cases e : q = p; (· subst e; exact hh c); (· exact hn q hq ⟨a, by omega, c⟩))⟩
      · exact .inr ⟨q, e, a, by omega, c, d, fun q' x y z => by (by_cases e' : q' = p; (· subst e'; exact hh); (· exact g q' x (by omega) z))⟩
theorem hit_mem {f p : Nat} {l : List Nat} (hl : ∀ k, k ∈ l ↔ Run m w (0, f) (k, p)) : Hit m w f p ↔ ∃ k t, k ∈ l ∧ m[k]? = some t ∧ t.op = 6 :=
  ⟨fun ⟨i, t, h1, h2, h3⟩ => ⟨i, t, (hl i).2 h1, h2, h3⟩, fun ⟨k, t, h1, h2, h3⟩ => ⟨k, t, (hl k).1 h1, h2, h3⟩⟩
theorem EndsTo.stop {f p : Nat} {es : List Bool} {last : Int} (h : EndsTo m w f p es last) (hn : ∀ k, ¬ Base m w f p k) (hf : f < p) : ∀ q, p ≤ q → ¬ Hit m w f q := by
  have key : ∀ n k, ¬ Run m w (0, f) (k, p + n) := by
    intro n
    induction n with
    | zero => intro k hr; obtain ⟨b, hb, _⟩ := (run_base2 (by omega)).1 hr; exact hn b hb
    | succ n ih =>
      intro k hr
      rw [← Nat.add_assoc, run_succ (by omega)] at hr
      obtain ⟨j, h1, _⟩ := hr
      exact ih j h1
  intro q hq ⟨i, t, hr, _⟩
  exact key (q - p) i (by rw [show p + (q - p) = q by omega]; exact hr)
theorem EndsTo.ext {f p p' : Nat} {es : List Bool} {last : Int} (h : EndsTo m w f p es last) (hp : p ≤ p') (hn : ∀ q, p ≤ q → q ≤ w.length → ¬ Hit m w f q) : EndsTo m w f p' es last := by
  refine ⟨h.len, fun q hq => ?_, ?_⟩
  · rw [h.get q hq]
    exact ⟨fun ⟨a, b, c⟩ => ⟨a, by omega, c⟩, fun ⟨a, b, c⟩ => ⟨a, Nat.lt_of_not_le fun e => hn q e hq c, c⟩⟩
  · rcases h.last with ⟨e, hn'⟩ | ⟨q, e, a, b, c, d, g⟩
    · exact .inl ⟨e, fun q hq ⟨a, b, c⟩ => hn' q hq ⟨a, Nat.lt_of_not_le fun e => hn q e hq c, c⟩⟩
    · exact .inr ⟨q, e, a, by omega, c, d, fun q' x y z c' => (Nat.lt_or_ge q' p).elim (fun e' => g q' x e' z c') fun e' => hn q' e' z c'⟩
structure Done6 (m : List In) (l : List Nat) (i p : Nat) (es0 : List Bool) (last0 : Int) (es : List Bool) (last : Int) : Prop where
  y : (∃ j k t, j < i ∧ l[j]? = some k ∧ m[k]? = some t ∧ t.op = 6) → es = es0.set p true ∧ last = p
  n : ¬ (∃ (j k : Nat) (t : In), j < i ∧ l[j]? = some k ∧ m[k]? = some t ∧ t.op = 6) → es = es0 ∧ last = last0
theorem Done6.zero {l : List Nat} {p : Nat} {es0 : List Bool} {last0 : Int} : Done6 m l 0 p es0 last0 es0 last0 := ⟨fun ⟨j, _, _, h, _⟩ => by omega, fun _ => ⟨rfl, rfl⟩⟩
theorem Done6.mono {l l' : List Nat} {i p : Nat} {es0 es : List Bool} {last0 last : Int} (h : Done6 m l i p es0 last0 es last) (hl : ∀ j, j < i → l'[j]? = l[j]?) : Done6 m l' i p es0 last0 es last :=
  ⟨fun ⟨j, k, t, h1, h2, h3⟩ => h.y ⟨j, k, t, h1, by rw [← hl j h1]; exact h2, h3⟩, fun hn => h.n fun ⟨j, k, t, h1, h2, h3⟩ => hn ⟨j, k, t, h1, by rw [hl j h1]; exact h2, h3⟩⟩
theorem Done6.no {l : List Nat} {i p k : Nat} {t : In} {es0 es : List Bool} {last0 last : Int} (h : Done6 m l i p es0 last0 es last) (hk : l[i]? = some k) (ht : m[k]? = some t) (h6 : ¬ t.op = 6) : Done6 m l (i + 1) p es0 last0 es last := by
  have e : ∀ {j k' t'}, j < i + 1 → l[j]? = some k' → m[k']? = some t' → t'.op = 6 → j < i := by
    intro j k' t' h1 h2 h3 h4
    rcases Nat.lt_or_ge j i with h5 | h5
    · exact h5
    · obtain rfl : j = i := by omega
      rw [hk] at h2; cases h2
      rw [ht] at h3; cases h3
      exact absurd h4 h6
  exact ⟨fun ⟨j, k', t', h1, h2, h3, h4⟩ => h.y ⟨j, k', t', e h1 h2 h3 h4, h2, h3, h4⟩, fun hn => h.n fun ⟨j, k', t', h1, h2, h3⟩ => hn ⟨j, k', t', by omega, h2, h3⟩⟩
theorem Done6.yes {l : List Nat} {i p k : Nat} {t : In} {es0 es : List Bool} {last0 last : Int} (h : Done6 m l i p es0 last0 es last) (hk : l[i]? = some k) (ht : m[k]? = some t) (h6 : t.op = 6) : Done6 m l (i + 1) p es0 last0 (es.set p true) p := by
  refine ⟨fun _ => ⟨?_, rfl⟩, fun hn => absurd ⟨i, k, t, by omega, hk, ht, h6⟩ hn⟩
  by_cases hc : ∃ (j k : Nat) (t : In), j < i ∧ l[j]? = some k ∧ m[k]? = some t ∧ t.op = 6
  · rw [(h.y hc).1, List.set_set]
  · rw [(h.n hc).1]
theorem EndsTo.done {f p i : Nat} {l : List Nat} {es es0 : List Bool} {last last0 : Int} (h : EndsTo m w f p es0 last0) (hd : Done6 m l i p es0 last0 es last) (hi : l.length ≤ i) (hf : f ≤ p) (hp : p ≤ w.length) (hl : ∀ k, k ∈ l ↔ Run m w (0, f) (k, p)) : EndsTo m w f (p + 1) es last := by
  refine h.step hf hp (fun hh => ?_) (fun hh => ?_)
  · obtain ⟨k, t, h1, h2, h3⟩ := (hit_mem hl).1 hh
    obtain ⟨j, hj⟩ := List.mem_iff_getElem?.1 h1
    exact hd.y ⟨j, k, t, Nat.lt_of_lt_of_le (List.getElem?_eq_some_iff.1 hj).1 hi, hj, h2, h3⟩
  · exact hd.n fun ⟨j, k, t, _, h1, h2, h3⟩ => hh ((hit_mem hl).2 ⟨k, t, List.mem_of_getElem? h1, h2, h3⟩)
def Es16 (x : Int) : List Value := [.int .i16 x]
instance : Enc Es16 1 := ⟨fun _ => rfl, fun x v hv => by
  simp only [Es16, List.mem_cons, List.not_mem_nil, or_false] at hv
  subst hv; rfl⟩
structure FrG where
  (st steps last : Int) (mt : List Int) (ha : Option Addr) (hc : Nat) (l : List Nat) (wa : Option Addr) (wc : Nat) (wl : List Nat) (es : List Bool) (St Sh Sw Se : Hp)
end Go.HL.Kl.Mc

/- Part of the proofs over this seat: see the text that holds the theorem. Conditions: each theorem bears its own. -/
namespace Go.Proofs.YtopmnmigpbdddaaGreatDoor
open Go Go.HL Go.Proofs Go.HL.Kl Go.HL.Kl.Mc Go.HL.Kl.Mc.AskE
theorem wrap16 {x : Int} (h : -32768 ≤ x ∧ x < 32768) : IntKind.i16.wrap x = x := by
  simp [IntKind.wrap, IntKind.signed, IntKind.bits]; omega
theorem fresh_fn (bS : Nat) (ma : Option Addr) (mc : Nat) (m : List In) (ta : Option Addr) (tc : Nat) (vh vw ve : Value) (st steps : Int) (mt : List Int) (St : Hp) (hT : OwnS Es16 1 152 (.slice ta m.length tc) mt St) (l : List Nat) (hM : MetOk mt st l m.length) (h0 : 0 ≤ st) (h1 : st ≤ 32767) : HL.Fn Tryz.prog 122 [pt bS] (fun _ => True) ((bS, .cells [.slice ma m.length mc, .slice ta m.length tc, .int .i16 st, vh, vw, ve, .int .i64 steps].toArray 154 (0, 0)) :: St) (fun _ S' => ∃ mt' St' st', S' = (bS, .cells [.slice ma m.length mc, .slice ta m.length tc, .int .i16 st', vh, vw, ve, .int .i64 steps].toArray 154 (0, 0)) :: St' ∧ OwnS Es16 1 152 (.slice ta m.length tc) mt' St' ∧ MetOk mt' st' [] m.length ∧ 0 ≤ st' ∧ st' ≤ 32767) := by
  refine fn_of Tryz.func122 rfl rfl rfl fun w0 hw => ?_
  have hml := hM.len
  refine c_seqJ (ι := Int × List Int × Hp) (fun g => (0 ≤ g.1 ∧ g.1 ≤ 32766) ∧ OwnS Es16 1 152 (.slice ta m.length tc) g.2.1 g.2.2 ∧ (∀ v ∈ g.2.1, 0 ≤ v ∧ v ≤ g.1) ∧ g.2.1.length = m.length) (fun g => []) [(0, _)] (fun g => (bS, .cells [.slice ma m.length mc, .slice ta m.length tc, .int .i16 g.1, vh, vw, ve, .int .i64 steps].toArray 154 (0, 0)) :: g.2.2) sbA ?_ ?_
  ·
   rintro g ⟨⟨hg0, hg1⟩, hgo, hgv, hgl⟩
   refine c_region ?_; refine o_step rfl (s_move rfl) ?_; refine o_step rfl (s_nil rfl) ?_; refine o_step rfl (s_field rfl rfl (by decide)) ?_; refine o_step rfl (s_ld rfl (.own meA rfl)) ?_; refine o_step rfl (step_cast (v' := .int .i16 (g.1 + 1)) (s_addw rfl rfl) (congrArg _ (wrap16 (by omega)))) ?_; refine o_step rfl (s_nil rfl) ?_; refine o_step rfl (s_field rfl rfl (by decide)) ?_; refine o_store rfl rfl rfl upA ltA rfl ?_; refine o_nil ?_; refine x_sub (Sub.refl _) (H' := (bS, .cells [.slice ma m.length mc, .slice ta m.length tc, .int .i16 (g.1 + 1), vh, vw, ve, .int .i64 steps].toArray 154 (0, 0)) :: g.2.2) hzB ?_; exact x_end rfl (.nil) (⟨g.2.1, g.2.2, g.1 + 1, rfl, hgo, ⟨hgl, fun k v hv => ⟨fun e => by have := (hgv v (List.mem_of_getElem? hv)).2; omega, fun h => (by cases h)⟩, fun v hv => ⟨(hgv v hv).1, by have := (hgv v hv).2; omega⟩, fun k h => (by cases h), List.nodup_nil⟩, by omega, by omega⟩)
  ·
   intro _ hJ1
   refine c_seq fun _ hK2 => ?_; refine c_region ?_; refine o_step rfl (s_move rfl) ?_; refine o_step rfl (s_nil rfl) ?_; refine o_step rfl (s_field rfl rfl (by decide)) ?_; refine o_step rfl (s_ld rfl (.own meA rfl)) ?_
   by_cases hs : st = 32767
   ·
    refine o_step rfl (step_cast (v' := .bool true) (s_eql rfl rfl) (by rw [decide_eq_true (by omega)])) ?_; refine o_nil ?_; refine x_then (hK2 _ _ ?_); refine c_true rfl ?_; refine c_seq fun _ hK3 => ?_; refine c_region ?_; refine o_step rfl (s_move rfl) ?_; refine o_step rfl (s_nil rfl) ?_; refine o_step rfl (s_field rfl rfl (by decide)) ?_; refine o_step rfl (s_ld rfl (.own meA rfl)) ?_; refine o_clear (zx := (0 : Int)) hT rfl rfl pkA fun S4 hS4 => ?_; refine o_nil ?_; refine x_then (hK3 _ _ ?_); refine c_region ?_; refine o_step rfl (s_move rfl) ?_; refine o_step rfl (s_nil rfl) ?_; refine o_step rfl (s_field rfl rfl (by decide)) ?_; refine o_store rfl rfl rfl upA ltA rfl ?_; refine o_nil ?_; exact x_then (hJ1 (0, List.replicate mt.length 0, S4) _ _ ⟨⟨by show (0 : Int) ≤ 0; decide, by show (0 : Int) ≤ 32766; decide⟩, (by have h := hS4; simpa [hml] using h), (fun v hv => by have := List.eq_of_mem_replicate hv; dsimp only; omega), by simpa using hml⟩ sbA sbA hzB)
   ·
    refine o_step rfl (step_cast (v' := .bool false) (s_eql rfl rfl) (by rw [decide_eq_false (by omega)])) ?_; refine o_nil ?_; refine x_then (hK2 _ _ ?_); refine c_false rfl ?_; refine c_skip ?_; exact x_then (hJ1 (st, mt, St) _ _ ⟨⟨h0, by omega⟩, hT, hM.le, hml⟩ sbA sbA hzB)

set_option maxHeartbeats 1000000 in
theorem come_fn (bS : Nat) (ma : Option Addr) (mc : Nat) (m : List In) (hml : m.length ≤ 70000) (ta : Option Addr) (tc : Nat) (vh vw ve : Value) (st steps : Int) (mt : List Int) (St : Hp) (hT : OwnS Es16 1 152 (.slice ta m.length tc) mt St) (la : Option Addr) (lc : Nat) (l : List Nat) (Sl : Hp) (hl : OwnS Eix 1 3 (.slice la l.length lc) l Sl) (hM : MetOk mt st l m.length) (h0 : 0 ≤ st) (k : Nat) (hk : k < m.length) : HL.Fn Tryz.prog 123 [pt bS, .slice la l.length lc, .int .i64 k] (fun _ => True) ((bS, .cells [.slice ma m.length mc, .slice ta m.length tc, .int .i16 st, vh, vw, ve, .int .i64 steps].toArray 154 (0, 0)) :: (St ++ Sl)) (fun v S' => ∃ a c mt' St' Sl' steps', v = .slice a (comeL l k).length c ∧ S' = (bS, .cells [.slice ma m.length mc, .slice ta m.length tc, .int .i16 st, vh, vw, ve, .int .i64 steps'].toArray 154 (0, 0)) :: (St' ++ Sl') ∧ OwnS Es16 1 152 (.slice ta m.length tc) mt' St' ∧ OwnS Eix 1 3 (.slice a (comeL l k).length c) (comeL l k) Sl' ∧ MetOk mt' st (comeL l k) m.length) := by
  refine fn_of Tryz.func123 rfl rfl rfl fun w0 hw => ?_
  have hml2 := hM.len
  have hbig := hM.big
  obtain ⟨x, hx⟩ : ∃ x, mt[k]? = some x := ⟨_, List.getElem?_eq_getElem (by omega)⟩
  have hTs := hT.sl
  have hgx := hM.get k x hx
  refine c_seq fun _ hK1 => ?_; refine c_region ?_; refine o_step rfl (s_assign rfl) ?_; refine o_nil ?_; refine x_then (hK1 _ _ ?_); refine c_seq fun _ hK2 => ?_; refine c_seq fun _ hK3 => ?_; refine c_drawE ((bS, .cells [.slice ma m.length mc, .slice ta m.length tc, .int .i16 st, vh, vw, ve, .int .i64 steps].toArray 154 (0, 0)) :: St) (fun i => false) ?_; refine e_tk 0 rfl hzB (s_move rfl) ?_; refine e_tk 1 rfl hzB (s_nil rfl) ?_; refine e_tk 2 rfl hzB (s_field rfl rfl (by decide)) ?_; refine e_tk 3 rfl hzB (s_ld rfl (.own meA rfl)) ?_; refine e_tk 4 rfl hzB (s_move rfl) ?_; refine e_tk 5 rfl hzB (s_idx rfl rfl (by rw [hml2] at hTs; exact hTs) (by omega)) ?_; refine e_tk 6 rfl hzB (s_ld rfl ((hT.rdk hiA).ld k 0 hx rfl (by decide) (by omega))) ?_; refine e_tk 7 rfl hzB (s_move rfl) ?_; refine e_tk 8 rfl hzB (s_nil rfl) ?_; refine e_tk 9 rfl hzB (s_field rfl rfl (by decide)) ?_; refine e_tk 10 rfl hzB (s_ld rfl (.own meA rfl)) ?_
  refine e_one 11 rfl (by kernel_rfl) ?_
  by_cases hxs : x = st
  ·
   have hkl := hgx.1 hxs
   have hcl : comeL l k = l := if_pos hkl
   refine o_step rfl (step_cast (v' := .bool true) (s_eql rfl rfl) (by rw [decide_eq_true hxs])) ?_; refine o_nil ?_; refine x_oneS hzB ?_; refine e_done (by kernel_rfl) ?_; refine x_then (hK3 _ _ ?_); refine c_true rfl ?_; refine c_seq fun _ hK4 => ?_; refine c_region ?_; refine o_step rfl (s_move rfl) ?_; refine o_step rfl (s_assign rfl) ?_; refine o_nil ?_; refine x_then (hK4 _ _ ?_); refine c_ret ?_; refine x_then_ret (?_); refine x_sub (Sub.refl _) (H' := (bS, .cells [.slice ma m.length mc, .slice ta m.length tc, .int .i16 st, vh, vw, ve, .int .i64 steps].toArray 154 (0, 0)) :: (St ++ Sl)) hzB ?_; exact x_ret rfl (.tmp rfl (.nil)) (⟨la, lc, mt, St, Sl, steps, by rw [hcl]; rfl, rfl, hT, by rw [hcl]; exact hl, by rw [hcl]; exact hM⟩)
  ·
   have hkl : k ∉ l := fun h => hxs (hgx.2 h)
   have hcl : comeL l k = l ++ [k] := if_neg hkl
   refine o_step rfl (step_cast (v' := .bool false) (s_eql rfl rfl) (by rw [decide_eq_false hxs])) ?_; refine o_nil ?_; refine x_oneS hzB ?_; refine e_done (by kernel_rfl) ?_; refine x_then (hK3 _ _ ?_); refine c_false rfl ?_; refine c_skip ?_; refine x_then (hK2 _ _ ?_); refine c_seq fun _ hK5 => ?_; refine c_drawE ([(bS, .cells [.slice ma m.length mc, .slice ta m.length tc, .int .i16 st, vh, vw, ve, .int .i64 steps].toArray 154 (0, 0))]) (fun i => false) ?_; refine e_tk 0 rfl hzB (s_move rfl) ?_; refine e_tk 1 rfl hzB (s_nil rfl) ?_; refine e_tk 2 rfl hzB (s_field rfl rfl (by decide)) ?_; refine e_tk 3 rfl hzB (s_ld rfl (.own meA rfl)) ?_; refine e_tk 4 rfl hzB (s_move rfl) ?_; refine e_tk 5 rfl hzB (s_move rfl) ?_; refine e_tk 6 rfl hzB (s_nil rfl) ?_; refine e_tk 7 rfl hzB (s_field rfl rfl (by decide)) ?_; refine e_tk 8 rfl hzB (s_ld rfl (.own meA rfl)) ?_; refine e_one 9 rfl (by kernel_rfl) ?_
   refine o_step rfl (s_idx rfl rfl (by rw [hml2] at hTs; exact hTs) (by omega)) ?_; refine o_nil ?_; refine x_oneS hzB ?_; refine e_one 10 rfl (by kernel_rfl) ?_; refine o_stS1 k st hT pkA rfl rfl rfl (by omega) (by omega) fun S' hS' => ?_; refine o_nil ?_; refine x_oneS hzB ?_; refine e_done (by kernel_rfl) ?_; refine x_then (hK5 _ _ ?_); refine c_seq fun _ hK6 => ?_; refine c_region ?_; refine o_step rfl (s_move rfl) ?_; refine o_step rfl (s_nil rfl) ?_; refine o_step rfl (s_field rfl rfl (by decide)) ?_; refine o_step rfl (s_ld rfl (.own meA rfl)) ?_; refine o_step rfl (s_addw rfl rfl) ?_; refine o_step rfl (s_nil rfl) ?_; refine o_step rfl (s_field rfl rfl (by decide)) ?_; refine o_store rfl rfl rfl upA ltA rfl ?_; refine o_nil ?_; refine x_then (hK6 _ _ ?_); refine c_seq fun _ hK7 => ?_; refine c_region ?_; refine o_step rfl (s_move rfl) ?_; refine o_step rfl (s_move rfl) ?_; refine o_bs (E := Eix) (xs := [k]) (vs := [_]) rfl rfl rfl rfl rfl (by decide) (by decide) fun b39 S39 hS39 => ?_
   refine o_app hl (hS39.rdk hiA) rfl rfl rfl rfl (by simp; omega) (by simp; omega) rfl pkA fun a40 c40 S40 hS40 => ?_; refine o_step rfl (s_assign rfl) ?_; refine o_nil ?_; refine x_then (hK7 _ _ ?_); refine c_ret ?_; refine ?_; refine x_sub (Sub.refl _) (H' := (bS, .cells [.slice ma m.length mc, .slice ta m.length tc, .int .i16 st, vh, vw, ve, .int .i64 (IntKind.i64.wrap (steps + 1))].toArray 154 (0, 0)) :: (S' ++ S40)) hzB ?_; exact x_ret rfl (.tmp rfl (.nil)) (⟨a40, c40, mt.set k st, S', S40, _, by rw [hcl]; rfl, rfl, hS', by rw [hcl]; exact hS40, hM.come hk hkl h0⟩)
end Go.Proofs.YtopmnmigpbdddaaGreatDoor
