/- Part of the proofs over this seat: see the text that holds the theorem. Conditions: each theorem bears its own. -/
import Derived.Test.YtiggliigookieaaDoorQN21Z
import Derived.Test.YtiggliigookieaaDoorQN5Z
import Derived.Test.YtiggliigookieaaDoorQW13Z
import Derived.Test.YtiggliigookieaaDoorQW9Z
import Derived.Test.YtiggliigookieaaDoorMK7Z
import Derived.Test.YtiggliigookieaaDoorMK1Z
namespace Go.Proofs.YtiggliigookieaaDoor
open Go Go.HL Go.Proofs Go.HL.Kl Go.HL.Kl.Mc
set_option maxHeartbeats 1000000 in
theorem takes_fn (ra : Option Addr) (rc : Nat) (re : List Nd) (x : Nd) (ks : F) (hs : Shp re x ks) (hre : ∀ x ∈ re, -128 ≤ x.op ∧ x.op < 128) (hr8 : ∀ x ∈ re, ¬ x.op = 8) (ta : Option Addr) (tc : Nat) (w : List UInt8) (hwl : w.length ≤ 1000000) (f : Nat) (hf : f ≤ w.length) : HL.Fn Tryd.prog 31 [.slice ra re.length rc, .slice ta w.length tc, .int .i64 f] (fun W => Rd En W (.slice ra re.length rc) re ∧ Rd Eb W (.slice ta w.length tc) w) [] (fun v S' => ∃ a c l, v = .slice a l.length c ∧ IsS l w.length (der1 w x ks f) ∧ RdS Ebo (.slice a l.length c) l S') := by
  refine fn_of Tryd.func31 rfl rfl rfl fun w0 hw => ?_
  have hfr := IsS.one hf
  have hsl := hw.2.sl
  refine c_seq fun _ hK1 => ?_
  refine c_region ?_
  refine o_step rfl (s_assign rfl) ?_
  refine o_nil ?_
  refine x_then (hK1 _ _ ?_)
  refine c_seq fun _ hK2 => ?_
  refine c_region ?_
  refine o_step rfl (s_move rfl) ?_
  refine o_step rfl (s_len rfl) ?_
  refine o_step rfl (s_add rfl rfl (by omega)) ?_
  refine o_make (E := Ebo) (zx := false) (n := w.length + 1) rfl rfl rfl (by omega) (by omega) rfl fun b11 S11 hS11 => ?_
  have hSs := hS11.sl
  rw [List.length_replicate] at hSs
  refine o_step rfl (s_assign rfl) ?_
  refine o_nil ?_
  refine x_then (hK2 _ _ ?_)
  refine c_seq fun _ hK3 => ?_
  refine c_seq fun _ hK4 => ?_
  refine c_region ?_
  refine o_step rfl (s_move rfl) ?_
  by_cases hf0 : (f : Int) < 0
  ·
   refine o_step rfl (step_cast (v' := .bool true) (s_lss rfl rfl) (by rw [decide_eq_true (by omega)])) ?_
   refine o_step rfl (s_move rfl) ?_
   refine o_no rfl rfl rfl rfl ?_
   refine o_no rfl rfl rfl rfl ?_
   refine o_no rfl rfl rfl rfl ?_
   refine o_no rfl rfl rfl rfl ?_
   refine o_step rfl (s_pick_t rfl rfl) ?_
   refine o_nil ?_
   refine x_then (hK4 _ _ ?_)
   refine c_true rfl ?_
   refine c_seq fun _ hK5 => ?_
   refine c_region ?_
   refine o_step rfl (s_move rfl) ?_
   refine o_step rfl (s_assign rfl) ?_
   refine o_nil ?_
   refine x_then (hK5 _ _ ?_)
   refine c_ret ?_
   refine x_then_ret (?_)
   exfalso; omega
  ·
   refine o_step rfl (step_cast (v' := .bool false) (s_lss rfl rfl) (by rw [decide_eq_false (by omega)])) ?_
   refine o_step rfl (s_move rfl) ?_
   refine o_yes rfl rfl ?_
   refine o_step rfl (s_move rfl) ?_
   refine o_yes rfl rfl ?_
   refine o_step rfl (s_move rfl) ?_
   refine o_yes rfl rfl ?_
   refine o_step rfl (s_len rfl) ?_
   refine o_yes rfl rfl ?_
   by_cases hfw : (f : Int) > w.length
   ·
    refine o_step rfl (step_cast (v' := .bool true) (s_gtr rfl rfl) (by rw [decide_eq_true (by omega)])) ?_
    refine o_step rfl (s_pick_f rfl rfl) ?_
    refine o_nil ?_
    refine x_then (hK4 _ _ ?_)
    refine c_true rfl ?_
    refine c_seq fun _ hK6 => ?_
    refine c_region ?_
    refine o_step rfl (s_move rfl) ?_
    refine o_step rfl (s_assign rfl) ?_
    refine o_nil ?_
    refine x_then (hK6 _ _ ?_)
    refine c_ret ?_
    refine x_then_ret (?_)
    exfalso; omega
   ·
    refine o_step rfl (step_cast (v' := .bool false) (s_gtr rfl rfl) (by rw [decide_eq_false (by omega)])) ?_
    refine o_step rfl (s_pick_f rfl rfl) ?_
    refine o_nil ?_
    refine x_then (hK4 _ _ ?_)
    refine c_false rfl ?_
    refine c_skip ?_
    refine x_then (hK3 _ _ ?_)
    refine c_seq fun _ hK7 => ?_
    refine c_region ?_
    refine o_step rfl (s_move rfl) ?_
    refine o_step rfl (s_move rfl) ?_
    refine o_step rfl (s_idx rfl rfl hSs (by omega)) ?_
    refine o_stS1 f true hS11 pkA rfl rfl rfl (by simp; omega) (by omega) fun Sx hSx => ?_
    refine o_nil ?_
    refine x_then (hK7 _ _ ?_)
    refine c_seq fun _ hK8 => ?_
    refine c_region ?_
    refine o_step rfl (s_move rfl) ?_
    refine o_step rfl (s_move rfl) ?_
    refine o_step rfl (s_move rfl) ?_
    have hcall := over_fn w (ks.size + 1) x ks (by omega) ra rc re ta tc 0 _ (some ⟨b11, 0, none⟩) (w.length + 1) _ _ hre hr8 hwl hs.part hfr (fun p h => by omega)
    simp only [List.length_set, List.length_replicate] at hcall
    refine o_call (hcall) rfl rfl rfl (by exact .nil) (fun w st => ⟨(RdK.old0 hw.1).out w st, (RdK.old0 hw.2).out w st, (hSx.rdk hiA).out w st⟩) (fun v27 S27 ⟨a27, c27, l27, hv27, hi27, hr27⟩ => ?_)
    subst hv27
    refine o_step rfl (s_assign rfl) ?_
    refine o_nil ?_
    refine x_then (hK8 _ _ ?_)
    refine c_ret ?_
    refine ?_
    refine x_sub (Sub.refl _) (H' := S27 ++ Sx) hzB ?_
    exact x_ret rfl (.tmp rfl (.nil)) (⟨_, _, _, rfl, hi27.iff fun p _ => by simp [img], ⟨fun W hW => hr27 W (fun b o hm => hW b o (List.mem_append_left _ hm)) (hSx.rd fun b o hm => hW b o (List.mem_append_right _ hm))⟩⟩)

theorem rWeight_fn (ra : Option Addr) (rc : Nat) (re : List Nd) (hre : ∀ x ∈ re, -128 ≤ x.op ∧ x.op < 128) : HL.Fn Tryd.prog 24 [.slice ra re.length rc] (fun w => Rd En w (.slice ra re.length rc) re) [] (fun v _ => ∃ n : Nat, n ≤ 16385 ∧ v = .int .i64 n) := by
  refine fn_of Tryd.func24 rfl rfl rfl fun w0 hw => ?_
  refine c_seq fun _ hK1 => ?_
  refine c_region ?_
  refine o_step rfl (s_assign rfl) ?_
  refine o_nil ?_
  refine x_then (hK1 _ _ ?_)
  refine c_seq fun _ hK2 => ?_
  refine c_seq fun _ hK3 => ?_
  refine c_region ?_
  refine o_step rfl (s_move rfl) ?_
  refine o_callP (rShaped_fn ra rc re hre) rfl rfl rfl (fun w st => (RdK.old0 hw).out w st) (fun v6 hv6 => ?_)
  subst hv6
  cases hsb : shapedB re
  ·
   refine o_step rfl (s_not rfl) ?_
   refine o_nil ?_
   refine x_then (hK3 _ _ ?_)
   refine c_true rfl ?_
   refine c_seq fun _ hK4 => ?_
   refine c_region ?_
   refine o_step rfl (s_assign rfl) ?_
   refine o_nil ?_
   refine x_then (hK4 _ _ ?_)
   refine c_ret ?_
   refine x_then_ret (?_)
   exact x_ret rfl (.tmp rfl (.nil)) (⟨0, by omega, rfl⟩)
  ·
   obtain ⟨_, x, ks, hs⟩ := shapedB_iff.1 hsb
   refine o_step rfl (s_not rfl) ?_
   refine o_nil ?_
   refine x_then (hK3 _ _ ?_)
   refine c_false rfl ?_
   refine c_skip ?_
   refine x_then (hK2 _ _ ?_)
   refine c_seq fun _ hK5 => ?_
   refine c_region ?_
   refine o_step rfl (s_move rfl) ?_
   refine o_callP (rWeigh_fn (ks.size + 1) x ks (by omega) ra rc re 0 _ hre hs.part) rfl rfl rfl (fun w st => (RdK.old0 hw).out w st) (fun v10 hv10 => ?_)
   subst hv10
   refine o_step rfl (s_move rfl) ?_
   refine o_step rfl (s_extract rfl rfl) ?_
   refine o_step rfl (s_extract rfl rfl) ?_
   refine o_step rfl (s_assign rfl) ?_
   refine o_step rfl (s_assign rfl) ?_
   refine o_nil ?_
   refine x_then (hK5 _ _ ?_)
   refine c_seq fun _ hK6 => ?_
   refine c_region ?_
   refine o_step rfl (s_move rfl) ?_
   refine o_step rfl (s_assign rfl) ?_
   refine o_nil ?_
   refine x_then (hK6 _ _ ?_)
   refine c_ret ?_
   refine ?_
   exact x_ret rfl (.tmp rfl (.nil)) (⟨_, cut_le _, rfl⟩)

set_option maxHeartbeats 1000000 in
theorem beyond_fn (ra : Option Addr) (rc : Nat) (re : List Nd) (hre : ∀ x ∈ re, -128 ≤ x.op ∧ x.op < 128) : HL.Fn Tryd.prog 7 [.slice ra re.length rc] (fun w => Rd En w (.slice ra re.length rc) re) [] (fun v _ => ∃ b, v = .bool b) := by
  refine fn_of Tryd.func7 rfl rfl rfl fun w0 hw => ?_
  have hsl := hw.sl
  have hbl := hsl.le
  refine c_seq fun _ hK1 => ?_
  refine c_region ?_
  refine o_step rfl (s_assign rfl) ?_
  refine o_nil ?_
  refine x_then (hK1 _ _ ?_)
  refine c_seq fun _ hK2 => ?_
  refine c_region ?_
  refine o_step rfl (s_assign rfl) ?_
  refine o_nil ?_
  refine x_then (hK2 _ _ ?_)
  refine c_seq fun _ hK3 => ?_
  refine c_seq fun _ hK4 => ?_
  refine c_region ?_
  refine o_step rfl (s_assign rfl) ?_
  refine o_nil ?_
  refine x_then (hK4 _ _ ?_)
  refine c_block ?_
  -- not carried: 2
  refine c_loop3 (fun (j : Nat) (q : Sl Int) (S : Hp) => j ≤ re.length ∧ q.xs.length ≤ 65536 ∧ OwnS Ei 1 3 (.slice q.a q.xs.length q.c) q.xs S) (fun (j : Nat) (q : Sl Int) (S : Hp) => [(4, .int .i64 j), (3, .slice q.a q.xs.length q.c)]) [(0, _)] (fun (j : Nat) (q : Sl Int) (S : Hp) => S) (fun (j : Nat) (q : Sl Int) (S : Hp) => re.length - j) 0 ⟨none, 0, []⟩ [] ⟨by omega, by simp, .nil⟩ sbA sbA hzB ?_
  rintro j q0 S0 ⟨hj, hq0, hO0⟩
  refine c_seq fun _ hK5 => ?_
  refine c_seq fun _ hK6 => ?_
  refine c_region ?_
  refine o_step rfl (s_move rfl) ?_
  refine o_step rfl (s_move rfl) ?_
  refine o_step rfl (s_len rfl) ?_
  by_cases hjl : j < re.length
  ·
   obtain ⟨x, hx⟩ : ∃ x, re[j]? = some x := ⟨_, List.getElem?_eq_getElem hjl⟩
   refine o_step rfl (step_cast (v' := .bool true) (s_lss rfl rfl) (by rw [decide_eq_true (by omega)])) ?_
   refine o_nil ?_
   refine x_then (hK6 _ _ ?_)
   refine c_true rfl ?_
   refine c_skip ?_
   refine x_then (hK5 _ _ ?_)
   refine c_seq fun _ hK7 => ?_
   refine c_block ?_
   refine c_seq fun _ hK8 => ?_
   refine c_block ?_
   refine c_loop2 (fun (q : Sl Int) (S : Hp) => q.xs.length ≤ 65536 ∧ OwnS Ei 1 3 (.slice q.a q.xs.length q.c) q.xs S) (fun (q : Sl Int) (S : Hp) => [(3, .slice q.a q.xs.length q.c)]) [(0, _), (4, _), (5, _), (6, _), (7, _), (8, _)] (fun (q : Sl Int) (S : Hp) => S) (fun (q : Sl Int) (S : Hp) => q.xs.length) q0 S0 ⟨hq0, hO0⟩ sbA sbA hzB ?_
   rintro q S ⟨hq, hO⟩
   have hOs := hO.sl
   have hOc := hOs.cap
   refine c_seq fun _ hK9 => ?_
   refine c_seq fun _ hK10 => ?_
   refine c_region ?_
   refine o_step rfl (s_move rfl) ?_
   refine o_step rfl (s_len rfl) ?_
   by_cases hp0 : (q.xs.length : Int) > 0
   ·
    obtain ⟨u, hu⟩ : ∃ u, q.xs[q.xs.length - 1]? = some u := ⟨_, List.getElem?_eq_getElem (by omega)⟩
    have hO1 := hO.pre (q.xs.length - 1) (by omega)
    have hql1 : (q.xs.take (q.xs.length - 1)).length = q.xs.length - 1 := by rw [List.length_take]; omega
    refine o_step rfl (step_cast (v' := .bool true) (s_gtr rfl rfl) (by rw [decide_eq_true (by omega)])) ?_
    refine o_step rfl (s_move rfl) ?_
    refine o_yes rfl rfl ?_
    refine o_step rfl (s_move rfl) ?_
    refine o_yes rfl rfl ?_
    refine o_step rfl (s_move rfl) ?_
    refine o_yes rfl rfl ?_
    refine o_step rfl (s_len rfl) ?_
    refine o_yes rfl rfl ?_
    refine o_step rfl (s_sub rfl rfl (by omega)) ?_
    refine o_yes rfl rfl ?_
    refine o_step rfl (s_idx rfl rfl hOs (by omega)) ?_
    refine o_yes rfl rfl ?_
    refine o_step rfl (s_ld rfl ((hO.rdk hiA).ld (q.xs.length - 1) 0 hu rfl (by decide) (by omega))) ?_
    refine o_yes rfl rfl ?_
    by_cases hle : u ≤ 0
    ·
     refine o_step rfl (step_cast (v' := .bool true) (s_leq rfl rfl) (by rw [decide_eq_true (by omega)])) ?_
     refine o_step rfl (s_pick_t rfl rfl) ?_
     refine o_nil ?_
     refine x_then (hK10 _ _ ?_)
     refine c_true rfl ?_
     refine c_skip ?_
     refine x_then (hK9 _ _ ?_)
     refine c_block ?_
     refine c_region ?_
     refine o_step rfl (s_move rfl) ?_
     refine o_step rfl (s_move rfl) ?_
     refine o_step rfl (s_len rfl) ?_
     refine o_step rfl (s_sub rfl rfl (by omega)) ?_
     refine o_step rfl (step_cast (v' := .slice q.a (q.xs.take (q.xs.length - 1)).length q.c) (s_slice_hi rfl rfl (by omega)) (by rw [hql1]; congr 1; omega)) ?_
     refine o_step rfl (s_assign rfl) ?_
     refine o_nil ?_
     refine x_block ?_
     exact x_then (x_inv (⟨q.a, q.c, q.xs.take (q.xs.length - 1)⟩, S) ⟨by rw [hql1]; omega, by dsimp only; rw [hql1]; exact hO1⟩ (by dsimp only; rw [hql1]; omega) sbA hzB)
    ·
     refine o_step rfl (step_cast (v' := .bool false) (s_leq rfl rfl) (by rw [decide_eq_false (by omega)])) ?_
     refine o_step rfl (s_pick_t rfl rfl) ?_
     refine o_nil ?_
     refine x_then (hK10 _ _ ?_)
     refine c_false rfl ?_
     refine c_exit ?_
     refine x_then_exit ?_
     refine x_then_exit ?_
     refine x_block_exit ?_
     refine x_then (hK8 _ _ ?_)
     refine c_seq fun _ hK11 => ?_
     refine c_seq fun _ hK12 => ?_
     refine c_region ?_
     refine o_step rfl (s_move rfl) ?_
     refine o_step rfl (s_len rfl) ?_
     by_cases hp1 : (q.xs.length : Int) > 0
     ·
      obtain ⟨u2, hu2⟩ : ∃ u, q.xs[q.xs.length - 1]? = some u := ⟨_, List.getElem?_eq_getElem (by omega)⟩
      refine o_step rfl (step_cast (v' := .bool true) (s_gtr rfl rfl) (by rw [decide_eq_true (by omega)])) ?_
      refine o_nil ?_
      refine x_then (hK12 _ _ ?_)
      refine c_true rfl ?_
      refine c_region ?_
      refine o_step rfl (s_move rfl) ?_
      refine o_step rfl (s_move rfl) ?_
      refine o_step rfl (s_len rfl) ?_
      refine o_step rfl (s_sub rfl rfl (by omega)) ?_
      refine o_step rfl (s_move rfl) ?_
      refine o_step rfl (s_move rfl) ?_
      refine o_step rfl (s_len rfl) ?_
      refine o_step rfl (s_sub rfl rfl (by omega)) ?_
      refine o_step rfl (s_idx rfl rfl hOs (by omega)) ?_
      refine o_step rfl (s_ld rfl ((hO.rdk hiA).ld (q.xs.length - 1) 0 hu2 rfl (by decide) (by omega))) ?_
      refine o_step rfl (s_subw rfl rfl) ?_
      refine o_step rfl (s_idx rfl rfl hOs (by omega)) ?_
      refine o_stS1 (q.xs.length - 1) _ hO pkA rfl rfl rfl (by omega) (by omega) fun S' hS' => ?_
      have hO := hS'
      refine o_nil ?_
      refine x_then (hK11 _ _ ?_)
      refine c_seq fun _ hK13 => ?_
      refine c_region ?_
      refine o_step rfl (s_move rfl) ?_
      refine o_step rfl (s_move rfl) ?_
      refine o_step rfl (s_move rfl) ?_
      refine o_step rfl (s_idx rfl rfl hsl (by omega)) ?_
      refine o_step rfl (s_field rfl rfl (by decide)) ?_
      refine o_step rfl (s_ld rfl ((RdK.old0 hw).ld j 8 hx rfl (by decide) (by omega))) ?_
      refine o_bs (E := Ei) (xs := [x.kids]) (vs := [_]) rfl rfl rfl rfl rfl (by decide) (by decide) fun b49 S49 hS49 => ?_
      refine o_app hO (hS49.rdk hiA) rfl rfl rfl rfl (by simp; omega) (by simp; omega) rfl pkA fun a50 c50 S50 hS50 => ?_
      refine o_step rfl (s_assign rfl) ?_
      refine o_nil ?_
      refine x_then (hK13 _ _ ?_)
      refine c_seq fun _ hK14 => ?_
      refine c_region ?_
      refine o_step rfl (s_move rfl) ?_
      refine o_step rfl (s_len rfl) ?_
      refine o_step rfl (s_gtr rfl rfl) ?_
      refine o_nil ?_
      refine x_then (hK14 _ _ ?_)
      refine c_if rfl (fun hbig => ?_) (fun hbig => ?_)
      ·
       refine c_seq fun _ hK15 => ?_
       refine c_region ?_
       refine o_step rfl (s_assign rfl) ?_
       refine o_nil ?_
       refine x_then (hK15 _ _ ?_)
       refine c_ret ?_
       refine x_block_ret (x_then_ret (x_then_ret (x_block_ret (x_then_ret (?_)))))
       exact x_ret rfl (.tmp rfl (.nil)) (⟨_, rfl⟩)
      ·
       refine c_skip ?_
       refine x_block ?_
       refine x_then (hK7 _ _ ?_)
       refine c_region ?_
       refine o_step rfl (s_move rfl) ?_
       refine o_step rfl (s_add rfl rfl (by omega)) ?_
       refine o_step rfl (s_assign rfl) ?_
       refine o_nil ?_
       exact x_then (x_inv (j + 1, ⟨a50, c50, _⟩, S50) ⟨by omega, by dsimp only; omega, hS50⟩ (by first | omega | (dsimp only; omega)) sbA hzB)
     ·
      refine o_step rfl (step_cast (v' := .bool false) (s_gtr rfl rfl) (by rw [decide_eq_false (by omega)])) ?_
      refine o_nil ?_
      refine x_then (hK12 _ _ ?_)
      refine c_false rfl ?_
      refine c_skip ?_
      refine x_then (hK11 _ _ ?_)
      refine c_seq fun _ hK16 => ?_
      refine c_region ?_
      refine o_step rfl (s_move rfl) ?_
      refine o_step rfl (s_move rfl) ?_
      refine o_step rfl (s_move rfl) ?_
      refine o_step rfl (s_idx rfl rfl hsl (by omega)) ?_
      refine o_step rfl (s_field rfl rfl (by decide)) ?_
      refine o_step rfl (s_ld rfl ((RdK.old0 hw).ld j 8 hx rfl (by decide) (by omega))) ?_
      refine o_bs (E := Ei) (xs := [x.kids]) (vs := [_]) rfl rfl rfl rfl rfl (by decide) (by decide) fun b49 S49 hS49 => ?_
      refine o_app hO (hS49.rdk hiA) rfl rfl rfl rfl (by simp; omega) (by simp; omega) rfl pkA fun a50 c50 S50 hS50 => ?_
      refine o_step rfl (s_assign rfl) ?_
      refine o_nil ?_
      refine x_then (hK16 _ _ ?_)
      refine c_seq fun _ hK17 => ?_
      refine c_region ?_
      refine o_step rfl (s_move rfl) ?_
      refine o_step rfl (s_len rfl) ?_
      refine o_step rfl (s_gtr rfl rfl) ?_
      refine o_nil ?_
      refine x_then (hK17 _ _ ?_)
      refine c_if rfl (fun hbig => ?_) (fun hbig => ?_)
      ·
       refine c_seq fun _ hK18 => ?_
       refine c_region ?_
       refine o_step rfl (s_assign rfl) ?_
       refine o_nil ?_
       refine x_then (hK18 _ _ ?_)
       refine c_ret ?_
       refine x_block_ret (x_then_ret (x_then_ret (x_block_ret (x_then_ret (?_)))))
       exact x_ret rfl (.tmp rfl (.nil)) (⟨_, rfl⟩)
      ·
       refine c_skip ?_
       refine x_block ?_
       refine x_then (hK7 _ _ ?_)
       refine c_region ?_
       refine o_step rfl (s_move rfl) ?_
       refine o_step rfl (s_add rfl rfl (by omega)) ?_
       refine o_step rfl (s_assign rfl) ?_
       refine o_nil ?_
       exact x_then (x_inv (j + 1, ⟨a50, c50, _⟩, S50) ⟨by omega, by dsimp only; omega, hS50⟩ (by first | omega | (dsimp only; omega)) sbA hzB)
   ·
    refine o_step rfl (step_cast (v' := .bool false) (s_gtr rfl rfl) (by rw [decide_eq_false (by omega)])) ?_
    refine o_step rfl (s_move rfl) ?_
    refine o_no rfl rfl rfl rfl ?_
    refine o_no rfl rfl rfl rfl ?_
    refine o_no rfl rfl rfl rfl ?_
    refine o_no rfl rfl rfl rfl ?_
    refine o_no rfl rfl rfl rfl ?_
    refine o_no rfl rfl rfl rfl ?_
    refine o_no rfl rfl rfl rfl ?_
    refine o_step rfl (s_pick_f rfl rfl) ?_
    refine o_nil ?_
    refine x_then (hK10 _ _ ?_)
    refine c_false rfl ?_
    refine c_exit ?_
    refine x_then_exit ?_
    refine x_then_exit ?_
    refine x_block_exit ?_
    refine x_then (hK8 _ _ ?_)
    refine c_seq fun _ hK19 => ?_
    refine c_seq fun _ hK20 => ?_
    refine c_region ?_
    refine o_step rfl (s_move rfl) ?_
    refine o_step rfl (s_len rfl) ?_
    by_cases hp1 : (q.xs.length : Int) > 0
    ·
     obtain ⟨u2, hu2⟩ : ∃ u, q.xs[q.xs.length - 1]? = some u := ⟨_, List.getElem?_eq_getElem (by omega)⟩
     refine o_step rfl (step_cast (v' := .bool true) (s_gtr rfl rfl) (by rw [decide_eq_true (by omega)])) ?_
     refine o_nil ?_
     refine x_then (hK20 _ _ ?_)
     refine c_true rfl ?_
     refine c_region ?_
     refine o_step rfl (s_move rfl) ?_
     refine o_step rfl (s_move rfl) ?_
     refine o_step rfl (s_len rfl) ?_
     refine o_step rfl (s_sub rfl rfl (by omega)) ?_
     refine o_step rfl (s_move rfl) ?_
     refine o_step rfl (s_move rfl) ?_
     refine o_step rfl (s_len rfl) ?_
     refine o_step rfl (s_sub rfl rfl (by omega)) ?_
     refine o_step rfl (s_idx rfl rfl hOs (by omega)) ?_
     refine o_step rfl (s_ld rfl ((hO.rdk hiA).ld (q.xs.length - 1) 0 hu2 rfl (by decide) (by omega))) ?_
     refine o_step rfl (s_subw rfl rfl) ?_
     refine o_step rfl (s_idx rfl rfl hOs (by omega)) ?_
     refine o_stS1 (q.xs.length - 1) _ hO pkA rfl rfl rfl (by omega) (by omega) fun S' hS' => ?_
     have hO := hS'
     refine o_nil ?_
     refine x_then (hK19 _ _ ?_)
     refine c_seq fun _ hK21 => ?_
     refine c_region ?_
     refine o_step rfl (s_move rfl) ?_
     refine o_step rfl (s_move rfl) ?_
     refine o_step rfl (s_move rfl) ?_
     refine o_step rfl (s_idx rfl rfl hsl (by omega)) ?_
     refine o_step rfl (s_field rfl rfl (by decide)) ?_
     refine o_step rfl (s_ld rfl ((RdK.old0 hw).ld j 8 hx rfl (by decide) (by omega))) ?_
     refine o_bs (E := Ei) (xs := [x.kids]) (vs := [_]) rfl rfl rfl rfl rfl (by decide) (by decide) fun b49 S49 hS49 => ?_
     refine o_app hO (hS49.rdk hiA) rfl rfl rfl rfl (by simp; omega) (by simp; omega) rfl pkA fun a50 c50 S50 hS50 => ?_
     refine o_step rfl (s_assign rfl) ?_
     refine o_nil ?_
     refine x_then (hK21 _ _ ?_)
     refine c_seq fun _ hK22 => ?_
     refine c_region ?_
     refine o_step rfl (s_move rfl) ?_
     refine o_step rfl (s_len rfl) ?_
     refine o_step rfl (s_gtr rfl rfl) ?_
     refine o_nil ?_
     refine x_then (hK22 _ _ ?_)
     refine c_if rfl (fun hbig => ?_) (fun hbig => ?_)
     ·
      refine c_seq fun _ hK23 => ?_
      refine c_region ?_
      refine o_step rfl (s_assign rfl) ?_
      refine o_nil ?_
      refine x_then (hK23 _ _ ?_)
      refine c_ret ?_
      refine x_block_ret (x_then_ret (x_then_ret (x_block_ret (x_then_ret (?_)))))
      exact x_ret rfl (.tmp rfl (.nil)) (⟨_, rfl⟩)
     ·
      refine c_skip ?_
      refine x_block ?_
      refine x_then (hK7 _ _ ?_)
      refine c_region ?_
      refine o_step rfl (s_move rfl) ?_
      refine o_step rfl (s_add rfl rfl (by omega)) ?_
      refine o_step rfl (s_assign rfl) ?_
      refine o_nil ?_
      exact x_then (x_inv (j + 1, ⟨a50, c50, _⟩, S50) ⟨by omega, by dsimp only; omega, hS50⟩ (by first | omega | (dsimp only; omega)) sbA hzB)
    ·
     refine o_step rfl (step_cast (v' := .bool false) (s_gtr rfl rfl) (by rw [decide_eq_false (by omega)])) ?_
     refine o_nil ?_
     refine x_then (hK20 _ _ ?_)
     refine c_false rfl ?_
     refine c_skip ?_
     refine x_then (hK19 _ _ ?_)
     refine c_seq fun _ hK24 => ?_
     refine c_region ?_
     refine o_step rfl (s_move rfl) ?_
     refine o_step rfl (s_move rfl) ?_
     refine o_step rfl (s_move rfl) ?_
     refine o_step rfl (s_idx rfl rfl hsl (by omega)) ?_
     refine o_step rfl (s_field rfl rfl (by decide)) ?_
     refine o_step rfl (s_ld rfl ((RdK.old0 hw).ld j 8 hx rfl (by decide) (by omega))) ?_
     refine o_bs (E := Ei) (xs := [x.kids]) (vs := [_]) rfl rfl rfl rfl rfl (by decide) (by decide) fun b49 S49 hS49 => ?_
     refine o_app hO (hS49.rdk hiA) rfl rfl rfl rfl (by simp; omega) (by simp; omega) rfl pkA fun a50 c50 S50 hS50 => ?_
     refine o_step rfl (s_assign rfl) ?_
     refine o_nil ?_
     refine x_then (hK24 _ _ ?_)
     refine c_seq fun _ hK25 => ?_
     refine c_region ?_
     refine o_step rfl (s_move rfl) ?_
     refine o_step rfl (s_len rfl) ?_
     refine o_step rfl (s_gtr rfl rfl) ?_
     refine o_nil ?_
     refine x_then (hK25 _ _ ?_)
     refine c_if rfl (fun hbig => ?_) (fun hbig => ?_)
     ·
      refine c_seq fun _ hK26 => ?_
      refine c_region ?_
      refine o_step rfl (s_assign rfl) ?_
      refine o_nil ?_
      refine x_then (hK26 _ _ ?_)
      refine c_ret ?_
      refine x_block_ret (x_then_ret (x_then_ret (x_block_ret (x_then_ret (?_)))))
      exact x_ret rfl (.tmp rfl (.nil)) (⟨_, rfl⟩)
     ·
      refine c_skip ?_
      refine x_block ?_
      refine x_then (hK7 _ _ ?_)
      refine c_region ?_
      refine o_step rfl (s_move rfl) ?_
      refine o_step rfl (s_add rfl rfl (by omega)) ?_
      refine o_step rfl (s_assign rfl) ?_
      refine o_nil ?_
      exact x_then (x_inv (j + 1, ⟨a50, c50, _⟩, S50) ⟨by omega, by dsimp only; omega, hS50⟩ (by first | omega | (dsimp only; omega)) sbA hzB)
  ·
   refine o_step rfl (step_cast (v' := .bool false) (s_lss rfl rfl) (by rw [decide_eq_false (by omega)])) ?_
   refine o_nil ?_
   refine x_then (hK6 _ _ ?_)
   refine c_false rfl ?_
   refine c_exit ?_
   refine x_then_exit ?_
   refine x_then_exit ?_
   refine x_block_exit ?_
   refine x_then (hK3 _ _ ?_)
   refine c_seq fun _ hK27 => ?_
   refine c_region ?_
   refine o_step rfl (s_assign rfl) ?_
   refine o_nil ?_
   refine x_then (hK27 _ _ ?_)
   refine c_ret ?_
   refine ?_
   exact x_ret rfl (.tmp rfl (.nil)) (⟨_, rfl⟩)

set_option maxHeartbeats 1000000 in
theorem short_fn (ra : Option Addr) (rc : Nat) (re : List Nd) (hre : ∀ x ∈ re, -128 ≤ x.op ∧ x.op < 128) (ta : Option Addr) (tc : Nat) (w : List UInt8) (hwl : w.length ≤ 1000000) (pw most : Int) (hpw : pw ≤ 1000) (hm : most ≤ 33554432) : HL.Fn Tryd.prog 8 [.slice ra re.length rc, .slice ta w.length tc, .int .i64 pw, .int .i64 most] (fun W => Rd En W (.slice ra re.length rc) re ∧ Rd Eb W (.slice ta w.length tc) w) [] (fun v S' => ∃ n a c, v = .slice a (w.take n).length c ∧ OwnS Eb 1 5 (.slice a (w.take n).length c) (w.take n) S') := by
  refine fn_of Tryd.func8 rfl rfl rfl fun w0 hw => ?_
  have hsl := hw.1.sl
  have hbl := hsl.le
  have hst := hw.2.sl
  have hsc := hst.cap
  refine c_seq fun _ hK1 => ?_
  refine c_region ?_
  refine o_step rfl (s_assign rfl) ?_
  refine o_nil ?_
  refine x_then (hK1 _ _ ?_)
  refine c_seq fun _ hK2 => ?_
  refine c_region ?_
  refine o_step rfl (s_move rfl) ?_
  refine o_callP (rWeight_fn ra rc re hre) rfl rfl rfl (fun w st => (RdK.old0 hw.1).out w st) (fun v15 ⟨wt, hwt, hv15⟩ => ?_)
  subst hv15
  refine o_step rfl (s_move rfl) ?_
  refine o_step rfl (s_len rfl) ?_
  refine o_step rfl (s_add rfl rfl (by omega)) ?_
  refine o_step rfl (s_add rfl rfl (by omega)) ?_
  refine o_step rfl (s_assign rfl) ?_
  refine o_nil ?_
  refine x_then (hK2 _ _ ?_)
  refine c_seq fun _ hK3 => ?_
  refine c_region ?_
  refine o_step rfl (s_assign rfl) ?_
  refine o_nil ?_
  refine x_then (hK3 _ _ ?_)
  refine c_seq fun _ hK4 => ?_
  refine c_block ?_
  refine c_loopB (fun (n : Nat) => n ≤ w.length) (fun (n : Nat) => [(10, .int .i64 n)]) [(1, _), (2, _), (3, _), (8, _), (9, _)] (fun (n : Nat) => []) (fun (n : Nat) => w.length - n) 0 (by omega) sbA sbA hzB ?_
  rintro n hn
  refine c_seq fun _ hK5 => ?_
  refine c_seq fun _ hK6 => ?_
  refine c_region ?_
  refine o_step rfl (s_move rfl) ?_
  refine o_step rfl (s_move rfl) ?_
  refine o_step rfl (s_len rfl) ?_
  by_cases hnw : n < w.length
  ·
   refine o_step rfl (step_cast (v' := .bool true) (s_lss rfl rfl) (by rw [decide_eq_true (by omega)])) ?_
   refine o_nil ?_
   refine x_then (hK6 _ _ ?_)
   refine c_true rfl ?_
   refine c_skip ?_
   refine x_then (hK5 _ _ ?_)
   refine c_block ?_
   refine c_seq fun _ hK7 => ?_
   refine c_region ?_
   refine o_step rfl (s_move rfl) ?_
   refine o_step rfl (s_assign rfl) ?_
   refine o_nil ?_
   refine x_then (hK7 _ _ ?_)
   refine c_seq fun _ hK8 => ?_
   refine c_seq fun _ hK9 => ?_
   refine c_region ?_
   refine o_step rfl (s_assign rfl) ?_
   refine o_nil ?_
   refine x_then (hK9 _ _ ?_)
   refine c_block ?_
   refine c_loop2 (fun (i : Nat) (c : Nat) => (i = 0 ∨ (i : Int) ≤ pw) ∧ c ≤ 281474976710656) (fun (i : Nat) (c : Nat) => [(12, .int .i64 i), (11, .int .i64 c)]) [(1, _), (2, _), (3, _), (8, _), (9, _), (10, _), (20, _), (21, _), (22, _), (23, _), (24, _)] (fun (i : Nat) (c : Nat) => []) (fun (i : Nat) (c : Nat) => (pw - i).toNat) 0 (wt + re.length + 1) ⟨by omega, by omega⟩ sbA sbA hzB ?_
   rintro i c ⟨hi, hc⟩
   refine c_seq fun _ hK10 => ?_
   refine c_seq fun _ hK11 => ?_
   refine c_region ?_
   refine o_step rfl (s_move rfl) ?_
   refine o_step rfl (s_move rfl) ?_
   by_cases hip : (i : Int) < pw
   ·
    refine o_step rfl (step_cast (v' := .bool true) (s_lss rfl rfl) (by rw [decide_eq_true (by omega)])) ?_
    refine o_step rfl (s_move rfl) ?_
    refine o_yes rfl rfl ?_
    refine o_step rfl (s_move rfl) ?_
    refine o_yes rfl rfl ?_
    refine o_step rfl (s_move rfl) ?_
    refine o_yes rfl rfl ?_
    by_cases hcm : (c : Int) ≤ most
    ·
     have hcb := shortB hcm hm (Nat.le_trans hn hwl)
     refine o_step rfl (step_cast (v' := .bool true) (s_leq rfl rfl) (by rw [decide_eq_true (by omega)])) ?_
     refine o_step rfl (s_pick_t rfl rfl) ?_
     refine o_nil ?_
     refine x_then (hK11 _ _ ?_)
     refine c_true rfl ?_
     refine c_skip ?_
     refine x_then (hK10 _ _ ?_)
     refine c_seq fun _ hK12 => ?_
     refine c_block ?_
     refine c_region ?_
     refine o_step rfl (s_move rfl) ?_
     refine o_step rfl (s_move rfl) ?_
     refine o_step rfl (s_add rfl rfl (by omega)) ?_
     refine o_step rfl (step_cast (v' := .int .i64 (c * (n + 2) : Nat)) (s_mul rfl rfl (by have e : (c : Int) * ((n : Int) + 2) = (c * (n + 2) : Nat) := (by push_cast; rfl); omega)) (congrArg (Value.int .i64) (by push_cast; rfl))) ?_
     refine o_step rfl (s_assign rfl) ?_
     refine o_nil ?_
     refine x_block ?_
     refine x_then (hK12 _ _ ?_)
     refine c_region ?_
     refine o_step rfl (s_move rfl) ?_
     refine o_step rfl (s_add rfl rfl (by omega)) ?_
     refine o_step rfl (s_assign rfl) ?_
     refine o_nil ?_
     exact x_then (x_inv (i + 1, c * (n + 2)) ⟨by omega, by omega⟩ (by first | omega | (dsimp only; omega)) sbA hzB)
    ·
     refine o_step rfl (step_cast (v' := .bool false) (s_leq rfl rfl) (by rw [decide_eq_false (by omega)])) ?_
     refine o_step rfl (s_pick_t rfl rfl) ?_
     refine o_nil ?_
     refine x_then (hK11 _ _ ?_)
     refine c_false rfl ?_
     refine c_exit ?_
     refine x_then_exit ?_
     refine x_then_exit ?_
     refine x_block_exit ?_
     refine x_then (hK8 _ _ ?_)
     refine c_seq fun _ hK13 => ?_
     refine c_seq fun _ hK14 => ?_
     refine c_region ?_
     refine o_step rfl (s_move rfl) ?_
     refine o_step rfl (s_move rfl) ?_
     refine o_step rfl (s_gtr rfl rfl) ?_
     refine o_nil ?_
     refine x_then (hK14 _ _ ?_)
     refine c_if rfl (fun hbig => ?_) (fun hbig => ?_)
     ·
      refine c_exit ?_
      refine x_then_exit ?_
      refine x_block_pass rfl ?_
      refine x_then_exit ?_
      refine x_block_exit ?_
      refine x_then (hK4 _ _ ?_)
      refine c_seq fun _ hK15 => ?_
      refine c_region ?_
      refine o_step rfl (s_assign rfl) ?_
      refine o_nil ?_
      refine x_then (hK15 _ _ ?_)
      refine c_seq fun _ hK16 => ?_
      refine c_region ?_
      refine o_step rfl (s_move rfl) ?_
      refine o_step rfl (s_move rfl) ?_
      refine o_step rfl (s_move rfl) ?_
      refine o_step rfl (step_cast (v' := .slice ta (w.take n).length tc) (s_slice_hi rfl rfl (by omega)) (by rw [List.length_take]; congr 1; omega)) ?_
      refine o_app OwnS.nil (RdK.old0 (hw.2.pref n)) rfl rfl rfl rfl (by simp; omega) (by simp; omega) rfl pkA fun a48 c48 S48 hS48 => ?_
      simp only [List.nil_append] at hS48
      refine o_step rfl (s_assign rfl) ?_
      refine o_nil ?_
      refine x_then (hK16 _ _ ?_)
      refine c_ret ?_
      refine ?_
      refine x_sub (Sub.refl _) (H' := S48) hzB ?_
      exact x_ret rfl (.tmp rfl (.nil)) (⟨n, _, _, rfl, hS48⟩)
     ·
      refine c_skip ?_
      refine x_then (hK13 _ _ ?_)
      refine c_region ?_
      refine o_step rfl (s_move rfl) ?_
      refine o_step rfl (s_add rfl rfl (by omega)) ?_
      refine o_step rfl (s_assign rfl) ?_
      refine o_nil ?_
      refine x_block ?_
      exact x_then (x_inv (n + 1) (by omega) (by first | omega | (dsimp only; omega)) sbA hzB)
   ·
    refine o_step rfl (step_cast (v' := .bool false) (s_lss rfl rfl) (by rw [decide_eq_false (by omega)])) ?_
    refine o_step rfl (s_move rfl) ?_
    refine o_no rfl rfl rfl rfl ?_
    refine o_no rfl rfl rfl rfl ?_
    refine o_no rfl rfl rfl rfl ?_
    refine o_step rfl (s_pick_f rfl rfl) ?_
    refine o_nil ?_
    refine x_then (hK11 _ _ ?_)
    refine c_false rfl ?_
    refine c_exit ?_
    refine x_then_exit ?_
    refine x_then_exit ?_
    refine x_block_exit ?_
    refine x_then (hK8 _ _ ?_)
    refine c_seq fun _ hK17 => ?_
    refine c_seq fun _ hK18 => ?_
    refine c_region ?_
    refine o_step rfl (s_move rfl) ?_
    refine o_step rfl (s_move rfl) ?_
    refine o_step rfl (s_gtr rfl rfl) ?_
    refine o_nil ?_
    refine x_then (hK18 _ _ ?_)
    refine c_if rfl (fun hbig => ?_) (fun hbig => ?_)
    ·
     refine c_exit ?_
     refine x_then_exit ?_
     refine x_block_pass rfl ?_
     refine x_then_exit ?_
     refine x_block_exit ?_
     refine x_then (hK4 _ _ ?_)
     refine c_seq fun _ hK19 => ?_
     refine c_region ?_
     refine o_step rfl (s_assign rfl) ?_
     refine o_nil ?_
     refine x_then (hK19 _ _ ?_)
     refine c_seq fun _ hK20 => ?_
     refine c_region ?_
     refine o_step rfl (s_move rfl) ?_
     refine o_step rfl (s_move rfl) ?_
     refine o_step rfl (s_move rfl) ?_
     refine o_step rfl (step_cast (v' := .slice ta (w.take n).length tc) (s_slice_hi rfl rfl (by omega)) (by rw [List.length_take]; congr 1; omega)) ?_
     refine o_app OwnS.nil (RdK.old0 (hw.2.pref n)) rfl rfl rfl rfl (by simp; omega) (by simp; omega) rfl pkA fun a48 c48 S48 hS48 => ?_
     simp only [List.nil_append] at hS48
     refine o_step rfl (s_assign rfl) ?_
     refine o_nil ?_
     refine x_then (hK20 _ _ ?_)
     refine c_ret ?_
     refine ?_
     refine x_sub (Sub.refl _) (H' := S48) hzB ?_
     exact x_ret rfl (.tmp rfl (.nil)) (⟨n, _, _, rfl, hS48⟩)
    ·
     refine c_skip ?_
     refine x_then (hK17 _ _ ?_)
     refine c_region ?_
     refine o_step rfl (s_move rfl) ?_
     refine o_step rfl (s_add rfl rfl (by omega)) ?_
     refine o_step rfl (s_assign rfl) ?_
     refine o_nil ?_
     refine x_block ?_
     exact x_then (x_inv (n + 1) (by omega) (by first | omega | (dsimp only; omega)) sbA hzB)
  ·
   refine o_step rfl (step_cast (v' := .bool false) (s_lss rfl rfl) (by rw [decide_eq_false (by omega)])) ?_
   refine o_nil ?_
   refine x_then (hK6 _ _ ?_)
   refine c_false rfl ?_
   refine c_exit ?_
   refine x_then_exit ?_
   refine x_then_exit ?_
   refine x_block_exit ?_
   refine x_then (hK4 _ _ ?_)
   refine c_seq fun _ hK21 => ?_
   refine c_region ?_
   refine o_step rfl (s_assign rfl) ?_
   refine o_nil ?_
   refine x_then (hK21 _ _ ?_)
   refine c_seq fun _ hK22 => ?_
   refine c_region ?_
   refine o_step rfl (s_move rfl) ?_
   refine o_step rfl (s_move rfl) ?_
   refine o_step rfl (s_move rfl) ?_
   refine o_step rfl (step_cast (v' := .slice ta (w.take n).length tc) (s_slice_hi rfl rfl (by omega)) (by rw [List.length_take]; congr 1; omega)) ?_
   refine o_app OwnS.nil (RdK.old0 (hw.2.pref n)) rfl rfl rfl rfl (by simp; omega) (by simp; omega) rfl pkA fun a48 c48 S48 hS48 => ?_
   simp only [List.nil_append] at hS48
   refine o_step rfl (s_assign rfl) ?_
   refine o_nil ?_
   refine x_then (hK22 _ _ ?_)
   refine c_ret ?_
   refine ?_
   refine x_sub (Sub.refl _) (H' := S48) hzB ?_
   exact x_ret rfl (.tmp rfl (.nil)) (⟨n, _, _, rfl, hS48⟩)
end Go.Proofs.YtiggliigookieaaDoor

/- Part of the proofs over this seat: see the text that holds the theorem. Conditions: each theorem bears its own. -/
namespace Go.Proofs.YtiggliigookieaaDoor
open Go Go.HL Go.Proofs Go.HL.Kl Go.HL.Kl.Mc Go.HL.Kl.Mc.AskE
theorem may10_fn (ra : Option Addr) (rc : Nat) (re : List Nd) (hre : ∀ x ∈ re, -128 ≤ x.op ∧ x.op < 128) : HL.Fn Tryd.prog 30 [.slice ra re.length rc] (fun w => Rd En w (.slice ra re.length rc) re) [] (fun v _ => v = .bool (shapedB re && !refsB re)) := by
  refine fn_of Tryd.func30 rfl rfl rfl fun w0 hw => ?_
  refine c_seq fun _ hK1 => ?_
  refine c_region ?_
  refine o_step rfl (s_assign rfl) ?_
  refine o_nil ?_
  refine x_then (hK1 _ _ ?_)
  refine c_seq fun _ hK2 => ?_
  refine c_region ?_
  refine o_step rfl (s_move rfl) ?_
  refine o_callP (rShaped_fn ra rc re hre) rfl rfl rfl (fun w st => (RdK.old0 hw).out w st) (fun v4 hv4 => ?_)
  subst hv4
  cases hsb : shapedB re
  ·
   refine o_step rfl (s_move rfl) ?_
   refine o_no rfl rfl rfl rfl ?_
   refine o_no rfl rfl rfl rfl ?_
   refine o_no rfl rfl rfl rfl ?_
   refine o_step rfl (s_pick_f rfl rfl) ?_
   refine o_step rfl (s_assign rfl) ?_
   refine o_nil ?_
   refine x_then (hK2 _ _ ?_)
   refine c_ret ?_
   refine ?_
   exact x_ret rfl (.tmp rfl (.nil)) ((by rw [hsb]; rfl))
  ·
   refine o_step rfl (s_move rfl) ?_
   refine o_yes rfl rfl ?_
   refine o_step rfl (s_move rfl) ?_
   refine o_yes rfl rfl ?_
   refine o_callP (rRefs_fn ra rc re hre) rfl rfl rfl (fun w st => (RdK.old0 hw).out w st) (fun v7 hv7 => ?_)
   subst hv7
   refine o_yes rfl rfl ?_
   refine o_step rfl (s_not rfl) ?_
   refine o_step rfl (s_pick_t rfl rfl) ?_
   refine o_step rfl (s_assign rfl) ?_
   refine o_nil ?_
   refine x_then (hK2 _ _ ?_)
   refine c_ret ?_
   refine ?_
   exact x_ret rfl (.tmp rfl (.nil)) ((by rw [hsb]; rfl))

set_option maxHeartbeats 1000000 in
theorem none10_fn (ra : Option Addr) (rc : Nat) (re : List Nd) (hre : ∀ x ∈ re, -128 ≤ x.op ∧ x.op < 128) (hsb : shapedB re = true) (hrl : re.length ≤ 1000000) : HL.Fn Tryd.prog 51 [.slice ra re.length rc] (fun w => Rd En w (.slice ra re.length rc) re) [] (fun v S' => ∃ a c, v = .slice a (gcn re + 1) c ∧ OwnS Esp 2 62 (.slice a (gcn re + 1) c) (List.replicate (gcn re + 1) noS) S') := by
  refine fn_of Tryd.func51 rfl rfl rfl fun w0 hw => ?_
  have hgl : gcn re ≤ re.length := List.countP_le_length
  refine c_seq fun _ hK1 => ?_
  refine c_region ?_
  refine o_step rfl (s_assign rfl) ?_
  refine o_nil ?_
  refine x_then (hK1 _ _ ?_)
  refine c_seq fun _ hK2 => ?_
  refine c_region ?_
  refine o_step rfl (s_assign rfl) ?_
  refine o_nil ?_
  refine x_then (hK2 _ _ ?_)
  refine c_seq fun _ hK3 => ?_
  refine c_seq fun _ hK4 => ?_
  refine c_region ?_
  refine o_step rfl (s_assign rfl) ?_
  refine o_nil ?_
  refine x_then (hK4 _ _ ?_)
  refine c_block ?_
  refine c_loop3 (fun (j : Nat) (q : Sl Sp) (S : Hp) => j ≤ gcn re + 1 ∧ q.xs = List.replicate j noS ∧ OwnS Esp 2 62 (.slice q.a q.xs.length q.c) q.xs S) (fun (j : Nat) (q : Sl Sp) (S : Hp) => [(4, .int .i64 j), (3, .slice q.a q.xs.length q.c)]) [(0, _), (2, _)] (fun (j : Nat) (q : Sl Sp) (S : Hp) => S) (fun (j : Nat) (q : Sl Sp) (S : Hp) => gcn re + 1 - j) 0 ⟨none, 0, []⟩ [] ⟨by omega, rfl, .nil⟩ sbA sbA hzB ?_
  rintro j q S ⟨hj, hq, hS⟩
  have hql : q.xs.length = j := by rw [hq, List.length_replicate]
  refine c_seq fun _ hK5 => ?_
  refine c_seq fun _ hK6 => ?_
  refine c_region ?_
  refine o_step rfl (s_move rfl) ?_
  refine o_step rfl (s_move rfl) ?_
  refine o_callP (rGroups_fn ra rc re hre) rfl rfl rfl (fun w st => (RdK.old0 hw).out w st) (fun v7 hv7 => ?_)
  rw [hsb, if_pos rfl] at hv7
  subst hv7
  by_cases hjl : (j : Int) ≤ gcn re
  ·
   refine o_step rfl (step_cast (v' := .bool true) (s_leq rfl rfl) (by rw [decide_eq_true (by omega)])) ?_
   refine o_nil ?_
   refine x_then (hK6 _ _ ?_)
   refine c_true rfl ?_
   refine c_skip ?_
   refine x_then (hK5 _ _ ?_)
   refine c_seq fun _ hK7 => ?_
   refine c_block ?_
   refine c_region ?_
   refine o_step rfl (s_move rfl) ?_
   refine o_step rfl (step_cast (v' := .agg (Esp noS).toArray) (s_build (cs := [_, _]) (vs := [_, _]) rfl rfl (.cons rfl rfl rfl rfl rfl (.cons rfl rfl rfl rfl rfl (.nil)))) rfl) ?_
   refine o_bs (E := Esp) (xs := [noS]) (vs := [_]) rfl rfl rfl rfl rfl (by decide) (by decide) fun b13 S13 hS13 => ?_
   refine o_app hS (hS13.rdk hiA) rfl rfl rfl rfl (by simp; omega) (by simp; omega) rfl pkA fun a14 c14 S14 hS14 => ?_
   refine o_step rfl (s_assign rfl) ?_
   refine o_nil ?_
   refine x_block ?_
   refine x_then (hK7 _ _ ?_)
   refine c_region ?_
   refine o_step rfl (s_move rfl) ?_
   refine o_step rfl (s_add rfl rfl (by omega)) ?_
   refine o_step rfl (s_assign rfl) ?_
   refine o_nil ?_
   exact x_then (x_inv (j + 1, ⟨a14, c14, q.xs ++ [noS]⟩, S14) ⟨by omega, by dsimp only; rw [hq, List.replicate_succ'], hS14⟩ (by first | omega | (dsimp only; omega)) sbA hzB)
  ·
   obtain rfl : j = gcn re + 1 := by omega
   refine o_step rfl (step_cast (v' := .bool false) (s_leq rfl rfl) (by rw [decide_eq_false (by omega)])) ?_
   refine o_nil ?_
   refine x_then (hK6 _ _ ?_)
   refine c_false rfl ?_
   refine c_exit ?_
   refine x_then_exit ?_
   refine x_then_exit ?_
   refine x_block_exit ?_
   refine x_then (hK3 _ _ ?_)
   refine c_seq fun _ hK8 => ?_
   refine c_region ?_
   refine o_step rfl (s_move rfl) ?_
   refine o_step rfl (s_assign rfl) ?_
   refine o_nil ?_
   refine x_then (hK8 _ _ ?_)
   refine c_ret ?_
   refine ?_
   refine x_sub (Sub.refl _) (H' := S) hzB ?_
   rw [hql, hq] at hS
   exact x_ret rfl (.tmp rfl (.nil)) (⟨q.a, q.c, by rw [hql]; rfl, hS⟩)

theorem best_all (K : WalkE) (hK : K.ok) : ∀ (n : Nat) (x : Nd) (ks : F), ks.size < n → BestK Tryd.prog K 52 62 x ks := by
  intro n
  induction n with
  | zero => intro x ks h; omega
  | succ n ihn => exact fun x ks h i i1 p q cs Sc hp hpq hq hd hcl hsl hO => best_step K hK x ks i i1 hp p q hpq hq hd (fun y js hj => ihn y js (by omega)) cs Sc hcl hsl hO

set_option maxHeartbeats 1000000 in
theorem rBest_fn (ra : Option Addr) (rc : Nat) (re : List Nd) (hre : ∀ x ∈ re, -128 ≤ x.op ∧ x.op < 128) (ta : Option Addr) (tc : Nat) (w : List UInt8) (hwl : w.length ≤ 1000000) (fr to : Int) : HL.Fn Tryd.prog 22 [.slice ra re.length rc, .slice ta w.length tc, .agg (Esp ⟨fr, to⟩).toArray] (fun W => Rd En W (.slice ra re.length rc) re ∧ Rd Eb W (.slice ta w.length tc) w) [] (BestP 62 re w fr to) := by
  refine fn_of Tryd.func22 rfl rfl rfl fun w0 hw => ?_
  refine c_seq fun _ hK1 => ?_
  refine c_region ?_
  refine o_box rfl rfl rfl fun b5 => ?_
  refine o_step rfl (s_assign rfl) ?_
  refine o_step rfl (s_assign rfl) ?_
  refine o_nil ?_
  refine x_then (hK1 _ _ ?_)
  refine c_seq fun _ hK2 => ?_
  refine c_seq fun _ hK3 => ?_
  refine c_region ?_
  refine o_step rfl (s_move rfl) ?_
  refine o_callP (may10_fn ra rc re hre) rfl rfl rfl (fun w2 st => (RdK.old0 hw.1).out w2 st) (fun v11 hv11 => ?_)
  by_cases hmay : (shapedB re && !refsB re) = true
  ·
   rw [hmay] at hv11
   subst hv11
   rw [Bool.and_eq_true] at hmay
   have hsb := hmay.1
   have hrb : refsB re = false := by simpa using hmay.2
   obtain ⟨_, x, ks, hmx⟩ := shapedB_iff.1 hsb
   have hr8 := no_refs hsb hrb
   refine o_step rfl (s_not rfl) ?_
   refine o_step rfl (s_move rfl) ?_
   refine o_yes rfl rfl ?_
   refine o_step rfl (s_field rfl rfl (by decide)) ?_
   refine o_yes rfl rfl ?_
   refine o_step rfl (s_ld rfl ((.own meA rfl : Cel _ _ _ (.int .i64 fr)))) ?_
   refine o_yes rfl rfl ?_
   by_cases hf0 : fr < 0
   ·
    refine o_step rfl (step_cast (v' := .bool true) (s_lss rfl rfl) (by rw [decide_eq_true (by omega)])) ?_
    refine o_step rfl (s_pick_f rfl rfl) ?_
    refine o_step rfl (s_move rfl) ?_
    refine o_no rfl rfl rfl rfl ?_
    refine o_no rfl rfl rfl rfl ?_
    refine o_no rfl rfl rfl rfl ?_
    refine o_no rfl rfl rfl rfl ?_
    refine o_no rfl rfl rfl rfl ?_
    refine o_step rfl (s_pick_t rfl rfl) ?_
    refine o_step rfl (s_move rfl) ?_
    refine o_no rfl rfl rfl rfl ?_
    refine o_no rfl rfl rfl rfl ?_
    refine o_no rfl rfl rfl rfl ?_
    refine o_no rfl rfl rfl rfl ?_
    refine o_no rfl rfl rfl rfl ?_
    refine o_step rfl (s_pick_t rfl rfl) ?_
    refine o_nil ?_
    refine x_then (hK3 _ _ ?_)
    refine c_true rfl ?_
    refine c_seq fun _ hK4 => ?_
    refine c_region ?_
    refine o_step rfl (s_assign rfl) ?_
    refine o_step rfl (s_assign rfl) ?_
    refine o_nil ?_
    refine x_then (hK4 _ _ ?_)
    refine c_ret ?_
    refine x_then_ret (?_)
    refine x_sub (Sub.refl _) (H' := []) HSub.nil ?_
    exact x_ret rfl (.tmp rfl (.tmp rfl (.nil))) (.inr ⟨fun ⟨x2, ks2, p2, q2, hm, h1, h2, h3, h4, h5⟩ => (by omega), rfl, rfl⟩)
   ·
    refine o_step rfl (step_cast (v' := .bool false) (s_lss rfl rfl) (by rw [decide_eq_false (by omega)])) ?_
    refine o_step rfl (s_pick_f rfl rfl) ?_
    refine o_step rfl (s_move rfl) ?_
    refine o_yes rfl rfl ?_
    refine o_step rfl (s_field rfl rfl (by decide)) ?_
    refine o_yes rfl rfl ?_
    refine o_step rfl (s_ld rfl ((.own meA rfl : Cel _ _ _ (.int .i64 fr)))) ?_
    refine o_yes rfl rfl ?_
    refine o_step rfl (s_field rfl rfl (by decide)) ?_
    refine o_yes rfl rfl ?_
    refine o_step rfl (s_ld rfl ((.own meA rfl : Cel _ _ _ (.int .i64 to)))) ?_
    refine o_yes rfl rfl ?_
    by_cases hft : fr > to
    ·
     refine o_step rfl (step_cast (v' := .bool true) (s_gtr rfl rfl) (by rw [decide_eq_true (by omega)])) ?_
     refine o_step rfl (s_pick_f rfl rfl) ?_
     refine o_step rfl (s_move rfl) ?_
     refine o_no rfl rfl rfl rfl ?_
     refine o_no rfl rfl rfl rfl ?_
     refine o_no rfl rfl rfl rfl ?_
     refine o_no rfl rfl rfl rfl ?_
     refine o_no rfl rfl rfl rfl ?_
     refine o_step rfl (s_pick_t rfl rfl) ?_
     refine o_nil ?_
     refine x_then (hK3 _ _ ?_)
     refine c_true rfl ?_
     refine c_seq fun _ hK5 => ?_
     refine c_region ?_
     refine o_step rfl (s_assign rfl) ?_
     refine o_step rfl (s_assign rfl) ?_
     refine o_nil ?_
     refine x_then (hK5 _ _ ?_)
     refine c_ret ?_
     refine x_then_ret (?_)
     refine x_sub (Sub.refl _) (H' := []) HSub.nil ?_
     exact x_ret rfl (.tmp rfl (.tmp rfl (.nil))) (.inr ⟨fun ⟨x2, ks2, p2, q2, hm, h1, h2, h3, h4, h5⟩ => (by omega), rfl, rfl⟩)
    ·
     refine o_step rfl (step_cast (v' := .bool false) (s_gtr rfl rfl) (by rw [decide_eq_false (by omega)])) ?_
     refine o_step rfl (s_pick_f rfl rfl) ?_
     refine o_step rfl (s_move rfl) ?_
     refine o_yes rfl rfl ?_
     refine o_step rfl (s_field rfl rfl (by decide)) ?_
     refine o_yes rfl rfl ?_
     refine o_step rfl (s_ld rfl ((.own meA rfl : Cel _ _ _ (.int .i64 to)))) ?_
     refine o_yes rfl rfl ?_
     refine o_step rfl (s_move rfl) ?_
     refine o_yes rfl rfl ?_
     refine o_step rfl (s_len rfl) ?_
     refine o_yes rfl rfl ?_
     by_cases htl : to > w.length
     ·
      refine o_step rfl (step_cast (v' := .bool true) (s_gtr rfl rfl) (by rw [decide_eq_true (by omega)])) ?_
      refine o_step rfl (s_pick_f rfl rfl) ?_
      refine o_nil ?_
      refine x_then (hK3 _ _ ?_)
      refine c_true rfl ?_
      refine c_seq fun _ hK6 => ?_
      refine c_region ?_
      refine o_step rfl (s_assign rfl) ?_
      refine o_step rfl (s_assign rfl) ?_
      refine o_nil ?_
      refine x_then (hK6 _ _ ?_)
      refine c_ret ?_
      refine x_then_ret (?_)
      refine x_sub (Sub.refl _) (H' := []) HSub.nil ?_
      exact x_ret rfl (.tmp rfl (.tmp rfl (.nil))) (.inr ⟨fun ⟨x2, ks2, p2, q2, hm, h1, h2, h3, h4, h5⟩ => (by omega), rfl, rfl⟩)
     ·
      obtain ⟨p, rfl⟩ : ∃ p : Nat, fr = p := ⟨fr.toNat, by omega⟩
      obtain ⟨q, rfl⟩ : ∃ q : Nat, to = q := ⟨to.toNat, by omega⟩
      refine o_step rfl (step_cast (v' := .bool false) (s_gtr rfl rfl) (by rw [decide_eq_false (by omega)])) ?_
      refine o_step rfl (s_pick_f rfl rfl) ?_
      refine o_nil ?_
      refine x_then (hK3 _ _ ?_)
      refine c_false rfl ?_
      refine c_skip ?_
      refine x_then (hK2 _ _ ?_)
      refine c_seq fun _ hK7 => ?_
      refine c_region ?_
      refine o_step rfl (s_move rfl) ?_
      refine o_step rfl (s_move rfl) ?_
      refine o_step rfl (s_field rfl rfl (by decide)) ?_
      refine o_step rfl (s_ld rfl ((.own meA rfl : Cel _ _ _ (.int .i64 (p : Int))))) ?_
      refine o_call (takes_fn ra rc re x ks hmx hre hr8 ta tc w hwl p (by omega)) rfl rfl rfl (by exact .nil) (fun w2 st => ⟨(RdK.old0 hw.1).out w2 st, (RdK.old0 hw.2).out w2 st⟩) (fun v36 S36 ⟨a36, c36, l36, hv36, hi36, hr36⟩ => ?_)
      subst hv36
      have hll := hi36.len
      have hlq := bo0_get (l := l36) (i := q) (by omega)
      refine o_step rfl (s_assign rfl) ?_
      refine o_nil ?_
      refine x_then (hK7 _ _ ?_)
      refine c_seq fun _ hK8 => ?_
      refine c_seq fun _ hK9 => ?_
      refine c_knw (p := IsSl (.slice a36 l36.length c36) l36.length) (fun w2 st => ((hr36.rdk hiA).out w2 st).sl) fun hls => ?_
      refine c_region ?_
      refine o_step rfl (s_move rfl) ?_
      refine o_step rfl (s_field rfl rfl (by decide)) ?_
      refine o_step rfl (s_ld rfl ((.own meA rfl : Cel _ _ _ (.int .i64 (q : Int))))) ?_
      refine o_step rfl (s_idx rfl rfl hls (by omega)) ?_
      by_cases hbt : bo0 l36 q = true
      ·
       have hder := (hi36.get q (by omega)).1 (bo0_true.1 hbt)
       refine o_step rfl (step_cast (v' := .bool true) (s_ld rfl ((hr36.rdk hiA).ld q 0 hlq rfl (by decide) (by omega))) (by rw [hbt])) ?_
       refine o_step rfl (s_not rfl) ?_
       refine o_nil ?_
       refine x_then (hK9 _ _ ?_)
       refine c_false rfl ?_
       refine c_skip ?_
       refine x_then (hK8 _ _ ?_)
       refine c_seq fun _ hK10 => ?_
       refine c_region ?_
       refine o_step rfl (s_move rfl) ?_
       refine o_step rfl (s_move rfl) ?_
       refine o_step rfl (s_move rfl) ?_
       refine o_call (none10_fn ra rc re hre hsb (by have := hmx.len; omega)) rfl rfl rfl (by exact .nil) (fun w2 st => (RdK.old0 hw.1).out w2 st) (fun v46 S46 ⟨a46, c46, hv46, hS46⟩ => ?_)
       subst hv46
       refine o_step rfl (s_build (cs := [_, _, _]) (vs := [_, _, _]) rfl rfl (.cons rfl rfl rfl rfl rfl (.cons rfl rfl rfl rfl rfl (.cons rfl rfl rfl rfl rfl (.nil))))) ?_
       refine o_box rfl rfl rfl fun b48 => ?_
       refine o_step rfl (s_assign rfl) ?_
       refine o_nil ?_
       refine x_then (hK10 _ _ ?_)
       refine c_seq fun _ hK11 => ?_
       refine c_region ?_
       refine o_step rfl (s_move rfl) ?_
       refine o_step rfl (s_field rfl rfl (by decide)) ?_
       refine o_step rfl (s_ld rfl ((.own meA rfl : Cel _ _ _ (.int .i64 (p : Int))))) ?_
       refine o_step rfl (s_field rfl rfl (by decide)) ?_
       refine o_step rfl (s_ld rfl ((.own meA rfl : Cel _ _ _ (.int .i64 (q : Int))))) ?_
       refine o_call (best_all (⟨b48, ra, rc, re, ta, tc, w, a46, gcn re + 1, c46⟩ : WalkE) ⟨hre, hr8, by have := hmx.len; show re.length ≤ _; omega, hwl⟩ _ x ks (Nat.lt_succ_self _) 0 _ p q _ S46 hmx.part (by omega) (by show q ≤ w.length; omega) hder List.length_replicate (slots_of hsb) hS46) rfl rfl rfl pkA (fun w2 st => EnvW.make (K := (⟨b48, ra, rc, re, ta, tc, w, a46, gcn re + 1, c46⟩ : WalkE)) (S := S46) st pkA hw.1 hw.2 meA) (fun v54 S54 hO54 => ?_)
       have hl54 : (bst1 w x ks p q (List.replicate (gcn re + 1) noS)).length = gcn re + 1 := by rw [bst1_len, List.length_replicate]
       have hs54 : IsSl (.slice a46 (gcn re + 1) c46) (gcn re + 1) := by have := hO54.sl; rw [hl54] at this; exact this
       refine o_nil ?_
       refine x_then (hK11 _ _ ?_)
       refine c_seq fun _ hK12 => ?_
       refine c_drawE ([(b48, .cells [.slice ra re.length rc, .slice ta w.length tc, .slice a46 (gcn re + 1) c46].toArray 88 (0, 0)), (b5, .cells (Esp ⟨p, q⟩).toArray 62 (0, 0))]) (fun i => false) ?_
       refine e_take 0 rfl (by kernel_rfl) (by kernel_rfl) (by kernel_rfl) (by kernel_rfl) (fun _ _ => rfl) rfl hzB (s_move rfl) ?_
       refine e_take 1 rfl (by kernel_rfl) (by kernel_rfl) (by kernel_rfl) (by kernel_rfl) (fun _ _ => rfl) rfl hzB (s_nil rfl) ?_
       refine e_take 2 rfl (by kernel_rfl) (by kernel_rfl) (by kernel_rfl) (by kernel_rfl) (fun _ _ => rfl) rfl hzB (s_field rfl rfl (by decide)) ?_
       refine e_take 3 rfl (by kernel_rfl) (by kernel_rfl) (by kernel_rfl) (by kernel_rfl) (fun _ _ => rfl) rfl hzB (s_ld rfl (.own meA rfl)) ?_
       refine e_take 4 rfl (by kernel_rfl) (by kernel_rfl) (by kernel_rfl) (by kernel_rfl) (fun _ _ => rfl) rfl hzB (s_ldB rfl (RdPK.cels (.own meA)) lnA) ?_
       refine e_take 5 rfl (by kernel_rfl) (by kernel_rfl) (by kernel_rfl) (by kernel_rfl) (fun _ _ => rfl) rfl hzB (s_idx rfl rfl hs54 (by omega)) ?_
       refine e_one 6 rfl (by kernel_rfl) ?_
       refine o_stSE 0 ⟨p, q⟩ hO54 pkA rfl rfl (by rw [hl54]; omega) (by rfl) fun S' hS' => ?_
       refine o_nil ?_
       refine x_oneS hzB ?_
       refine e_done (by kernel_rfl) ?_
       refine x_then (hK12 _ _ ?_)
       refine c_seq fun _ hK13 => ?_
       refine c_region ?_
       refine o_step rfl (s_move rfl) ?_
       refine o_step rfl (s_nil rfl) ?_
       refine o_step rfl (s_field rfl rfl (by decide)) ?_
       refine o_step rfl (s_ld rfl (.own meA rfl)) ?_
       refine o_step rfl (s_assign rfl) ?_
       refine o_step rfl (s_assign rfl) ?_
       refine o_nil ?_
       refine x_then (hK13 _ _ ?_)
       refine c_ret ?_
       refine ?_
       refine x_sub (Sub.refl _) (H' := S') hzB ?_
       exact x_ret rfl (.tmp rfl (.tmp rfl (.nil))) (.inl ⟨x, ks, p, q, ⟨hsb, hrb, hmx⟩, rfl, rfl, by omega, by omega, hder, a46, c46, by rw [capsV_len]; rfl, by rw [capsV_len]; exact hS'⟩)
      ·
       have hbtf : bo0 l36 q = false := by simpa using hbt
       refine o_step rfl (step_cast (v' := .bool false) (s_ld rfl ((hr36.rdk hiA).ld q 0 hlq rfl (by decide) (by omega))) (by rw [hbtf])) ?_
       refine o_step rfl (s_not rfl) ?_
       refine o_nil ?_
       refine x_then (hK9 _ _ ?_)
       refine c_true rfl ?_
       refine c_seq fun _ hK14 => ?_
       refine c_region ?_
       refine o_step rfl (s_assign rfl) ?_
       refine o_step rfl (s_assign rfl) ?_
       refine o_nil ?_
       refine x_then (hK14 _ _ ?_)
       refine c_ret ?_
       refine x_then_ret (?_)
       refine x_sub (Sub.refl _) (H' := []) HSub.nil ?_
       exact x_ret rfl (.tmp rfl (.tmp rfl (.nil))) (.inr ⟨fun ⟨x2, ks2, p2, q2, hm, h1, h2, h3, h4, h5⟩ => (by obtain ⟨rfl, rfl⟩ := hmx.uniq hm.hs; obtain rfl : p = p2 := (by omega); obtain rfl : q = q2 := (by omega); exact hbt (bo0_true.2 ((hi36.get q h4).2 h5))), rfl, rfl⟩)
  ·
   have hmf : (shapedB re && !refsB re) = false := by simpa using hmay
   rw [hmf] at hv11
   subst hv11
   refine o_step rfl (s_not rfl) ?_
   refine o_step rfl (s_move rfl) ?_
   refine o_no rfl rfl rfl rfl ?_
   refine o_no rfl rfl rfl rfl ?_
   refine o_no rfl rfl rfl rfl ?_
   refine o_step rfl (s_pick_t rfl rfl) ?_
   refine o_step rfl (s_move rfl) ?_
   refine o_no rfl rfl rfl rfl ?_
   refine o_no rfl rfl rfl rfl ?_
   refine o_no rfl rfl rfl rfl ?_
   refine o_no rfl rfl rfl rfl ?_
   refine o_no rfl rfl rfl rfl ?_
   refine o_step rfl (s_pick_t rfl rfl) ?_
   refine o_step rfl (s_move rfl) ?_
   refine o_no rfl rfl rfl rfl ?_
   refine o_no rfl rfl rfl rfl ?_
   refine o_no rfl rfl rfl rfl ?_
   refine o_no rfl rfl rfl rfl ?_
   refine o_no rfl rfl rfl rfl ?_
   refine o_step rfl (s_pick_t rfl rfl) ?_
   refine o_nil ?_
   refine x_then (hK3 _ _ ?_)
   refine c_true rfl ?_
   refine c_seq fun _ hK15 => ?_
   refine c_region ?_
   refine o_step rfl (s_assign rfl) ?_
   refine o_step rfl (s_assign rfl) ?_
   refine o_nil ?_
   refine x_then (hK15 _ _ ?_)
   refine c_ret ?_
   refine x_then_ret (?_)
   refine x_sub (Sub.refl _) (H' := []) HSub.nil ?_
   exact x_ret rfl (.tmp rfl (.tmp rfl (.nil))) (.inr ⟨fun ⟨x2, ks2, p2, q2, hm, h1, h2, h3, h4, h5⟩ => (hmay (by rw [hm.sh, hm.rf]; rfl)), rfl, rfl⟩)

end Go.Proofs.YtiggliigookieaaDoor

/- Answers are told by the regex, the text, the place. Conditions: none. -/
namespace Go.HL
open Go
theorem sl_allL {α : Type} {sls : List (Sl α)} {N : Nat} (h : ∀ s, s ∈ sls → s.xs.length ≤ N) : ∀ (j : Nat) (s : Sl α), sls[j]? = some s → s.xs.length ≤ N := fun _ s hs => h s (List.mem_of_getElem? hs)
end Go.HL
namespace Go.HL.Kl.Mc
open Go Go.HL Go.HL.Kl
def FRes (re : List Nd) (w : List UInt8) (f : Int) (b : Bool) (L : List Sp) : Prop :=
  (∃ x ks, ∃ g p q : Nat, May re w x ks ∧ f = g ∧ Lft w x ks g p q ∧ b = true ∧ L = capsV w re x ks p q) ∨
  ((¬ ∃ x ks, ∃ g p q : Nat, May re w x ks ∧ f = g ∧ g ≤ p ∧ q ≤ w.length ∧ der1 w x ks p q) ∧ b = false ∧ L = [])
theorem capsV_le {w : List UInt8} {re : List Nd} {x : Nd} {ks : F} {p q : Nat} : (capsV w re x ks p q).length ≤ re.length + 1 := by
  rw [capsV_len]
  have : gcn re ≤ re.length := List.countP_le_length
  omega
def BRes (re : List Nd) (w : List UInt8) (fr to : Int) (b : Bool) (L : List Sp) : Prop :=
  (∃ x ks, ∃ p q : Nat, May re w x ks ∧ fr = p ∧ to = q ∧ p ≤ q ∧ q ≤ w.length ∧ der1 w x ks p q ∧ b = true ∧ L = capsV w re x ks p q) ∨
  ((¬ ∃ x ks, ∃ p q : Nat, May re w x ks ∧ fr = p ∧ to = q ∧ p ≤ q ∧ q ≤ w.length ∧ der1 w x ks p q) ∧ b = false ∧ L = [])
theorem BRes.uniq {re : List Nd} {w : List UInt8} {fr to : Int} {b b' : Bool} {L L' : List Sp} (h : BRes re w fr to b L) (h' : BRes re w fr to b' L') : b = b' ∧ L = L' := by
  rcases h with ⟨x, ks, p, q, hm, h1, h2, h3, h4, h5, rfl, rfl⟩ | ⟨hn, rfl, rfl⟩ <;> rcases h' with ⟨x', ks', p', q', hm', g1, g2, g3, g4, g5, rfl, rfl⟩ | ⟨hn', rfl, rfl⟩
  · obtain ⟨rfl, rfl⟩ := hm.hs.uniq hm'.hs
    obtain rfl : p = p' := by omega
    obtain rfl : q = q' := by omega
    exact ⟨rfl, rfl⟩
  · exact absurd ⟨x, ks, p, q, hm, h1, h2, h3, h4, h5⟩ hn'
  · exact absurd ⟨x', ks', p', q', hm', g1, g2, g3, g4, g5⟩ hn
  · exact ⟨rfl, rfl⟩
theorem BRes.len {re : List Nd} {w : List UInt8} {fr to : Int} {b : Bool} {L : List Sp} (h : BRes re w fr to b L) : L.length ≤ re.length + 1 := by
  rcases h with ⟨x, ks, p, q, _, _, _, _, _, _, _, rfl⟩ | ⟨_, _, rfl⟩
  · exact capsV_le
  · simp
theorem BestP.res {T : Nat} {re : List Nd} {w : List UInt8} {fr to : Int} {v : Value} {S' : Hp} (h : BestP T re w fr to v S') : ∃ b L a c, BRes re w fr to b L ∧ v = .tuple #[.slice a L.length c, .bool b] ∧ OwnS Esp 2 T (.slice a L.length c) L S' := by
  rcases h with ⟨x, ks, p, q, hm, h1, h2, h3, h4, h5, a, cc, hv, hO⟩ | ⟨hn, hv, rfl⟩
  · exact ⟨true, _, a, cc, .inl ⟨x, ks, p, q, hm, h1, h2, h3, h4, h5, rfl, rfl⟩, hv, hO⟩
  · exact ⟨false, [], none, 0, .inr ⟨hn, rfl, rfl⟩, hv, .nil⟩
/-- the spare bytes; a byte changed -/
def spB (j : Nat) : UInt8 := UInt8.ofNat (279 + 7 * j + 3)
def xor3 (x : UInt8) : UInt8 := UInt8.ofNat (BitVec.ofInt 8 (x.toNat : Int) ^^^ BitVec.ofInt 8 3).toNat
end Go.HL.Kl.Mc
