/- Part of the proofs over this seat: see the text that holds the theorem. Conditions: each theorem bears its own. -/
import Derived.Test.YtafbigmneipkiaaDoorBG1
import Derived.Test.YtafbigmneipkiaaDoorBG2
import Derived.Test.YtafbigmneipkiaaDoorBC5
import Derived.Test.YtafbigmneipkiaaDoorMB11
import Derived.Test.YtafbigmneipkiaaDoorBW6
namespace Go.Proofs.YtafbigmneipkiaaDoor
open Go Go.HL Go.Proofs Go.Tab Go.HL.Kl Go.HL.Kl.Bk
theorem byteOf_fn (b : UInt8) : HL.Fn Tryd.prog 44 [.int .u8 b.toNat] (fun _ => True) [] (fun v S' => ∃ a' c', v = .slice a' (endM b).length c' ∧ OwnS Em 2 35 (.slice a' (endM b).length c') (endM b) S') := by
  refine fn_of Tryd.func44 rfl rfl rfl fun w0 hw => ?_
  refine c_seq fun _ hK1 => ?_
  refine c_region ?_
  refine o_step rfl (s_assign rfl) ?_
  refine o_nil ?_
  refine x_then (hK1 _ _ ?_)
  refine c_seq fun _ hK2 => ?_
  refine c_seq fun _ hK3 => ?_
  refine c_region ?_
  refine o_step rfl (s_move rfl) ?_
  by_cases h91 : b = 91
  ·
   have hE : endM b = [sgn 91, sgn 46, sgn b, sgn 46, sgn 93] := if_pos (by simp [h91])
   refine o_step rfl (step_cast (v' := .bool true) (s_eql rfl rfl) (by rw [decide_eq_true (by rw [h91]; rfl)])) ?_
   refine o_step rfl (s_move rfl) ?_
   refine o_no rfl rfl rfl rfl ?_
   refine o_no rfl rfl rfl rfl ?_
   refine o_step rfl (s_pick_t rfl rfl) ?_
   refine o_step rfl (s_move rfl) ?_
   refine o_no rfl rfl rfl rfl ?_
   refine o_no rfl rfl rfl rfl ?_
   refine o_step rfl (s_pick_t rfl rfl) ?_
   refine o_step rfl (s_move rfl) ?_
   refine o_no rfl rfl rfl rfl ?_
   refine o_no rfl rfl rfl rfl ?_
   refine o_step rfl (s_pick_t rfl rfl) ?_
   refine o_nil ?_
   refine x_then (hK3 _ _ ?_)
   refine c_true rfl ?_
   refine c_seq fun _ hK4 => ?_
   refine c_region ?_
   refine o_step rfl (s_build (cs := [_, _]) (vs := [_]) rfl rfl (.cons rfl rfl rfl rfl rfl (.nil))) ?_
   refine o_step rfl (s_build (cs := [_, _]) (vs := [_]) rfl rfl (.cons rfl rfl rfl rfl rfl (.nil))) ?_
   refine o_step rfl (s_move rfl) ?_
   refine o_step rfl (s_build (cs := [_, _]) (vs := [_]) rfl rfl (.cons rfl rfl rfl rfl rfl (.nil))) ?_
   refine o_step rfl (s_build (cs := [_, _]) (vs := [_]) rfl rfl (.cons rfl rfl rfl rfl rfl (.nil))) ?_
   refine o_step rfl (s_build (cs := [_, _]) (vs := [_]) rfl rfl (.cons rfl rfl rfl rfl rfl (.nil))) ?_
   refine o_bs (E := Em) (xs := [sgn 91, sgn 46, sgn b, sgn 46, sgn 93]) (vs := [_, _, _, _, _]) rfl rfl rfl rfl rfl (by decide) (by decide) fun b23 S23 hS23 => ?_
   refine o_step rfl (s_assign rfl) ?_
   refine o_nil ?_
   refine x_then (hK4 _ _ ?_)
   refine c_ret ?_
   refine x_then_ret (?_)
   refine x_sub (Sub.refl _) (H' := S23) hzB ?_
   exact x_ret rfl (.tmp rfl (.nil)) (⟨_, _, by rw [hE]; rfl, by rw [hE]; exact hS23⟩)
  ·
   refine o_step rfl (step_cast (v' := .bool false) (s_eql rfl rfl) (congrArg Value.bool (decide_eq_false (fun e => h91 (u8_of (n := 91) e))))) ?_
   refine o_step rfl (s_move rfl) ?_
   refine o_yes rfl rfl ?_
   refine o_step rfl (s_move rfl) ?_
   refine o_yes rfl rfl ?_
   by_cases h93 : b = 93
   ·
    have hE : endM b = [sgn 91, sgn 46, sgn b, sgn 46, sgn 93] := if_pos (by simp [h93])
    refine o_step rfl (step_cast (v' := .bool true) (s_eql rfl rfl) (by rw [decide_eq_true (by rw [h93]; rfl)])) ?_
    refine o_step rfl (s_pick_f rfl rfl) ?_
    refine o_step rfl (s_move rfl) ?_
    refine o_no rfl rfl rfl rfl ?_
    refine o_no rfl rfl rfl rfl ?_
    refine o_step rfl (s_pick_t rfl rfl) ?_
    refine o_step rfl (s_move rfl) ?_
    refine o_no rfl rfl rfl rfl ?_
    refine o_no rfl rfl rfl rfl ?_
    refine o_step rfl (s_pick_t rfl rfl) ?_
    refine o_nil ?_
    refine x_then (hK3 _ _ ?_)
    refine c_true rfl ?_
    refine c_seq fun _ hK5 => ?_
    refine c_region ?_
    refine o_step rfl (s_build (cs := [_, _]) (vs := [_]) rfl rfl (.cons rfl rfl rfl rfl rfl (.nil))) ?_
    refine o_step rfl (s_build (cs := [_, _]) (vs := [_]) rfl rfl (.cons rfl rfl rfl rfl rfl (.nil))) ?_
    refine o_step rfl (s_move rfl) ?_
    refine o_step rfl (s_build (cs := [_, _]) (vs := [_]) rfl rfl (.cons rfl rfl rfl rfl rfl (.nil))) ?_
    refine o_step rfl (s_build (cs := [_, _]) (vs := [_]) rfl rfl (.cons rfl rfl rfl rfl rfl (.nil))) ?_
    refine o_step rfl (s_build (cs := [_, _]) (vs := [_]) rfl rfl (.cons rfl rfl rfl rfl rfl (.nil))) ?_
    refine o_bs (E := Em) (xs := [sgn 91, sgn 46, sgn b, sgn 46, sgn 93]) (vs := [_, _, _, _, _]) rfl rfl rfl rfl rfl (by decide) (by decide) fun b23 S23 hS23 => ?_
    refine o_step rfl (s_assign rfl) ?_
    refine o_nil ?_
    refine x_then (hK5 _ _ ?_)
    refine c_ret ?_
    refine x_then_ret (?_)
    refine x_sub (Sub.refl _) (H' := S23) hzB ?_
    exact x_ret rfl (.tmp rfl (.nil)) (⟨_, _, by rw [hE]; rfl, by rw [hE]; exact hS23⟩)
   ·
    refine o_step rfl (step_cast (v' := .bool false) (s_eql rfl rfl) (congrArg Value.bool (decide_eq_false (fun e => h93 (u8_of (n := 93) e))))) ?_
    refine o_step rfl (s_pick_f rfl rfl) ?_
    refine o_step rfl (s_move rfl) ?_
    refine o_yes rfl rfl ?_
    refine o_step rfl (s_move rfl) ?_
    refine o_yes rfl rfl ?_
    by_cases h45 : b = 45
    ·
     have hE : endM b = [sgn 91, sgn 46, sgn b, sgn 46, sgn 93] := if_pos (by simp [h45])
     refine o_step rfl (step_cast (v' := .bool true) (s_eql rfl rfl) (by rw [decide_eq_true (by rw [h45]; rfl)])) ?_
     refine o_step rfl (s_pick_f rfl rfl) ?_
     refine o_step rfl (s_move rfl) ?_
     refine o_no rfl rfl rfl rfl ?_
     refine o_no rfl rfl rfl rfl ?_
     refine o_step rfl (s_pick_t rfl rfl) ?_
     refine o_nil ?_
     refine x_then (hK3 _ _ ?_)
     refine c_true rfl ?_
     refine c_seq fun _ hK6 => ?_
     refine c_region ?_
     refine o_step rfl (s_build (cs := [_, _]) (vs := [_]) rfl rfl (.cons rfl rfl rfl rfl rfl (.nil))) ?_
     refine o_step rfl (s_build (cs := [_, _]) (vs := [_]) rfl rfl (.cons rfl rfl rfl rfl rfl (.nil))) ?_
     refine o_step rfl (s_move rfl) ?_
     refine o_step rfl (s_build (cs := [_, _]) (vs := [_]) rfl rfl (.cons rfl rfl rfl rfl rfl (.nil))) ?_
     refine o_step rfl (s_build (cs := [_, _]) (vs := [_]) rfl rfl (.cons rfl rfl rfl rfl rfl (.nil))) ?_
     refine o_step rfl (s_build (cs := [_, _]) (vs := [_]) rfl rfl (.cons rfl rfl rfl rfl rfl (.nil))) ?_
     refine o_bs (E := Em) (xs := [sgn 91, sgn 46, sgn b, sgn 46, sgn 93]) (vs := [_, _, _, _, _]) rfl rfl rfl rfl rfl (by decide) (by decide) fun b23 S23 hS23 => ?_
     refine o_step rfl (s_assign rfl) ?_
     refine o_nil ?_
     refine x_then (hK6 _ _ ?_)
     refine c_ret ?_
     refine x_then_ret (?_)
     refine x_sub (Sub.refl _) (H' := S23) hzB ?_
     exact x_ret rfl (.tmp rfl (.nil)) (⟨_, _, by rw [hE]; rfl, by rw [hE]; exact hS23⟩)
    ·
     refine o_step rfl (step_cast (v' := .bool false) (s_eql rfl rfl) (congrArg Value.bool (decide_eq_false (fun e => h45 (u8_of (n := 45) e))))) ?_
     refine o_step rfl (s_pick_f rfl rfl) ?_
     refine o_step rfl (s_move rfl) ?_
     refine o_yes rfl rfl ?_
     refine o_step rfl (s_move rfl) ?_
     refine o_yes rfl rfl ?_
     by_cases h94 : b = 94
     ·
      have hE : endM b = [sgn 91, sgn 46, sgn b, sgn 46, sgn 93] := if_pos (by simp [h94])
      refine o_step rfl (step_cast (v' := .bool true) (s_eql rfl rfl) (by rw [decide_eq_true (by rw [h94]; rfl)])) ?_
      refine o_step rfl (s_pick_f rfl rfl) ?_
      refine o_nil ?_
      refine x_then (hK3 _ _ ?_)
      refine c_true rfl ?_
      refine c_seq fun _ hK7 => ?_
      refine c_region ?_
      refine o_step rfl (s_build (cs := [_, _]) (vs := [_]) rfl rfl (.cons rfl rfl rfl rfl rfl (.nil))) ?_
      refine o_step rfl (s_build (cs := [_, _]) (vs := [_]) rfl rfl (.cons rfl rfl rfl rfl rfl (.nil))) ?_
      refine o_step rfl (s_move rfl) ?_
      refine o_step rfl (s_build (cs := [_, _]) (vs := [_]) rfl rfl (.cons rfl rfl rfl rfl rfl (.nil))) ?_
      refine o_step rfl (s_build (cs := [_, _]) (vs := [_]) rfl rfl (.cons rfl rfl rfl rfl rfl (.nil))) ?_
      refine o_step rfl (s_build (cs := [_, _]) (vs := [_]) rfl rfl (.cons rfl rfl rfl rfl rfl (.nil))) ?_
      refine o_bs (E := Em) (xs := [sgn 91, sgn 46, sgn b, sgn 46, sgn 93]) (vs := [_, _, _, _, _]) rfl rfl rfl rfl rfl (by decide) (by decide) fun b23 S23 hS23 => ?_
      refine o_step rfl (s_assign rfl) ?_
      refine o_nil ?_
      refine x_then (hK7 _ _ ?_)
      refine c_ret ?_
      refine x_then_ret (?_)
      refine x_sub (Sub.refl _) (H' := S23) hzB ?_
      exact x_ret rfl (.tmp rfl (.nil)) (⟨_, _, by rw [hE]; rfl, by rw [hE]; exact hS23⟩)
     ·
      have hE : endM b = [sgn b] := if_neg (by simp [h91, h93, h45, h94])
      refine o_step rfl (step_cast (v' := .bool false) (s_eql rfl rfl) (congrArg Value.bool (decide_eq_false (fun e => h94 (u8_of (n := 94) e))))) ?_
      refine o_step rfl (s_pick_f rfl rfl) ?_
      refine o_nil ?_
      refine x_then (hK3 _ _ ?_)
      refine c_false rfl ?_
      refine c_skip ?_
      refine x_then (hK2 _ _ ?_)
      refine c_seq fun _ hK8 => ?_
      refine c_region ?_
      refine o_step rfl (s_move rfl) ?_
      refine o_step rfl (s_build (cs := [_, _]) (vs := [_]) rfl rfl (.cons rfl rfl rfl rfl rfl (.nil))) ?_
      refine o_bs (E := Em) (xs := [sgn b]) (vs := [_]) rfl rfl rfl rfl rfl (by decide) (by decide) fun b26 S26 hS26 => ?_
      refine o_step rfl (s_assign rfl) ?_
      refine o_nil ?_
      refine x_then (hK8 _ _ ?_)
      refine c_ret ?_
      refine ?_
      refine x_sub (Sub.refl _) (H' := S26) hzB ?_
      exact x_ret rfl (.tmp rfl (.nil)) (⟨_, _, by rw [hE]; rfl, by rw [hE]; exact hS26⟩)

theorem byteOfN_fn (n : Nat) (hn : n < 256) : HL.Fn Tryd.prog 44 [.int .u8 n] (fun _ => True) [] (fun v S' => ∃ a' c', v = .slice a' (endM (UInt8.ofNat n)).length c' ∧ OwnS Em 2 35 (.slice a' (endM (UInt8.ofNat n)).length c') (endM (UInt8.ofNat n)) S') := by
  have h := byteOf_fn (UInt8.ofNat n)
  rwa [UInt8.toNat_ofNat_of_lt' (by simpa [UInt8.size] using hn)] at h

set_option maxHeartbeats 2000000 in
theorem rPrint_fn (c : Cl) : HL.Fn Tryd.prog 26 [.agg (Ec c).toArray] (fun _ => True) [] (fun v S' => ∃ a' c', v = .slice a' (printP c).length c' ∧ OwnS Em 2 35 (.slice a' (printP c).length c') (printP c) S') := by
  refine fn_of Tryd.func26 rfl rfl rfl fun w0 hw => ?_
  refine c_seq fun _ hK1 => ?_
  refine c_region ?_
  refine o_box rfl rfl rfl fun b1 => ?_
  refine o_step rfl (s_assign rfl) ?_
  refine o_nil ?_
  refine x_then (hK1 _ _ ?_)
  refine c_seq fun _ hK2 => ?_
  refine c_region ?_
  refine o_step rfl (s_build (cs := [_, _]) (vs := [_]) rfl rfl (.cons rfl rfl rfl rfl rfl (.nil))) ?_
  refine o_bs (E := Em) (xs := [sgn 91]) (vs := [_]) rfl rfl rfl rfl rfl (by decide) (by decide) fun b8 S8 hS8 => ?_
  refine o_step rfl (s_assign rfl) ?_
  refine o_nil ?_
  refine x_then (hK2 _ _ ?_)
  refine c_seq fun _ hK3 => ?_
  refine c_region ?_
  refine o_step rfl (s_ldB rfl (RdPK.cels (.own meA)) (Ec_len _)) ?_
  refine o_callP (rSize_fn c) rfl rfl rfl (fun _ _ => trivial) (fun v10 hv10 => ?_)
  subst hv10
  refine o_step rfl (s_assign rfl) ?_
  refine o_nil ?_
  refine x_then (hK3 _ _ ?_)
  refine c_seqJ (ι := (Sl Mk × Hp)) (fun g => g.1.xs = sgn 91 :: (if neg c = true then [sgn 94] else []) ∧ OwnS Em 2 35 (.slice g.1.a g.1.xs.length g.1.c) g.1.xs g.2) (fun g => [(3, .slice g.1.a g.1.xs.length g.1.c)]) [(1, _), (2, _)] (fun g => (b1, .cells (Ec (body c)).toArray 28 (0, 0)) :: g.2) sbA ?_ ?_
  ·
   rintro ⟨q0, So0⟩ ⟨hq0, hO0⟩
   dsimp only at hq0 hO0
   dsimp only
   refine c_seq fun _ hK5 => ?_
   refine c_region ?_
   refine o_step rfl (s_ldB rfl (RdPK.cels (.own meA)) (Ec_len _)) ?_
   refine o_call (rRuns_fn (body c)) rfl rfl rfl (by exact .nil) (fun _ _ => trivial) (fun v31 S31 ⟨a31, n31, hv31, hS31⟩ => ?_)
   subst hv31
   have hsl31 := hS31.sl
   have hrl := runs_le (body c)
   have hrr := runs_rise (body c)
   refine o_step rfl (s_assign rfl) ?_
   refine o_nil ?_
   refine x_then (hK5 _ _ ?_)
   refine c_seq fun _ hK6 => ?_
   refine c_seq fun _ hK7 => ?_
   refine c_region ?_
   refine o_step rfl (s_assign rfl) ?_
   refine o_nil ?_
   refine x_then (hK7 _ _ ?_)
   refine c_block ?_
   refine c_loop3 (fun (k : Nat) (q : Sl Mk) (So : Hp) => k ≤ (runs (body c)).length ∧ q.xs = sgn 91 :: ((if neg c = true then [sgn 94] else []) ++ ((runs (body c)).take k).flatMap Bk.runM) ∧ q.xs.length ≤ 2 + 11 * k ∧ OwnS Em 2 35 (.slice q.a q.xs.length q.c) q.xs So) (fun (k : Nat) (q : Sl Mk) (So : Hp) => [(6, .int .i64 k), (3, .slice q.a q.xs.length q.c)]) [(2, _), (5, _)] (fun (k : Nat) (q : Sl Mk) (So : Hp) => S31 ++ So) (fun (k : Nat) (q : Sl Mk) (So : Hp) => (runs (body c)).length - k) 0 q0 So0 ⟨by omega, by rw [hq0]; simp, by rw [hq0]; split <;> simp, hO0⟩ sbA sbA hzB ?_
   rintro k q So ⟨hk, hq, hql, hO⟩
   refine c_seq fun _ hK8 => ?_
   refine c_seq fun _ hK9 => ?_
   refine c_region ?_
   refine o_step rfl (s_move rfl) ?_
   refine o_step rfl (s_move rfl) ?_
   refine o_step rfl (s_len rfl) ?_
   refine o_step rfl (s_lss rfl rfl) ?_
   refine o_nil ?_
   refine x_then (hK9 _ _ ?_)
   refine c_if rfl (fun hkl => ?_) (fun hkl => ?_)
   ·
    obtain ⟨r, hr⟩ : ∃ r, r = (runs (body c)).getD k (0, 0) := ⟨_, rfl⟩
    have hrg : (runs (body c))[k]? = some r := by rw [hr]; simp [List.getD, List.getElem?_eq_getElem (show k < (runs (body c)).length by omega)]
    obtain ⟨hr1, hr2, _⟩ := hrr k r hrg
    refine c_skip ?_
    refine x_then (hK8 _ _ ?_)
    refine c_seq fun _ hK10 => ?_
    refine c_block ?_
    refine c_seq fun _ hK11 => ?_
    refine c_region ?_
    refine o_step rfl (s_move rfl) ?_
    refine o_step rfl (s_move rfl) ?_
    refine o_step rfl (s_move rfl) ?_
    refine o_step rfl (s_idx rfl rfl hsl31 (by omega)) ?_
    refine o_step rfl (s_field rfl rfl (by decide)) ?_
    refine o_step rfl (s_ld rfl ((hS31.rdk hiA).ld k 0 hrg rfl (by decide) (by omega))) ?_
    refine o_call (byteOfN_fn r.1 (by omega)) rfl rfl rfl (by exact .nil) (fun _ _ => trivial) (fun v44 S44 ⟨a44, c44, hv44, hS44⟩ => ?_)
    subst hv44
    have hel44 := endM_le (UInt8.ofNat r.1)
    refine o_app hO (hS44.rdk hiA) rfl rfl rfl rfl (by first | decide | omega | (simp only [List.length_append, List.length_map, List.length_cons, List.length_nil] at *; omega)) (by first | decide | omega | (simp only [List.length_append, List.length_map, List.length_cons, List.length_nil] at *; omega)) rfl pkA fun a45 c45 S45 hS45 => ?_
    refine o_step rfl (s_assign rfl) ?_
    refine o_nil ?_
    refine x_then (hK11 _ _ ?_)
    refine c_seq fun _ hK12 => ?_
    refine c_drawE (S31 ++ S45) (fun i => false) ?_
    refine e_take 0 rfl (by kernel_rfl) (by kernel_rfl) (by kernel_rfl) (by kernel_rfl) (fun _ _ => rfl) rfl hzB (s_move rfl) ?_
    refine e_take 1 rfl (by kernel_rfl) (by kernel_rfl) (by kernel_rfl) (by kernel_rfl) (fun _ _ => rfl) rfl hzB (s_move rfl) ?_
    refine e_take 2 rfl (by kernel_rfl) (by kernel_rfl) (by kernel_rfl) (by kernel_rfl) (fun _ _ => rfl) rfl hzB (s_idx rfl rfl hsl31 (by omega)) ?_
    refine e_take 3 rfl (by kernel_rfl) (by kernel_rfl) (by kernel_rfl) (by kernel_rfl) (fun _ _ => rfl) rfl hzB (s_field rfl rfl (by decide)) ?_
    refine e_take 4 rfl (by kernel_rfl) (by kernel_rfl) (by kernel_rfl) (by kernel_rfl) (fun _ _ => rfl) rfl hzB (s_ld rfl ((hS31.rdk hiA).ld k 1 hrg rfl (by decide) (by omega))) ?_
    refine e_take 5 rfl (by kernel_rfl) (by kernel_rfl) (by kernel_rfl) (by kernel_rfl) (fun _ _ => rfl) rfl hzB (s_move rfl) ?_
    refine e_take 6 rfl (by kernel_rfl) (by kernel_rfl) (by kernel_rfl) (by kernel_rfl) (fun _ _ => rfl) rfl hzB (s_move rfl) ?_
    refine e_take 7 rfl (by kernel_rfl) (by kernel_rfl) (by kernel_rfl) (by kernel_rfl) (fun _ _ => rfl) rfl hzB (s_idx rfl rfl hsl31 (by omega)) ?_
    refine e_take 8 rfl (by kernel_rfl) (by kernel_rfl) (by kernel_rfl) (by kernel_rfl) (fun _ _ => rfl) rfl hzB (s_field rfl rfl (by decide)) ?_
    refine e_take 9 rfl (by kernel_rfl) (by kernel_rfl) (by kernel_rfl) (by kernel_rfl) (fun _ _ => rfl) rfl hzB (s_ld rfl ((hS31.rdk hiA).ld k 0 hrg rfl (by decide) (by omega))) ?_
    refine e_take 10 rfl (by kernel_rfl) (by kernel_rfl) (by kernel_rfl) (by kernel_rfl) (fun _ _ => rfl) rfl hzB (s_gtr rfl rfl) ?_
    refine e_done (by kernel_rfl) ?_
    refine x_then (hK12 _ _ ?_)
    refine c_if rfl (fun hgt => ?_) (fun hgt => ?_)
    ·
     refine c_seq fun _ hK13 => ?_
     refine c_region ?_
     refine o_step rfl (s_move rfl) ?_
     refine o_step rfl (s_build (cs := [_, _]) (vs := [_]) rfl rfl (.cons rfl rfl rfl rfl rfl (.nil))) ?_
     refine o_bs (E := Em) (xs := [sgn 45]) (vs := [_]) rfl rfl rfl rfl rfl (by decide) (by decide) fun b59 S59 hS59 => ?_
     refine o_app hS45 (hS59.rdk hiA) rfl rfl rfl rfl (by first | decide | omega | (simp only [List.length_append, List.length_map, List.length_cons, List.length_nil] at *; omega)) (by first | decide | omega | (simp only [List.length_append, List.length_map, List.length_cons, List.length_nil] at *; omega)) rfl pkA fun a60 c60 S60 hS60 => ?_
     refine o_step rfl (s_assign rfl) ?_
     refine o_nil ?_
     refine x_then (hK13 _ _ ?_)
     refine c_region ?_
     refine o_step rfl (s_move rfl) ?_
     refine o_step rfl (s_move rfl) ?_
     refine o_step rfl (s_move rfl) ?_
     refine o_step rfl (s_idx rfl rfl hsl31 (by omega)) ?_
     refine o_step rfl (s_field rfl rfl (by decide)) ?_
     refine o_step rfl (s_ld rfl ((hS31.rdk hiA).ld k 1 hrg rfl (by decide) (by omega))) ?_
     refine o_call (byteOfN_fn r.2 (by omega)) rfl rfl rfl (by exact .nil) (fun _ _ => trivial) (fun v67 S67 ⟨a67, c67, hv67, hS67⟩ => ?_)
     subst hv67
     have hel67 := endM_le (UInt8.ofNat r.2)
     refine o_app hS60 (hS67.rdk hiA) rfl rfl rfl rfl (by first | decide | omega | (simp only [List.length_append, List.length_map, List.length_cons, List.length_nil] at *; omega)) (by first | decide | omega | (simp only [List.length_append, List.length_map, List.length_cons, List.length_nil] at *; omega)) rfl pkA fun a68 c68 S68 hS68 => ?_
     refine o_step rfl (s_assign rfl) ?_
     refine o_nil ?_
     refine x_block ?_
     refine x_then (hK10 _ _ ?_)
     refine c_region ?_
     refine o_step rfl (s_move rfl) ?_
     refine o_step rfl (s_add rfl rfl (by omega)) ?_
     refine o_step rfl (s_assign rfl) ?_
     refine o_nil ?_
     exact x_then (x_inv (k + 1, ⟨a68, c68, q.xs ++ endM (UInt8.ofNat r.1) ++ [sgn 45] ++ endM (UInt8.ofNat r.2)⟩, S68) ⟨by omega, by rw [hq, runs_take hrg, Bk.runM, if_neg (show ¬ r.2 = r.1 by omega)]; simp, by simp only [List.length_append, List.length_singleton]; omega, hS68⟩ (by first | omega | (dsimp only; omega)) sbA hzB)
    ·
     refine c_skip ?_
     refine x_block ?_
     refine x_then (hK10 _ _ ?_)
     refine c_region ?_
     refine o_step rfl (s_move rfl) ?_
     refine o_step rfl (s_add rfl rfl (by omega)) ?_
     refine o_step rfl (s_assign rfl) ?_
     refine o_nil ?_
     exact x_then (x_inv (k + 1, ⟨a45, c45, q.xs ++ endM (UInt8.ofNat r.1)⟩, S45) ⟨by omega, by rw [hq, runs_take hrg, Bk.runM, if_pos (show r.2 = r.1 by omega)]; simp, by simp only [List.length_append]; omega, hS45⟩ (by first | omega | (dsimp only; omega)) sbA hzB)
   ·
    have hke : (runs (body c)).take k = (runs (body c)) := List.take_of_length_le (by omega)
    rw [hke] at hq
    refine c_exit ?_
    refine x_then_exit ?_
    refine x_then_exit ?_
    refine x_block_exit ?_
    refine x_then (hK6 _ _ ?_)
    refine c_seq fun _ hK14 => ?_
    refine c_region ?_
    refine o_step rfl (s_move rfl) ?_
    refine o_step rfl (s_build (cs := [_, _]) (vs := [_]) rfl rfl (.cons rfl rfl rfl rfl rfl (.nil))) ?_
    refine o_bs (E := Em) (xs := [sgn 93]) (vs := [_]) rfl rfl rfl rfl rfl (by decide) (by decide) fun b71 S71 hS71 => ?_
    refine o_app hO (hS71.rdk hiA) rfl rfl rfl rfl (by first | decide | omega | (simp only [List.length_append, List.length_map, List.length_cons, List.length_nil] at *; omega)) (by first | decide | omega | (simp only [List.length_append, List.length_map, List.length_cons, List.length_nil] at *; omega)) rfl pkA fun a72 c72 S72 hS72 => ?_
    have hpr : printP c = q.xs ++ [sgn 93] := by rw [hq, printP]; simp
    refine o_step rfl (s_assign rfl) ?_
    refine o_nil ?_
    refine x_then (hK14 _ _ ?_)
    refine c_ret ?_
    refine ?_
    refine x_sub (Sub.refl _) (H' := S72) hzB ?_
    exact x_ret rfl (.tmp rfl (.nil)) (⟨_, _, by rw [hpr]; rfl, by rw [hpr]; exact hS72⟩)
  ·
   intro _ hJ4
   refine c_seq fun _ hK15 => ?_
   refine c_region ?_
   refine o_step rfl (s_move rfl) ?_
   refine o_step rfl (s_eql rfl rfl) ?_
   refine o_nil ?_
   refine x_then (hK15 _ _ ?_)
   refine c_if rfl (fun hz => ?_) (fun hz => ?_)
   ·
    refine c_seq fun _ hK16 => ?_
    refine c_region ?_
    refine o_step rfl (s_move rfl) ?_
    refine o_step rfl (s_build (cs := [_, _]) (vs := [_]) rfl rfl (.cons rfl rfl rfl rfl rfl (.nil))) ?_
    refine o_bs (E := Em) (xs := [sgn 94]) (vs := [_]) rfl rfl rfl rfl rfl (by decide) (by decide) fun b15 S15 hS15 => ?_
    refine o_app hS8 (hS15.rdk hiA) rfl rfl rfl rfl (by first | decide | omega | (simp only [List.length_append, List.length_map, List.length_cons, List.length_nil] at *; omega)) (by first | decide | omega | (simp only [List.length_append, List.length_map, List.length_cons, List.length_nil] at *; omega)) rfl pkA fun a16 c16 S16 hS16 => ?_
    refine o_step rfl (s_assign rfl) ?_
    refine o_nil ?_
    refine x_then (hK16 _ _ ?_)
    refine c_region ?_
    refine o_callP (rRange_fn 0 255 (by decide) (by decide)) rfl rfl rfl (fun _ _ => trivial) (fun v17 hv17 => ?_)
    subst hv17
    refine o_stW rfl rfl upA (Ec_len _) (Ec_len _) (Ec_one _) ?_
    refine o_nil ?_
    rw [← (neg_z (c := c) (by omega)).2]
    exact x_then (hJ4 (⟨a16, c16, [sgn 91] ++ [sgn 94]⟩, S16) _ _ ⟨by rw [if_pos (neg_z (by omega)).1]; rfl, hS16⟩ sbA sbA hzB)
   ·
    refine c_seq fun _ hK17 => ?_
    refine c_region ?_
    refine o_step rfl (s_move rfl) ?_
    by_cases hn : size c < 256
    ·
     refine o_step rfl (step_cast (v' := .bool true) (s_lss rfl rfl) (by rw [decide_eq_true (by omega)])) ?_
     refine o_step rfl (s_move rfl) ?_
     refine o_yes rfl rfl ?_
     refine o_step rfl (s_ldB rfl (RdPK.cels (.own meA)) (Ec_len _)) ?_
     refine o_yes rfl rfl ?_
     refine o_callP (rHas_fn c 10 (by decide)) rfl rfl rfl (fun _ _ => trivial) (fun v22 hv22 => ?_)
     subst hv22
     cases h10 : c.getLsbD 10
     ·
      refine o_step rfl (s_pick_t rfl rfl) ?_
      refine o_nil ?_
      refine x_then (hK17 _ _ ?_)
      refine c_false rfl ?_
      refine c_skip ?_
      rw [show Ec c = Ec (body c) by rw [(neg_n (c := c) (by omega) h10).2]]
      exact x_then (hJ4 (⟨some ⟨b8, 0, none⟩, 1, [sgn 91]⟩, S8) _ _ ⟨by rw [if_neg (by rw [(neg_n (by omega) h10).1]; decide)], hS8⟩ sbA sbA hzB)
     ·
      refine o_step rfl (s_pick_t rfl rfl) ?_
      refine o_nil ?_
      refine x_then (hK17 _ _ ?_)
      refine c_true rfl ?_
      refine c_seq fun _ hK18 => ?_
      refine c_region ?_
      refine o_step rfl (s_move rfl) ?_
      refine o_step rfl (s_build (cs := [_, _]) (vs := [_]) rfl rfl (.cons rfl rfl rfl rfl rfl (.nil))) ?_
      refine o_bs (E := Em) (xs := [sgn 94]) (vs := [_]) rfl rfl rfl rfl rfl (by decide) (by decide) fun b26 S26 hS26 => ?_
      refine o_app hS8 (hS26.rdk hiA) rfl rfl rfl rfl (by first | decide | omega | (simp only [List.length_append, List.length_map, List.length_cons, List.length_nil] at *; omega)) (by first | decide | omega | (simp only [List.length_append, List.length_map, List.length_cons, List.length_nil] at *; omega)) rfl pkA fun a27 c27 S27 hS27 => ?_
      refine o_step rfl (s_assign rfl) ?_
      refine o_nil ?_
      refine x_then (hK18 _ _ ?_)
      refine c_region ?_
      refine o_step rfl (s_ldB rfl (RdPK.cels (.own meA)) (Ec_len _)) ?_
      refine o_callP (rNot_fn c) rfl rfl rfl (fun _ _ => trivial) (fun v29 hv29 => ?_)
      subst hv29
      refine o_stW rfl rfl upA (Ec_len _) (Ec_len _) (Ec_one _) ?_
      refine o_nil ?_
      rw [← (neg_h (c := c) hn h10).2]
      exact x_then (hJ4 (⟨a27, c27, [sgn 91] ++ [sgn 94]⟩, S27) _ _ ⟨by rw [if_pos (neg_h hn h10).1]; rfl, hS27⟩ sbA sbA hzB)
    ·
     refine o_step rfl (step_cast (v' := .bool false) (s_lss rfl rfl) (by rw [decide_eq_false (by omega)])) ?_
     refine o_step rfl (s_move rfl) ?_
     refine o_no rfl rfl rfl rfl ?_
     refine o_no rfl rfl rfl rfl ?_
     refine o_step rfl (s_pick_f rfl rfl) ?_
     refine o_nil ?_
     refine x_then (hK17 _ _ ?_)
     refine c_false rfl ?_
     refine c_skip ?_
     rw [show Ec c = Ec (body c) by rw [(neg_f (c := c) hn).2]]
     exact x_then (hJ4 (⟨some ⟨b8, 0, none⟩, 1, [sgn 91]⟩, S8) _ _ ⟨by rw [if_neg (by rw [(neg_f hn).1]; decide)], hS8⟩ sbA sbA hzB)

theorem addMarks_fn (b : Nat) (cs : List Value) (sls : List (Sl Mk)) (s : Sl Mk) (oa : Option Addr) (oc : Nat) (So : Hp) (hb : cs[4]? = some (.slice oa sls.length oc)) (hN : sls.length < 400) (hO : OwnS Esl 1 22 (.slice oa sls.length oc) sls So) : HL.Fn Tryd.prog 27 [.pointer (some ⟨b, 0, none⟩), .slice s.a s.xs.length s.c] (fun _ => True) ((b, .cells cs.toArray 76 (0, 0)) :: So) (fun _ S' => ∃ oa' oc' So', S' = (b, .cells (cs.set 4 (.slice oa' (sls ++ [s]).length oc')).toArray 76 (0, 0)) :: So' ∧ OwnS Esl 1 22 (.slice oa' (sls ++ [s]).length oc') (sls ++ [s]) So') := by
  refine fn_of Tryd.func27 rfl rfl rfl fun w0 hw => ?_
  have hcl : 4 < cs.length := (List.getElem?_eq_some_iff.1 hb).1
  refine c_seq fun _ hK1 => ?_
  refine c_region ?_
  refine o_step rfl (s_move rfl) ?_
  refine o_step rfl (s_nil rfl) ?_
  refine o_step rfl (s_field rfl rfl (by decide)) ?_
  refine o_step rfl (s_ld rfl (.own meA hb)) ?_
  refine o_step rfl (s_len rfl) ?_
  refine o_step rfl (s_lss_t rfl rfl (by omega)) ?_
  refine o_nil ?_
  refine x_then (hK1 _ _ ?_)
  refine c_true rfl ?_
  refine c_region ?_
  refine o_step rfl (s_move rfl) ?_
  refine o_step rfl (s_move rfl) ?_
  refine o_step rfl (s_nil rfl) ?_
  refine o_step rfl (s_field rfl rfl (by decide)) ?_
  refine o_step rfl (s_ld rfl (.own meA hb)) ?_
  refine o_step rfl (s_move rfl) ?_
  refine o_bs (E := Esl) (xs := [s]) (vs := [_]) rfl rfl rfl rfl rfl (by decide) (by decide) fun b16 S16 hS16 => ?_
  refine o_app hO (hS16.rdk hiA) rfl rfl rfl rfl (by simp only [List.length_singleton]; omega) (by simp only [List.length_singleton]; omega) rfl pkA fun a17 c17 S17 hS17 => ?_
  refine o_step rfl (s_nil rfl) ?_
  refine o_step rfl (s_field rfl rfl (by decide)) ?_
  refine o_store rfl rfl rfl upA (by first | decide | omega | (simp; done) | (simp; omega)) rfl ?_
  refine o_nil ?_
  refine x_sub (Sub.refl _) (H' := (b, .cells (cs.set 4 (.slice a17 (sls ++ [s]).length c17)).toArray 76 (0, 0)) :: S17) hzB ?_
  exact x_end rfl (.nil) (⟨_, _, _, rfl, hS17⟩)

theorem apart_fn (b : Nat) (cs : List Value) (sls : List (Sl Mk)) (oa : Option Addr) (oc : Nat) (So Si : Hp) (hb : cs[4]? = some (.slice oa sls.length oc)) (hz : ∀ i, i < 19 → i ≠ 4 → cs[i]? = some (.slice none 0 0)) (hN : sls.length ≤ 400) (hlen : ∀ (j : Nat) (s : Sl Mk), sls[j]? = some s → s.xs.length ≤ 4294967296) (hO : OwnS Esl 1 22 (.slice oa sls.length oc) sls So) (hI : OwnL Em 2 35 sls (sls.map Sl.xs) Si) : HL.Fn Tryd.prog 28 [.pointer (some ⟨b, 0, none⟩)] (fun _ => True) ((b, .cells cs.toArray 76 (0, 0)) :: (So ++ Si)) (fun v S' => v = .bool true ∧ S' = (b, .cells cs.toArray 76 (0, 0)) :: So) := by
  refine fn_of Tryd.func28 rfl rfl rfl fun w0 hw => ?_
  refine c_seq fun _ hK1 => ?_
  refine c_region ?_
  refine o_step rfl (s_assign rfl) ?_
  refine o_nil ?_
  refine x_then (hK1 _ _ ?_)
  refine c_seq fun _ hK2 => ?_
  refine c_region ?_
  refine o_step rfl (s_assign rfl) ?_
  refine o_nil ?_
  refine x_then (hK2 _ _ ?_)
  refine c_seq fun _ hK3 => ?_
  refine c_seq fun _ hK4 => ?_
  refine c_region ?_
  refine o_step rfl (s_move rfl) ?_
  refine o_callP (apartBytes0_fn b cs (hz 0 (by decide) (by decide))) rfl rfl rfl (fun w st => (RdPK.own (l := cs) meA).out w st) (fun v5 hv5 => ?_)
  subst hv5
  refine o_step rfl (s_not rfl) ?_
  refine o_nil ?_
  refine x_then (hK4 _ _ ?_)
  refine c_false rfl ?_
  refine c_skip ?_
  refine x_then (hK3 _ _ ?_)
  refine c_seq fun _ hK5 => ?_
  refine c_seq fun _ hK6 => ?_
  refine c_region ?_
  refine o_step rfl (s_move rfl) ?_
  refine o_callP (apartInts0_fn b cs (hz 1 (by decide) (by decide))) rfl rfl rfl (fun w st => (RdPK.own (l := cs) meA).out w st) (fun v8 hv8 => ?_)
  subst hv8
  refine o_step rfl (s_not rfl) ?_
  refine o_nil ?_
  refine x_then (hK6 _ _ ?_)
  refine c_false rfl ?_
  refine c_skip ?_
  refine x_then (hK5 _ _ ?_)
  refine c_seq fun _ hK7 => ?_
  refine c_seq fun _ hK8 => ?_
  refine c_region ?_
  refine o_step rfl (s_move rfl) ?_
  refine o_callP (apartBools0_fn b cs (hz 2 (by decide) (by decide))) rfl rfl rfl (fun w st => (RdPK.own (l := cs) meA).out w st) (fun v11 hv11 => ?_)
  subst hv11
  refine o_step rfl (s_not rfl) ?_
  refine o_nil ?_
  refine x_then (hK8 _ _ ?_)
  refine c_false rfl ?_
  refine c_skip ?_
  refine x_then (hK7 _ _ ?_)
  refine c_seq fun _ hK9 => ?_
  refine c_seq fun _ hK10 => ?_
  refine c_region ?_
  refine o_step rfl (s_move rfl) ?_
  refine o_callP (apartTexts0_fn b cs (hz 3 (by decide) (by decide))) rfl rfl rfl (fun w st => (RdPK.own (l := cs) meA).out w st) (fun v14 hv14 => ?_)
  subst hv14
  refine o_step rfl (s_not rfl) ?_
  refine o_nil ?_
  refine x_then (hK10 _ _ ?_)
  refine c_false rfl ?_
  refine c_skip ?_
  refine x_then (hK9 _ _ ?_)
  refine c_seq fun _ hK11 => ?_
  refine c_seq fun _ hK12 => ?_
  refine c_region ?_
  refine o_step rfl (s_move rfl) ?_
  refine o_call (apartMarks_fn b cs sls oa oc So Si hb hN hlen hO hI) rfl rfl rfl pkA (fun _ _ => trivial) (fun v17 S17 ⟨hv17, hS17⟩ => ?_)
  subst hv17
  subst hS17
  refine o_step rfl (s_not rfl) ?_
  refine o_nil ?_
  refine x_then (hK12 _ _ ?_)
  refine c_false rfl ?_
  refine c_skip ?_
  refine x_then (hK11 _ _ ?_)
  refine c_seq fun _ hK13 => ?_
  refine c_seq fun _ hK14 => ?_
  refine c_region ?_
  refine o_step rfl (s_move rfl) ?_
  refine o_callP (apartSpans0_fn b cs (hz 5 (by decide) (by decide))) rfl rfl rfl (fun w st => (RdPK.own (l := cs) meA).out w st) (fun v20 hv20 => ?_)
  subst hv20
  refine o_step rfl (s_not rfl) ?_
  refine o_nil ?_
  refine x_then (hK14 _ _ ?_)
  refine c_false rfl ?_
  refine c_skip ?_
  refine x_then (hK13 _ _ ?_)
  refine c_seq fun _ hK15 => ?_
  refine c_seq fun _ hK16 => ?_
  refine c_region ?_
  refine o_step rfl (s_move rfl) ?_
  refine o_callP (apartRuns0_fn b cs (hz 6 (by decide) (by decide))) rfl rfl rfl (fun w st => (RdPK.own (l := cs) meA).out w st) (fun v23 hv23 => ?_)
  subst hv23
  refine o_step rfl (s_not rfl) ?_
  refine o_nil ?_
  refine x_then (hK16 _ _ ?_)
  refine c_false rfl ?_
  refine c_skip ?_
  refine x_then (hK15 _ _ ?_)
  refine c_seq fun _ hK17 => ?_
  refine c_seq fun _ hK18 => ?_
  refine c_region ?_
  refine o_step rfl (s_move rfl) ?_
  refine o_callP (apartClasses0_fn b cs (hz 7 (by decide) (by decide))) rfl rfl rfl (fun w st => (RdPK.own (l := cs) meA).out w st) (fun v26 hv26 => ?_)
  subst hv26
  refine o_step rfl (s_not rfl) ?_
  refine o_nil ?_
  refine x_then (hK18 _ _ ?_)
  refine c_false rfl ?_
  refine c_skip ?_
  refine x_then (hK17 _ _ ?_)
  refine c_seq fun _ hK19 => ?_
  refine c_seq fun _ hK20 => ?_
  refine c_region ?_
  refine o_step rfl (s_move rfl) ?_
  refine o_callP (apartNodes0_fn b cs (hz 8 (by decide) (by decide))) rfl rfl rfl (fun w st => (RdPK.own (l := cs) meA).out w st) (fun v29 hv29 => ?_)
  subst hv29
  refine o_step rfl (s_not rfl) ?_
  refine o_nil ?_
  refine x_then (hK20 _ _ ?_)
  refine c_false rfl ?_
  refine c_skip ?_
  refine x_then (hK19 _ _ ?_)
  refine c_seq fun _ hK21 => ?_
  refine c_seq fun _ hK22 => ?_
  refine c_region ?_
  refine o_step rfl (s_move rfl) ?_
  refine o_callP (apartInstrs0_fn b cs (hz 9 (by decide) (by decide))) rfl rfl rfl (fun w st => (RdPK.own (l := cs) meA).out w st) (fun v32 hv32 => ?_)
  subst hv32
  refine o_step rfl (s_not rfl) ?_
  refine o_nil ?_
  refine x_then (hK22 _ _ ?_)
  refine c_false rfl ?_
  refine c_skip ?_
  refine x_then (hK21 _ _ ?_)
  refine c_seq fun _ hK23 => ?_
  refine c_seq fun _ hK24 => ?_
  refine c_region ?_
  refine o_step rfl (s_move rfl) ?_
  refine o_callP (apartFaults0_fn b cs (hz 10 (by decide) (by decide))) rfl rfl rfl (fun w st => (RdPK.own (l := cs) meA).out w st) (fun v35 hv35 => ?_)
  subst hv35
  refine o_step rfl (s_not rfl) ?_
  refine o_nil ?_
  refine x_then (hK24 _ _ ?_)
  refine c_false rfl ?_
  refine c_skip ?_
  refine x_then (hK23 _ _ ?_)
  refine c_seq fun _ hK25 => ?_
  refine c_seq fun _ hK26 => ?_
  refine c_region ?_
  refine o_step rfl (s_move rfl) ?_
  refine o_callP (apartNotes0_fn b cs (hz 11 (by decide) (by decide))) rfl rfl rfl (fun w st => (RdPK.own (l := cs) meA).out w st) (fun v38 hv38 => ?_)
  subst hv38
  refine o_step rfl (s_not rfl) ?_
  refine o_nil ?_
  refine x_then (hK26 _ _ ?_)
  refine c_false rfl ?_
  refine c_skip ?_
  refine x_then (hK25 _ _ ?_)
  refine c_seq fun _ hK27 => ?_
  refine c_seq fun _ hK28 => ?_
  refine c_region ?_
  refine o_step rfl (s_move rfl) ?_
  refine o_callP (apartParts0_fn b cs (hz 12 (by decide) (by decide))) rfl rfl rfl (fun w st => (RdPK.own (l := cs) meA).out w st) (fun v41 hv41 => ?_)
  subst hv41
  refine o_step rfl (s_not rfl) ?_
  refine o_nil ?_
  refine x_then (hK28 _ _ ?_)
  refine c_false rfl ?_
  refine c_skip ?_
  refine x_then (hK27 _ _ ?_)
  refine c_seq fun _ hK29 => ?_
  refine c_seq fun _ hK30 => ?_
  refine c_region ?_
  refine o_step rfl (s_move rfl) ?_
  refine o_callP (apartRows0_fn b cs (hz 13 (by decide) (by decide))) rfl rfl rfl (fun w st => (RdPK.own (l := cs) meA).out w st) (fun v44 hv44 => ?_)
  subst hv44
  refine o_step rfl (s_not rfl) ?_
  refine o_nil ?_
  refine x_then (hK30 _ _ ?_)
  refine c_false rfl ?_
  refine c_skip ?_
  refine x_then (hK29 _ _ ?_)
  refine c_seq fun _ hK31 => ?_
  refine c_seq fun _ hK32 => ?_
  refine c_region ?_
  refine o_step rfl (s_move rfl) ?_
  refine o_callP (apartIntss0_fn b cs (hz 14 (by decide) (by decide))) rfl rfl rfl (fun w st => (RdPK.own (l := cs) meA).out w st) (fun v47 hv47 => ?_)
  subst hv47
  refine o_step rfl (s_not rfl) ?_
  refine o_nil ?_
  refine x_then (hK32 _ _ ?_)
  refine c_false rfl ?_
  refine c_skip ?_
  refine x_then (hK31 _ _ ?_)
  refine c_seq fun _ hK33 => ?_
  refine c_seq fun _ hK34 => ?_
  refine c_region ?_
  refine o_step rfl (s_move rfl) ?_
  refine o_callP (apartSpanss0_fn b cs (hz 15 (by decide) (by decide))) rfl rfl rfl (fun w st => (RdPK.own (l := cs) meA).out w st) (fun v50 hv50 => ?_)
  subst hv50
  refine o_step rfl (s_not rfl) ?_
  refine o_nil ?_
  refine x_then (hK34 _ _ ?_)
  refine c_false rfl ?_
  refine c_skip ?_
  refine x_then (hK33 _ _ ?_)
  refine c_seq fun _ hK35 => ?_
  refine c_seq fun _ hK36 => ?_
  refine c_region ?_
  refine o_step rfl (s_move rfl) ?_
  refine o_callP (apartPieces0_fn b cs (hz 16 (by decide) (by decide))) rfl rfl rfl (fun w st => (RdPK.own (l := cs) meA).out w st) (fun v53 hv53 => ?_)
  subst hv53
  refine o_step rfl (s_not rfl) ?_
  refine o_nil ?_
  refine x_then (hK36 _ _ ?_)
  refine c_false rfl ?_
  refine c_skip ?_
  refine x_then (hK35 _ _ ?_)
  refine c_seq fun _ hK37 => ?_
  refine c_seq fun _ hK38 => ?_
  refine c_region ?_
  refine o_step rfl (s_move rfl) ?_
  refine o_callP (apartFiles0_fn b cs (hz 17 (by decide) (by decide))) rfl rfl rfl (fun w st => (RdPK.own (l := cs) meA).out w st) (fun v56 hv56 => ?_)
  subst hv56
  refine o_step rfl (s_not rfl) ?_
  refine o_nil ?_
  refine x_then (hK38 _ _ ?_)
  refine c_false rfl ?_
  refine c_skip ?_
  refine x_then (hK37 _ _ ?_)
  refine c_seq fun _ hK39 => ?_
  refine c_seq fun _ hK40 => ?_
  refine c_region ?_
  refine o_step rfl (s_move rfl) ?_
  refine o_callP (apartCmds0_fn b cs (hz 18 (by decide) (by decide))) rfl rfl rfl (fun w st => (RdPK.own (l := cs) meA).out w st) (fun v59 hv59 => ?_)
  subst hv59
  refine o_step rfl (s_not rfl) ?_
  refine o_nil ?_
  refine x_then (hK40 _ _ ?_)
  refine c_false rfl ?_
  refine c_skip ?_
  refine x_then (hK39 _ _ ?_)
  refine c_seq fun _ hK41 => ?_
  refine c_region ?_
  refine o_step rfl (s_move rfl) ?_
  refine o_step rfl (s_assign rfl) ?_
  refine o_nil ?_
  refine x_then (hK41 _ _ ?_)
  refine c_ret ?_
  refine ?_
  refine x_sub (Sub.refl _) (H' := (b, .cells cs.toArray 76 (0, 0)) :: So) hzB ?_
  exact x_ret rfl (.tmp rfl (.nil)) (⟨rfl, rfl⟩)
end Go.Proofs.YtafbigmneipkiaaDoor
