/- Part of the proofs over this seat: see the text that holds the theorem. Conditions: each theorem bears its own. -/
import Derived.Test.YtiggliigookieaaDoorQW13Z
import Derived.Test.YtiggliigookieaaDoorQW9Z
import Derived.Test.YtiggliigookieaaDoorQN22
import Derived.Test.YtiggliigookieaaDoorMK7Z
import Derived.Test.YtiggliigookieaaDoorMK1Z
namespace Go.Proofs.YtiggliigookieaaDoor
open Go Go.HL Go.Proofs Go.HL.Kl Go.HL.Kl.Mc Go.HL.Kl.Mc.AskE
theorem may10_fn (ra : Option Addr) (rc : Nat) (re : List Nd) (hre : ∀ x ∈ re, -128 ≤ x.op ∧ x.op < 128) : HL.Fn Tryd.prog 30 [.slice ra re.length rc] (fun w => Rd En w (.slice ra re.length rc) re) [] (fun v _ => v = .bool (shapedB re && !refsB re)) := by
  refine fn_of Tryd.func30 rfl rfl rfl fun w0 hw => ?_
  refine c_seq fun _ hK1 => ?_
  refine c_region ?_
  refine o_step rfl (s_assign rfl) ?_
  refine o_nil ?_
  refine x_then (hK1 _ _ ?_)
  refine c_seq fun _ hK2 => ?_
  refine c_region ?_
  refine o_step rfl (s_move rfl) ?_
  refine o_callP (rShaped_fn ra rc re hre) rfl rfl rfl (fun w st => (RdK.old0 hw).out w st) (fun v4 hv4 => ?_)
  subst hv4
  cases hsb : shapedB re
  ·
   refine o_step rfl (s_move rfl) ?_
   refine o_no rfl rfl rfl rfl ?_
   refine o_no rfl rfl rfl rfl ?_
   refine o_no rfl rfl rfl rfl ?_
   refine o_step rfl (s_pick_f rfl rfl) ?_
   refine o_step rfl (s_assign rfl) ?_
   refine o_nil ?_
   refine x_then (hK2 _ _ ?_)
   refine c_ret ?_
   refine ?_
   exact x_ret rfl (.tmp rfl (.nil)) ((by rw [hsb]; rfl))
  ·
   refine o_step rfl (s_move rfl) ?_
   refine o_yes rfl rfl ?_
   refine o_step rfl (s_move rfl) ?_
   refine o_yes rfl rfl ?_
   refine o_callP (rRefs_fn ra rc re hre) rfl rfl rfl (fun w st => (RdK.old0 hw).out w st) (fun v7 hv7 => ?_)
   subst hv7
   refine o_yes rfl rfl ?_
   refine o_step rfl (s_not rfl) ?_
   refine o_step rfl (s_pick_t rfl rfl) ?_
   refine o_step rfl (s_assign rfl) ?_
   refine o_nil ?_
   refine x_then (hK2 _ _ ?_)
   refine c_ret ?_
   refine ?_
   exact x_ret rfl (.tmp rfl (.nil)) ((by rw [hsb]; rfl))

set_option maxHeartbeats 1000000 in
theorem none10_fn (ra : Option Addr) (rc : Nat) (re : List Nd) (hre : ∀ x ∈ re, -128 ≤ x.op ∧ x.op < 128) (hsb : shapedB re = true) (hrl : re.length ≤ 1000000) : HL.Fn Tryd.prog 51 [.slice ra re.length rc] (fun w => Rd En w (.slice ra re.length rc) re) [] (fun v S' => ∃ a c, v = .slice a (gcn re + 1) c ∧ OwnS Esp 2 62 (.slice a (gcn re + 1) c) (List.replicate (gcn re + 1) noS) S') := by
  refine fn_of Tryd.func51 rfl rfl rfl fun w0 hw => ?_
  have hgl : gcn re ≤ re.length := List.countP_le_length
  refine c_seq fun _ hK1 => ?_
  refine c_region ?_
  refine o_step rfl (s_assign rfl) ?_
  refine o_nil ?_
  refine x_then (hK1 _ _ ?_)
  refine c_seq fun _ hK2 => ?_
  refine c_region ?_
  refine o_step rfl (s_assign rfl) ?_
  refine o_nil ?_
  refine x_then (hK2 _ _ ?_)
  refine c_seq fun _ hK3 => ?_
  refine c_seq fun _ hK4 => ?_
  refine c_region ?_
  refine o_step rfl (s_assign rfl) ?_
  refine o_nil ?_
  refine x_then (hK4 _ _ ?_)
  refine c_block ?_
  refine c_loop3 (fun (j : Nat) (q : Sl Sp) (S : Hp) => j ≤ gcn re + 1 ∧ q.xs = List.replicate j noS ∧ OwnS Esp 2 62 (.slice q.a q.xs.length q.c) q.xs S) (fun (j : Nat) (q : Sl Sp) (S : Hp) => [(4, .int .i64 j), (3, .slice q.a q.xs.length q.c)]) [(0, _), (2, _)] (fun (j : Nat) (q : Sl Sp) (S : Hp) => S) (fun (j : Nat) (q : Sl Sp) (S : Hp) => gcn re + 1 - j) 0 ⟨none, 0, []⟩ [] ⟨by omega, rfl, .nil⟩ sbA sbA hzB ?_
  rintro j q S ⟨hj, hq, hS⟩
  have hql : q.xs.length = j := by rw [hq, List.length_replicate]
  refine c_seq fun _ hK5 => ?_
  refine c_seq fun _ hK6 => ?_
  refine c_region ?_
  refine o_step rfl (s_move rfl) ?_
  refine o_step rfl (s_move rfl) ?_
  refine o_callP (rGroups_fn ra rc re hre) rfl rfl rfl (fun w st => (RdK.old0 hw).out w st) (fun v7 hv7 => ?_)
  rw [hsb, if_pos rfl] at hv7
  subst hv7
  by_cases hjl : (j : Int) ≤ gcn re
  ·
   refine o_step rfl (step_cast (v' := .bool true) (s_leq rfl rfl) (by rw [decide_eq_true (by omega)])) ?_
   refine o_nil ?_
   refine x_then (hK6 _ _ ?_)
   refine c_true rfl ?_
   refine c_skip ?_
   refine x_then (hK5 _ _ ?_)
   refine c_seq fun _ hK7 => ?_
   refine c_block ?_
   refine c_region ?_
   refine o_step rfl (s_move rfl) ?_
   refine o_step rfl (step_cast (v' := .agg (Esp noS).toArray) (s_build (cs := [_, _]) (vs := [_, _]) rfl rfl (.cons rfl rfl rfl rfl rfl (.cons rfl rfl rfl rfl rfl (.nil)))) rfl) ?_
   refine o_bs (E := Esp) (xs := [noS]) (vs := [_]) rfl rfl rfl rfl rfl (by decide) (by decide) fun b13 S13 hS13 => ?_
   refine o_app hS (hS13.rdk hiA) rfl rfl rfl rfl (by simp; omega) (by simp; omega) rfl pkA fun a14 c14 S14 hS14 => ?_
   refine o_step rfl (s_assign rfl) ?_
   refine o_nil ?_
   refine x_block ?_
   refine x_then (hK7 _ _ ?_)
   refine c_region ?_
   refine o_step rfl (s_move rfl) ?_
   refine o_step rfl (s_add rfl rfl (by omega)) ?_
   refine o_step rfl (s_assign rfl) ?_
   refine o_nil ?_
   exact x_then (x_inv (j + 1, ⟨a14, c14, q.xs ++ [noS]⟩, S14) ⟨by omega, by dsimp only; rw [hq, List.replicate_succ'], hS14⟩ (by first | omega | (dsimp only; omega)) sbA hzB)
  ·
   obtain rfl : j = gcn re + 1 := by omega
   refine o_step rfl (step_cast (v' := .bool false) (s_leq rfl rfl) (by rw [decide_eq_false (by omega)])) ?_
   refine o_nil ?_
   refine x_then (hK6 _ _ ?_)
   refine c_false rfl ?_
   refine c_exit ?_
   refine x_then_exit ?_
   refine x_then_exit ?_
   refine x_block_exit ?_
   refine x_then (hK3 _ _ ?_)
   refine c_seq fun _ hK8 => ?_
   refine c_region ?_
   refine o_step rfl (s_move rfl) ?_
   refine o_step rfl (s_assign rfl) ?_
   refine o_nil ?_
   refine x_then (hK8 _ _ ?_)
   refine c_ret ?_
   refine ?_
   refine x_sub (Sub.refl _) (H' := S) hzB ?_
   rw [hql, hq] at hS
   exact x_ret rfl (.tmp rfl (.nil)) (⟨q.a, q.c, by rw [hql]; rfl, hS⟩)

theorem best_all (K : WalkE) (hK : K.ok) : ∀ (n : Nat) (x : Nd) (ks : F), ks.size < n → BestK Tryd.prog K 52 62 x ks := by
  intro n
  induction n with
  | zero => intro x ks h; omega
  | succ n ihn => exact fun x ks h i i1 p q cs Sc hp hpq hq hd hcl hsl hO => best_step K hK x ks i i1 hp p q hpq hq hd (fun y js hj => ihn y js (by omega)) cs Sc hcl hsl hO

theorem bestD {T : Nat} {re : List Nd} {w : List UInt8} {x : Nd} {ks : F} {p q : Nat} {v : Value} {S' : Hp} (hm : May re w x ks) (h1 : p ≤ q) (h2 : q ≤ w.length) (hd : der1 w x ks p q) (h : BestP T re w p q v S') : CapO T w re x ks p q v S' := by
  rcases h with ⟨x2, ks2, p2, q2, hm2, e1, e2, _, _, _, h3⟩ | ⟨hn, _⟩
  · obtain ⟨rfl, rfl⟩ := hm.hs.uniq hm2.hs
    obtain rfl : p = p2 := by omega
    obtain rfl : q = q2 := by omega
    exact h3
  · exact absurd ⟨x, ks, p, q, hm, rfl, rfl, h1, h2, hd⟩ hn

set_option maxHeartbeats 1000000 in
theorem rBest_fn (ra : Option Addr) (rc : Nat) (re : List Nd) (hre : ∀ x ∈ re, -128 ≤ x.op ∧ x.op < 128) (ta : Option Addr) (tc : Nat) (w : List UInt8) (hwl : w.length ≤ 1000000) (fr to : Int) : HL.Fn Tryd.prog 22 [.slice ra re.length rc, .slice ta w.length tc, .agg (Esp ⟨fr, to⟩).toArray] (fun W => Rd En W (.slice ra re.length rc) re ∧ Rd Eb W (.slice ta w.length tc) w) [] (BestP 62 re w fr to) := by
  refine fn_of Tryd.func22 rfl rfl rfl fun w0 hw => ?_
  refine c_seq fun _ hK1 => ?_
  refine c_region ?_
  refine o_box rfl rfl rfl fun b5 => ?_
  refine o_step rfl (s_assign rfl) ?_
  refine o_step rfl (s_assign rfl) ?_
  refine o_nil ?_
  refine x_then (hK1 _ _ ?_)
  refine c_seq fun _ hK2 => ?_
  refine c_seq fun _ hK3 => ?_
  refine c_region ?_
  refine o_step rfl (s_move rfl) ?_
  refine o_callP (may10_fn ra rc re hre) rfl rfl rfl (fun w2 st => (RdK.old0 hw.1).out w2 st) (fun v11 hv11 => ?_)
  by_cases hmay : (shapedB re && !refsB re) = true
  ·
   rw [hmay] at hv11
   subst hv11
   rw [Bool.and_eq_true] at hmay
   have hsb := hmay.1
   have hrb : refsB re = false := by simpa using hmay.2
   obtain ⟨_, x, ks, hmx⟩ := shapedB_iff.1 hsb
   have hr8 := no_refs hsb hrb
   refine o_step rfl (s_not rfl) ?_
   refine o_step rfl (s_move rfl) ?_
   refine o_yes rfl rfl ?_
   refine o_step rfl (s_field rfl rfl (by decide)) ?_
   refine o_yes rfl rfl ?_
   refine o_step rfl (s_ld rfl ((.own meA rfl : Cel _ _ _ (.int .i64 fr)))) ?_
   refine o_yes rfl rfl ?_
   by_cases hf0 : fr < 0
   ·
    refine o_step rfl (step_cast (v' := .bool true) (s_lss rfl rfl) (by rw [decide_eq_true (by omega)])) ?_
    refine o_step rfl (s_pick_f rfl rfl) ?_
    refine o_step rfl (s_move rfl) ?_
    refine o_no rfl rfl rfl rfl ?_
    refine o_no rfl rfl rfl rfl ?_
    refine o_no rfl rfl rfl rfl ?_
    refine o_no rfl rfl rfl rfl ?_
    refine o_no rfl rfl rfl rfl ?_
    refine o_step rfl (s_pick_t rfl rfl) ?_
    refine o_step rfl (s_move rfl) ?_
    refine o_no rfl rfl rfl rfl ?_
    refine o_no rfl rfl rfl rfl ?_
    refine o_no rfl rfl rfl rfl ?_
    refine o_no rfl rfl rfl rfl ?_
    refine o_no rfl rfl rfl rfl ?_
    refine o_step rfl (s_pick_t rfl rfl) ?_
    refine o_nil ?_
    refine x_then (hK3 _ _ ?_)
    refine c_true rfl ?_
    refine c_seq fun _ hK4 => ?_
    refine c_region ?_
    refine o_step rfl (s_assign rfl) ?_
    refine o_step rfl (s_assign rfl) ?_
    refine o_nil ?_
    refine x_then (hK4 _ _ ?_)
    refine c_ret ?_
    refine x_then_ret (?_)
    refine x_sub (Sub.refl _) (H' := []) HSub.nil ?_
    exact x_ret rfl (.tmp rfl (.tmp rfl (.nil))) (.inr ⟨fun ⟨x2, ks2, p2, q2, hm, h1, h2, h3, h4, h5⟩ => (by omega), rfl, rfl⟩)
   ·
    refine o_step rfl (step_cast (v' := .bool false) (s_lss rfl rfl) (by rw [decide_eq_false (by omega)])) ?_
    refine o_step rfl (s_pick_f rfl rfl) ?_
    refine o_step rfl (s_move rfl) ?_
    refine o_yes rfl rfl ?_
    refine o_step rfl (s_field rfl rfl (by decide)) ?_
    refine o_yes rfl rfl ?_
    refine o_step rfl (s_ld rfl ((.own meA rfl : Cel _ _ _ (.int .i64 fr)))) ?_
    refine o_yes rfl rfl ?_
    refine o_step rfl (s_field rfl rfl (by decide)) ?_
    refine o_yes rfl rfl ?_
    refine o_step rfl (s_ld rfl ((.own meA rfl : Cel _ _ _ (.int .i64 to)))) ?_
    refine o_yes rfl rfl ?_
    by_cases hft : fr > to
    ·
     refine o_step rfl (step_cast (v' := .bool true) (s_gtr rfl rfl) (by rw [decide_eq_true (by omega)])) ?_
     refine o_step rfl (s_pick_f rfl rfl) ?_
     refine o_step rfl (s_move rfl) ?_
     refine o_no rfl rfl rfl rfl ?_
     refine o_no rfl rfl rfl rfl ?_
     refine o_no rfl rfl rfl rfl ?_
     refine o_no rfl rfl rfl rfl ?_
     refine o_no rfl rfl rfl rfl ?_
     refine o_step rfl (s_pick_t rfl rfl) ?_
     refine o_nil ?_
     refine x_then (hK3 _ _ ?_)
     refine c_true rfl ?_
     refine c_seq fun _ hK5 => ?_
     refine c_region ?_
     refine o_step rfl (s_assign rfl) ?_
     refine o_step rfl (s_assign rfl) ?_
     refine o_nil ?_
     refine x_then (hK5 _ _ ?_)
     refine c_ret ?_
     refine x_then_ret (?_)
     refine x_sub (Sub.refl _) (H' := []) HSub.nil ?_
     exact x_ret rfl (.tmp rfl (.tmp rfl (.nil))) (.inr ⟨fun ⟨x2, ks2, p2, q2, hm, h1, h2, h3, h4, h5⟩ => (by omega), rfl, rfl⟩)
    ·
     refine o_step rfl (step_cast (v' := .bool false) (s_gtr rfl rfl) (by rw [decide_eq_false (by omega)])) ?_
     refine o_step rfl (s_pick_f rfl rfl) ?_
     refine o_step rfl (s_move rfl) ?_
     refine o_yes rfl rfl ?_
     refine o_step rfl (s_field rfl rfl (by decide)) ?_
     refine o_yes rfl rfl ?_
     refine o_step rfl (s_ld rfl ((.own meA rfl : Cel _ _ _ (.int .i64 to)))) ?_
     refine o_yes rfl rfl ?_
     refine o_step rfl (s_move rfl) ?_
     refine o_yes rfl rfl ?_
     refine o_step rfl (s_len rfl) ?_
     refine o_yes rfl rfl ?_
     by_cases htl : to > w.length
     ·
      refine o_step rfl (step_cast (v' := .bool true) (s_gtr rfl rfl) (by rw [decide_eq_true (by omega)])) ?_
      refine o_step rfl (s_pick_f rfl rfl) ?_
      refine o_nil ?_
      refine x_then (hK3 _ _ ?_)
      refine c_true rfl ?_
      refine c_seq fun _ hK6 => ?_
      refine c_region ?_
      refine o_step rfl (s_assign rfl) ?_
      refine o_step rfl (s_assign rfl) ?_
      refine o_nil ?_
      refine x_then (hK6 _ _ ?_)
      refine c_ret ?_
      refine x_then_ret (?_)
      refine x_sub (Sub.refl _) (H' := []) HSub.nil ?_
      exact x_ret rfl (.tmp rfl (.tmp rfl (.nil))) (.inr ⟨fun ⟨x2, ks2, p2, q2, hm, h1, h2, h3, h4, h5⟩ => (by omega), rfl, rfl⟩)
     ·
      obtain ⟨p, rfl⟩ : ∃ p : Nat, fr = p := ⟨fr.toNat, by omega⟩
      obtain ⟨q, rfl⟩ : ∃ q : Nat, to = q := ⟨to.toNat, by omega⟩
      refine o_step rfl (step_cast (v' := .bool false) (s_gtr rfl rfl) (by rw [decide_eq_false (by omega)])) ?_
      refine o_step rfl (s_pick_f rfl rfl) ?_
      refine o_nil ?_
      refine x_then (hK3 _ _ ?_)
      refine c_false rfl ?_
      refine c_skip ?_
      refine x_then (hK2 _ _ ?_)
      refine c_seq fun _ hK7 => ?_
      refine c_region ?_
      refine o_step rfl (s_move rfl) ?_
      refine o_step rfl (s_move rfl) ?_
      refine o_step rfl (s_field rfl rfl (by decide)) ?_
      refine o_step rfl (s_ld rfl ((.own meA rfl : Cel _ _ _ (.int .i64 (p : Int))))) ?_
      refine o_call (takes_fn ra rc re x ks hmx hre hr8 ta tc w hwl p (by omega)) rfl rfl rfl (by exact .nil) (fun w2 st => ⟨(RdK.old0 hw.1).out w2 st, (RdK.old0 hw.2).out w2 st⟩) (fun v36 S36 ⟨a36, c36, l36, hv36, hi36, hr36⟩ => ?_)
      subst hv36
      have hll := hi36.len
      have hlq := bo0_get (l := l36) (i := q) (by omega)
      refine o_step rfl (s_assign rfl) ?_
      refine o_nil ?_
      refine x_then (hK7 _ _ ?_)
      refine c_seq fun _ hK8 => ?_
      refine c_seq fun _ hK9 => ?_
      refine c_knw (p := IsSl (.slice a36 l36.length c36) l36.length) (fun w2 st => ((hr36.rdk hiA).out w2 st).sl) fun hls => ?_
      refine c_region ?_
      refine o_step rfl (s_move rfl) ?_
      refine o_step rfl (s_field rfl rfl (by decide)) ?_
      refine o_step rfl (s_ld rfl ((.own meA rfl : Cel _ _ _ (.int .i64 (q : Int))))) ?_
      refine o_step rfl (s_idx rfl rfl hls (by omega)) ?_
      by_cases hbt : bo0 l36 q = true
      ·
       have hder := (hi36.get q (by omega)).1 (bo0_true.1 hbt)
       refine o_step rfl (step_cast (v' := .bool true) (s_ld rfl ((hr36.rdk hiA).ld q 0 hlq rfl (by decide) (by omega))) (by rw [hbt])) ?_
       refine o_step rfl (s_not rfl) ?_
       refine o_nil ?_
       refine x_then (hK9 _ _ ?_)
       refine c_false rfl ?_
       refine c_skip ?_
       refine x_then (hK8 _ _ ?_)
       refine c_seq fun _ hK10 => ?_
       refine c_region ?_
       refine o_step rfl (s_move rfl) ?_
       refine o_step rfl (s_move rfl) ?_
       refine o_step rfl (s_move rfl) ?_
       refine o_call (none10_fn ra rc re hre hsb (by have := hmx.len; omega)) rfl rfl rfl (by exact .nil) (fun w2 st => (RdK.old0 hw.1).out w2 st) (fun v46 S46 ⟨a46, c46, hv46, hS46⟩ => ?_)
       subst hv46
       refine o_step rfl (s_build (cs := [_, _, _]) (vs := [_, _, _]) rfl rfl (.cons rfl rfl rfl rfl rfl (.cons rfl rfl rfl rfl rfl (.cons rfl rfl rfl rfl rfl (.nil))))) ?_
       refine o_box rfl rfl rfl fun b48 => ?_
       refine o_step rfl (s_assign rfl) ?_
       refine o_nil ?_
       refine x_then (hK10 _ _ ?_)
       refine c_seq fun _ hK11 => ?_
       refine c_region ?_
       refine o_step rfl (s_move rfl) ?_
       refine o_step rfl (s_field rfl rfl (by decide)) ?_
       refine o_step rfl (s_ld rfl ((.own meA rfl : Cel _ _ _ (.int .i64 (p : Int))))) ?_
       refine o_step rfl (s_field rfl rfl (by decide)) ?_
       refine o_step rfl (s_ld rfl ((.own meA rfl : Cel _ _ _ (.int .i64 (q : Int))))) ?_
       refine o_call (best_all (⟨b48, ra, rc, re, ta, tc, w, a46, gcn re + 1, c46⟩ : WalkE) ⟨hre, hr8, by have := hmx.len; show re.length ≤ _; omega, hwl⟩ _ x ks (Nat.lt_succ_self _) 0 _ p q _ S46 hmx.part (by omega) (by show q ≤ w.length; omega) hder List.length_replicate (slots_of hsb) hS46) rfl rfl rfl pkA (fun w2 st => EnvW.make (K := (⟨b48, ra, rc, re, ta, tc, w, a46, gcn re + 1, c46⟩ : WalkE)) (S := S46) st pkA hw.1 hw.2 meA) (fun v54 S54 hO54 => ?_)
       have hl54 : (bst1 w x ks p q (List.replicate (gcn re + 1) noS)).length = gcn re + 1 := by rw [bst1_len, List.length_replicate]
       have hs54 : IsSl (.slice a46 (gcn re + 1) c46) (gcn re + 1) := by have := hO54.sl; rw [hl54] at this; exact this
       refine o_nil ?_
       refine x_then (hK11 _ _ ?_)
       refine c_seq fun _ hK12 => ?_
       refine c_drawE ([(b48, .cells [.slice ra re.length rc, .slice ta w.length tc, .slice a46 (gcn re + 1) c46].toArray 88 (0, 0)), (b5, .cells (Esp ⟨p, q⟩).toArray 62 (0, 0))]) (fun i => false) ?_
       refine e_take 0 rfl (by kernel_rfl) (by kernel_rfl) (by kernel_rfl) (by kernel_rfl) (fun _ _ => rfl) rfl hzB (s_move rfl) ?_
       refine e_take 1 rfl (by kernel_rfl) (by kernel_rfl) (by kernel_rfl) (by kernel_rfl) (fun _ _ => rfl) rfl hzB (s_nil rfl) ?_
       refine e_take 2 rfl (by kernel_rfl) (by kernel_rfl) (by kernel_rfl) (by kernel_rfl) (fun _ _ => rfl) rfl hzB (s_field rfl rfl (by decide)) ?_
       refine e_take 3 rfl (by kernel_rfl) (by kernel_rfl) (by kernel_rfl) (by kernel_rfl) (fun _ _ => rfl) rfl hzB (s_ld rfl (.own meA rfl)) ?_
       refine e_take 4 rfl (by kernel_rfl) (by kernel_rfl) (by kernel_rfl) (by kernel_rfl) (fun _ _ => rfl) rfl hzB (s_ldB rfl (RdPK.cels (.own meA)) lnA) ?_
       refine e_take 5 rfl (by kernel_rfl) (by kernel_rfl) (by kernel_rfl) (by kernel_rfl) (fun _ _ => rfl) rfl hzB (s_idx rfl rfl hs54 (by omega)) ?_
       refine e_one 6 rfl (by kernel_rfl) ?_
       refine o_stSE 0 ⟨p, q⟩ hO54 pkA rfl rfl (by rw [hl54]; omega) (by rfl) fun S' hS' => ?_
       refine o_nil ?_
       refine x_oneS hzB ?_
       refine e_done (by kernel_rfl) ?_
       refine x_then (hK12 _ _ ?_)
       refine c_seq fun _ hK13 => ?_
       refine c_region ?_
       refine o_step rfl (s_move rfl) ?_
       refine o_step rfl (s_nil rfl) ?_
       refine o_step rfl (s_field rfl rfl (by decide)) ?_
       refine o_step rfl (s_ld rfl (.own meA rfl)) ?_
       refine o_step rfl (s_assign rfl) ?_
       refine o_step rfl (s_assign rfl) ?_
       refine o_nil ?_
       refine x_then (hK13 _ _ ?_)
       refine c_ret ?_
       refine ?_
       refine x_sub (Sub.refl _) (H' := S') hzB ?_
       exact x_ret rfl (.tmp rfl (.tmp rfl (.nil))) (.inl ⟨x, ks, p, q, ⟨hsb, hrb, hmx⟩, rfl, rfl, by omega, by omega, hder, a46, c46, by rw [capsV_len]; rfl, by rw [capsV_len]; exact hS'⟩)
      ·
       have hbtf : bo0 l36 q = false := by simpa using hbt
       refine o_step rfl (step_cast (v' := .bool false) (s_ld rfl ((hr36.rdk hiA).ld q 0 hlq rfl (by decide) (by omega))) (by rw [hbtf])) ?_
       refine o_step rfl (s_not rfl) ?_
       refine o_nil ?_
       refine x_then (hK9 _ _ ?_)
       refine c_true rfl ?_
       refine c_seq fun _ hK14 => ?_
       refine c_region ?_
       refine o_step rfl (s_assign rfl) ?_
       refine o_step rfl (s_assign rfl) ?_
       refine o_nil ?_
       refine x_then (hK14 _ _ ?_)
       refine c_ret ?_
       refine x_then_ret (?_)
       refine x_sub (Sub.refl _) (H' := []) HSub.nil ?_
       exact x_ret rfl (.tmp rfl (.tmp rfl (.nil))) (.inr ⟨fun ⟨x2, ks2, p2, q2, hm, h1, h2, h3, h4, h5⟩ => (by obtain ⟨rfl, rfl⟩ := hmx.uniq hm.hs; obtain rfl : p = p2 := (by omega); obtain rfl : q = q2 := (by omega); exact hbt (bo0_true.2 ((hi36.get q h4).2 h5))), rfl, rfl⟩)
  ·
   have hmf : (shapedB re && !refsB re) = false := by simpa using hmay
   rw [hmf] at hv11
   subst hv11
   refine o_step rfl (s_not rfl) ?_
   refine o_step rfl (s_move rfl) ?_
   refine o_no rfl rfl rfl rfl ?_
   refine o_no rfl rfl rfl rfl ?_
   refine o_no rfl rfl rfl rfl ?_
   refine o_step rfl (s_pick_t rfl rfl) ?_
   refine o_step rfl (s_move rfl) ?_
   refine o_no rfl rfl rfl rfl ?_
   refine o_no rfl rfl rfl rfl ?_
   refine o_no rfl rfl rfl rfl ?_
   refine o_no rfl rfl rfl rfl ?_
   refine o_no rfl rfl rfl rfl ?_
   refine o_step rfl (s_pick_t rfl rfl) ?_
   refine o_step rfl (s_move rfl) ?_
   refine o_no rfl rfl rfl rfl ?_
   refine o_no rfl rfl rfl rfl ?_
   refine o_no rfl rfl rfl rfl ?_
   refine o_no rfl rfl rfl rfl ?_
   refine o_no rfl rfl rfl rfl ?_
   refine o_step rfl (s_pick_t rfl rfl) ?_
   refine o_nil ?_
   refine x_then (hK3 _ _ ?_)
   refine c_true rfl ?_
   refine c_seq fun _ hK15 => ?_
   refine c_region ?_
   refine o_step rfl (s_assign rfl) ?_
   refine o_step rfl (s_assign rfl) ?_
   refine o_nil ?_
   refine x_then (hK15 _ _ ?_)
   refine c_ret ?_
   refine x_then_ret (?_)
   refine x_sub (Sub.refl _) (H' := []) HSub.nil ?_
   exact x_ret rfl (.tmp rfl (.tmp rfl (.nil))) (.inr ⟨fun ⟨x2, ks2, p2, q2, hm, h1, h2, h3, h4, h5⟩ => (hmay (by rw [hm.sh, hm.rf]; rfl)), rfl, rfl⟩)

set_option maxHeartbeats 1000000 in
theorem rFind_fn (ra : Option Addr) (rc : Nat) (re : List Nd) (hre : ∀ x ∈ re, -128 ≤ x.op ∧ x.op < 128) (ta : Option Addr) (tc : Nat) (w : List UInt8) (hwl : w.length ≤ 1000000) (fi : Int) : HL.Fn Tryd.prog 12 [.slice ra re.length rc, .slice ta w.length tc, .int .i64 fi] (fun W => Rd En W (.slice ra re.length rc) re ∧ Rd Eb W (.slice ta w.length tc) w) [] (FindP 62 re w fi) := by
  refine fn_of Tryd.func12 rfl rfl rfl fun w0 hw => ?_
  have hst := hw.2.sl
  refine c_seq fun _ hK1 => ?_
  refine c_region ?_
  refine o_step rfl (s_assign rfl) ?_
  refine o_step rfl (s_assign rfl) ?_
  refine o_nil ?_
  refine x_then (hK1 _ _ ?_)
  refine c_seq fun _ hK2 => ?_
  refine c_seq fun _ hK3 => ?_
  refine c_region ?_
  refine o_step rfl (s_move rfl) ?_
  refine o_callP (may10_fn ra rc re hre) rfl rfl rfl (fun w2 st => (RdK.old0 hw.1).out w2 st) (fun v12 hv12 => ?_)
  by_cases hmay : (shapedB re && !refsB re) = true
  ·
   rw [hmay] at hv12
   subst hv12
   rw [Bool.and_eq_true] at hmay
   have hsb := hmay.1
   have hrb : refsB re = false := by simpa using hmay.2
   obtain ⟨_, x, ks, hmx⟩ := shapedB_iff.1 hsb
   have hr8 := no_refs hsb hrb
   refine o_step rfl (s_not rfl) ?_
   refine o_step rfl (s_move rfl) ?_
   refine o_yes rfl rfl ?_
   refine o_step rfl (s_move rfl) ?_
   refine o_yes rfl rfl ?_
   by_cases hf0 : fi < 0
   ·
    refine o_step rfl (step_cast (v' := .bool true) (s_lss rfl rfl) (by rw [decide_eq_true (by omega)])) ?_
    refine o_step rfl (s_pick_f rfl rfl) ?_
    refine o_nil ?_
    refine x_then (hK3 _ _ ?_)
    refine c_true rfl ?_
    refine c_seq fun _ hK4 => ?_
    refine c_region ?_
    refine o_step rfl (s_assign rfl) ?_
    refine o_step rfl (s_assign rfl) ?_
    refine o_nil ?_
    refine x_then (hK4 _ _ ?_)
    refine c_ret ?_
    refine x_then_ret (?_)
    refine x_sub (Sub.refl _) (H' := []) HSub.nil ?_
    exact x_ret rfl (.tmp rfl (.tmp rfl (.nil))) (.inr ⟨fun ⟨x2, ks2, g2, p2, q2, hm, h1, h2, h3, h4⟩ => (by omega), rfl, rfl⟩)
   ·
    obtain ⟨f, rfl⟩ : ∃ f : Nat, fi = f := ⟨fi.toNat, by omega⟩
    refine o_step rfl (step_cast (v' := .bool false) (s_lss rfl rfl) (by rw [decide_eq_false (by omega)])) ?_
    refine o_step rfl (s_pick_f rfl rfl) ?_
    refine o_nil ?_
    refine x_then (hK3 _ _ ?_)
    refine c_false rfl ?_
    refine c_skip ?_
    refine x_then (hK2 _ _ ?_)
    refine c_seq fun _ hK5 => ?_
    refine c_seq fun _ hK6 => ?_
    refine c_region ?_
    refine o_step rfl (s_move rfl) ?_
    refine o_step rfl (s_assign rfl) ?_
    refine o_nil ?_
    refine x_then (hK6 _ _ ?_)
    refine c_block ?_
    -- not carried: 6 7
    refine c_loopB (fun (i : Nat) => f ≤ i ∧ (i ≤ w.length + 1 ∨ i = f) ∧ (∀ p2 q2, f ≤ p2 → p2 < i → q2 ≤ w.length → ¬ der1 w x ks p2 q2)) (fun (i : Nat) => [(8, .int .i64 i)]) [(0, _), (1, _)] (fun (i : Nat) => []) (fun (i : Nat) => w.length + 1 - i) f ⟨by omega, .inr rfl, fun p2 q2 h1 h2 => by omega⟩ sbA sbA hzB ?_
    rintro i ⟨hi1, hi2, hno⟩
    refine c_seq fun _ hK7 => ?_
    refine c_seq fun _ hK8 => ?_
    refine c_region ?_
    refine o_step rfl (s_move rfl) ?_
    refine o_step rfl (s_move rfl) ?_
    refine o_step rfl (s_len rfl) ?_
    by_cases hil : (i : Int) ≤ w.length
    ·
     refine o_step rfl (step_cast (v' := .bool true) (s_leq rfl rfl) (by rw [decide_eq_true (by omega)])) ?_
     refine o_nil ?_
     refine x_then (hK8 _ _ ?_)
     refine c_true rfl ?_
     refine c_skip ?_
     refine x_then (hK7 _ _ ?_)
     refine c_seq fun _ hK9 => ?_
     refine c_block ?_
     refine c_seq fun _ hK10 => ?_
     refine c_region ?_
     refine o_step rfl (s_move rfl) ?_
     refine o_step rfl (s_move rfl) ?_
     refine o_step rfl (s_move rfl) ?_
     refine o_call (takes_fn ra rc re x ks hmx hre hr8 ta tc w hwl i (by omega)) rfl rfl rfl (by exact .nil) (fun w2 st => ⟨(RdK.old0 hw.1).out w2 st, (RdK.old0 hw.2).out w2 st⟩) (fun v28 S28 ⟨a28, c28, l28, hv28, hi28, hr28⟩ => ?_)
     subst hv28
     have hll := hi28.len
     refine o_step rfl (s_assign rfl) ?_
     refine o_nil ?_
     refine x_then (hK10 _ _ ?_)
     refine c_seq fun _ hK11 => ?_
     refine c_region ?_
     refine o_step rfl (s_move rfl) ?_
     refine o_step rfl (s_len rfl) ?_
     refine o_step rfl (s_assign rfl) ?_
     refine o_nil ?_
     refine x_then (hK11 _ _ ?_)
     refine c_block ?_
     refine c_loopB (fun (n : Nat) => i ≤ n ∧ n ≤ w.length + 1 ∧ (∀ q2, n ≤ q2 → q2 ≤ w.length → ¬ der1 w x ks i q2)) (fun (n : Nat) => [(10, .int .i64 ((n : Int) - 1))]) [(0, _), (1, _), (8, _), (9, _), (19, _), (20, _), (21, _), (22, _), (25, _), (26, _), (27, _), (28, _), (29, _), (30, _)] (fun (n : Nat) => S28) (fun (n : Nat) => n) (w.length + 1) ⟨by omega, by omega, fun q2 h1 h2 => by omega⟩ (by exact Sub.cons' rfl (by congr 1; omega) sbA) sbA hzB ?_
     rintro n ⟨hn1, hn2, hno3⟩
     refine c_seq fun _ hK12 => ?_
     refine c_seq fun _ hK13 => ?_
     refine c_region ?_
     refine o_step rfl (s_move rfl) ?_
     refine o_step rfl (s_move rfl) ?_
     by_cases hni : (n : Int) - 1 ≥ i
     ·
      obtain ⟨a, rfl⟩ : ∃ a, n = a + 1 := ⟨n - 1, by omega⟩
      have hal : a ≤ w.length := by omega
      have hla := bo0_get (l := l28) (i := a) (by omega)
      refine o_step rfl (step_cast (v' := .bool true) (s_geq rfl rfl) (by rw [decide_eq_true (by omega)])) ?_
      refine o_nil ?_
      refine x_then (hK13 _ _ ?_)
      refine c_true rfl ?_
      refine c_skip ?_
      refine x_then (hK12 _ _ ?_)
      refine c_seq fun _ hK14 => ?_
      refine c_block ?_
      refine c_seq fun _ hK15 => ?_
      refine c_knw (p := IsSl (.slice a28 l28.length c28) l28.length) (fun w2 st => ((hr28.rdk hiA).out w2 st).sl) fun hls => ?_
      refine c_region ?_
      refine o_step rfl (s_move rfl) ?_
      refine o_step rfl (step_cast (v' := .int .i64 (a : Int)) (s_move rfl) (congrArg (Value.int .i64) (by omega))) ?_
      refine o_step rfl (s_idx rfl rfl hls (by omega)) ?_
      by_cases hbt : bo0 l28 a = true
      ·
       have hder := (hi28.get a hal).1 (bo0_true.1 hbt)
       refine o_step rfl (step_cast (v' := .bool true) (s_ld rfl ((hr28.rdk hiA).ld a 0 hla rfl (by decide) (by omega))) (by rw [hbt])) ?_
       refine o_nil ?_
       refine x_then (hK15 _ _ ?_)
       refine c_true rfl ?_
       refine c_seq fun _ hK16 => ?_
       refine c_region ?_
       refine o_step rfl (s_move rfl) ?_
       refine o_step rfl (s_move rfl) ?_
       refine o_step rfl (s_move rfl) ?_
       refine o_step rfl (step_cast (v' := .int .i64 (a : Int)) (s_move rfl) (congrArg (Value.int .i64) (by omega))) ?_
       refine o_step rfl (s_build (cs := [_, _]) (vs := [_, _]) rfl rfl (.cons rfl rfl rfl rfl rfl (.cons rfl rfl rfl rfl rfl (.nil)))) ?_
       refine o_call (rBest_fn ra rc re hre ta tc w hwl i a) rfl rfl rfl (by exact .nil) (fun w2 st => ⟨(RdK.old0 hw.1).out w2 st, (RdK.old0 hw.2).out w2 st⟩) (fun v45 S45 hv45 => ?_)
       obtain ⟨a45, cc45, rfl, hO45⟩ := bestD ⟨hsb, hrb, hmx⟩ (by omega) hal hder hv45
       refine o_step rfl (s_extract rfl rfl) ?_
       refine o_step rfl (s_extract rfl rfl) ?_
       refine o_step rfl (s_assign rfl) ?_
       refine o_step rfl (s_assign rfl) ?_
       refine o_nil ?_
       refine x_then (hK16 _ _ ?_)
       refine c_ret ?_
       refine x_block_ret (x_then_ret (x_then_ret (x_block_ret (x_block_ret (x_then_ret (x_then_ret (x_block_ret (x_then_ret (?_)))))))))
       refine x_sub (Sub.refl _) (H' := S45) hzB ?_
       exact x_ret rfl (.tmp rfl (.tmp rfl (.nil))) (.inl ⟨x, ks, f, i, a, ⟨hsb, hrb, hmx⟩, rfl, ⟨hi1, by omega, hal, hder, hno, fun q2 h1 h2 => hno3 q2 (by omega) h2⟩, a45, cc45, rfl, hO45⟩)
      ·
       have hbtf : bo0 l28 a = false := by simpa using hbt
       have hn39 : ¬ der1 w x ks i a := fun h => hbt (bo0_true.2 ((hi28.get a hal).2 h))
       refine o_step rfl (step_cast (v' := .bool false) (s_ld rfl ((hr28.rdk hiA).ld a 0 hla rfl (by decide) (by omega))) (by rw [hbtf])) ?_
       refine o_nil ?_
       refine x_then (hK15 _ _ ?_)
       refine c_false rfl ?_
       refine c_skip ?_
       refine x_block ?_
       refine x_then (hK14 _ _ ?_)
       refine c_region ?_
       refine o_step rfl (s_move rfl) ?_
       refine o_step rfl (s_sub rfl rfl (by omega)) ?_
       refine o_step rfl (s_assign rfl) ?_
       refine o_nil ?_
       exact x_then (x_inv a ⟨by omega, by omega, fun q2 h1 h2 => if e : q2 = a then e ▸ hn39 else hno3 q2 (by omega) h2⟩ (by first | omega | (dsimp only; omega)) (by exact Sub.cons' rfl (by congr 1; omega) sbA) hzB)
     ·
      obtain rfl : i = n := by omega
      refine o_step rfl (step_cast (v' := .bool false) (s_geq rfl rfl) (by rw [decide_eq_false (by omega)])) ?_
      refine o_nil ?_
      refine x_then (hK13 _ _ ?_)
      refine c_false rfl ?_
      refine c_exit ?_
      refine x_then_exit ?_
      refine x_then_exit ?_
      refine x_block_exit ?_
      refine x_block ?_
      refine x_then (hK9 _ _ ?_)
      refine c_region ?_
      refine o_step rfl (s_move rfl) ?_
      refine o_step rfl (s_add rfl rfl (by omega)) ?_
      refine o_step rfl (s_assign rfl) ?_
      refine o_nil ?_
      exact x_then (x_inv (i + 1) ⟨by omega, .inl (by omega), fun p2 q2 h1 h2 h3 h4 => if e : p2 = i then by subst e; exact hno3 q2 (der1_up _ _ h4) h3 h4 else hno p2 q2 h1 (by omega) h3 h4⟩ (by first | omega | (dsimp only; omega)) sbA hzB)
    ·
     refine o_step rfl (step_cast (v' := .bool false) (s_leq rfl rfl) (by rw [decide_eq_false (by omega)])) ?_
     refine o_nil ?_
     refine x_then (hK8 _ _ ?_)
     refine c_false rfl ?_
     refine c_exit ?_
     refine x_then_exit ?_
     refine x_then_exit ?_
     refine x_block_exit ?_
     refine x_then (hK5 _ _ ?_)
     refine c_seq fun _ hK17 => ?_
     refine c_region ?_
     refine o_step rfl (s_assign rfl) ?_
     refine o_step rfl (s_assign rfl) ?_
     refine o_nil ?_
     refine x_then (hK17 _ _ ?_)
     refine c_ret ?_
     refine ?_
     refine x_sub (Sub.refl _) (H' := []) HSub.nil ?_
     exact x_ret rfl (.tmp rfl (.tmp rfl (.nil))) (.inr ⟨fun ⟨x2, ks2, g2, p2, q2, hm, h1, h2, h3, h4⟩ => (by obtain ⟨rfl, rfl⟩ := hmx.uniq hm.hs; have h9 := der1_up _ _ h4; rcases hi2 with h8 | h8; (· exact hno p2 q2 (by omega) (by omega) h3 h4); (· omega)), rfl, rfl⟩)
  ·
   have hmf : (shapedB re && !refsB re) = false := by simpa using hmay
   rw [hmf] at hv12
   subst hv12
   refine o_step rfl (s_not rfl) ?_
   refine o_step rfl (s_move rfl) ?_
   refine o_no rfl rfl rfl rfl ?_
   refine o_no rfl rfl rfl rfl ?_
   refine o_step rfl (s_pick_t rfl rfl) ?_
   refine o_nil ?_
   refine x_then (hK3 _ _ ?_)
   refine c_true rfl ?_
   refine c_seq fun _ hK18 => ?_
   refine c_region ?_
   refine o_step rfl (s_assign rfl) ?_
   refine o_step rfl (s_assign rfl) ?_
   refine o_nil ?_
   refine x_then (hK18 _ _ ?_)
   refine c_ret ?_
   refine x_then_ret (?_)
   refine x_sub (Sub.refl _) (H' := []) HSub.nil ?_
   exact x_ret rfl (.tmp rfl (.tmp rfl (.nil))) (.inr ⟨fun ⟨x2, ks2, g2, p2, q2, hm, h1, h2, h3, h4⟩ => (hmay (by rw [hm.sh, hm.rf]; rfl)), rfl, rfl⟩)
end Go.Proofs.YtiggliigookieaaDoor

/- Answers are told by the regex, the text, the place. Conditions: none. -/
namespace Go.HL
open Go
theorem sl_allL {α : Type} {sls : List (Sl α)} {N : Nat} (h : ∀ s, s ∈ sls → s.xs.length ≤ N) : ∀ (j : Nat) (s : Sl α), sls[j]? = some s → s.xs.length ≤ N := fun _ s hs => h s (List.mem_of_getElem? hs)
end Go.HL
namespace Go.HL.Kl.Mc
open Go Go.HL Go.HL.Kl
theorem Lft.uniq {w : List UInt8} {x : Nd} {ks : F} {f p q p' q' : Nat} (h : Lft w x ks f p q) (h' : Lft w x ks f p' q') : p = p' ∧ q = q' := by
  have hp : p = p' := by
    rcases Nat.lt_trichotomy p p' with e | e | e
    · exact absurd h.der (h'.left p q h.ge e h.len)
    · exact e
    · exact absurd h'.der (h.left p' q' h'.ge e h'.len)
  subst hp
  refine ⟨rfl, ?_⟩
  rcases Nat.lt_trichotomy q q' with e | e | e
  · exact absurd h'.der (h.long q' e h'.len)
  · exact e
  · exact absurd h.der (h'.long q e h.len)
def FRes (re : List Nd) (w : List UInt8) (f : Int) (b : Bool) (L : List Sp) : Prop :=
  (∃ x ks, ∃ g p q : Nat, May re w x ks ∧ f = g ∧ Lft w x ks g p q ∧ b = true ∧ L = capsV w re x ks p q) ∨
  ((¬ ∃ x ks, ∃ g p q : Nat, May re w x ks ∧ f = g ∧ g ≤ p ∧ q ≤ w.length ∧ der1 w x ks p q) ∧ b = false ∧ L = [])
theorem FRes.uniq {re : List Nd} {w : List UInt8} {f : Int} {b b' : Bool} {L L' : List Sp} (h : FRes re w f b L) (h' : FRes re w f b' L') : b = b' ∧ L = L' := by
  rcases h with ⟨x, ks, g, p, q, hm, hg, hl, rfl, rfl⟩ | ⟨hn, rfl, rfl⟩ <;> rcases h' with ⟨x', ks', g', p', q', hm', hg', hl', rfl, rfl⟩ | ⟨hn', rfl, rfl⟩
  · obtain ⟨rfl, rfl⟩ := hm.hs.uniq hm'.hs
    obtain rfl : g = g' := by omega
    obtain ⟨rfl, rfl⟩ := hl.uniq hl'
    exact ⟨rfl, rfl⟩
  · exact absurd ⟨x, ks, g, p, q, hm, hg, hl.ge, hl.len, hl.der⟩ hn'
  · exact absurd ⟨x', ks', g', p', q', hm', hg', hl'.ge, hl'.len, hl'.der⟩ hn
  · exact ⟨rfl, rfl⟩
theorem capsV_le {w : List UInt8} {re : List Nd} {x : Nd} {ks : F} {p q : Nat} : (capsV w re x ks p q).length ≤ re.length + 1 := by
  rw [capsV_len]
  have : gcn re ≤ re.length := List.countP_le_length
  omega
theorem FRes.len {re : List Nd} {w : List UInt8} {f : Int} {b : Bool} {L : List Sp} (h : FRes re w f b L) : L.length ≤ re.length + 1 := by
  rcases h with ⟨x, ks, g, p, q, _, _, _, _, rfl⟩ | ⟨_, _, rfl⟩
  · exact capsV_le
  · simp
theorem FindP.res {T : Nat} {re : List Nd} {w : List UInt8} {f : Int} {v : Value} {S' : Hp} (h : FindP T re w f v S') : ∃ b L a c, FRes re w f b L ∧ v = .tuple #[.slice a L.length c, .bool b] ∧ OwnS Esp 2 T (.slice a L.length c) L S' := by
  rcases h with ⟨x, ks, g, p, q, hm, hg, hl, a, cc, hv, hO⟩ | ⟨hn, hv, rfl⟩
  · exact ⟨true, _, a, cc, .inl ⟨x, ks, g, p, q, hm, hg, hl, rfl, rfl⟩, hv, hO⟩
  · exact ⟨false, [], none, 0, .inr ⟨hn, rfl, rfl⟩, hv, .nil⟩
def BRes (re : List Nd) (w : List UInt8) (fr to : Int) (b : Bool) (L : List Sp) : Prop :=
  (∃ x ks, ∃ p q : Nat, May re w x ks ∧ fr = p ∧ to = q ∧ p ≤ q ∧ q ≤ w.length ∧ der1 w x ks p q ∧ b = true ∧ L = capsV w re x ks p q) ∨
  ((¬ ∃ x ks, ∃ p q : Nat, May re w x ks ∧ fr = p ∧ to = q ∧ p ≤ q ∧ q ≤ w.length ∧ der1 w x ks p q) ∧ b = false ∧ L = [])
/-- the spare bytes; a byte changed -/
def spB (j : Nat) : UInt8 := UInt8.ofNat (279 + 7 * j + 3)
def xor3 (x : UInt8) : UInt8 := UInt8.ofNat (BitVec.ofInt 8 (x.toNat : Int) ^^^ BitVec.ofInt 8 3).toNat
end Go.HL.Kl.Mc
