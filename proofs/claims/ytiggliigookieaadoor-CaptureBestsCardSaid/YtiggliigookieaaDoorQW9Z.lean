/- Part of the proofs over this seat: see the text that holds the theorem. Conditions: each theorem bears its own. -/
import Derived.Test.YtiggliigookieaaDoorQW6Z
import Derived.Test.YtiggliigookieaaDoorMK1Z
import Derived.Test.YtiggliigookieaaDoorQN5Z
import Derived.Test.YtiggliigookieaaDoorMK7Z
import Derived.Test.YtiggliigookieaaDoorMT8Z
namespace Go.Proofs.YtiggliigookieaaDoor
open Go Go.HL Go.Proofs Go.HL.Kl Go.HL.Kl.Mc Go.HL.Kl.Mc.AskE
set_option maxHeartbeats 1000000 in
theorem captures_fn (K : AskE) (hK : K.ok) (hn : K.nF = 57) (hr : K.rF = 59) (hsb : shapedB K.re = true) (x : Nd) (ks : F) (hs : Shp K.re x ks) (p q : Nat) (hpq : p ≤ q) (hq : q ≤ K.tx.length) (hd : der1 K.tx x ks p q) (es : List Me) (c : Nat) (hes : MapOk K.tx K.re es) : HL.Fn Tryd.prog 29 [pt K.bS, .agg (Esp ⟨p, q⟩).toArray] (fun W => Env W K [K.bM]) [(K.bM, mpO es c)] (CapsP K 62 (capsV K.tx K.re x ks p q)) := by
  refine fn_of Tryd.func29 rfl rfl rfl fun w0 hw => ?_
  have hgl : gcn K.re ≤ K.re.length := List.countP_le_length
  have hrl := hK.len
  refine c_seq fun _ hK1 => ?_
  refine c_region ?_
  refine o_box rfl rfl rfl fun b3 => ?_
  refine o_step rfl (s_assign rfl) ?_
  refine o_nil ?_
  refine x_then (hK1 _ _ ?_)
  refine c_seq fun _ hK2 => ?_
  refine c_region ?_
  refine o_step rfl (s_move rfl) ?_
  refine o_step rfl (s_nil rfl) ?_
  refine o_step rfl (s_field rfl rfl (by decide)) ?_
  refine o_step rfl (s_ld rfl ((RdPK.old hw.p4 hw.n4).cel (j := 0) rfl rfl)) ?_
  refine o_callP (groups_fn K.ra K.rc K.re hK.rng) rfl rfl rfl (fun w st => (RdK.old hw.d1 hw.a1).out w st) (fun v11 hv11 => ?_)
  rw [hsb, if_pos rfl] at hv11
  subst hv11
  refine o_step rfl (s_add rfl rfl (by omega)) ?_
  refine o_make (E := Esp) (zx := ⟨0, 0⟩) (n := (gcn K.re + 1)) rfl rfl rfl (by omega) (by omega) rfl fun b13 S13 hS13 => ?_
  refine o_step rfl (s_assign rfl) ?_
  refine o_nil ?_
  refine x_then (hK2 _ _ ?_)
  refine c_seq fun _ hK3 => ?_
  refine c_seq fun _ hK4 => ?_
  refine c_region ?_
  refine o_step rfl (s_move rfl) ?_
  refine o_step rfl (s_len rfl) ?_
  refine o_step rfl (s_move rfl) ?_
  refine o_nil ?_
  refine x_then (hK4 _ _ ?_)
  refine c_block ?_
  refine c_loop3 (fun (j : Nat) (l : List Sp) (S : Hp) => j ≤ (gcn K.re + 1) ∧ Tab.Fill (fun _ => noS) (gcn K.re + 1) j l ∧ OwnS Esp 2 62 (.slice (some ⟨b13, 0, none⟩) (gcn K.re + 1) (gcn K.re + 1)) l S) (fun (j : Nat) (l : List Sp) (S : Hp) => [(16, .int .i64 j)]) [(0, _), (3, _), (4, _), (5, _), (15, _)] (fun (j : Nat) (l : List Sp) (S : Hp) => S ++ [(b3, .cells (Esp ⟨p, q⟩).toArray 62 (0, 0)), (K.bM, mpO es c)]) (fun (j : Nat) (l : List Sp) (S : Hp) => (gcn K.re + 1) - j) 0 _ _ ⟨by omega, .zero List.length_replicate, hS13⟩ sbA sbA hzB ?_
  rintro j l S ⟨hj, hl, hS⟩
  have hls := hS.sl
  rw [hl.len] at hls
  refine c_seq fun _ hK5 => ?_
  refine c_region ?_
  by_cases hjl : (j : Int) < gcn K.re + 1
  ·
   have hll := hl.len
   refine o_step rfl (step_cast (v' := .bool true) (s_lss rfl rfl) (by rw [decide_eq_true (by omega)])) ?_
   refine o_nil ?_
   refine x_then (hK5 _ _ ?_)
   refine c_seq fun _ hK6 => ?_
   refine c_true rfl ?_
   refine c_skip ?_
   refine x_then (hK6 _ _ ?_)
   refine c_seq fun _ hK7 => ?_
   refine c_block ?_
   refine c_seq fun _ hK8 => ?_
   refine c_region ?_
   refine o_step rfl (s_move rfl) ?_
   refine o_step rfl (s_assign rfl) ?_
   refine o_nil ?_
   refine x_then (hK8 _ _ ?_)
   refine c_region ?_
   refine o_step rfl (s_move rfl) ?_
   refine o_step rfl (s_move rfl) ?_
   refine o_step rfl (step_cast (v' := .agg (Esp noS).toArray) (s_build (cs := [_, _]) (vs := [_, _]) rfl rfl (.cons rfl rfl rfl rfl rfl (.cons rfl rfl rfl rfl rfl (.nil)))) rfl) ?_
   refine o_step rfl (s_idx rfl rfl hls (by omega)) ?_
   refine o_stSE j noS hS pkA rfl rfl (by omega) (by rw [Int.toNat_natCast]) fun S' hS' => ?_
   refine o_nil ?_
   refine x_block ?_
   refine x_then (hK7 _ _ ?_)
   refine c_region ?_
   refine o_step rfl (s_add rfl rfl (by omega)) ?_
   refine o_step rfl (s_move rfl) ?_
   refine o_nil ?_
   exact x_then (x_inv (j + 1, _, _) ⟨by omega, hl.step (by omega) rfl, hS'⟩ (by first | omega | (dsimp only; omega)) sbA hzB)
  ·
   have hd2 := fill_rep hl (by omega)
   subst hd2
   refine o_step rfl (step_cast (v' := .bool false) (s_lss rfl rfl) (by rw [decide_eq_false (by omega)])) ?_
   refine o_nil ?_
   refine x_then (hK5 _ _ ?_)
   refine c_seq fun _ hK9 => ?_
   refine c_false rfl ?_
   refine c_exit ?_
   refine x_then_exit ?_
   refine x_then_exit ?_
   refine x_block_exit ?_
   refine x_then (hK3 _ _ ?_)
   refine c_seq fun _ hK10 => ?_
   refine c_region ?_
   refine o_step rfl (s_move rfl) ?_
   refine o_step rfl (s_field rfl rfl (by decide)) ?_
   refine o_step rfl (s_ld rfl ((.own meA rfl : Cel _ _ _ (.int .i64 (p : Int))))) ?_
   refine o_step rfl (s_field rfl rfl (by decide)) ?_
   refine o_step rfl (s_ld rfl ((.own meA rfl : Cel _ _ _ (.int .i64 (q : Int))))) ?_
   refine o_step rfl (s_move rfl) ?_
   refine o_call (take_all hK hn hr _ x ks (Nat.lt_succ_self _) 0 _ p q es c (some ⟨b13, 0, none⟩) _ _ (List.replicate (gcn K.re + 1) noS) S hs.part hpq hq hd hes List.length_replicate (slots_of hsb) hS) rfl rfl rfl ((Pick.takeC pkA pkA)) (fun w st => hw.sub (S := (K.bM, mpO es c) :: S) st (hin_cons meA hiA)) (fun v30 S30 ⟨es30, c30, Sc30, hS30, hm30, hO30⟩ => ?_)
   subst hS30
   have hl30 : (bst1 K.tx x ks p q (List.replicate (gcn K.re + 1) noS)).length = (gcn K.re + 1) := by rw [bst1_len, List.length_replicate]
   have hs30 := hO30.sl
   rw [hl30] at hs30
   refine o_nil ?_
   refine x_then (hK10 _ _ ?_)
   refine c_seq fun _ hK11 => ?_
   refine c_region ?_
   refine o_step rfl (s_move rfl) ?_
   refine o_step rfl (s_ldB rfl (RdPK.cels (.own meA)) lnA) ?_
   refine o_step rfl (s_idx rfl rfl hs30 (by omega)) ?_
   refine o_stSE 0 ⟨p, q⟩ hO30 pkA rfl rfl (by rw [hl30]; omega) (by rfl) fun S' hS' => ?_
   refine o_nil ?_
   refine x_then (hK11 _ _ ?_)
   refine c_seq fun _ hK12 => ?_
   refine c_region ?_
   refine o_step rfl (s_move rfl) ?_
   refine o_step rfl (s_assign rfl) ?_
   refine o_nil ?_
   refine x_then (hK12 _ _ ?_)
   refine c_ret ?_
   refine ?_
   refine x_sub (Sub.refl _) (H' := (K.bM, mpO es30 c30) :: S') hzB ?_
   exact x_ret rfl (.tmp rfl (.nil)) (⟨es30, c30, some ⟨b13, 0, none⟩, (gcn K.re + 1), S', by rw [capsV_len]; rfl, rfl, by rw [capsV_len]; exact hS'⟩)

set_option maxHeartbeats 1000000 in
theorem best_fn (ra : Option Addr) (rc : Nat) (re : List Nd) (hre : ∀ x ∈ re, -128 ≤ x.op ∧ x.op < 128) (ta : Option Addr) (tc : Nat) (w : List UInt8) (hwl : w.length ≤ 1000000) (fr to : Int) : HL.Fn Tryd.prog 21 [.slice ra re.length rc, .slice ta w.length tc, .agg (Esp ⟨fr, to⟩).toArray] (fun W => Rd En W (.slice ra re.length rc) re ∧ Rd Eb W (.slice ta w.length tc) w) [] (BestP 62 re w fr to) := by
  refine fn_of Tryd.func21 rfl rfl rfl fun w0 hw => ?_
  refine c_seq fun _ hK1 => ?_
  refine c_region ?_
  refine o_box rfl rfl rfl fun b5 => ?_
  refine o_step rfl (s_assign rfl) ?_
  refine o_step rfl (s_assign rfl) ?_
  refine o_nil ?_
  refine x_then (hK1 _ _ ?_)
  refine c_seq fun _ hK2 => ?_
  refine c_seq fun _ hK3 => ?_
  refine c_region ?_
  refine o_step rfl (s_move rfl) ?_
  refine o_callP (shaped_fn ra rc re hre) rfl rfl rfl (fun w st => (RdK.old0 hw.1).out w st) (fun v10 hv10 => ?_)
  subst hv10
  cases hsb : shapedB re
  ·
   refine o_step rfl (s_not rfl) ?_
   refine o_step rfl (s_move rfl) ?_
   refine o_no rfl rfl rfl rfl ?_
   refine o_no rfl rfl rfl rfl ?_
   refine o_step rfl (s_pick_t rfl rfl) ?_
   refine o_step rfl (s_move rfl) ?_
   refine o_no rfl rfl rfl rfl ?_
   refine o_no rfl rfl rfl rfl ?_
   refine o_no rfl rfl rfl rfl ?_
   refine o_step rfl (s_pick_t rfl rfl) ?_
   refine o_step rfl (s_move rfl) ?_
   refine o_no rfl rfl rfl rfl ?_
   refine o_no rfl rfl rfl rfl ?_
   refine o_no rfl rfl rfl rfl ?_
   refine o_no rfl rfl rfl rfl ?_
   refine o_no rfl rfl rfl rfl ?_
   refine o_step rfl (s_pick_t rfl rfl) ?_
   refine o_step rfl (s_move rfl) ?_
   refine o_no rfl rfl rfl rfl ?_
   refine o_no rfl rfl rfl rfl ?_
   refine o_no rfl rfl rfl rfl ?_
   refine o_no rfl rfl rfl rfl ?_
   refine o_no rfl rfl rfl rfl ?_
   refine o_step rfl (s_pick_t rfl rfl) ?_
   refine o_nil ?_
   refine x_then (hK3 _ _ ?_)
   refine c_true rfl ?_
   refine c_seq fun _ hK4 => ?_
   refine c_region ?_
   refine o_step rfl (s_assign rfl) ?_
   refine o_step rfl (s_assign rfl) ?_
   refine o_nil ?_
   refine x_then (hK4 _ _ ?_)
   refine c_ret ?_
   refine x_then_ret (?_)
   refine x_sub (Sub.refl _) (H' := []) HSub.nil ?_
   exact x_ret rfl (.tmp rfl (.tmp rfl (.nil))) (.inr ⟨fun ⟨x2, ks2, p2, q2, hm, h1, h2, h3, h4, h5⟩ => (by have := hm.sh; rw [hsb] at this; cases this), rfl, rfl⟩)
  ·
   obtain ⟨_, x, ks, hs⟩ := shapedB_iff.1 hsb
   refine o_step rfl (s_not rfl) ?_
   refine o_step rfl (s_move rfl) ?_
   refine o_yes rfl rfl ?_
   refine o_step rfl (s_move rfl) ?_
   refine o_yes rfl rfl ?_
   refine o_callP (refs_fn ra rc re hre) rfl rfl rfl (fun w st => (RdK.old0 hw.1).out w st) (fun v14 hv14 => ?_)
   subst hv14
   cases hrb : refsB re
   ·
    have hr8 := no_refs hsb hrb
    refine o_step rfl (s_pick_f rfl rfl) ?_
    refine o_step rfl (s_move rfl) ?_
    refine o_yes rfl rfl ?_
    refine o_step rfl (s_field rfl rfl (by decide)) ?_
    refine o_yes rfl rfl ?_
    refine o_step rfl (s_ld rfl ((.own meA rfl : Cel _ _ _ (.int .i64 fr)))) ?_
    refine o_yes rfl rfl ?_
    by_cases hf0 : fr < 0
    ·
     refine o_step rfl (step_cast (v' := .bool true) (s_lss rfl rfl) (by rw [decide_eq_true (by omega)])) ?_
     refine o_step rfl (s_pick_f rfl rfl) ?_
     refine o_step rfl (s_move rfl) ?_
     refine o_no rfl rfl rfl rfl ?_
     refine o_no rfl rfl rfl rfl ?_
     refine o_no rfl rfl rfl rfl ?_
     refine o_no rfl rfl rfl rfl ?_
     refine o_no rfl rfl rfl rfl ?_
     refine o_step rfl (s_pick_t rfl rfl) ?_
     refine o_step rfl (s_move rfl) ?_
     refine o_no rfl rfl rfl rfl ?_
     refine o_no rfl rfl rfl rfl ?_
     refine o_no rfl rfl rfl rfl ?_
     refine o_no rfl rfl rfl rfl ?_
     refine o_no rfl rfl rfl rfl ?_
     refine o_step rfl (s_pick_t rfl rfl) ?_
     refine o_nil ?_
     refine x_then (hK3 _ _ ?_)
     refine c_true rfl ?_
     refine c_seq fun _ hK5 => ?_
     refine c_region ?_
     refine o_step rfl (s_assign rfl) ?_
     refine o_step rfl (s_assign rfl) ?_
     refine o_nil ?_
     refine x_then (hK5 _ _ ?_)
     refine c_ret ?_
     refine x_then_ret (?_)
     refine x_sub (Sub.refl _) (H' := []) HSub.nil ?_
     exact x_ret rfl (.tmp rfl (.tmp rfl (.nil))) (.inr ⟨fun ⟨x2, ks2, p2, q2, hm, h1, h2, h3, h4, h5⟩ => (by omega), rfl, rfl⟩)
    ·
     refine o_step rfl (step_cast (v' := .bool false) (s_lss rfl rfl) (by rw [decide_eq_false (by omega)])) ?_
     refine o_step rfl (s_pick_f rfl rfl) ?_
     refine o_step rfl (s_move rfl) ?_
     refine o_yes rfl rfl ?_
     refine o_step rfl (s_field rfl rfl (by decide)) ?_
     refine o_yes rfl rfl ?_
     refine o_step rfl (s_ld rfl ((.own meA rfl : Cel _ _ _ (.int .i64 fr)))) ?_
     refine o_yes rfl rfl ?_
     refine o_step rfl (s_field rfl rfl (by decide)) ?_
     refine o_yes rfl rfl ?_
     refine o_step rfl (s_ld rfl ((.own meA rfl : Cel _ _ _ (.int .i64 to)))) ?_
     refine o_yes rfl rfl ?_
     by_cases hft : fr > to
     ·
      refine o_step rfl (step_cast (v' := .bool true) (s_gtr rfl rfl) (by rw [decide_eq_true (by omega)])) ?_
      refine o_step rfl (s_pick_f rfl rfl) ?_
      refine o_step rfl (s_move rfl) ?_
      refine o_no rfl rfl rfl rfl ?_
      refine o_no rfl rfl rfl rfl ?_
      refine o_no rfl rfl rfl rfl ?_
      refine o_no rfl rfl rfl rfl ?_
      refine o_no rfl rfl rfl rfl ?_
      refine o_step rfl (s_pick_t rfl rfl) ?_
      refine o_nil ?_
      refine x_then (hK3 _ _ ?_)
      refine c_true rfl ?_
      refine c_seq fun _ hK6 => ?_
      refine c_region ?_
      refine o_step rfl (s_assign rfl) ?_
      refine o_step rfl (s_assign rfl) ?_
      refine o_nil ?_
      refine x_then (hK6 _ _ ?_)
      refine c_ret ?_
      refine x_then_ret (?_)
      refine x_sub (Sub.refl _) (H' := []) HSub.nil ?_
      exact x_ret rfl (.tmp rfl (.tmp rfl (.nil))) (.inr ⟨fun ⟨x2, ks2, p2, q2, hm, h1, h2, h3, h4, h5⟩ => (by omega), rfl, rfl⟩)
     ·
      refine o_step rfl (step_cast (v' := .bool false) (s_gtr rfl rfl) (by rw [decide_eq_false (by omega)])) ?_
      refine o_step rfl (s_pick_f rfl rfl) ?_
      refine o_step rfl (s_move rfl) ?_
      refine o_yes rfl rfl ?_
      refine o_step rfl (s_field rfl rfl (by decide)) ?_
      refine o_yes rfl rfl ?_
      refine o_step rfl (s_ld rfl ((.own meA rfl : Cel _ _ _ (.int .i64 to)))) ?_
      refine o_yes rfl rfl ?_
      refine o_step rfl (s_move rfl) ?_
      refine o_yes rfl rfl ?_
      refine o_step rfl (s_len rfl) ?_
      refine o_yes rfl rfl ?_
      by_cases htl : to > w.length
      ·
       refine o_step rfl (step_cast (v' := .bool true) (s_gtr rfl rfl) (by rw [decide_eq_true (by omega)])) ?_
       refine o_step rfl (s_pick_f rfl rfl) ?_
       refine o_nil ?_
       refine x_then (hK3 _ _ ?_)
       refine c_true rfl ?_
       refine c_seq fun _ hK7 => ?_
       refine c_region ?_
       refine o_step rfl (s_assign rfl) ?_
       refine o_step rfl (s_assign rfl) ?_
       refine o_nil ?_
       refine x_then (hK7 _ _ ?_)
       refine c_ret ?_
       refine x_then_ret (?_)
       refine x_sub (Sub.refl _) (H' := []) HSub.nil ?_
       exact x_ret rfl (.tmp rfl (.tmp rfl (.nil))) (.inr ⟨fun ⟨x2, ks2, p2, q2, hm, h1, h2, h3, h4, h5⟩ => (by omega), rfl, rfl⟩)
      ·
       refine o_step rfl (step_cast (v' := .bool false) (s_gtr rfl rfl) (by rw [decide_eq_false (by omega)])) ?_
       refine o_step rfl (s_pick_f rfl rfl) ?_
       refine o_nil ?_
       refine x_then (hK3 _ _ ?_)
       refine c_false rfl ?_
       refine c_skip ?_
       refine x_then (hK2 _ _ ?_)
       refine c_seq fun _ hK8 => ?_
       refine c_region ?_
       refine o_step rfl (s_move rfl) ?_
       refine o_step rfl (s_move rfl) ?_
       obtain ⟨p, rfl⟩ : ∃ p : Nat, fr = p := ⟨fr.toNat, by omega⟩
       obtain ⟨q, rfl⟩ : ∃ q : Nat, to = q := ⟨to.toNat, by omega⟩
       refine o_call (ask_fn ra rc re ta tc w hre hr8 (by have := hs.len; omega) hwl x ks hs.part) rfl rfl rfl (by exact .nil) (fun w st => ⟨(RdK.old0 hw.1).out w st, (RdK.old0 hw.2).out w st⟩) (fun v37 S37 ⟨K, Se, hn, hr, e1, e2, e3, e4, hK, hv37, hE, hS37⟩ => ?_)
       subst e1
       subst e2
       subst hv37
       subst hS37
       simp only [vre, vtx, Value.slice.injEq] at e3 e4
       obtain ⟨rfl, _, rfl⟩ := e3
       obtain ⟨rfl, _, rfl⟩ := e4
       refine o_step rfl (s_assign rfl) ?_
       refine o_nil ?_
       refine x_then (hK8 _ _ ?_)
       refine c_seq fun _ hK9 => ?_
       refine c_seq fun _ hK10 => ?_
       refine c_drawE ([(b5, .cells (Esp ⟨p, q⟩).toArray 62 (0, 0)), (K.bS, .cells K.cells.toArray 81 (0, 0))]) (fun i => false) ?_
       refine e_take 0 rfl (by kernel_rfl) (by kernel_rfl) (by kernel_rfl) (by kernel_rfl) (fun _ _ => rfl) rfl hzB (s_move rfl) ?_
       refine e_take 1 rfl (by kernel_rfl) (by kernel_rfl) (by kernel_rfl) (by kernel_rfl) (fun _ _ => rfl) rfl hzB (s_nil rfl) ?_
       refine e_take 2 rfl (by kernel_rfl) (by kernel_rfl) (by kernel_rfl) (by kernel_rfl) (fun _ _ => rfl) rfl hzB (s_field rfl rfl (by decide)) ?_
       refine e_take 3 rfl (by kernel_rfl) (by kernel_rfl) (by kernel_rfl) (by kernel_rfl) (fun _ _ => rfl) rfl hzB (s_ld rfl (.own meA rfl)) ?_
       refine e_take 4 rfl (by kernel_rfl) (by kernel_rfl) (by kernel_rfl) (by kernel_rfl) (fun _ _ => rfl) rfl hzB (s_field rfl rfl (by decide)) ?_
       refine e_take 5 rfl (by kernel_rfl) (by kernel_rfl) (by kernel_rfl) (by kernel_rfl) (fun _ _ => rfl) rfl hzB (s_ld rfl ((.own meA rfl : Cel _ _ _ (.int .i64 (p : Int))))) ?_
       refine e_take 6 rfl (by kernel_rfl) (by kernel_rfl) (by kernel_rfl) (by kernel_rfl) (fun _ _ => rfl) rfl hzB (s_field rfl rfl (by decide)) ?_
       refine e_take 7 rfl (by kernel_rfl) (by kernel_rfl) (by kernel_rfl) (by kernel_rfl) (fun _ _ => rfl) rfl hzB (s_ld rfl ((.own meA rfl : Cel _ _ _ (.int .i64 (q : Int))))) ?_
       refine e_one 8 rfl (by kernel_rfl) ?_
       refine o_callC (us := []) (vs := [_, _, _]) (cs := [pt K.bRe, pt K.bTx, pt K.bA]) (node_all hK hn hr _ x ks (Nat.lt_succ_self _) 0 _ p q [] 0 hs.part (by omega) (by omega) .nil) rfl rfl rfl pkA (fun w st => Env.make (K := K) (S := [(K.bM, mpO [] 0)]) st pkA hw.1 hw.2 hE hiA meA meA meA meA) (fun v46 S46 ⟨es46, c46, hv46, hS46, hm46⟩ => ?_)
       subst hv46
       subst hS46
       cases hb46 : dQ (der1 K.tx x ks p q)
       ·
        refine o_nil ?_
        refine x_oneS hzB ?_
        refine e_take 9 rfl (by kernel_rfl) (by kernel_rfl) (by kernel_rfl) (by kernel_rfl) (fun _ _ => rfl) rfl hzB (s_not rfl) ?_
        refine e_done (by kernel_rfl) ?_
        refine x_then (hK10 _ _ ?_)
        refine c_true rfl ?_
        refine c_seq fun _ hK11 => ?_
        refine c_region ?_
        refine o_step rfl (s_assign rfl) ?_
        refine o_step rfl (s_assign rfl) ?_
        refine o_nil ?_
        refine x_then (hK11 _ _ ?_)
        refine c_ret ?_
        refine x_then_ret (?_)
        refine x_sub (Sub.refl _) (H' := []) HSub.nil ?_
        exact x_ret rfl (.tmp rfl (.tmp rfl (.nil))) (.inr ⟨fun ⟨x2, ks2, p2, q2, hm, h1, h2, h3, h4, h5⟩ => (by obtain ⟨rfl, rfl⟩ := hs.uniq hm.hs; obtain rfl : p = p2 := (by omega); obtain rfl : q = q2 := (by omega); rw [dQ_t h5] at hb46; cases hb46), rfl, rfl⟩)
       ·
        refine o_nil ?_
        refine x_oneS hzB ?_
        refine e_take 9 rfl (by kernel_rfl) (by kernel_rfl) (by kernel_rfl) (by kernel_rfl) (fun _ _ => rfl) rfl hzB (s_not rfl) ?_
        refine e_done (by kernel_rfl) ?_
        refine x_then (hK10 _ _ ?_)
        refine c_false rfl ?_
        refine c_skip ?_
        refine x_then (hK9 _ _ ?_)
        refine c_seq fun _ hK12 => ?_
        refine c_region ?_
        refine o_step rfl (s_move rfl) ?_
        refine o_step rfl (s_ldB rfl (RdPK.cels (.own meA)) lnA) ?_
        refine o_call (captures_fn K hK hn hr hsb x ks hs p q (by omega) (by omega) (dQ_iff.1 hb46) es46 c46 hm46) rfl rfl rfl pkA (fun w st => Env.make (K := K) (S := [(K.bM, mpO es46 c46)]) st pkA hw.1 hw.2 hE hiA meA meA meA meA) (fun v50 S50 ⟨es50, c50, a50, cc50, Sc50, hv50, hS50, hO50⟩ => ?_)
        subst hv50
        subst hS50
        refine o_step rfl (s_assign rfl) ?_
        refine o_step rfl (s_assign rfl) ?_
        refine o_nil ?_
        refine x_then (hK12 _ _ ?_)
        refine c_ret ?_
        refine ?_
        refine x_sub (Sub.refl _) (H' := Sc50) hzB ?_
        exact x_ret rfl (.tmp rfl (.tmp rfl (.nil))) (.inl ⟨x, ks, p, q, ⟨hsb, hrb, hs⟩, rfl, rfl, by omega, by omega, dQ_iff.1 hb46, a50, cc50, rfl, hO50⟩)
   ·
    refine o_step rfl (s_pick_f rfl rfl) ?_
    refine o_step rfl (s_move rfl) ?_
    refine o_no rfl rfl rfl rfl ?_
    refine o_no rfl rfl rfl rfl ?_
    refine o_no rfl rfl rfl rfl ?_
    refine o_step rfl (s_pick_t rfl rfl) ?_
    refine o_step rfl (s_move rfl) ?_
    refine o_no rfl rfl rfl rfl ?_
    refine o_no rfl rfl rfl rfl ?_
    refine o_no rfl rfl rfl rfl ?_
    refine o_no rfl rfl rfl rfl ?_
    refine o_no rfl rfl rfl rfl ?_
    refine o_step rfl (s_pick_t rfl rfl) ?_
    refine o_step rfl (s_move rfl) ?_
    refine o_no rfl rfl rfl rfl ?_
    refine o_no rfl rfl rfl rfl ?_
    refine o_no rfl rfl rfl rfl ?_
    refine o_no rfl rfl rfl rfl ?_
    refine o_no rfl rfl rfl rfl ?_
    refine o_step rfl (s_pick_t rfl rfl) ?_
    refine o_nil ?_
    refine x_then (hK3 _ _ ?_)
    refine c_true rfl ?_
    refine c_seq fun _ hK13 => ?_
    refine c_region ?_
    refine o_step rfl (s_assign rfl) ?_
    refine o_step rfl (s_assign rfl) ?_
    refine o_nil ?_
    refine x_then (hK13 _ _ ?_)
    refine c_ret ?_
    refine x_then_ret (?_)
    refine x_sub (Sub.refl _) (H' := []) HSub.nil ?_
    exact x_ret rfl (.tmp rfl (.tmp rfl (.nil))) (.inr ⟨fun ⟨x2, ks2, p2, q2, hm, h1, h2, h3, h4, h5⟩ => (by have := hm.rf; rw [hrb] at this; cases this), rfl, rfl⟩)

set_option maxHeartbeats 1000000 in
theorem find_fn (ra : Option Addr) (rc : Nat) (re : List Nd) (hre : ∀ x ∈ re, -128 ≤ x.op ∧ x.op < 128) (ta : Option Addr) (tc : Nat) (w : List UInt8) (hwl : w.length ≤ 1000000) (fi : Int) : HL.Fn Tryd.prog 11 [.slice ra re.length rc, .slice ta w.length tc, .int .i64 fi] (fun W => Rd En W (.slice ra re.length rc) re ∧ Rd Eb W (.slice ta w.length tc) w) [] (FindP 62 re w fi) := by
  refine fn_of Tryd.func11 rfl rfl rfl fun w0 hw => ?_
  have hst := hw.2.sl
  refine c_seq fun _ hK1 => ?_
  refine c_region ?_
  refine o_step rfl (s_assign rfl) ?_
  refine o_step rfl (s_assign rfl) ?_
  refine o_nil ?_
  refine x_then (hK1 _ _ ?_)
  refine c_seq fun _ hK2 => ?_
  refine c_seq fun _ hK3 => ?_
  refine c_region ?_
  refine o_step rfl (s_move rfl) ?_
  refine o_callP (shaped_fn ra rc re hre) rfl rfl rfl (fun w st => (RdK.old0 hw.1).out w st) (fun v12 hv12 => ?_)
  subst hv12
  cases hsb : shapedB re
  ·
   refine o_step rfl (s_not rfl) ?_
   refine o_step rfl (s_move rfl) ?_
   refine o_no rfl rfl rfl rfl ?_
   refine o_no rfl rfl rfl rfl ?_
   refine o_step rfl (s_pick_t rfl rfl) ?_
   refine o_step rfl (s_move rfl) ?_
   refine o_no rfl rfl rfl rfl ?_
   refine o_no rfl rfl rfl rfl ?_
   refine o_step rfl (s_pick_t rfl rfl) ?_
   refine o_step rfl (s_move rfl) ?_
   refine o_no rfl rfl rfl rfl ?_
   refine o_no rfl rfl rfl rfl ?_
   refine o_no rfl rfl rfl rfl ?_
   refine o_no rfl rfl rfl rfl ?_
   refine o_step rfl (s_pick_t rfl rfl) ?_
   refine o_nil ?_
   refine x_then (hK3 _ _ ?_)
   refine c_true rfl ?_
   refine c_seq fun _ hK4 => ?_
   refine c_region ?_
   refine o_step rfl (s_assign rfl) ?_
   refine o_step rfl (s_assign rfl) ?_
   refine o_nil ?_
   refine x_then (hK4 _ _ ?_)
   refine c_ret ?_
   refine x_then_ret (?_)
   refine x_sub (Sub.refl _) (H' := []) HSub.nil ?_
   exact x_ret rfl (.tmp rfl (.tmp rfl (.nil))) (.inr ⟨fun ⟨x2, ks2, g2, p2, q2, hm, h1, h2, h3, h4⟩ => (by have := hm.sh; rw [hsb] at this; cases this), rfl, rfl⟩)
  ·
   obtain ⟨_, x, ks, hs⟩ := shapedB_iff.1 hsb
   refine o_step rfl (s_not rfl) ?_
   refine o_step rfl (s_move rfl) ?_
   refine o_yes rfl rfl ?_
   refine o_step rfl (s_move rfl) ?_
   refine o_yes rfl rfl ?_
   refine o_callP (refs_fn ra rc re hre) rfl rfl rfl (fun w st => (RdK.old0 hw.1).out w st) (fun v16 hv16 => ?_)
   subst hv16
   cases hrb : refsB re
   ·
    have hr8 := no_refs hsb hrb
    refine o_step rfl (s_pick_f rfl rfl) ?_
    refine o_step rfl (s_move rfl) ?_
    refine o_yes rfl rfl ?_
    refine o_step rfl (s_move rfl) ?_
    refine o_yes rfl rfl ?_
    by_cases hf0 : fi < 0
    ·
     refine o_step rfl (step_cast (v' := .bool true) (s_lss rfl rfl) (by rw [decide_eq_true (by omega)])) ?_
     refine o_step rfl (s_pick_f rfl rfl) ?_
     refine o_step rfl (s_move rfl) ?_
     refine o_no rfl rfl rfl rfl ?_
     refine o_no rfl rfl rfl rfl ?_
     refine o_no rfl rfl rfl rfl ?_
     refine o_no rfl rfl rfl rfl ?_
     refine o_step rfl (s_pick_t rfl rfl) ?_
     refine o_nil ?_
     refine x_then (hK3 _ _ ?_)
     refine c_true rfl ?_
     refine c_seq fun _ hK5 => ?_
     refine c_region ?_
     refine o_step rfl (s_assign rfl) ?_
     refine o_step rfl (s_assign rfl) ?_
     refine o_nil ?_
     refine x_then (hK5 _ _ ?_)
     refine c_ret ?_
     refine x_then_ret (?_)
     refine x_sub (Sub.refl _) (H' := []) HSub.nil ?_
     exact x_ret rfl (.tmp rfl (.tmp rfl (.nil))) (.inr ⟨fun ⟨x2, ks2, g2, p2, q2, hm, h1, h2, h3, h4⟩ => (by omega), rfl, rfl⟩)
    ·
     refine o_step rfl (step_cast (v' := .bool false) (s_lss rfl rfl) (by rw [decide_eq_false (by omega)])) ?_
     refine o_step rfl (s_pick_f rfl rfl) ?_
     refine o_step rfl (s_move rfl) ?_
     refine o_yes rfl rfl ?_
     refine o_step rfl (s_move rfl) ?_
     refine o_yes rfl rfl ?_
     refine o_step rfl (s_move rfl) ?_
     refine o_yes rfl rfl ?_
     refine o_step rfl (s_len rfl) ?_
     refine o_yes rfl rfl ?_
     by_cases hfl : fi > w.length
     ·
      refine o_step rfl (step_cast (v' := .bool true) (s_gtr rfl rfl) (by rw [decide_eq_true (by omega)])) ?_
      refine o_step rfl (s_pick_f rfl rfl) ?_
      refine o_nil ?_
      refine x_then (hK3 _ _ ?_)
      refine c_true rfl ?_
      refine c_seq fun _ hK6 => ?_
      refine c_region ?_
      refine o_step rfl (s_assign rfl) ?_
      refine o_step rfl (s_assign rfl) ?_
      refine o_nil ?_
      refine x_then (hK6 _ _ ?_)
      refine c_ret ?_
      refine x_then_ret (?_)
      refine x_sub (Sub.refl _) (H' := []) HSub.nil ?_
      exact x_ret rfl (.tmp rfl (.tmp rfl (.nil))) (.inr ⟨fun ⟨x2, ks2, g2, p2, q2, hm, h1, h2, h3, h4⟩ => (by have := der1_up _ _ h4; omega), rfl, rfl⟩)
     ·
      refine o_step rfl (step_cast (v' := .bool false) (s_gtr rfl rfl) (by rw [decide_eq_false (by omega)])) ?_
      refine o_step rfl (s_pick_f rfl rfl) ?_
      refine o_nil ?_
      refine x_then (hK3 _ _ ?_)
      refine c_false rfl ?_
      refine c_skip ?_
      refine x_then (hK2 _ _ ?_)
      refine c_seq fun _ hK7 => ?_
      refine c_region ?_
      refine o_step rfl (s_move rfl) ?_
      refine o_step rfl (s_move rfl) ?_
      obtain ⟨f, rfl⟩ : ∃ f : Nat, fi = f := ⟨fi.toNat, by omega⟩
      refine o_call (ask_fn ra rc re ta tc w hre hr8 (by have := hs.len; omega) hwl x ks hs.part) rfl rfl rfl (by exact .nil) (fun w st => ⟨(RdK.old0 hw.1).out w st, (RdK.old0 hw.2).out w st⟩) (fun v30 S30 ⟨K, Se, hn, hr, e1, e2, e3, e4, hK, hv30, hE, hS30⟩ => ?_)
      subst e1
      subst e2
      subst hv30
      subst hS30
      simp only [vre, vtx, Value.slice.injEq] at e3 e4
      obtain ⟨rfl, _, rfl⟩ := e3
      obtain ⟨rfl, _, rfl⟩ := e4
      refine o_step rfl (s_assign rfl) ?_
      refine o_nil ?_
      refine x_then (hK7 _ _ ?_)
      refine c_seq fun _ hK8 => ?_
      refine c_seq fun _ hK9 => ?_
      refine c_region ?_
      refine o_step rfl (s_move rfl) ?_
      refine o_step rfl (s_assign rfl) ?_
      refine o_nil ?_
      refine x_then (hK9 _ _ ?_)
      refine c_block ?_
      -- not carried: 6 7
      refine c_loop3 (fun (i : Nat) (es2 : List Me) (c2 : Nat) => f ≤ i ∧ i ≤ K.tx.length + 1 ∧ (∀ p2 q2, f ≤ p2 → p2 < i → q2 ≤ K.tx.length → ¬ der1 K.tx x ks p2 q2) ∧ MapOk K.tx K.re es2) (fun (i : Nat) (es2 : List Me) (c2 : Nat) => [(9, .int .i64 i)]) [(1, _), (8, _)] (fun (i : Nat) (es2 : List Me) (c2 : Nat) => (K.bM, mpO es2 c2) :: (K.bRe, .cells [K.vre].toArray 22 (0, 0)) :: (K.bTx, .cells [K.vtx].toArray 23 (0, 0)) :: (K.bA, .cells [pt K.bS].toArray 75 (0, 0)) :: (K.bS, .cells K.cells.toArray 81 (0, 0)) :: Se) (fun (i : Nat) (es2 : List Me) (c2 : Nat) => K.tx.length + 1 - i) f [] 0 ⟨by omega, by omega, fun p2 q2 h1 h2 => by omega, .nil⟩ sbA sbA hzB ?_
      rintro i es2 c2 ⟨hi1, hi2, hno, hes2⟩
      refine c_seq fun _ hK10 => ?_
      refine c_seq fun _ hK11 => ?_
      refine c_region ?_
      refine o_step rfl (s_move rfl) ?_
      refine o_step rfl (s_move rfl) ?_
      refine o_step rfl (s_len rfl) ?_
      by_cases hil : (i : Int) ≤ K.tx.length
      ·
       refine o_step rfl (step_cast (v' := .bool true) (s_leq rfl rfl) (by rw [decide_eq_true (by omega)])) ?_
       refine o_nil ?_
       refine x_then (hK11 _ _ ?_)
       refine c_true rfl ?_
       refine c_skip ?_
       refine x_then (hK10 _ _ ?_)
       refine c_seq fun _ hK12 => ?_
       refine c_block ?_
       refine c_seq fun _ hK13 => ?_
       refine c_region ?_
       refine o_step rfl (s_move rfl) ?_
       refine o_step rfl (s_len rfl) ?_
       refine o_step rfl (s_assign rfl) ?_
       refine o_nil ?_
       refine x_then (hK13 _ _ ?_)
       refine c_block ?_
       refine c_loop3 (fun (n : Nat) (es3 : List Me) (c3 : Nat) => i ≤ n ∧ n ≤ K.tx.length + 1 ∧ (∀ q2, n ≤ q2 → q2 ≤ K.tx.length → ¬ der1 K.tx x ks i q2) ∧ MapOk K.tx K.re es3) (fun (n : Nat) (es3 : List Me) (c3 : Nat) => [(10, .int .i64 ((n : Int) - 1))]) [(1, _), (8, _), (9, _), (32, _), (33, _), (34, _), (35, _), (38, _), (39, _)] (fun (n : Nat) (es3 : List Me) (c3 : Nat) => (K.bM, mpO es3 c3) :: (K.bRe, .cells [K.vre].toArray 22 (0, 0)) :: (K.bTx, .cells [K.vtx].toArray 23 (0, 0)) :: (K.bA, .cells [pt K.bS].toArray 75 (0, 0)) :: (K.bS, .cells K.cells.toArray 81 (0, 0)) :: Se) (fun (n : Nat) (es3 : List Me) (c3 : Nat) => n) (K.tx.length + 1) es2 c2 ⟨by omega, by omega, fun q2 h1 h2 => by omega, hes2⟩ (by exact Sub.cons' rfl (by congr 1; omega) sbA) sbA hzB ?_
       rintro n es3 c3 ⟨hn1, hn2, hno3, hes3⟩
       refine c_seq fun _ hK14 => ?_
       refine c_seq fun _ hK15 => ?_
       refine c_region ?_
       refine o_step rfl (s_move rfl) ?_
       refine o_step rfl (s_move rfl) ?_
       by_cases hni : (n : Int) - 1 ≥ i
       ·
        obtain ⟨a, rfl⟩ : ∃ a, n = a + 1 := ⟨n - 1, by omega⟩
        refine o_step rfl (step_cast (v' := .bool true) (s_geq rfl rfl) (by rw [decide_eq_true (by omega)])) ?_
        refine o_nil ?_
        refine x_then (hK15 _ _ ?_)
        refine c_true rfl ?_
        refine c_skip ?_
        refine x_then (hK14 _ _ ?_)
        refine c_seq fun _ hK16 => ?_
        refine c_block ?_
        refine c_seq fun _ hK17 => ?_
        refine c_region ?_
        refine o_step rfl (s_move rfl) ?_
        refine o_step rfl (s_nil rfl) ?_
        refine o_step rfl (s_field rfl rfl (by decide)) ?_
        refine o_step rfl (s_ld rfl (.own meA rfl)) ?_
        refine o_step rfl (s_move rfl) ?_
        refine o_step rfl (step_cast (v' := .int .i64 (a : Int)) (s_move rfl) (congrArg (Value.int .i64) (by omega))) ?_
        refine o_callC (us := []) (vs := [_, _, _]) (cs := [pt K.bRe, pt K.bTx, pt K.bA]) (node_all hK hn hr _ x ks (Nat.lt_succ_self _) 0 _ i a es3 c3 hs.part (by omega) (by omega) hes3) rfl rfl rfl pkA (fun w st => Env.make (K := K) (S := [(K.bM, mpO es3 c3)]) st pkA hw.1 hw.2 hE hiA meA meA meA meA) (fun v51 S51 ⟨es51, c51, hv51, hS51, hm51⟩ => ?_)
        subst hv51
        subst hS51
        cases hb51 : dQ (der1 K.tx x ks i a)
        ·
         have hn51 : ¬ der1 K.tx x ks i a := fun h => by rw [dQ_t h] at hb51; cases hb51
         refine o_nil ?_
         refine x_then (hK17 _ _ ?_)
         refine c_false rfl ?_
         refine c_skip ?_
         refine x_block ?_
         refine x_then (hK16 _ _ ?_)
         refine c_region ?_
         refine o_step rfl (s_move rfl) ?_
         refine o_step rfl (s_sub rfl rfl (by omega)) ?_
         refine o_step rfl (s_assign rfl) ?_
         refine o_nil ?_
         exact x_then (x_inv (a, es51, c51) ⟨by omega, by omega, fun q2 h1 h2 => if e : q2 = a then by subst e; exact hn51 else hno3 q2 (by omega) h2, hm51⟩ (by first | omega | (dsimp only; omega)) (by exact Sub.cons' rfl (by congr 1; omega) sbA) hzB)
        ·
         refine o_nil ?_
         refine x_then (hK17 _ _ ?_)
         refine c_true rfl ?_
         refine c_seq fun _ hK18 => ?_
         refine c_region ?_
         refine o_step rfl (s_move rfl) ?_
         refine o_step rfl (s_move rfl) ?_
         refine o_step rfl (step_cast (v' := .int .i64 (a : Int)) (s_move rfl) (congrArg (Value.int .i64) (by omega))) ?_
         refine o_step rfl (s_build (cs := [_, _]) (vs := [_, _]) rfl rfl (.cons rfl rfl rfl rfl rfl (.cons rfl rfl rfl rfl rfl (.nil)))) ?_
         refine o_call (captures_fn K hK hn hr hsb x ks hs i a (by omega) (by omega) (dQ_iff.1 hb51) es51 c51 hm51) rfl rfl rfl pkA (fun w st => Env.make (K := K) (S := [(K.bM, mpO es51 c51)]) st pkA hw.1 hw.2 hE hiA meA meA meA meA) (fun v56 S56 ⟨es56, c56, a56, cc56, Sc56, hv56, hS56, hO56⟩ => ?_)
         subst hv56
         subst hS56
         refine o_step rfl (s_assign rfl) ?_
         refine o_step rfl (s_assign rfl) ?_
         refine o_nil ?_
         refine x_then (hK18 _ _ ?_)
         refine c_ret ?_
         refine x_block_ret (x_then_ret (x_then_ret (x_block_ret (x_block_ret (x_then_ret (x_then_ret (x_block_ret (x_then_ret (?_)))))))))
         refine x_sub (Sub.refl _) (H' := Sc56) hzB ?_
         exact x_ret rfl (.tmp rfl (.tmp rfl (.nil))) (.inl ⟨x, ks, f, i, a, ⟨hsb, hrb, hs⟩, rfl, ⟨hi1, by omega, by omega, dQ_iff.1 hb51, hno, fun q2 h1 h2 => hno3 q2 (by omega) h2⟩, a56, cc56, rfl, hO56⟩)
       ·
        obtain rfl : i = n := by omega
        refine o_step rfl (step_cast (v' := .bool false) (s_geq rfl rfl) (by rw [decide_eq_false (by omega)])) ?_
        refine o_nil ?_
        refine x_then (hK15 _ _ ?_)
        refine c_false rfl ?_
        refine c_exit ?_
        refine x_then_exit ?_
        refine x_then_exit ?_
        refine x_block_exit ?_
        refine x_block ?_
        refine x_then (hK12 _ _ ?_)
        refine c_region ?_
        refine o_step rfl (s_move rfl) ?_
        refine o_step rfl (s_add rfl rfl (by omega)) ?_
        refine o_step rfl (s_assign rfl) ?_
        refine o_nil ?_
        exact x_then (x_inv ((i + 1), es3, c3) ⟨by omega, by omega, fun p2 q2 h1 h2 h3 h4 => if e : p2 = i then by subst e; exact hno3 q2 (der1_up _ _ h4) h3 h4 else hno p2 q2 h1 (by omega) h3 h4, hes3⟩ (by first | omega | (dsimp only; omega)) sbA hzB)
      ·
       refine o_step rfl (step_cast (v' := .bool false) (s_leq rfl rfl) (by rw [decide_eq_false (by omega)])) ?_
       refine o_nil ?_
       refine x_then (hK11 _ _ ?_)
       refine c_false rfl ?_
       refine c_exit ?_
       refine x_then_exit ?_
       refine x_then_exit ?_
       refine x_block_exit ?_
       refine x_then (hK8 _ _ ?_)
       refine c_seq fun _ hK19 => ?_
       refine c_region ?_
       refine o_step rfl (s_assign rfl) ?_
       refine o_step rfl (s_assign rfl) ?_
       refine o_nil ?_
       refine x_then (hK19 _ _ ?_)
       refine c_ret ?_
       refine ?_
       refine x_sub (Sub.refl _) (H' := []) HSub.nil ?_
       exact x_ret rfl (.tmp rfl (.tmp rfl (.nil))) (.inr ⟨fun ⟨x2, ks2, g2, p2, q2, hm, h1, h2, h3, h4⟩ => (by obtain ⟨rfl, rfl⟩ := hs.uniq hm.hs; have := der1_up _ _ h4; exact hno p2 q2 (by omega) (by omega) h3 h4), rfl, rfl⟩)
   ·
    refine o_step rfl (s_pick_f rfl rfl) ?_
    refine o_step rfl (s_move rfl) ?_
    refine o_no rfl rfl rfl rfl ?_
    refine o_no rfl rfl rfl rfl ?_
    refine o_step rfl (s_pick_t rfl rfl) ?_
    refine o_step rfl (s_move rfl) ?_
    refine o_no rfl rfl rfl rfl ?_
    refine o_no rfl rfl rfl rfl ?_
    refine o_no rfl rfl rfl rfl ?_
    refine o_no rfl rfl rfl rfl ?_
    refine o_step rfl (s_pick_t rfl rfl) ?_
    refine o_nil ?_
    refine x_then (hK3 _ _ ?_)
    refine c_true rfl ?_
    refine c_seq fun _ hK20 => ?_
    refine c_region ?_
    refine o_step rfl (s_assign rfl) ?_
    refine o_step rfl (s_assign rfl) ?_
    refine o_nil ?_
    refine x_then (hK20 _ _ ?_)
    refine c_ret ?_
    refine x_then_ret (?_)
    refine x_sub (Sub.refl _) (H' := []) HSub.nil ?_
    exact x_ret rfl (.tmp rfl (.tmp rfl (.nil))) (.inr ⟨fun ⟨x2, ks2, g2, p2, q2, hm, h1, h2, h3, h4⟩ => (by have := hm.rf; rw [hrb] at this; cases this), rfl, rfl⟩)
end Go.Proofs.YtiggliigookieaaDoor

/- Part of the proofs over this seat: see the text that holds the theorem. Conditions: each theorem bears its own. -/
namespace Go.Proofs.YtiggliigookieaaDoor
open Go Go.HL Go.Proofs Go.HL.Kl Go.HL.Kl.Mc Go.HL.Kl.Mc.AskE
theorem letter_fn (b : UInt8) : HL.Fn Tryd.prog 23 [.int .u8 b.toNat] (fun _ => True) [] (fun v _ => v = .agg (En (letN b)).toArray) := by
  refine fn_of Tryd.func23 rfl rfl rfl fun w0 hw => ?_
  have hx := b.toNat_lt
  refine c_seq fun _ hK1 => ?_
  refine c_region ?_
  refine o_alloc (l := En zN) (by rw [En_zero]; rfl) rfl fun b2 => ?_
  refine o_nil ?_
  refine x_then (hK1 _ _ ?_)
  refine c_seq fun _ hK2 => ?_
  refine c_region ?_
  refine o_step rfl (step_cast (v' := .agg (En (⟨1, 0, 0, 0, 0, 0⟩ : Nd)).toArray) (s_build (cs := [_, _, _, _, _, _, _, _, _]) (vs := [_]) rfl rfl (.cons rfl rfl rfl rfl rfl .nil)) (by rw [En_one])) ?_
  refine o_alloc (l := En zN) (by rw [En_zero]; rfl) rfl fun b3 => ?_
  refine o_stW rfl rfl upA lnA lnA onA ?_
  refine o_nil ?_
  refine x_then (hK2 _ _ ?_)
  refine c_seq fun _ hK3 => ?_
  refine c_region ?_
  refine o_step rfl (s_move rfl) ?_
  refine o_step rfl (step_cast (v' := .int .u8 ((b.toNat / 64 : Nat) : Int)) (s_quo rfl rfl (by decide)) (congrArg _ (quo64 hx))) ?_
  refine o_step rfl (s_move rfl) ?_
  refine o_step rfl (step_cast (v' := .int .u8 ((b.toNat % 64 : Nat) : Int)) (s_rem rfl rfl (by decide)) (congrArg _ (rem64 hx))) ?_
  refine o_step rfl (step_cast (v' := Ew (1#64 <<< (b.toNat % 64))) (s_shl rfl rfl (by omega)) (v_shl1 (by omega))) ?_
  refine o_step rfl (s_field rfl rfl (by decide)) ?_
  refine o_step rfl (s_indexA rfl rfl (by omega)) ?_
  refine o_store rfl rfl rfl upA (by show _ < 9; omega) rfl ?_
  rw [letN_set b]
  refine o_nil ?_
  refine x_then (hK3 _ _ ?_)
  refine c_seq fun _ hK4 => ?_
  refine c_region ?_
  refine o_step rfl (s_ldB rfl (RdPK.cels (.own meA)) lnA) ?_
  refine o_stW rfl rfl upA lnA lnA onA ?_
  refine o_nil ?_
  refine x_then (hK4 _ _ ?_)
  refine c_ret ?_
  refine ?_
  exact x_ret rfl (.agg inferInstance inferInstance rfl (RdPK.cels (.own meA)) lnA (.nil)) (rfl)

theorem eqSpans_fn (a a2 : Option Addr) (c c2 : Nat) (xs ys : List Sp) : HL.Fn Tryd.prog 17 [.slice a xs.length c, .slice a2 ys.length c2] (fun w => Rd Esp w (.slice a xs.length c) xs ∧ Rd Esp w (.slice a2 ys.length c2) ys) [] (fun v _ => v = .bool (decide (xs = ys))) := by
  refine fn_of Tryd.func17 rfl rfl rfl fun w0 hw => ?_
  obtain ⟨hx, hy⟩ := hw
  have hsx := hx.sl
  have hsy := hy.sl
  have hbx := hsx.le
  have hby := hsy.le
  refine c_seq fun _ hK1 => ?_
  refine c_region ?_
  refine o_step rfl (s_assign rfl) ?_
  refine o_nil ?_
  refine x_then (hK1 _ _ ?_)
  refine c_seq fun _ hK2 => ?_
  refine c_seq fun _ hK3 => ?_
  refine c_region ?_
  refine o_step rfl (s_move rfl) ?_
  refine o_step rfl (s_len rfl) ?_
  refine o_step rfl (s_move rfl) ?_
  refine o_step rfl (s_len rfl) ?_
  refine o_step rfl (s_neq rfl rfl) ?_
  refine o_nil ?_
  refine x_then (hK3 _ _ ?_)
  refine c_if rfl (fun hl => ?_) (fun hl => ?_)
  ·
   refine c_seq fun _ hK4 => ?_
   refine c_region ?_
   refine o_step rfl (s_assign rfl) ?_
   refine o_nil ?_
   refine x_then (hK4 _ _ ?_)
   refine c_ret ?_
   refine x_then_ret (?_)
   exact x_ret rfl (.tmp rfl (.nil)) ((congrArg Value.bool (decide_eq_false (by intro e; subst e; omega)).symm))
  ·
   refine c_skip ?_
   refine x_then (hK2 _ _ ?_)
   refine c_seq fun _ hK5 => ?_
   refine c_seq fun _ hK6 => ?_
   refine c_region ?_
   refine o_step rfl (s_assign rfl) ?_
   refine o_nil ?_
   refine x_then (hK6 _ _ ?_)
   refine c_block ?_
   -- not carried: 4
   refine c_loopB (fun (j : Nat) => j ≤ xs.length ∧ ∀ i, i < j → xs[i]? = ys[i]?) (fun (j : Nat) => [(5, .int .i64 j)]) [(0, _), (1, _)] (fun (j : Nat) => _) (fun (j : Nat) => xs.length - j) 0 ⟨by omega, fun i hi => by omega⟩ sbA sbA hzB ?_
   rintro j ⟨hj, hjt⟩
   refine c_seq fun _ hK7 => ?_
   refine c_seq fun _ hK8 => ?_
   refine c_region ?_
   refine o_step rfl (s_move rfl) ?_
   refine o_step rfl (s_move rfl) ?_
   refine o_step rfl (s_len rfl) ?_
   refine o_step rfl (s_lss rfl rfl) ?_
   refine o_nil ?_
   refine x_then (hK8 _ _ ?_)
   refine c_if rfl (fun hlt => ?_) (fun hlt => ?_)
   ·
    obtain ⟨x, hxj⟩ : ∃ x, xs[j]? = some x := ⟨_, List.getElem?_eq_getElem (by omega)⟩
    obtain ⟨y, hyj⟩ : ∃ y, ys[j]? = some y := ⟨_, List.getElem?_eq_getElem (by omega)⟩
    refine c_skip ?_
    refine x_then (hK7 _ _ ?_)
    refine c_seq fun _ hK9 => ?_
    refine c_block ?_
    refine c_seq fun _ hK10 => ?_
    refine c_drawE ([]) (fun i => false) ?_
    refine e_take 0 rfl (by kernel_rfl) (by kernel_rfl) (by kernel_rfl) (by kernel_rfl) (fun _ _ => rfl) rfl (by exact HSub.nil) (s_move rfl) ?_
    refine e_take 1 rfl (by kernel_rfl) (by kernel_rfl) (by kernel_rfl) (by kernel_rfl) (fun _ _ => rfl) rfl (by exact HSub.nil) (s_move rfl) ?_
    refine e_take 2 rfl (by kernel_rfl) (by kernel_rfl) (by kernel_rfl) (by kernel_rfl) (fun _ _ => rfl) rfl (by exact HSub.nil) (s_idx rfl rfl hsx (by omega)) ?_
    refine e_take 3 rfl (by kernel_rfl) (by kernel_rfl) (by kernel_rfl) (by kernel_rfl) (fun _ _ => rfl) rfl (by exact HSub.nil) (s_ldB rfl ((RdK.old0 hx).lds j hxj (by omega)) (by rfl)) ?_
    refine e_take 4 rfl (by kernel_rfl) (by kernel_rfl) (by kernel_rfl) (by kernel_rfl) (fun _ _ => rfl) rfl (by exact HSub.nil) (s_move rfl) ?_
    refine e_take 5 rfl (by kernel_rfl) (by kernel_rfl) (by kernel_rfl) (by kernel_rfl) (fun _ _ => rfl) rfl (by exact HSub.nil) (s_move rfl) ?_
    refine e_take 6 rfl (by kernel_rfl) (by kernel_rfl) (by kernel_rfl) (by kernel_rfl) (fun _ _ => rfl) rfl (by exact HSub.nil) (s_idx rfl rfl hsy (by omega)) ?_
    refine e_take 7 rfl (by kernel_rfl) (by kernel_rfl) (by kernel_rfl) (by kernel_rfl) (fun _ _ => rfl) rfl (by exact HSub.nil) (s_ldB rfl ((RdK.old0 hy).lds j hyj (by omega)) (by rfl)) ?_
    refine e_take 8 rfl (by kernel_rfl) (by kernel_rfl) (by kernel_rfl) (by kernel_rfl) (fun _ _ => rfl) rfl (by exact HSub.nil) (s_neq_sp rfl rfl) ?_
    refine e_done (by kernel_rfl) ?_
    refine x_then (hK10 _ _ ?_)
    refine c_ifn rfl (fun hne => ?_) (fun hne => ?_)
    ·
     refine c_seq fun _ hK11 => ?_
     refine c_region ?_
     refine o_step rfl (s_assign rfl) ?_
     refine o_nil ?_
     refine x_then (hK11 _ _ ?_)
     refine c_ret ?_
     refine x_block_ret (x_then_ret (x_then_ret (x_block_ret (x_then_ret (?_)))))
     exact x_ret rfl (.tmp rfl (.nil)) ((congrArg Value.bool (decide_eq_false (by intro e; subst e; rw [hxj] at hyj; cases hyj; exact hne rfl)).symm))
    ·
     refine c_skip ?_
     refine x_block ?_
     refine x_then (hK9 _ _ ?_)
     refine c_region ?_
     refine o_step rfl (s_move rfl) ?_
     refine o_step rfl (s_add rfl rfl (by omega)) ?_
     refine o_step rfl (s_assign rfl) ?_
     refine o_nil ?_
     exact x_then (x_inv (j + 1) ⟨by omega, fun i hi => by rcases Nat.lt_or_ge i j with h | h; exact hjt i h; rw [show i = j by omega, hxj, hyj, hne]⟩ (by first | omega | (dsimp only; omega)) sbA hzB)
   ·
    refine c_exit ?_
    refine x_then_exit ?_
    refine x_then_exit ?_
    refine x_block_exit ?_
    refine x_then (hK5 _ _ ?_)
    refine c_seq fun _ hK12 => ?_
    refine c_region ?_
    refine o_step rfl (s_assign rfl) ?_
    refine o_nil ?_
    refine x_then (hK12 _ _ ?_)
    refine c_ret ?_
    refine ?_
    exact x_ret rfl (.tmp rfl (.nil)) ((congrArg Value.bool (decide_eq_true (ext_upto (by omega) fun i hi => hjt i (by omega))).symm))

theorem rGroups_fn (ra : Option Addr) (rc : Nat) (re : List Nd) (hre : ∀ x ∈ re, -128 ≤ x.op ∧ x.op < 128) : HL.Fn Tryd.prog 67 [.slice ra re.length rc] (fun w => Rd En w (.slice ra re.length rc) re) [] (fun v _ => v = .int .i64 ((if shapedB re = true then gcn re else 0 : Nat) : Int)) := by
  refine fn_of Tryd.func67 rfl rfl rfl fun w0 hw => ?_
  have hsl := hw.sl
  have hbl := hsl.le
  refine c_seq fun _ hK1 => ?_
  refine c_region ?_
  refine o_step rfl (s_assign rfl) ?_
  refine o_nil ?_
  refine x_then (hK1 _ _ ?_)
  refine c_seq fun _ hK2 => ?_
  refine c_seq fun _ hK3 => ?_
  refine c_region ?_
  refine o_step rfl (s_move rfl) ?_
  refine o_callP (rShaped_fn ra rc re hre) rfl rfl rfl (fun w st => (RdK.old0 hw).out w st) (fun v6 hv6 => ?_)
  subst hv6
  cases hsb : shapedB re
  ·
   refine o_step rfl (s_not rfl) ?_
   refine o_nil ?_
   refine x_then (hK3 _ _ ?_)
   refine c_true rfl ?_
   refine c_seq fun _ hK4 => ?_
   refine c_region ?_
   refine o_step rfl (s_assign rfl) ?_
   refine o_nil ?_
   refine x_then (hK4 _ _ ?_)
   refine c_ret ?_
   refine x_then_ret (?_)
   exact x_ret rfl (.tmp rfl (.nil)) ((by rw [hsb]; rfl))
  ·
   refine o_step rfl (s_not rfl) ?_
   refine o_nil ?_
   refine x_then (hK3 _ _ ?_)
   refine c_false rfl ?_
   refine c_skip ?_
   refine x_then (hK2 _ _ ?_)
   refine c_seq fun _ hK5 => ?_
   refine c_region ?_
   refine o_step rfl (s_assign rfl) ?_
   refine o_nil ?_
   refine x_then (hK5 _ _ ?_)
   refine c_seq fun _ hK6 => ?_
   refine c_seq fun _ hK7 => ?_
   refine c_region ?_
   refine o_step rfl (s_assign rfl) ?_
   refine o_nil ?_
   refine x_then (hK7 _ _ ?_)
   refine c_block ?_
   refine c_loopB (fun (j : Nat) => j ≤ re.length) (fun (j : Nat) => [(4, .int .i64 j), (3, .int .i64 (gcn (re.take j) : Nat))]) [(0, _), (2, _)] (fun (j : Nat) => _) (fun (j : Nat) => re.length - j) 0 (Nat.zero_le _) sbA sbA hzB ?_
   rintro j hj
   refine c_seq fun _ hK8 => ?_
   refine c_seq fun _ hK9 => ?_
   refine c_region ?_
   refine o_step rfl (s_move rfl) ?_
   refine o_step rfl (s_move rfl) ?_
   refine o_step rfl (s_len rfl) ?_
   by_cases hjl : j < re.length
   ·
    obtain ⟨x, hx⟩ : ∃ x, re[j]? = some x := ⟨_, List.getElem?_eq_getElem hjl⟩
    have hxo := hre x (List.mem_of_getElem? hx)
    have hgl : gcn (re.take j) ≤ j := by have h1 := List.countP_le_length (p := fun x => decide (x.op = 7)) (l := re.take j); rw [List.length_take] at h1; unfold gcn; omega
    refine o_step rfl (step_cast (v' := .bool true) (s_lss rfl rfl) (by rw [decide_eq_true (by omega)])) ?_
    refine o_nil ?_
    refine x_then (hK9 _ _ ?_)
    refine c_true rfl ?_
    refine c_skip ?_
    refine x_then (hK8 _ _ ?_)
    refine c_seq fun _ hK10 => ?_
    refine c_block ?_
    refine c_seq fun _ hK11 => ?_
    refine c_region ?_
    refine o_step rfl (s_move rfl) ?_
    refine o_step rfl (s_move rfl) ?_
    refine o_step rfl (s_idx rfl rfl hsl (by omega)) ?_
    refine o_step rfl (s_field rfl rfl (by decide)) ?_
    refine o_step rfl (s_ld rfl ((RdK.old0 hw).ld j 0 hx rfl (by decide) (by omega))) ?_
    refine o_step rfl (s_convI rfl (by omega)) ?_
    by_cases h7 : x.op = 7
    ·
     refine o_step rfl (step_cast (v' := .bool true) (s_eql rfl rfl) (by rw [decide_eq_true h7])) ?_
     refine o_nil ?_
     refine x_then (hK11 _ _ ?_)
     refine c_true rfl ?_
     refine c_region ?_
     refine o_step rfl (s_move rfl) ?_
     refine o_step rfl (s_add rfl rfl (by omega)) ?_
     refine o_step rfl (s_assign rfl) ?_
     refine o_nil ?_
     refine x_block ?_
     refine x_then (hK10 _ _ ?_)
     refine c_region ?_
     refine o_step rfl (s_move rfl) ?_
     refine o_step rfl (s_add rfl rfl (by omega)) ?_
     refine o_step rfl (s_assign rfl) ?_
     refine o_nil ?_
     exact x_then (x_inv (j + 1) (by omega) (by first | omega | (dsimp only; omega)) (by exact Sub.cons rfl (Sub.cons' rfl (by rw [gcn_take hx, if_pos h7]; rfl) sbA)) hzB)
    ·
     refine o_step rfl (step_cast (v' := .bool false) (s_eql rfl rfl) (by rw [decide_eq_false h7])) ?_
     refine o_nil ?_
     refine x_then (hK11 _ _ ?_)
     refine c_false rfl ?_
     refine c_skip ?_
     refine x_block ?_
     refine x_then (hK10 _ _ ?_)
     refine c_region ?_
     refine o_step rfl (s_move rfl) ?_
     refine o_step rfl (s_add rfl rfl (by omega)) ?_
     refine o_step rfl (s_assign rfl) ?_
     refine o_nil ?_
     exact x_then (x_inv (j + 1) (by omega) (by first | omega | (dsimp only; omega)) (by exact Sub.cons rfl (Sub.cons' rfl (by rw [gcn_take hx, if_neg h7]; rfl) sbA)) hzB)
   ·
    obtain rfl : j = re.length := by omega
    refine o_step rfl (step_cast (v' := .bool false) (s_lss rfl rfl) (by rw [decide_eq_false (by omega)])) ?_
    refine o_nil ?_
    refine x_then (hK9 _ _ ?_)
    refine c_false rfl ?_
    refine c_exit ?_
    refine x_then_exit ?_
    refine x_then_exit ?_
    refine x_block_exit ?_
    refine x_then (hK6 _ _ ?_)
    refine c_seq fun _ hK12 => ?_
    refine c_region ?_
    refine o_step rfl (s_move rfl) ?_
    refine o_step rfl (s_assign rfl) ?_
    refine o_nil ?_
    refine x_then (hK12 _ _ ?_)
    refine c_ret ?_
    refine ?_
    exact x_ret rfl (.tmp rfl (.nil)) ((by rw [hsb, List.take_length]; rfl))

set_option maxHeartbeats 1000000 in
theorem works_fn  : HL.Fn Tryd.prog 5 [] (fun _ => True) [] (fun v _ => v = .bool true) := by
  refine fn_of Tryd.func5 rfl rfl rfl fun w0 hw => ?_
  refine c_seq fun _ hK1 => ?_
  refine c_region ?_
  refine o_step rfl (s_assign rfl) ?_
  refine o_nil ?_
  refine x_then (hK1 _ _ ?_)
  refine c_seq fun _ hK2 => ?_
  refine c_region ?_
  refine o_step rfl (step_cast (v' := .agg (En catC).toArray) (s_build (cs := [_, _, _, _, _, _, _, _, _]) (vs := [_, _]) rfl rfl (.cons rfl rfl rfl rfl rfl (.cons rfl rfl rfl rfl rfl (.nil)))) (by rw [En_catC])) ?_
  refine o_step rfl (step_cast (v' := .agg (En grpC).toArray) (s_build (cs := [_, _, _, _, _, _, _, _, _]) (vs := [_, _, _]) rfl rfl (.cons rfl rfl rfl rfl rfl (.cons rfl rfl rfl rfl rfl (.cons rfl rfl rfl rfl rfl (.nil))))) (by rw [En_grpC])) ?_
  refine o_step rfl (step_cast (v' := .agg (En starN).toArray) (s_build (cs := [_, _, _, _, _, _, _, _, _]) (vs := [_, _, _]) rfl rfl (.cons rfl rfl rfl rfl rfl (.cons rfl rfl rfl rfl rfl (.cons rfl rfl rfl rfl rfl (.nil))))) (by rw [En_star])) ?_
  refine o_callP (letter_fn 97) rfl rfl rfl (fun _ _ => trivial) (fun v9 hv9 => ?_)
  subst hv9
  refine o_callP (letter_fn 98) rfl rfl rfl (fun _ _ => trivial) (fun v10 hv10 => ?_)
  subst hv10
  refine o_bs (E := En) (xs := [catC, grpC, starN, letN 97, letN 98]) (vs := [_, _, _, _, _]) rfl rfl rfl rfl rfl (by decide) (by decide) fun b11 S11 hS11 => ?_
  refine o_step rfl (s_assign rfl) ?_
  refine o_nil ?_
  refine x_then (hK2 _ _ ?_)
  refine c_seq fun _ hK3 => ?_
  refine c_region ?_
  refine o_step rfl (s_move rfl) ?_
  refine o_bs (E := Eb) (xs := [99, 97, 97, 98]) (vs := [_, _, _, _]) rfl rfl rfl rfl rfl (by decide) (by decide) fun b14 S14 hS14 => ?_
  refine o_conv_same rfl hS14 pkA rfl fun S15 hS15 => ?_
  refine o_call (find_fn (some ⟨b11, 0, none⟩) 5 reC rngC (some ⟨b14, 0, none⟩) 4 wC (by decide) 0) rfl rfl rfl (by exact .nil) (fun w st => ⟨(hS11.rdk hiA).out w st, (hS15.rdk hiA).out w st⟩) (fun v16 S16 hv16 => ?_)
  obtain ⟨a16, cc16, rfl, hO16⟩ := findC hv16
  refine o_step rfl (s_move rfl) ?_
  refine o_step rfl (s_extract rfl rfl) ?_
  refine o_step rfl (s_extract rfl rfl) ?_
  refine o_step rfl (s_assign rfl) ?_
  refine o_step rfl (s_assign rfl) ?_
  refine o_nil ?_
  refine x_then (hK3 _ _ ?_)
  refine c_seq fun _ hK4 => ?_
  refine c_region ?_
  refine o_step rfl (s_move rfl) ?_
  refine o_bs (E := Eb) (xs := [99, 97, 97, 98]) (vs := [_, _, _, _]) rfl rfl rfl rfl rfl (by decide) (by decide) fun b21 S21 hS21 => ?_
  refine o_conv_same rfl hS21 pkA rfl fun S22 hS22 => ?_
  refine o_step rfl (step_cast (v' := .agg (Esp ⟨2, 4⟩).toArray) (s_build (cs := [_, _]) (vs := [_, _]) rfl rfl (.cons rfl rfl rfl rfl rfl (.cons rfl rfl rfl rfl rfl (.nil)))) rfl) ?_
  refine o_call (best_fn (some ⟨b11, 0, none⟩) 5 reC rngC (some ⟨b21, 0, none⟩) 4 wC (by decide) 2 4) rfl rfl rfl (by exact .nil) (fun w st => ⟨(hS11.rdk hiA).out w st, (hS22.rdk hiA).out w st⟩) (fun v24 S24 hv24 => ?_)
  obtain ⟨a24, cc24, rfl, hO24⟩ := bestC hv24
  refine o_step rfl (s_move rfl) ?_
  refine o_step rfl (s_extract rfl rfl) ?_
  refine o_step rfl (s_extract rfl rfl) ?_
  refine o_step rfl (s_assign rfl) ?_
  refine o_step rfl (s_assign rfl) ?_
  refine o_nil ?_
  refine x_then (hK4 _ _ ?_)
  refine c_seq fun _ hK5 => ?_
  refine c_region ?_
  refine o_step rfl (s_move rfl) ?_
  refine o_step rfl (s_move rfl) ?_
  refine o_yes rfl rfl ?_
  refine o_step rfl (s_move rfl) ?_
  refine o_step rfl (s_pick_t rfl rfl) ?_
  refine o_step rfl (s_move rfl) ?_
  refine o_yes rfl rfl ?_
  refine o_step rfl (s_move rfl) ?_
  refine o_yes rfl rfl ?_
  refine o_step rfl (step_cast (v' := .agg (Esp ⟨1, 4⟩).toArray) (s_build (cs := [_, _]) (vs := [_, _]) rfl rfl (.cons rfl rfl rfl rfl rfl (.cons rfl rfl rfl rfl rfl (.nil)))) rfl) ?_
  refine o_yes rfl rfl ?_
  refine o_step rfl (step_cast (v' := .agg (Esp ⟨1, 3⟩).toArray) (s_build (cs := [_, _]) (vs := [_, _]) rfl rfl (.cons rfl rfl rfl rfl rfl (.cons rfl rfl rfl rfl rfl (.nil)))) rfl) ?_
  refine o_yes rfl rfl ?_
  refine o_bs (E := Esp) (xs := [⟨1, 4⟩, ⟨1, 3⟩]) (vs := [_, _]) rfl rfl rfl rfl rfl (by decide) (by decide) fun b35 S35 hS35 => ?_
  refine o_yes rfl rfl ?_
  refine o_callP (eqSpans_fn a16 (some ⟨b35, 0, none⟩) cc16 2 [⟨1, 4⟩, ⟨1, 3⟩] [⟨1, 4⟩, ⟨1, 3⟩]) rfl rfl rfl (fun w st => ⟨(hO16.rdk hiA).out w st, (hS35.rdk hiA).out w st⟩) (fun v36 hv36 => ?_)
  rw [decide_eq_true rfl] at hv36
  subst hv36
  refine o_step rfl (s_pick_t rfl rfl) ?_
  refine o_step rfl (s_move rfl) ?_
  refine o_yes rfl rfl ?_
  refine o_step rfl (s_move rfl) ?_
  refine o_yes rfl rfl ?_
  refine o_step rfl (step_cast (v' := .agg (Esp ⟨2, 4⟩).toArray) (s_build (cs := [_, _]) (vs := [_, _]) rfl rfl (.cons rfl rfl rfl rfl rfl (.cons rfl rfl rfl rfl rfl (.nil)))) rfl) ?_
  refine o_yes rfl rfl ?_
  refine o_step rfl (step_cast (v' := .agg (Esp ⟨2, 3⟩).toArray) (s_build (cs := [_, _]) (vs := [_, _]) rfl rfl (.cons rfl rfl rfl rfl rfl (.cons rfl rfl rfl rfl rfl (.nil)))) rfl) ?_
  refine o_yes rfl rfl ?_
  refine o_bs (E := Esp) (xs := [⟨2, 4⟩, ⟨2, 3⟩]) (vs := [_, _]) rfl rfl rfl rfl rfl (by decide) (by decide) fun b42 S42 hS42 => ?_
  refine o_yes rfl rfl ?_
  refine o_callP (eqSpans_fn a24 (some ⟨b42, 0, none⟩) cc24 2 [⟨2, 4⟩, ⟨2, 3⟩] [⟨2, 4⟩, ⟨2, 3⟩]) rfl rfl rfl (fun w st => ⟨(hO24.rdk hiA).out w st, (hS42.rdk hiA).out w st⟩) (fun v43 hv43 => ?_)
  rw [decide_eq_true rfl] at hv43
  subst hv43
  refine o_step rfl (s_pick_t rfl rfl) ?_
  refine o_step rfl (s_assign rfl) ?_
  refine o_nil ?_
  refine x_then (hK5 _ _ ?_)
  refine c_ret ?_
  refine ?_
  exact x_ret rfl (.tmp rfl (.nil)) (rfl)
end Go.Proofs.YtiggliigookieaaDoor
