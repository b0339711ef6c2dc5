/- Part of the proofs over this seat: see the text that holds the theorem. Conditions: each theorem bears its own. -/
import Derived.Test.YtopmnmigpbdddaaGreatDoorHTZ
import Derived.Test.YtopmnmigpbdddaaGreatDoorZW6Z
import Derived.Test.YtopmnmigpbdddaaGreatDoorMK5Z
import Derived.Test.YtopmnmigpbdddaaGreatDoorZN5Z
import Derived.Test.YtopmnmigpbdddaaGreatDoorMT7Z
namespace Go.Proofs.YtopmnmigpbdddaaGreatDoor
open Go Go.HL Go.Proofs Go.HL.Kl Go.HL.Kl.Mc Go.HL.Kl.Mc.AskE
set_option maxHeartbeats 1000000 in
theorem captures_fn (K : AskE) (hK : K.ok) (hn : K.nF = 124) (hr : K.rF = 125) (hsb : shapedB K.re = true) (x : Nd) (ks : F) (hs : Shp K.re x ks) (p q : Nat) (hpq : p ≤ q) (hq : q ≤ K.tx.length) (hd : der1 K.tx x ks p q) (es : List Me) (c : Nat) (hes : MapOk K.tx K.re es) : HL.Fn Tryz.prog 77 [pt K.bS, .agg (Esp ⟨p, q⟩).toArray] (fun W => Env W K [K.bM]) [(K.bM, mpO es c)] (CapsP K 40 (capsV K.tx K.re x ks p q)) := by
  refine fn_of Tryz.func77 rfl rfl rfl fun w0 hw => ?_
  have hgl : gcn K.re ≤ K.re.length := List.countP_le_length
  have hrl := hK.len
  refine c_seq fun _ hK1 => ?_; refine c_region ?_; refine o_box rfl rfl rfl fun b3 => ?_; refine o_step rfl (s_assign rfl) ?_; refine o_nil ?_; refine x_then (hK1 _ _ ?_); refine c_seq fun _ hK2 => ?_; refine c_region ?_; refine o_step rfl (s_move rfl) ?_; refine o_step rfl (s_nil rfl) ?_; refine o_step rfl (s_field rfl rfl (by decide)) ?_; refine o_step rfl (s_ld rfl ((RdPK.old hw.p4 hw.n4).cel (j := 0) rfl rfl)) ?_; refine o_callP (groups_fn K.ra K.rc K.re hK.rng) rfl rfl rfl (fun w st => (RdK.old hw.d1 hw.a1).out w st) (fun v11 hv11 => ?_)
  rw [hsb, if_pos rfl] at hv11
  subst hv11; refine o_step rfl (s_add rfl rfl (by omega)) ?_; refine o_make (E := Esp) (zx := ⟨0, 0⟩) (n := (gcn K.re + 1)) rfl rfl rfl (by omega) (by omega) rfl fun b13 S13 hS13 => ?_; refine o_step rfl (s_assign rfl) ?_; refine o_nil ?_; refine x_then (hK2 _ _ ?_); refine c_seq fun _ hK3 => ?_; refine c_seq fun _ hK4 => ?_; refine c_region ?_; refine o_step rfl (s_move rfl) ?_; refine o_step rfl (s_len rfl) ?_; refine o_step rfl (s_move rfl) ?_; refine o_nil ?_; refine x_then (hK4 _ _ ?_); refine c_block ?_; refine c_loop3 (fun (j : Nat) (l : List Sp) (S : Hp) => j ≤ (gcn K.re + 1) ∧ Tab.Fill (fun _ => noS) (gcn K.re + 1) j l ∧ OwnS Esp 2 40 (.slice (some ⟨b13, 0, none⟩) (gcn K.re + 1) (gcn K.re + 1)) l S) (fun (j : Nat) (l : List Sp) (S : Hp) => [(16, .int .i64 j)]) [(0, _), (3, _), (4, _), (5, _), (15, _)] (fun (j : Nat) (l : List Sp) (S : Hp) => S ++ [(b3, .cells (Esp ⟨p, q⟩).toArray 40 (0, 0)), (K.bM, mpO es c)]) (fun (j : Nat) (l : List Sp) (S : Hp) => (gcn K.re + 1) - j) 0 _ _ ⟨by omega, .zero List.length_replicate, hS13⟩ sbA sbA hzB ?_
  rintro j l S ⟨hj, hl, hS⟩
  have hls := hS.sl
  rw [hl.len] at hls
  refine c_seq fun _ hK5 => ?_; refine c_region ?_
  by_cases hjl : (j : Int) < gcn K.re + 1
  ·
   have hll := hl.len
   refine o_step rfl (step_cast (v' := .bool true) (s_lss rfl rfl) (by rw [decide_eq_true (by omega)])) ?_; refine o_nil ?_; refine x_then (hK5 _ _ ?_); refine c_seq fun _ hK6 => ?_; refine c_true rfl ?_; refine c_skip ?_; refine x_then (hK6 _ _ ?_); refine c_seq fun _ hK7 => ?_; refine c_block ?_; refine c_seq fun _ hK8 => ?_; refine c_region ?_; refine o_step rfl (s_move rfl) ?_; refine o_step rfl (s_assign rfl) ?_; refine o_nil ?_; refine x_then (hK8 _ _ ?_); refine c_region ?_; refine o_step rfl (s_move rfl) ?_; refine o_step rfl (s_move rfl) ?_; refine o_step rfl (step_cast (v' := .agg (Esp noS).toArray) (s_build (cs := [_, _]) (vs := [_, _]) rfl rfl (.cons rfl rfl rfl rfl rfl (.cons rfl rfl rfl rfl rfl (.nil)))) rfl) ?_; refine o_step rfl (s_idx rfl rfl hls (by omega)) ?_; refine o_stSE j noS hS pkA rfl rfl (by omega) (by rw [Int.toNat_natCast]) fun S' hS' => ?_; refine o_nil ?_; refine x_block ?_
   refine x_then (hK7 _ _ ?_); refine c_region ?_; refine o_step rfl (s_add rfl rfl (by omega)) ?_; refine o_step rfl (s_move rfl) ?_; refine o_nil ?_; exact x_then (x_inv (j + 1, _, _) ⟨by omega, hl.step (by omega) rfl, hS'⟩ (by first | omega | (dsimp only; omega)) sbA hzB)
  ·
   have hd2 := fill_rep hl (by omega)
   subst hd2; refine o_step rfl (step_cast (v' := .bool false) (s_lss rfl rfl) (by rw [decide_eq_false (by omega)])) ?_; refine o_nil ?_; refine x_then (hK5 _ _ ?_); refine c_seq fun _ hK9 => ?_; refine c_false rfl ?_; refine c_exit ?_; refine x_then_exit ?_; refine x_then_exit ?_; refine x_block_exit ?_; refine x_then (hK3 _ _ ?_); refine c_seq fun _ hK10 => ?_; refine c_region ?_; refine o_step rfl (s_move rfl) ?_; refine o_step rfl (s_field rfl rfl (by decide)) ?_; refine o_step rfl (s_ld rfl ((.own meA rfl : Cel _ _ _ (.int .i64 (p : Int))))) ?_; refine o_step rfl (s_field rfl rfl (by decide)) ?_; refine o_step rfl (s_ld rfl ((.own meA rfl : Cel _ _ _ (.int .i64 (q : Int))))) ?_; refine o_step rfl (s_move rfl) ?_; refine o_call (take_all hK hn hr _ x ks (Nat.lt_succ_self _) 0 _ p q es c (some ⟨b13, 0, none⟩) _ _ (List.replicate (gcn K.re + 1) noS) S hs.part hpq hq hd hes List.length_replicate (slots_of hsb) hS) rfl rfl rfl ((Pick.takeC pkA pkA)) (fun w st => hw.sub (S := (K.bM, mpO es c) :: S) st (hin_cons meA hiA)) (fun v30 S30 ⟨es30, c30, Sc30, hS30, hm30, hO30⟩ => ?_)
   subst hS30
   have hl30 : (bst1 K.tx x ks p q (List.replicate (gcn K.re + 1) noS)).length = (gcn K.re + 1) := by rw [bst1_len, List.length_replicate]
   have hs30 := hO30.sl
   rw [hl30] at hs30
   refine o_nil ?_; refine x_then (hK10 _ _ ?_); refine c_seq fun _ hK11 => ?_; refine c_region ?_; refine o_step rfl (s_move rfl) ?_; refine o_step rfl (s_ldB rfl (RdPK.cels (.own meA)) lnA) ?_; refine o_step rfl (s_idx rfl rfl hs30 (by omega)) ?_; refine o_stSE 0 ⟨p, q⟩ hO30 pkA rfl rfl (by rw [hl30]; omega) (by rfl) fun S' hS' => ?_; refine o_nil ?_; refine x_then (hK11 _ _ ?_); refine c_seq fun _ hK12 => ?_; refine c_region ?_; refine o_step rfl (s_move rfl) ?_; refine o_step rfl (s_assign rfl) ?_; refine o_nil ?_; refine x_then (hK12 _ _ ?_); refine c_ret ?_; refine ?_; refine x_sub (Sub.refl _) (H' := (K.bM, mpO es30 c30) :: S') hzB ?_; exact x_ret rfl (.tmp rfl (.nil)) (⟨es30, c30, some ⟨b13, 0, none⟩, (gcn K.re + 1), S', by rw [capsV_len]; rfl, rfl, by rw [capsV_len]; exact hS'⟩)

set_option maxHeartbeats 1000000 in
theorem best_fn (ra : Option Addr) (rc : Nat) (re : List Nd) (hre : ∀ x ∈ re, -128 ≤ x.op ∧ x.op < 128) (ta : Option Addr) (tc : Nat) (w : List UInt8) (hwl : w.length ≤ 1000000) (fr to : Int) : HL.Fn Tryz.prog 26 [.slice ra re.length rc, .slice ta w.length tc, .agg (Esp ⟨fr, to⟩).toArray] (fun W => Rd En W (.slice ra re.length rc) re ∧ Rd Eb W (.slice ta w.length tc) w) [] (BestP 40 re w fr to) := by
  refine fn_of Tryz.func26 rfl rfl rfl fun w0 hw => ?_; refine c_seq fun _ hK1 => ?_; refine c_region ?_; refine o_box rfl rfl rfl fun b5 => ?_; refine o_step rfl (s_assign rfl) ?_; refine o_step rfl (s_assign rfl) ?_; refine o_nil ?_; refine x_then (hK1 _ _ ?_); refine c_seq fun _ hK2 => ?_; refine c_seq fun _ hK3 => ?_; refine c_region ?_; refine o_step rfl (s_move rfl) ?_; refine o_callP (shaped_fn ra rc re hre) rfl rfl rfl (fun w st => (RdK.old0 hw.1).out w st) (fun v10 hv10 => ?_); subst hv10
  cases hsb : shapedB re
  ·
   refine o_step rfl (s_not rfl) ?_; refine o_step rfl (s_move rfl) ?_; refine o_no rfl rfl rfl rfl ?_; refine o_no rfl rfl rfl rfl ?_; refine o_step rfl (s_pick_t rfl rfl) ?_; refine o_step rfl (s_move rfl) ?_; refine o_no rfl rfl rfl rfl ?_; refine o_no rfl rfl rfl rfl ?_; refine o_no rfl rfl rfl rfl ?_; refine o_step rfl (s_pick_t rfl rfl) ?_; refine o_step rfl (s_move rfl) ?_; refine o_no rfl rfl rfl rfl ?_; refine o_no rfl rfl rfl rfl ?_; refine o_no rfl rfl rfl rfl ?_; refine o_no rfl rfl rfl rfl ?_; refine o_no rfl rfl rfl rfl ?_; refine o_step rfl (s_pick_t rfl rfl) ?_; refine o_step rfl (s_move rfl) ?_; refine o_no rfl rfl rfl rfl ?_; refine o_no rfl rfl rfl rfl ?_; refine o_no rfl rfl rfl rfl ?_; refine o_no rfl rfl rfl rfl ?_; refine o_no rfl rfl rfl rfl ?_; refine o_step rfl (s_pick_t rfl rfl) ?_; refine o_nil ?_; refine x_then (hK3 _ _ ?_); refine c_true rfl ?_; refine c_seq fun _ hK4 => ?_
   refine c_region ?_; refine o_step rfl (s_assign rfl) ?_; refine o_step rfl (s_assign rfl) ?_; refine o_nil ?_; refine x_then (hK4 _ _ ?_); refine c_ret ?_; refine x_then_ret (?_); refine x_sub (Sub.refl _) (H' := []) HSub.nil ?_; exact x_ret rfl (.tmp rfl (.tmp rfl (.nil))) (.inr ⟨fun ⟨x2, ks2, p2, q2, hm, h1, h2, h3, h4, h5⟩ => (by have := hm.sh; rw [hsb] at this; cases this), rfl, rfl⟩)
  ·
   obtain ⟨_, x, ks, hs⟩ := shapedB_iff.1 hsb
   refine o_step rfl (s_not rfl) ?_; refine o_step rfl (s_move rfl) ?_; refine o_yes rfl rfl ?_; refine o_step rfl (s_move rfl) ?_; refine o_yes rfl rfl ?_; refine o_callP (refs_fn ra rc re hre) rfl rfl rfl (fun w st => (RdK.old0 hw.1).out w st) (fun v14 hv14 => ?_); subst hv14
   cases hrb : refsB re
   ·
    have hr8 := no_refs hsb hrb
    refine o_step rfl (s_pick_f rfl rfl) ?_; refine o_step rfl (s_move rfl) ?_; refine o_yes rfl rfl ?_; refine o_step rfl (s_field rfl rfl (by decide)) ?_; refine o_yes rfl rfl ?_; refine o_step rfl (s_ld rfl ((.own meA rfl : Cel _ _ _ (.int .i64 fr)))) ?_; refine o_yes rfl rfl ?_
    by_cases hf0 : fr < 0
    ·
     refine o_step rfl (step_cast (v' := .bool true) (s_lss rfl rfl) (by rw [decide_eq_true (by omega)])) ?_; refine o_step rfl (s_pick_f rfl rfl) ?_; refine o_step rfl (s_move rfl) ?_; refine o_no rfl rfl rfl rfl ?_; refine o_no rfl rfl rfl rfl ?_; refine o_no rfl rfl rfl rfl ?_; refine o_no rfl rfl rfl rfl ?_; refine o_no rfl rfl rfl rfl ?_; refine o_step rfl (s_pick_t rfl rfl) ?_; refine o_step rfl (s_move rfl) ?_; refine o_no rfl rfl rfl rfl ?_; refine o_no rfl rfl rfl rfl ?_; refine o_no rfl rfl rfl rfl ?_; refine o_no rfl rfl rfl rfl ?_; refine o_no rfl rfl rfl rfl ?_; refine o_step rfl (s_pick_t rfl rfl) ?_; refine o_nil ?_; refine x_then (hK3 _ _ ?_); refine c_true rfl ?_; refine c_seq fun _ hK5 => ?_; refine c_region ?_; refine o_step rfl (s_assign rfl) ?_; refine o_step rfl (s_assign rfl) ?_; refine o_nil ?_; refine x_then (hK5 _ _ ?_); refine c_ret ?_; refine x_then_ret (?_); refine x_sub (Sub.refl _) (H' := []) HSub.nil ?_
     exact x_ret rfl (.tmp rfl (.tmp rfl (.nil))) (.inr ⟨fun ⟨x2, ks2, p2, q2, hm, h1, h2, h3, h4, h5⟩ => (by omega), rfl, rfl⟩)
    ·
     refine o_step rfl (step_cast (v' := .bool false) (s_lss rfl rfl) (by rw [decide_eq_false (by omega)])) ?_; refine o_step rfl (s_pick_f rfl rfl) ?_; refine o_step rfl (s_move rfl) ?_; refine o_yes rfl rfl ?_; refine o_step rfl (s_field rfl rfl (by decide)) ?_; refine o_yes rfl rfl ?_; refine o_step rfl (s_ld rfl ((.own meA rfl : Cel _ _ _ (.int .i64 fr)))) ?_; refine o_yes rfl rfl ?_; refine o_step rfl (s_field rfl rfl (by decide)) ?_; refine o_yes rfl rfl ?_; refine o_step rfl (s_ld rfl ((.own meA rfl : Cel _ _ _ (.int .i64 to)))) ?_; refine o_yes rfl rfl ?_
     by_cases hft : fr > to
     ·
      refine o_step rfl (step_cast (v' := .bool true) (s_gtr rfl rfl) (by rw [decide_eq_true (by omega)])) ?_; refine o_step rfl (s_pick_f rfl rfl) ?_; refine o_step rfl (s_move rfl) ?_; refine o_no rfl rfl rfl rfl ?_; refine o_no rfl rfl rfl rfl ?_; refine o_no rfl rfl rfl rfl ?_; refine o_no rfl rfl rfl rfl ?_; refine o_no rfl rfl rfl rfl ?_; refine o_step rfl (s_pick_t rfl rfl) ?_; refine o_nil ?_; refine x_then (hK3 _ _ ?_); refine c_true rfl ?_; refine c_seq fun _ hK6 => ?_; refine c_region ?_; refine o_step rfl (s_assign rfl) ?_; refine o_step rfl (s_assign rfl) ?_; refine o_nil ?_; refine x_then (hK6 _ _ ?_); refine c_ret ?_; refine x_then_ret (?_); refine x_sub (Sub.refl _) (H' := []) HSub.nil ?_; exact x_ret rfl (.tmp rfl (.tmp rfl (.nil))) (.inr ⟨fun ⟨x2, ks2, p2, q2, hm, h1, h2, h3, h4, h5⟩ => (by omega), rfl, rfl⟩)
     ·
      refine o_step rfl (step_cast (v' := .bool false) (s_gtr rfl rfl) (by rw [decide_eq_false (by omega)])) ?_; refine o_step rfl (s_pick_f rfl rfl) ?_; refine o_step rfl (s_move rfl) ?_; refine o_yes rfl rfl ?_; refine o_step rfl (s_field rfl rfl (by decide)) ?_; refine o_yes rfl rfl ?_; refine o_step rfl (s_ld rfl ((.own meA rfl : Cel _ _ _ (.int .i64 to)))) ?_; refine o_yes rfl rfl ?_; refine o_step rfl (s_move rfl) ?_; refine o_yes rfl rfl ?_; refine o_step rfl (s_len rfl) ?_; refine o_yes rfl rfl ?_
      by_cases htl : to > w.length
      ·
       refine o_step rfl (step_cast (v' := .bool true) (s_gtr rfl rfl) (by rw [decide_eq_true (by omega)])) ?_; refine o_step rfl (s_pick_f rfl rfl) ?_; refine o_nil ?_; refine x_then (hK3 _ _ ?_); refine c_true rfl ?_; refine c_seq fun _ hK7 => ?_; refine c_region ?_; refine o_step rfl (s_assign rfl) ?_; refine o_step rfl (s_assign rfl) ?_; refine o_nil ?_; refine x_then (hK7 _ _ ?_); refine c_ret ?_; refine x_then_ret (?_); refine x_sub (Sub.refl _) (H' := []) HSub.nil ?_; exact x_ret rfl (.tmp rfl (.tmp rfl (.nil))) (.inr ⟨fun ⟨x2, ks2, p2, q2, hm, h1, h2, h3, h4, h5⟩ => (by omega), rfl, rfl⟩)
      ·
       refine o_step rfl (step_cast (v' := .bool false) (s_gtr rfl rfl) (by rw [decide_eq_false (by omega)])) ?_; refine o_step rfl (s_pick_f rfl rfl) ?_; refine o_nil ?_; refine x_then (hK3 _ _ ?_); refine c_false rfl ?_; refine c_skip ?_; refine x_then (hK2 _ _ ?_); refine c_seq fun _ hK8 => ?_; refine c_region ?_; refine o_step rfl (s_move rfl) ?_; refine o_step rfl (s_move rfl) ?_
       obtain ⟨p, rfl⟩ : ∃ p : Nat, fr = p := ⟨fr.toNat, by omega⟩
       obtain ⟨q, rfl⟩ : ∃ q : Nat, to = q := ⟨to.toNat, by omega⟩
       refine o_call (ask_fn ra rc re ta tc w hre hr8 (by have := hs.len; omega) hwl x ks hs.part) rfl rfl rfl (by exact .nil) (fun w st => ⟨(RdK.old0 hw.1).out w st, (RdK.old0 hw.2).out w st⟩) (fun v37 S37 ⟨K, Se, hn, hr, e1, e2, e3, e4, hK, hv37, hE, hS37⟩ => ?_); subst e1
       subst e2; subst hv37
       subst hS37
       simp only [vre, vtx, Value.slice.injEq] at e3 e4
       obtain ⟨rfl, _, rfl⟩ := e3
       obtain ⟨rfl, _, rfl⟩ := e4
       refine o_step rfl (s_assign rfl) ?_; refine o_nil ?_; refine x_then (hK8 _ _ ?_); refine c_seq fun _ hK9 => ?_; refine c_seq fun _ hK10 => ?_; refine c_drawE ([(b5, .cells (Esp ⟨p, q⟩).toArray 40 (0, 0)), (K.bS, .cells K.cells.toArray 162 (0, 0))]) (fun i => false) ?_; refine e_tk 0 rfl hzB (s_move rfl) ?_; refine e_tk 1 rfl hzB (s_nil rfl) ?_; refine e_tk 2 rfl hzB (s_field rfl rfl (by decide)) ?_; refine e_tk 3 rfl hzB (s_ld rfl (.own meA rfl)) ?_; refine e_tk 4 rfl hzB (s_field rfl rfl (by decide)) ?_; refine e_tk 5 rfl hzB (s_ld rfl ((.own meA rfl : Cel _ _ _ (.int .i64 (p : Int))))) ?_; refine e_tk 6 rfl hzB (s_field rfl rfl (by decide)) ?_; refine e_tk 7 rfl hzB (s_ld rfl ((.own meA rfl : Cel _ _ _ (.int .i64 (q : Int))))) ?_; refine e_one 8 rfl (by kernel_rfl) ?_; refine o_callC (us := []) (vs := [_, _, _]) (cs := [pt K.bRe, pt K.bTx, pt K.bA]) (node_all hK hn hr _ x ks (Nat.lt_succ_self _) 0 _ p q [] 0 hs.part (by omega) (by omega) .nil) rfl rfl rfl pkA (fun w st => Env.make (K := K) (S := [(K.bM, mpO [] 0)]) st pkA hw.1 hw.2 hE hiA meA meA meA meA) (fun v46 S46 ⟨es46, c46, hv46, hS46, hm46⟩ => ?_)
       subst hv46; subst hS46
       cases hb46 : dQ (der1 K.tx x ks p q)
       ·
        refine o_nil ?_; refine x_oneS hzB ?_; refine e_tk 9 rfl hzB (s_not rfl) ?_; refine e_done (by kernel_rfl) ?_; refine x_then (hK10 _ _ ?_); refine c_true rfl ?_; refine c_seq fun _ hK11 => ?_; refine c_region ?_; refine o_step rfl (s_assign rfl) ?_; refine o_step rfl (s_assign rfl) ?_; refine o_nil ?_; refine x_then (hK11 _ _ ?_); refine c_ret ?_; refine x_then_ret (?_); refine x_sub (Sub.refl _) (H' := []) HSub.nil ?_; exact x_ret rfl (.tmp rfl (.tmp rfl (.nil))) (.inr ⟨fun ⟨x2, ks2, p2, q2, hm, h1, h2, h3, h4, h5⟩ => (by obtain ⟨rfl, rfl⟩ := hs.uniq hm.hs; obtain rfl : p = p2 := (by omega); obtain rfl : q = q2 := (by omega); rw [dQ_t h5] at hb46; cases hb46), rfl, rfl⟩)
       ·
        refine o_nil ?_; refine x_oneS hzB ?_; refine e_tk 9 rfl hzB (s_not rfl) ?_; refine e_done (by kernel_rfl) ?_; refine x_then (hK10 _ _ ?_); refine c_false rfl ?_; refine c_skip ?_; refine x_then (hK9 _ _ ?_); refine c_seq fun _ hK12 => ?_; refine c_region ?_; refine o_step rfl (s_move rfl) ?_; refine o_step rfl (s_ldB rfl (RdPK.cels (.own meA)) lnA) ?_; refine o_call (captures_fn K hK hn hr hsb x ks hs p q (by omega) (by omega) (dQ_iff.1 hb46) es46 c46 hm46) rfl rfl rfl pkA (fun w st => Env.make (K := K) (S := [(K.bM, mpO es46 c46)]) st pkA hw.1 hw.2 hE hiA meA meA meA meA) (fun v50 S50 ⟨es50, c50, a50, cc50, Sc50, hv50, hS50, hO50⟩ => ?_); subst hv50
        subst hS50; refine o_step rfl (s_assign rfl) ?_; refine o_step rfl (s_assign rfl) ?_; refine o_nil ?_; refine x_then (hK12 _ _ ?_); refine c_ret ?_; refine ?_; refine x_sub (Sub.refl _) (H' := Sc50) hzB ?_; exact x_ret rfl (.tmp rfl (.tmp rfl (.nil))) (.inl ⟨x, ks, p, q, ⟨hsb, hrb, hs⟩, rfl, rfl, by omega, by omega, dQ_iff.1 hb46, a50, cc50, rfl, hO50⟩)
   ·
    refine o_step rfl (s_pick_f rfl rfl) ?_; refine o_step rfl (s_move rfl) ?_; refine o_no rfl rfl rfl rfl ?_; refine o_no rfl rfl rfl rfl ?_; refine o_no rfl rfl rfl rfl ?_; refine o_step rfl (s_pick_t rfl rfl) ?_; refine o_step rfl (s_move rfl) ?_; refine o_no rfl rfl rfl rfl ?_; refine o_no rfl rfl rfl rfl ?_; refine o_no rfl rfl rfl rfl ?_; refine o_no rfl rfl rfl rfl ?_; refine o_no rfl rfl rfl rfl ?_; refine o_step rfl (s_pick_t rfl rfl) ?_; refine o_step rfl (s_move rfl) ?_; refine o_no rfl rfl rfl rfl ?_; refine o_no rfl rfl rfl rfl ?_; refine o_no rfl rfl rfl rfl ?_; refine o_no rfl rfl rfl rfl ?_; refine o_no rfl rfl rfl rfl ?_; refine o_step rfl (s_pick_t rfl rfl) ?_; refine o_nil ?_; refine x_then (hK3 _ _ ?_); refine c_true rfl ?_; refine c_seq fun _ hK13 => ?_; refine c_region ?_; refine o_step rfl (s_assign rfl) ?_; refine o_step rfl (s_assign rfl) ?_; refine o_nil ?_; refine x_then (hK13 _ _ ?_)
    refine c_ret ?_; refine x_then_ret (?_); refine x_sub (Sub.refl _) (H' := []) HSub.nil ?_; exact x_ret rfl (.tmp rfl (.tmp rfl (.nil))) (.inr ⟨fun ⟨x2, ks2, p2, q2, hm, h1, h2, h3, h4, h5⟩ => (by have := hm.rf; rw [hrb] at this; cases this), rfl, rfl⟩)

end Go.Proofs.YtopmnmigpbdddaaGreatDoor

/- Spans compared. Conditions: none. -/
namespace Go.HL.Kl.Mc
open Go Go.HL Go.HL.Kl
section
variable {P : Program} {κ : Cx} {L : Loc} {H : Hp} {ty t t' : TypeId} {x y : Operand}
theorem sp_fq {e : Nat} [TU P e (.int .i64)] [TG P e true] (w : World) (p q : Sp) : FQ P w 9998 (Esp p).toArray (Esp q).toArray [(e, 0), (e, 1)] (decide (p = q)) := by
  have h : FQ P w 9998 (Esp p).toArray (Esp q).toArray [(e, 0), (e, 1)] _ :=
    .int (j := .i64) (p := p.fr) (q := q.fr) rfl rfl (.int (j := .i64) (p := p.to) (q := q.to) rfl rfl .nil)
  have e : (p.fr == q.fr && (p.to == q.to && true)) = decide (p = q) := by
    cases p; cases q
    simp only [Sp.mk.injEq, Bool.and_true]
    rw [Bool.eq_iff_iff]
    simp
  rw [← e]; exact h
theorem s_eql_sp {e : Nat} [EG P t] [TU P e (.int .i64)] [TG P e true] [TQ P t [(e, 0), (e, 1)]] {p q : Sp} (hx : ev L x = some (.agg (Esp p).toArray)) (hy : ev L y = some (.agg (Esp q).toArray)) : Step P κ (.binOp .eql t x y t') ty L H (.bool (decide (p = q))) :=
  s_eql_st hx hy fun w => sp_fq w p q
theorem s_neq_sp {e : Nat} [EG P t] [TU P e (.int .i64)] [TG P e true] [TQ P t [(e, 0), (e, 1)]] {p q : Sp} (hx : ev L x = some (.agg (Esp p).toArray)) (hy : ev L y = some (.agg (Esp q).toArray)) : Step P κ (.binOp .neq t x y t') ty L H (.bool (!decide (p = q))) :=
  s_neq_st hx hy fun w => sp_fq w p q
end
end Go.HL.Kl.Mc

/- Part of the proofs over this seat: see the text that holds the theorem. Conditions: each theorem bears its own. -/
namespace Go.Proofs.YtopmnmigpbdddaaGreatDoor
open Go Go.HL Go.Proofs Go.HL.Kl Go.HL.Kl.Mc Go.HL.Kl.Mc.AskE
theorem eqSpans_fn (a a2 : Option Addr) (c c2 : Nat) (xs ys : List Sp) : HL.Fn Tryz.prog 21 [.slice a xs.length c, .slice a2 ys.length c2] (fun w => Rd Esp w (.slice a xs.length c) xs ∧ Rd Esp w (.slice a2 ys.length c2) ys) [] (fun v _ => v = .bool (decide (xs = ys))) := by
  refine fn_of Tryz.func21 rfl rfl rfl fun w0 hw => ?_
  obtain ⟨hx, hy⟩ := hw
  have hsx := hx.sl
  have hsy := hy.sl
  have hbx := hsx.le
  have hby := hsy.le
  refine c_seq fun _ hK1 => ?_; refine c_region ?_; refine o_step rfl (s_assign rfl) ?_; refine o_nil ?_; refine x_then (hK1 _ _ ?_); refine c_seq fun _ hK2 => ?_; refine c_seq fun _ hK3 => ?_; refine c_region ?_; refine o_step rfl (s_move rfl) ?_; refine o_step rfl (s_len rfl) ?_; refine o_step rfl (s_move rfl) ?_; refine o_step rfl (s_len rfl) ?_; refine o_step rfl (s_neq rfl rfl) ?_; refine o_nil ?_; refine x_then (hK3 _ _ ?_); refine c_if rfl (fun hl => ?_) (fun hl => ?_)
  ·
   refine c_seq fun _ hK4 => ?_; refine c_region ?_; refine o_step rfl (s_assign rfl) ?_; refine o_nil ?_; refine x_then (hK4 _ _ ?_); refine c_ret ?_; refine x_then_ret (?_); exact x_ret rfl (.tmp rfl (.nil)) ((congrArg Value.bool (decide_eq_false (by intro e; subst e; omega)).symm))
  ·
   refine c_skip ?_; refine x_then (hK2 _ _ ?_); refine c_seq fun _ hK5 => ?_; refine c_seq fun _ hK6 => ?_; refine c_region ?_; refine o_step rfl (s_assign rfl) ?_; refine o_nil ?_; refine x_then (hK6 _ _ ?_); refine c_block ?_
   -- not carried: 4
   refine c_loopB (fun (j : Nat) => j ≤ xs.length ∧ ∀ i, i < j → xs[i]? = ys[i]?) (fun (j : Nat) => [(5, .int .i64 j)]) [(0, _), (1, _)] (fun (j : Nat) => _) (fun (j : Nat) => xs.length - j) 0 ⟨by omega, fun i hi => by omega⟩ sbA sbA hzB ?_
   rintro j ⟨hj, hjt⟩
   refine c_seq fun _ hK7 => ?_; refine c_seq fun _ hK8 => ?_; refine c_region ?_; refine o_step rfl (s_move rfl) ?_; refine o_step rfl (s_move rfl) ?_; refine o_step rfl (s_len rfl) ?_; refine o_step rfl (s_lss rfl rfl) ?_; refine o_nil ?_; refine x_then (hK8 _ _ ?_); refine c_if rfl (fun hlt => ?_) (fun hlt => ?_)
   ·
    obtain ⟨x, hxj⟩ : ∃ x, xs[j]? = some x := ⟨_, List.getElem?_eq_getElem (by omega)⟩
    obtain ⟨y, hyj⟩ : ∃ y, ys[j]? = some y := ⟨_, List.getElem?_eq_getElem (by omega)⟩
    refine c_skip ?_; refine x_then (hK7 _ _ ?_); refine c_seq fun _ hK9 => ?_; refine c_block ?_; refine c_seq fun _ hK10 => ?_; refine c_drawE ([]) (fun i => false) ?_; refine e_tk 0 rfl (by exact HSub.nil) (s_move rfl) ?_; refine e_tk 1 rfl (by exact HSub.nil) (s_move rfl) ?_; refine e_tk 2 rfl (by exact HSub.nil) (s_idx rfl rfl hsx (by omega)) ?_; refine e_tk 3 rfl (by exact HSub.nil) (s_ldB rfl ((RdK.old0 hx).lds j hxj (by omega)) (by rfl)) ?_; refine e_tk 4 rfl (by exact HSub.nil) (s_move rfl) ?_; refine e_tk 5 rfl (by exact HSub.nil) (s_move rfl) ?_; refine e_tk 6 rfl (by exact HSub.nil) (s_idx rfl rfl hsy (by omega)) ?_; refine e_tk 7 rfl (by exact HSub.nil) (s_ldB rfl ((RdK.old0 hy).lds j hyj (by omega)) (by rfl)) ?_; refine e_tk 8 rfl (by exact HSub.nil) (s_neq_sp rfl rfl) ?_; refine e_done (by kernel_rfl) ?_; refine x_then (hK10 _ _ ?_); refine c_ifn rfl (fun hne => ?_) (fun hne => ?_)
    ·
     refine c_seq fun _ hK11 => ?_; refine c_region ?_; refine o_step rfl (s_assign rfl) ?_; refine o_nil ?_; refine x_then (hK11 _ _ ?_); refine c_ret ?_; refine x_block_ret (x_then_ret (x_then_ret (x_block_ret (x_then_ret (?_)))))
     exact x_ret rfl (.tmp rfl (.nil)) ((congrArg Value.bool (decide_eq_false (by intro e; subst e; rw [hxj] at hyj; cases hyj; exact hne rfl)).symm))
    ·
     refine c_skip ?_; refine x_block ?_; refine x_then (hK9 _ _ ?_); refine c_region ?_; refine o_step rfl (s_move rfl) ?_; refine o_step rfl (s_add rfl rfl (by omega)) ?_; refine o_step rfl (s_assign rfl) ?_; refine o_nil ?_; exact x_then (x_inv (j + 1) ⟨by omega, fun i hi => by rcases Nat.lt_or_ge i j with h | h; exact hjt i h; rw [show i = j by omega, hxj, hyj, hne]⟩ (by first | omega | (dsimp only; omega)) sbA hzB)
   ·
    refine c_exit ?_; refine x_then_exit ?_; refine x_then_exit ?_; refine x_block_exit ?_; refine x_then (hK5 _ _ ?_); refine c_seq fun _ hK12 => ?_; refine c_region ?_; refine o_step rfl (s_assign rfl) ?_; refine o_nil ?_; refine x_then (hK12 _ _ ?_); refine c_ret ?_; refine ?_; exact x_ret rfl (.tmp rfl (.nil)) ((congrArg Value.bool (decide_eq_true (ext_upto (by omega) fun i hi => hjt i (by omega))).symm))

theorem rBehind_fn (ra : Option Addr) (rc : Nat) (re : List Nd) (hre : ∀ x ∈ re, -128 ≤ x.op ∧ x.op < 128) (hsb : shapedB re = true) (x : Nd) (ks : F) (i i1 : Nat) (hp : Part re (.nd x ks .nil) i i1) : HL.Fn Tryz.prog 19 [.slice ra re.length rc, .int .i64 i] (fun w => Rd En w (.slice ra re.length rc) re) [] (fun v _ => v = .int .i64 i1) := by
  refine fn_of Tryz.func19 rfl rfl rfl fun w0 hw => ?_
  have hsl := hw.sl
  have hbl := hsl.le
  have hil := (List.getElem?_eq_some_iff.1 hp.head.1).1
  refine c_seq fun _ hK1 => ?_; refine c_region ?_; refine o_step rfl (s_assign rfl) ?_; refine o_nil ?_; refine x_then (hK1 _ _ ?_); refine c_seq fun _ hK2 => ?_; refine c_seq fun _ hK3 => ?_; refine c_region ?_; refine o_step rfl (s_move rfl) ?_; refine o_callP (rShaped_fn ra rc re hre) rfl rfl rfl (fun w st => (RdK.old0 hw).out w st) (fun v7 hv7 => ?_)
  rw [hsb] at hv7
  subst hv7; refine o_step rfl (s_not rfl) ?_; refine o_step rfl (s_move rfl) ?_; refine o_yes rfl rfl ?_; refine o_step rfl (s_move rfl) ?_; refine o_yes rfl rfl ?_; refine o_step rfl (s_lss_f rfl rfl (by omega)) ?_; refine o_step rfl (s_pick_f rfl rfl) ?_; refine o_step rfl (s_move rfl) ?_; refine o_yes rfl rfl ?_; refine o_step rfl (s_move rfl) ?_; refine o_yes rfl rfl ?_; refine o_step rfl (s_move rfl) ?_; refine o_yes rfl rfl ?_; refine o_step rfl (s_len rfl) ?_; refine o_yes rfl rfl ?_; refine o_step rfl (s_geq_f rfl rfl (by omega)) ?_; refine o_step rfl (s_pick_f rfl rfl) ?_; refine o_nil ?_; refine x_then (hK3 _ _ ?_); refine c_false rfl ?_; refine c_skip ?_; refine x_then (hK2 _ _ ?_); refine c_seq fun _ hK4 => ?_; refine c_region ?_; refine o_step rfl (s_assign rfl) ?_; refine o_nil ?_; refine x_then (hK4 _ _ ?_); refine c_seq fun _ hK5 => ?_; refine c_block ?_; refine c_loop2 (fun (g : F) (p : Nat) => Part re g p i1) (fun (g : F) (p : Nat) => [(5, .int .i64 g.num), (1, .int .i64 p)]) [(0, _), (4, _)] (fun (g : F) (p : Nat) => _) (fun (g : F) (p : Nat) => i1 - p) (.nd x ks .nil) i hp (by exact Sub.cons' rfl (by rw [F.num, F.num]; rfl) sbA) sbA hzB ?_
  rintro g p hpg
  have hgl := hpg.len
  have hgle := hpg.le
  have hgn := F.num_le g
  refine c_seq fun _ hK6 => ?_; refine c_seq fun _ hK7 => ?_; refine c_region ?_; refine o_step rfl (s_move rfl) ?_
  by_cases hg : (g.num : Int) > 0
  ·
   obtain ⟨y, js, r, rfl⟩ : ∃ y js r, g = F.nd y js r := by cases g with | nil => simp [F.num] at hg | nd y a b => exact ⟨y, a, b, rfl⟩
   have hy := hpg.head.1
   have hyl := (List.getElem?_eq_some_iff.1 hy).1
   have hkn : (js.num : Int) = y.kids := hpg.wf.2.1
   have hjn := F.num_le js
   simp only [F.num] at hg hgn ⊢
   simp only [F.size] at hgl hgn
   refine o_step rfl (step_cast (v' := .bool true) (s_gtr rfl rfl) (by rw [decide_eq_true (by omega)])) ?_; refine o_nil ?_; refine x_then (hK7 _ _ ?_); refine c_true rfl ?_; refine c_skip ?_; refine x_then (hK6 _ _ ?_); refine c_block ?_; refine c_seq fun _ hK8 => ?_; refine c_region ?_; refine o_step rfl (s_move rfl) ?_; refine o_step rfl (s_sub rfl rfl (by omega)) ?_; refine o_step rfl (s_move rfl) ?_; refine o_step rfl (s_move rfl) ?_; refine o_step rfl (s_idx rfl rfl hsl (by omega)) ?_; refine o_step rfl (s_field rfl rfl (by decide)) ?_; refine o_step rfl (s_ld rfl ((RdK.old0 hw).ld p 8 hy rfl (by decide) (by omega))) ?_; refine o_step rfl (s_add rfl rfl (by omega)) ?_; refine o_step rfl (s_assign rfl) ?_; refine o_nil ?_; refine x_then (hK8 _ _ ?_); refine c_region ?_; refine o_step rfl (s_move rfl) ?_; refine o_step rfl (s_add rfl rfl (by omega)) ?_; refine o_step rfl (s_assign rfl) ?_
   refine o_nil ?_; refine x_block ?_; exact x_then (x_inv ((js.app r), p + 1) hpg.down (by dsimp only; omega) (by exact Sub.cons' rfl (by rw [F.num_app, ← hkn]; congr 1; omega) sbA) hzB)
  ·
   obtain rfl : g = F.nil := F.num_nil (by omega)
   simp only [F.size] at hgl
   refine o_step rfl (step_cast (v' := .bool false) (s_gtr rfl rfl) (by rw [decide_eq_false (by omega)])) ?_; refine o_nil ?_; refine x_then (hK7 _ _ ?_); refine c_false rfl ?_; refine c_exit ?_; refine x_then_exit ?_; refine x_then_exit ?_; refine x_block_exit ?_; refine x_then (hK5 _ _ ?_); refine c_seq fun _ hK9 => ?_; refine c_region ?_; refine o_step rfl (s_move rfl) ?_; refine o_step rfl (s_assign rfl) ?_; refine o_nil ?_; refine x_then (hK9 _ _ ?_); refine c_ret ?_; refine ?_; exact x_ret rfl (.tmp rfl (.nil)) ((congrArg (Value.int .i64) (by omega)))

end Go.Proofs.YtopmnmigpbdddaaGreatDoor
