/- Part of the proofs over this seat: see the text that holds the theorem. Conditions: each theorem bears its own. -/
import Derived.Test.YtiggliigookieaaKW17Z
namespace Go.Proofs.Ytiggliigookieaa
open Go Go.HL Go.Proofs Go.HL.Kl Go.HL.Kl.Mc Go.HL.Kl.Mc.AskE
theorem told_all (ra : Option Addr) (rc : Nat) (re : List Nd) (hre : ∀ x ∈ re, -128 ≤ x.op ∧ x.op < 128) (hr8 : ∀ x ∈ re, ¬ x.op = 8) (hrl : re.length ≤ 1000000) (ca : Option Addr) (cc N : Nat) (hsl8 : Slots re N) : ∀ (n : Nat) (x : Rw) (ks : TF) (cs cs3 : List Sp) (Sc : Hp), ks.sz < n → TldT re (.nd x.a x.p x.q ks .nil) none cs cs3 → cs.length = N → OwnS Esp 2 25 (.slice ca N cc) cs Sc →
    HL.Fn Try.prog 28 [.slice ra re.length rc, .agg (Erw x).toArray, .slice ca N cc] (fun w => ReM re (.slice ra re.length rc) (keys Sc) w ∧ KidM (keys Sc) w x ks) Sc (fun _ S' => OwnS Esp 2 25 (.slice ca N cc) cs3 S') := by
  intro n
  induction n with
  | zero => intro x ks cs cs3 Sc h; omega
  | succ n ih => intro x ks cs cs3 Sc h h1 h2 h3; exact told_fn ra rc re hre hr8 hrl ca cc N hsl8 n ih x ks cs cs3 Sc (by omega) h1 h2 h3

set_option maxHeartbeats 1000000 in
theorem rCaptures_fn (ra : Option Addr) (rc : Nat) (re : List Nd) (hre : ∀ x ∈ re, -128 ≤ x.op ∧ x.op < 128) (hr8 : ∀ x ∈ re, ¬ x.op = 8) (hrl : re.length ≤ 1000000) (hsb : shapedB re = true) (x : Rw) (ks : TF) (cs3 : List Sp) (htl : TldT re (.nd x.a x.p x.q ks .nil) none (List.replicate (gcn re + 1) noS) cs3) : HL.Fn Try.prog 13 [.slice ra re.length rc, .agg (Erw x).toArray] (fun w => Rd En w (.slice ra re.length rc) re ∧ KidT w x ks) [] (fun v S' => ∃ a c, v = .slice a (cs3.set 0 ⟨x.p, x.q⟩).length c ∧ OwnS Esp 2 25 (.slice a (cs3.set 0 ⟨x.p, x.q⟩).length c) (cs3.set 0 ⟨x.p, x.q⟩) S') := by
  refine fn_of Try.func13 rfl rfl rfl fun w0 hw => ?_
  have hcl3 : cs3.length = gcn re + 1 := by rw [TldT_len _ _ _ _ htl, List.length_replicate]
  refine c_seq fun _ hK1 => ?_
  refine c_region ?_
  refine o_box rfl rfl rfl fun b3 => ?_
  refine o_step rfl (s_assign rfl) ?_
  refine o_nil ?_
  refine x_then (hK1 _ _ ?_)
  refine c_seq fun _ hK2 => ?_
  refine c_region ?_
  refine o_step rfl (s_move rfl) ?_
  refine o_call (none10_fn ra rc re hre hsb hrl) rfl rfl rfl (by exact .nil) (fun w2 st => (RdK.old0 hw.1).out w2 st) (fun v7 S7 ⟨a7, c7, hv7, hS7⟩ => ?_)
  subst hv7
  refine o_step rfl (s_assign rfl) ?_
  refine o_nil ?_
  refine x_then (hK2 _ _ ?_)
  refine c_seq fun _ hK3 => ?_
  refine c_region ?_
  refine o_step rfl (s_move rfl) ?_
  refine o_step rfl (s_ldB rfl (RdPK.cels (.own meA)) lnA) ?_
  refine o_step rfl (s_move rfl) ?_
  refine o_call (told_all ra rc re hre hr8 hrl a7 c7 (gcn re + 1) (slots_of hsb) _ x ks _ cs3 S7 (Nat.lt_succ_self _) htl List.length_replicate hS7) rfl rfl rfl pkA (fun w2 st => ⟨ReM.make hw.1 st hiA, KidT.apart st hiA hw.2⟩) (fun v11 S11 hO11 => ?_)
  have hs11 : IsSl (.slice a7 (gcn re + 1) c7) (gcn re + 1) := by have := hO11.sl; rw [hcl3] at this; exact this
  refine o_nil ?_
  refine x_then (hK3 _ _ ?_)
  refine c_seq fun _ hK4 => ?_
  refine c_region ?_
  refine o_step rfl (s_move rfl) ?_
  refine o_step rfl (s_field rfl rfl (by decide)) ?_
  refine o_step rfl (s_ld rfl (.own meA rfl)) ?_
  refine o_step rfl (s_field rfl rfl (by decide)) ?_
  refine o_step rfl (s_ld rfl (.own meA rfl)) ?_
  refine o_step rfl (step_cast (v' := .agg (Esp ⟨x.p, x.q⟩).toArray) (s_build (cs := [_, _]) (vs := [_, _]) rfl rfl (.cons rfl rfl rfl rfl rfl (.cons rfl rfl rfl rfl rfl (.nil)))) rfl) ?_
  refine o_step rfl (s_idx rfl rfl hs11 (by omega)) ?_
  refine o_stSE 0 ⟨x.p, x.q⟩ hO11 pkA rfl rfl (by omega) (by rfl) fun S' hS' => ?_
  refine o_nil ?_
  refine x_then (hK4 _ _ ?_)
  refine c_seq fun _ hK5 => ?_
  refine c_region ?_
  refine o_step rfl (s_move rfl) ?_
  refine o_step rfl (s_assign rfl) ?_
  refine o_nil ?_
  refine x_then (hK5 _ _ ?_)
  refine c_ret ?_
  refine ?_
  refine x_sub (Sub.refl _) (H' := S') hzB ?_
  exact x_ret rfl (.tmp rfl (.nil)) (⟨a7, c7, by rw [List.length_set, hcl3]; rfl, by rw [List.length_set, hcl3]; exact hS'⟩)

set_option maxHeartbeats 1000000 in
theorem all9_fn (ra : Option Addr) (rc : Nat) (re : List Nd) (hre : ∀ x ∈ re, -128 ≤ x.op ∧ x.op < 128) (hr8 : ∀ x ∈ re, ¬ x.op = 8) (hrl : re.length ≤ 200) (ta : Option Addr) (tc : Nat) (w : List UInt8) (hwl : w.length ≤ 40) (x : Nd) (ks : F) (hp : Part re (.nd x ks .nil) 0 re.length) (p q : Nat) (hpq : p ≤ q) (hq : q ≤ w.length) : HL.Fn Try.prog 9 [.slice ra re.length rc, .slice ta w.length tc, .agg (Esp ⟨p, q⟩).toArray, .int .i64 20000] (fun W => Rd En W (.slice ra re.length rc) re ∧ Rd Eb W (.slice ta w.length tc) w) [] (fun v S' => ∃ (L3 : Int) (a : Option Addr) (c : Nat) (zs : List Rw) (us : List TF), v = .tuple #[.slice a zs.length c, .bool (decide (L3 ≥ 0))] ∧ RdS Erw (.slice a zs.length c) zs S' ∧ Acc [] zs us S' (dT w (.nd x ks .nil) false 0 p q) L3 ∧ zs.length ≤ 20000) := by
  refine fn_of Try.func9 rfl rfl rfl fun w0 hw => ?_
  refine c_seq fun _ hK1 => ?_
  refine c_region ?_
  refine o_box rfl rfl rfl fun b6 => ?_
  refine o_step rfl (s_assign rfl) ?_
  refine o_step rfl (s_assign rfl) ?_
  refine o_nil ?_
  refine x_then (hK1 _ _ ?_)
  refine c_seq fun _ hK2 => ?_
  refine c_region ?_
  refine o_step rfl (s_move rfl) ?_
  refine o_step rfl (s_build (cs := [_]) (vs := [_]) rfl rfl (.cons rfl rfl rfl rfl rfl (.nil))) ?_
  refine o_box rfl rfl rfl fun b14 => ?_
  refine o_step rfl (s_assign rfl) ?_
  refine o_nil ?_
  refine x_then (hK2 _ _ ?_)
  refine c_seq fun _ hK3 => ?_
  refine c_region ?_
  refine o_step rfl (s_move rfl) ?_
  refine o_step rfl (s_move rfl) ?_
  refine o_step rfl (s_move rfl) ?_
  refine o_step rfl (s_field rfl rfl (by decide)) ?_
  refine o_step rfl (s_ld rfl (.own meA rfl)) ?_
  refine o_step rfl (s_field rfl rfl (by decide)) ?_
  refine o_step rfl (s_ld rfl (.own meA rfl)) ?_
  refine o_call ((all_all (⟨b14, ra, rc, re, ta, tc, w⟩ : CntE) ⟨hre, hr8, hrl, hwl⟩ _ 20000 (Nat.lt_succ_self _)).1 x ks 0 re.length p q hp hpq hq (by omega) (by omega)) rfl rfl rfl pkA (fun w2 st => PreC.make (K := (⟨b14, ra, rc, re, ta, tc, w⟩ : CntE)) st pkA hw.1 hw.2) (fun v22 S22 ⟨L3, a3, c3, zs, us, S3, hv22, hS22, hR3, hA3, h3a, h3b, h3c⟩ => ?_)
  subst hv22
  subst hS22
  refine o_step rfl (s_assign rfl) ?_
  refine o_nil ?_
  refine x_then (hK3 _ _ ?_)
  refine c_seq fun _ hK4 => ?_
  refine c_drawE ([(b14, .cells [.int .i64 L3].toArray 57 (0, 0))]) (fun i => false) ?_
  refine e_take 0 rfl (by kernel_rfl) (by kernel_rfl) (by kernel_rfl) (by kernel_rfl) (fun _ _ => rfl) rfl hzB (s_move rfl) ?_
  refine e_take 1 rfl (by kernel_rfl) (by kernel_rfl) (by kernel_rfl) (by kernel_rfl) (fun _ _ => rfl) rfl hzB (s_move rfl) ?_
  refine e_take 2 rfl (by kernel_rfl) (by kernel_rfl) (by kernel_rfl) (by kernel_rfl) (fun _ _ => rfl) rfl hzB (s_nil rfl) ?_
  refine e_take 3 rfl (by kernel_rfl) (by kernel_rfl) (by kernel_rfl) (by kernel_rfl) (fun _ _ => rfl) rfl hzB (s_field rfl rfl (by decide)) ?_
  refine e_take 4 rfl (by kernel_rfl) (by kernel_rfl) (by kernel_rfl) (by kernel_rfl) (fun _ _ => rfl) rfl hzB (s_ld rfl (.own meA rfl)) ?_
  refine e_take 5 rfl (by kernel_rfl) (by kernel_rfl) (by kernel_rfl) (by kernel_rfl) (fun _ _ => rfl) rfl hzB (s_geq rfl rfl) ?_
  refine e_one 6 rfl (by kernel_rfl) ?_
  refine o_step rfl (s_assign rfl) ?_
  refine o_nil ?_
  refine x_oneS hzB ?_
  refine e_one 7 rfl (by kernel_rfl) ?_
  refine o_step rfl (s_assign rfl) ?_
  refine o_nil ?_
  refine x_oneS hzB ?_
  refine e_done (by kernel_rfl) ?_
  refine x_then (hK4 _ _ ?_)
  refine c_ret ?_
  refine ?_
  refine x_sub (Sub.refl _) (H' := S3) hzB ?_
  exact x_ret rfl (.tmp rfl (.tmp rfl (.nil))) (⟨L3, a3, c3, zs, us, rfl, hR3, hA3, by omega⟩)

set_option maxHeartbeats 4000000 in
theorem captureBest_fn (ra : Option Addr) (rc : Nat) (re : List Nd) (hre : ∀ x ∈ re, -128 ≤ x.op ∧ x.op < 128) (ta : Option Addr) (tc : Nat) (w : List UInt8) (fr to : Int) : HL.Fn Try.prog 3 [.slice ra re.length rc, .slice ta w.length tc, .agg (Esp ⟨fr, to⟩).toArray] (fun W => Rd En W (.slice ra re.length rc) re ∧ Rd Eb W (.slice ta w.length tc) w) [] (fun v _ => v = .bool true) := by
  refine fn_of Try.func3 rfl rfl rfl fun w0 hw => ?_
  have hsl := hw.1.sl
  have hbl := hsl.le
  refine c_seq fun _ hK1 => ?_
  refine c_region ?_
  refine o_box rfl rfl rfl fun b5 => ?_
  refine o_step rfl (s_assign rfl) ?_
  refine o_nil ?_
  refine x_then (hK1 _ _ ?_)
  refine c_seq fun _ hK2 => ?_
  refine c_region ?_
  refine o_callP (works_fn) rfl rfl rfl (fun _ _ => trivial) (fun v15 hv15 => ?_)
  subst hv15
  refine o_step rfl (s_assign rfl) ?_
  refine o_nil ?_
  refine x_then (hK2 _ _ ?_)
  refine c_seq fun _ hK3 => ?_
  refine c_seq fun _ hK4 => ?_
  refine c_region ?_
  refine o_step rfl (s_move rfl) ?_
  refine o_callP (beyond_fn ra rc re hre) rfl rfl rfl (fun w2 st => (RdK.old0 hw.1).out w2 st) (fun v17 ⟨b17, hv17⟩ => ?_)
  subst hv17
  cases b17
  ·
   refine o_step rfl (s_move rfl) ?_
   refine o_yes rfl rfl ?_
   refine o_step rfl (s_move rfl) ?_
   refine o_yes rfl rfl ?_
   refine o_step rfl (s_len rfl) ?_
   refine o_yes rfl rfl ?_
   by_cases hr2 : (re.length : Int) > 200
   ·
    refine o_step rfl (step_cast (v' := .bool true) (s_gtr rfl rfl) (by rw [decide_eq_true (by omega)])) ?_
    refine o_step rfl (s_pick_f rfl rfl) ?_
    refine o_step rfl (s_move rfl) ?_
    refine o_no rfl rfl rfl rfl ?_
    refine o_no rfl rfl rfl rfl ?_
    refine o_no rfl rfl rfl rfl ?_
    refine o_step rfl (s_pick_t rfl rfl) ?_
    refine o_step rfl (s_move rfl) ?_
    refine o_no rfl rfl rfl rfl ?_
    refine o_no rfl rfl rfl rfl ?_
    refine o_no rfl rfl rfl rfl ?_
    refine o_step rfl (s_pick_t rfl rfl) ?_
    refine o_step rfl (s_move rfl) ?_
    refine o_no rfl rfl rfl rfl ?_
    refine o_no rfl rfl rfl rfl ?_
    refine o_no rfl rfl rfl rfl ?_
    refine o_step rfl (s_pick_t rfl rfl) ?_
    refine o_step rfl (s_move rfl) ?_
    refine o_no rfl rfl rfl rfl ?_
    refine o_no rfl rfl rfl rfl ?_
    refine o_no rfl rfl rfl rfl ?_
    refine o_no rfl rfl rfl rfl ?_
    refine o_no rfl rfl rfl rfl ?_
    refine o_step rfl (s_pick_t rfl rfl) ?_
    refine o_step rfl (s_move rfl) ?_
    refine o_no rfl rfl rfl rfl ?_
    refine o_no rfl rfl rfl rfl ?_
    refine o_no rfl rfl rfl rfl ?_
    refine o_no rfl rfl rfl rfl ?_
    refine o_no rfl rfl rfl rfl ?_
    refine o_step rfl (s_pick_t rfl rfl) ?_
    refine o_nil ?_
    refine x_then (hK4 _ _ ?_)
    refine c_true rfl ?_
    refine c_seq fun _ hK5 => ?_
    refine c_region ?_
    refine o_step rfl (s_move rfl) ?_
    refine o_step rfl (s_assign rfl) ?_
    refine o_nil ?_
    refine x_then (hK5 _ _ ?_)
    refine c_ret ?_
    refine x_then_ret (?_)
    exact x_ret rfl (.tmp rfl (.nil)) (rfl)
   ·
    refine o_step rfl (step_cast (v' := .bool false) (s_gtr rfl rfl) (by rw [decide_eq_false (by omega)])) ?_
    refine o_step rfl (s_pick_f rfl rfl) ?_
    refine o_step rfl (s_move rfl) ?_
    refine o_yes rfl rfl ?_
    refine o_step rfl (s_move rfl) ?_
    refine o_yes rfl rfl ?_
    refine o_step rfl (s_len rfl) ?_
    refine o_yes rfl rfl ?_
    by_cases ht4 : (w.length : Int) > 40
    ·
     refine o_step rfl (step_cast (v' := .bool true) (s_gtr rfl rfl) (by rw [decide_eq_true (by omega)])) ?_
     refine o_step rfl (s_pick_f rfl rfl) ?_
     refine o_step rfl (s_move rfl) ?_
     refine o_no rfl rfl rfl rfl ?_
     refine o_no rfl rfl rfl rfl ?_
     refine o_no rfl rfl rfl rfl ?_
     refine o_step rfl (s_pick_t rfl rfl) ?_
     refine o_step rfl (s_move rfl) ?_
     refine o_no rfl rfl rfl rfl ?_
     refine o_no rfl rfl rfl rfl ?_
     refine o_no rfl rfl rfl rfl ?_
     refine o_step rfl (s_pick_t rfl rfl) ?_
     refine o_step rfl (s_move rfl) ?_
     refine o_no rfl rfl rfl rfl ?_
     refine o_no rfl rfl rfl rfl ?_
     refine o_no rfl rfl rfl rfl ?_
     refine o_no rfl rfl rfl rfl ?_
     refine o_no rfl rfl rfl rfl ?_
     refine o_step rfl (s_pick_t rfl rfl) ?_
     refine o_step rfl (s_move rfl) ?_
     refine o_no rfl rfl rfl rfl ?_
     refine o_no rfl rfl rfl rfl ?_
     refine o_no rfl rfl rfl rfl ?_
     refine o_no rfl rfl rfl rfl ?_
     refine o_no rfl rfl rfl rfl ?_
     refine o_step rfl (s_pick_t rfl rfl) ?_
     refine o_nil ?_
     refine x_then (hK4 _ _ ?_)
     refine c_true rfl ?_
     refine c_seq fun _ hK6 => ?_
     refine c_region ?_
     refine o_step rfl (s_move rfl) ?_
     refine o_step rfl (s_assign rfl) ?_
     refine o_nil ?_
     refine x_then (hK6 _ _ ?_)
     refine c_ret ?_
     refine x_then_ret (?_)
     exact x_ret rfl (.tmp rfl (.nil)) (rfl)
    ·
     refine o_step rfl (step_cast (v' := .bool false) (s_gtr rfl rfl) (by rw [decide_eq_false (by omega)])) ?_
     refine o_step rfl (s_pick_f rfl rfl) ?_
     refine o_step rfl (s_move rfl) ?_
     refine o_yes rfl rfl ?_
     refine o_step rfl (s_move rfl) ?_
     refine o_yes rfl rfl ?_
     refine o_callP (may_fn ra rc re hre) rfl rfl rfl (fun w2 st => (RdK.old0 hw.1).out w2 st) (fun v30 hv30 => ?_)
     by_cases hmay : (shapedB re && !refsB re) = true
     ·
      rw [hmay] at hv30
      subst hv30
      rw [Bool.and_eq_true] at hmay
      have hsb := hmay.1
      have hrb : refsB re = false := by simpa using hmay.2
      obtain ⟨_, x, ks, hmx⟩ := shapedB_iff.1 hsb
      have hr8 := no_refs hsb hrb
      refine o_yes rfl rfl ?_
      refine o_step rfl (s_not rfl) ?_
      refine o_step rfl (s_pick_f rfl rfl) ?_
      refine o_step rfl (s_move rfl) ?_
      refine o_yes rfl rfl ?_
      refine o_step rfl (s_field rfl rfl (by decide)) ?_
      refine o_yes rfl rfl ?_
      refine o_step rfl (s_ld rfl (.own meA rfl)) ?_
      refine o_yes rfl rfl ?_
      by_cases hf0 : fr < 0
      ·
       refine o_step rfl (step_cast (v' := .bool true) (s_lss rfl rfl) (by rw [decide_eq_true (by omega)])) ?_
       refine o_step rfl (s_pick_f rfl rfl) ?_
       refine o_step rfl (s_move rfl) ?_
       refine o_no rfl rfl rfl rfl ?_
       refine o_no rfl rfl rfl rfl ?_
       refine o_no rfl rfl rfl rfl ?_
       refine o_no rfl rfl rfl rfl ?_
       refine o_no rfl rfl rfl rfl ?_
       refine o_step rfl (s_pick_t rfl rfl) ?_
       refine o_step rfl (s_move rfl) ?_
       refine o_no rfl rfl rfl rfl ?_
       refine o_no rfl rfl rfl rfl ?_
       refine o_no rfl rfl rfl rfl ?_
       refine o_no rfl rfl rfl rfl ?_
       refine o_no rfl rfl rfl rfl ?_
       refine o_step rfl (s_pick_t rfl rfl) ?_
       refine o_nil ?_
       refine x_then (hK4 _ _ ?_)
       refine c_true rfl ?_
       refine c_seq fun _ hK7 => ?_
       refine c_region ?_
       refine o_step rfl (s_move rfl) ?_
       refine o_step rfl (s_assign rfl) ?_
       refine o_nil ?_
       refine x_then (hK7 _ _ ?_)
       refine c_ret ?_
       refine x_then_ret (?_)
       exact x_ret rfl (.tmp rfl (.nil)) (rfl)
      ·
       refine o_step rfl (step_cast (v' := .bool false) (s_lss rfl rfl) (by rw [decide_eq_false (by omega)])) ?_
       refine o_step rfl (s_pick_f rfl rfl) ?_
       refine o_step rfl (s_move rfl) ?_
       refine o_yes rfl rfl ?_
       refine o_step rfl (s_field rfl rfl (by decide)) ?_
       refine o_yes rfl rfl ?_
       refine o_step rfl (s_ld rfl (.own meA rfl)) ?_
       refine o_yes rfl rfl ?_
       refine o_step rfl (s_field rfl rfl (by decide)) ?_
       refine o_yes rfl rfl ?_
       refine o_step rfl (s_ld rfl (.own meA rfl)) ?_
       refine o_yes rfl rfl ?_
       by_cases hft : fr > to
       ·
        refine o_step rfl (step_cast (v' := .bool true) (s_gtr rfl rfl) (by rw [decide_eq_true (by omega)])) ?_
        refine o_step rfl (s_pick_f rfl rfl) ?_
        refine o_step rfl (s_move rfl) ?_
        refine o_no rfl rfl rfl rfl ?_
        refine o_no rfl rfl rfl rfl ?_
        refine o_no rfl rfl rfl rfl ?_
        refine o_no rfl rfl rfl rfl ?_
        refine o_no rfl rfl rfl rfl ?_
        refine o_step rfl (s_pick_t rfl rfl) ?_
        refine o_nil ?_
        refine x_then (hK4 _ _ ?_)
        refine c_true rfl ?_
        refine c_seq fun _ hK8 => ?_
        refine c_region ?_
        refine o_step rfl (s_move rfl) ?_
        refine o_step rfl (s_assign rfl) ?_
        refine o_nil ?_
        refine x_then (hK8 _ _ ?_)
        refine c_ret ?_
        refine x_then_ret (?_)
        exact x_ret rfl (.tmp rfl (.nil)) (rfl)
       ·
        refine o_step rfl (step_cast (v' := .bool false) (s_gtr rfl rfl) (by rw [decide_eq_false (by omega)])) ?_
        refine o_step rfl (s_pick_f rfl rfl) ?_
        refine o_step rfl (s_move rfl) ?_
        refine o_yes rfl rfl ?_
        refine o_step rfl (s_field rfl rfl (by decide)) ?_
        refine o_yes rfl rfl ?_
        refine o_step rfl (s_ld rfl (.own meA rfl)) ?_
        refine o_yes rfl rfl ?_
        refine o_step rfl (s_move rfl) ?_
        refine o_yes rfl rfl ?_
        refine o_step rfl (s_len rfl) ?_
        refine o_yes rfl rfl ?_
        by_cases htw : to > w.length
        ·
         refine o_step rfl (step_cast (v' := .bool true) (s_gtr rfl rfl) (by rw [decide_eq_true (by omega)])) ?_
         refine o_step rfl (s_pick_f rfl rfl) ?_
         refine o_nil ?_
         refine x_then (hK4 _ _ ?_)
         refine c_true rfl ?_
         refine c_seq fun _ hK9 => ?_
         refine c_region ?_
         refine o_step rfl (s_move rfl) ?_
         refine o_step rfl (s_assign rfl) ?_
         refine o_nil ?_
         refine x_then (hK9 _ _ ?_)
         refine c_ret ?_
         refine x_then_ret (?_)
         exact x_ret rfl (.tmp rfl (.nil)) (rfl)
        ·
         obtain ⟨p, rfl⟩ : ∃ p : Nat, fr = p := ⟨fr.toNat, by omega⟩
         obtain ⟨q, rfl⟩ : ∃ q : Nat, to = q := ⟨to.toNat, by omega⟩
         refine o_step rfl (step_cast (v' := .bool false) (s_gtr rfl rfl) (by rw [decide_eq_false (by omega)])) ?_
         refine o_step rfl (s_pick_f rfl rfl) ?_
         refine o_nil ?_
         refine x_then (hK4 _ _ ?_)
         refine c_false rfl ?_
         refine c_skip ?_
         refine x_then (hK3 _ _ ?_)
         refine c_seq fun _ hK10 => ?_
         refine c_region ?_
         refine o_step rfl (s_move rfl) ?_
         refine o_step rfl (s_move rfl) ?_
         refine o_step rfl (s_ldB rfl (RdPK.cels (.own meA)) lnA) ?_
         refine o_call (all9_fn ra rc re hre hr8 (by omega) ta tc w (by omega) x ks hmx.part p q (by omega) (by omega)) rfl rfl rfl (by exact .nil) (fun w2 st => ⟨(RdK.old0 hw.1).out w2 st, (RdK.old0 hw.2).out w2 st⟩) (fun v57 S3 ⟨L3, a3, c3, zs, us, hv57, hR3, hA3, hzn⟩ => ?_)
         subst hv57
         refine o_step rfl (s_move rfl) ?_
         refine o_step rfl (s_extract rfl rfl) ?_
         by_cases hL3 : 0 ≤ L3
         ·
          refine o_step rfl (step_cast (v' := .bool true) (s_extract rfl rfl) (by rw [decide_eq_true hL3]; rfl)) ?_
          refine o_step rfl (s_assign rfl) ?_
          refine o_step rfl (s_assign rfl) ?_
          refine o_nil ?_
          refine x_then (hK10 _ _ ?_)
          refine c_seq fun _ hK11 => ?_
          refine c_seq fun _ hK12 => ?_
          refine c_region ?_
          refine o_step rfl (s_move rfl) ?_
          refine o_step rfl (s_not rfl) ?_
          refine o_nil ?_
          refine x_then (hK12 _ _ ?_)
          refine c_false rfl ?_
          refine c_skip ?_
          refine x_then (hK11 _ _ ?_)
          refine c_seq fun _ hK13 => ?_
          refine c_knw (p := zs.length = us.length ∧ ∀ (j : Nat) z U, zs[j]? = some z → us[j]? = some U → ∃ K, U = .nd z.a z.p z.q K .nil) (fun w2 st => ⟨(hA3.rows w2 (Bears.of st hiA) Bears.nil).len, fun j z U h1 h2 => ((hA3.rows w2 (Bears.of st hiA) Bears.nil).get j z U h1 h2).nd⟩) fun hkn => ?_
          refine c_region ?_
          refine o_step rfl (s_move rfl) ?_
          refine o_step rfl (s_move rfl) ?_
          refine o_step rfl (s_ldB rfl (RdPK.cels (.own meA)) lnA) ?_
          refine o_call (best_fn ra rc re hre ta tc w (by omega) p q) rfl rfl rfl (by exact .nil) (fun w2 st => ⟨(RdK.old0 hw.1).out w2 st, (RdK.old0 hw.2).out w2 st⟩) (fun v67 S67 hv67 => ?_)
          obtain ⟨bb, L, a67, c67, hR67, rfl, hO67⟩ := hv67.res
          have hLl := hR67.len
          rcases hR67 with ⟨x2, ks2, p2, q2, hm2, hp2, hq2, _, _, hd, rfl, rfl⟩ | ⟨hnb, rfl, rfl⟩
          ·
           obtain ⟨rfl, rfl⟩ := hmx.uniq hm2.hs
           obtain rfl : p = p2 := by omega
           obtain rfl : q = q2 := by omega
           obtain ⟨T0, ⟨hT0, htop⟩, htld⟩ := best_ex (re := re) (w := w) (.nd x ks .nil) false 0 re.length p q hmx.part hd
           have hT0m := (hA3.mem hL3 T0).2 hT0
           obtain ⟨j0, hj0⟩ := List.mem_iff_getElem?.1 hT0m
           have hj0l := (List.getElem?_eq_some_iff.1 hj0).1
           have hkn1 := hkn.1
           have hbest : ∀ T ∈ us, T = T0 ∨ (Mc.bt T0 T = 1 ∧ Mc.bt T T0 = -1) := fun T hT => htop T ((hA3.mem hL3 T).1 hT)
           have hsm : ∀ T ∈ us, Sm T := fun T hT => (dT_sm (by omega) _ _ _ _ _ _ (by omega) ((hA3.mem hL3 T).1 hT)).2
           obtain ⟨z0, hz0⟩ : ∃ z, zs[0]? = some z := ⟨_, List.getElem?_eq_getElem (by omega)⟩
           refine o_step rfl (s_move rfl) ?_
           refine o_step rfl (s_extract rfl rfl) ?_
           refine o_step rfl (s_extract rfl rfl) ?_
           refine o_step rfl (s_assign rfl) ?_
           refine o_step rfl (s_assign rfl) ?_
           refine o_nil ?_
           refine x_then (hK13 _ _ ?_)
           refine c_seq fun _ hK14 => ?_
           refine c_seq fun _ hK15 => ?_
           refine c_region ?_
           refine o_step rfl (s_move rfl) ?_
           refine o_step rfl (s_move rfl) ?_
           refine o_step rfl (s_len rfl) ?_
           refine o_step rfl (s_gtr_t rfl rfl (by omega)) ?_
           refine o_step rfl (step_cast (v' := .bool false) (s_neq_bool rfl rfl) (by simp)) ?_
           refine o_nil ?_
           refine x_then (hK15 _ _ ?_)
           refine c_false rfl ?_
           refine c_skip ?_
           refine x_then (hK14 _ _ ?_)
           refine c_seq fun _ hK16 => ?_
           refine c_seq fun _ hK17 => ?_
           refine c_region ?_
           refine o_step rfl (s_move rfl) ?_
           refine o_step rfl (step_cast (v' := .bool false) (s_not rfl) rfl) ?_
           refine o_nil ?_
           refine x_then (hK17 _ _ ?_)
           refine c_false rfl ?_
           refine c_skip ?_
           refine x_then (hK16 _ _ ?_)
           refine c_seq fun _ hK18 => ?_
           refine c_knw (p := IsSl (.slice a3 zs.length c3) zs.length) (fun w2 st => ((hR3.rdk hiA).out w2 st).sl) fun hs3 => ?_
           refine c_region ?_
           refine o_step rfl (s_move rfl) ?_
           refine o_step rfl (s_idx rfl rfl hs3 (by omega)) ?_
           refine o_step rfl (s_ldB rfl ((hR3.rdk hiA).lds 0 hz0 (by rfl)) lnA) ?_
           refine o_alloc (l := Erw ⟨0, 0, 0, none, 0, 0⟩) rfl rfl fun b12 => ?_
           refine o_stW rfl rfl upA lnA lnA onA ?_
           refine o_nil ?_
           refine x_then (hK18 _ _ ?_)
           refine c_seq fun _ hK19 => ?_
           refine c_seq fun _ hK20 => ?_
           refine c_region ?_
           refine o_step rfl (s_assign rfl) ?_
           refine o_nil ?_
           refine x_then (hK20 _ _ ?_)
           refine c_block ?_
           refine c_loop3 (fun (i : Nat) (jb : Nat) (zb : Rw) => 1 ≤ i ∧ i ≤ zs.length ∧ jb < zs.length ∧ zs[jb]? = some zb ∧ (j0 < i → us[jb]? = some T0)) (fun (i : Nat) (jb : Nat) (zb : Rw) => [(13, .int .i64 i)]) [(0, _), (6, _), (7, _), (8, _), (10, _), (12, _)] (fun (i : Nat) (jb : Nat) (zb : Rw) => (b12, .cells (Erw zb).toArray 35 (0, 0)) :: (S67 ++ S3)) (fun (i : Nat) (jb : Nat) (zb : Rw) => zs.length - i) 1 0 z0 ⟨Nat.le_refl _, by omega, by omega, hz0, fun h => (by have e : j0 = 0 := (by omega); rw [e] at hj0; exact hj0)⟩ sbA sbA hzB ?_
           rintro i jb zb ⟨hi1, hi2, hjl, hzb, hbI⟩
           obtain ⟨Ub, hUb⟩ : ∃ U, us[jb]? = some U := ⟨_, List.getElem?_eq_getElem (by omega)⟩
           obtain ⟨Kb, rfl⟩ := hkn.2 jb zb Ub hzb hUb
           have hsb2 := hsm _ (List.mem_of_getElem? hUb)
           have hzb3 : zb.a = 0 ∧ zb.p = p ∧ zb.q = q := by obtain ⟨_, ex, _⟩ := dT_one.1 ((hA3.mem hL3 _).1 (List.mem_of_getElem? hUb)); simp only [TF.nd.injEq] at ex; exact ⟨ex.1, ex.2.1, ex.2.2.1⟩
           refine c_seq fun _ hK21 => ?_
           refine c_seq fun _ hK22 => ?_
           refine c_region ?_
           refine o_step rfl (s_move rfl) ?_
           refine o_step rfl (s_move rfl) ?_
           refine o_step rfl (s_len rfl) ?_
           by_cases hil : (i : Int) < zs.length
           ·
            obtain ⟨z, hz⟩ : ∃ z, zs[i]? = some z := ⟨_, List.getElem?_eq_getElem (by omega)⟩
            obtain ⟨U, hU⟩ : ∃ U, us[i]? = some U := ⟨_, List.getElem?_eq_getElem (by have := hkn.1; omega)⟩
            obtain ⟨Ki, rfl⟩ := hkn.2 i z U hz hU
            have hsi := hsm _ (List.mem_of_getElem? hU)
            have hz3 : z.a = 0 ∧ z.p = p ∧ z.q = q := by obtain ⟨_, ex, _⟩ := dT_one.1 ((hA3.mem hL3 _).1 (List.mem_of_getElem? hU)); simp only [TF.nd.injEq] at ex; exact ⟨ex.1, ex.2.1, ex.2.2.1⟩
            refine o_step rfl (step_cast (v' := .bool true) (s_lss rfl rfl) (by rw [decide_eq_true (by omega)])) ?_
            refine o_nil ?_
            refine x_then (hK22 _ _ ?_)
            refine c_true rfl ?_
            refine c_skip ?_
            refine x_then (hK21 _ _ ?_)
            refine c_seq fun _ hK23 => ?_
            refine c_block ?_
            refine c_seq fun _ hK24 => ?_
            refine c_drawE ((b12, .cells (Erw zb).toArray 35 (0, 0)) :: S3) (fun i => false) ?_
            refine e_take 0 rfl (by kernel_rfl) (by kernel_rfl) (by kernel_rfl) (by kernel_rfl) (fun _ _ => rfl) rfl hzB (s_move rfl) ?_
            refine e_take 1 rfl (by kernel_rfl) (by kernel_rfl) (by kernel_rfl) (by kernel_rfl) (fun _ _ => rfl) rfl hzB (s_move rfl) ?_
            refine e_take 2 rfl (by kernel_rfl) (by kernel_rfl) (by kernel_rfl) (by kernel_rfl) (fun _ _ => rfl) rfl hzB (s_idx rfl rfl hs3 (by omega)) ?_
            refine e_take 3 rfl (by kernel_rfl) (by kernel_rfl) (by kernel_rfl) (by kernel_rfl) (fun _ _ => rfl) rfl hzB (s_ldB rfl ((hR3.rdk hiA).lds i hz rfl) lnA) ?_
            refine e_take 4 rfl (by kernel_rfl) (by kernel_rfl) (by kernel_rfl) (by kernel_rfl) (fun _ _ => rfl) rfl hzB (s_ldB rfl (RdPK.cels (.own meA)) lnA) ?_
            refine e_one 5 rfl (by kernel_rfl) ?_
            refine o_callP (better_all Ki Kb z zb hsi.2.2.1 hsb2.2.2.1) rfl rfl rfl (fun w2 st => ⟨((hA3.rows w2 (Bears.of st hiA) Bears.nil).get i z _ hz hU).kid, ((hA3.rows w2 (Bears.of st hiA) Bears.nil).get jb zb _ hzb hUb).kid⟩) (fun v97 hv97 => ?_)
            subst hv97
            refine o_nil ?_
            refine x_oneS hzB ?_
            refine e_one 6 rfl (by kernel_rfl) ?_
            by_cases hbg : Mc.bt Ki Kb > 0
            ·
             refine o_step rfl (step_cast (v' := .bool true) (s_gtr rfl rfl) (by rw [decide_eq_true (by omega)])) ?_
             refine o_nil ?_
             refine x_oneS hzB ?_
             refine e_done (by kernel_rfl) ?_
             refine x_then (hK24 _ _ ?_)
             refine c_true rfl ?_
             refine c_region ?_
             refine o_step rfl (s_move rfl) ?_
             refine o_step rfl (s_move rfl) ?_
             refine o_step rfl (s_idx rfl rfl hs3 (by omega)) ?_
             refine o_step rfl (s_ldB rfl ((hR3.rdk hiA).lds i hz rfl) lnA) ?_
             refine o_stW rfl rfl upA lnA lnA onA ?_
             refine o_nil ?_
             refine x_block ?_
             refine x_then (hK23 _ _ ?_)
             refine c_region ?_
             refine o_step rfl (s_move rfl) ?_
             refine o_step rfl (s_add rfl rfl (by omega)) ?_
             refine o_step rfl (s_assign rfl) ?_
             refine o_nil ?_
             exact x_then (x_inv (i + 1, i, z) ⟨by dsimp only; omega, by dsimp only; omega, by dsimp only; omega, hz, (best_step hbest hj0 hU hUb hbI).1 (by rw [bt_wrap2 (by omega) (by omega) (by omega)]; exact hbg)⟩ (by first | omega | (dsimp only; omega)) sbA hzB)
            ·
             refine o_step rfl (step_cast (v' := .bool false) (s_gtr rfl rfl) (by rw [decide_eq_false (by omega)])) ?_
             refine o_nil ?_
             refine x_oneS hzB ?_
             refine e_done (by kernel_rfl) ?_
             refine x_then (hK24 _ _ ?_)
             refine c_false rfl ?_
             refine c_skip ?_
             refine x_block ?_
             refine x_then (hK23 _ _ ?_)
             refine c_region ?_
             refine o_step rfl (s_move rfl) ?_
             refine o_step rfl (s_add rfl rfl (by omega)) ?_
             refine o_step rfl (s_assign rfl) ?_
             refine o_nil ?_
             exact x_then (x_inv (i + 1, jb, zb) ⟨by dsimp only; omega, by dsimp only; omega, hjl, hzb, (best_step hbest hj0 hU hUb hbI).2 (by rw [bt_wrap2 (by omega) (by omega) (by omega)]; exact hbg)⟩ (by first | omega | (dsimp only; omega)) sbA hzB)
           ·
            have hilE : i = zs.length := by omega
            refine o_step rfl (step_cast (v' := .bool false) (s_lss rfl rfl) (by rw [decide_eq_false (by omega)])) ?_
            refine o_nil ?_
            refine x_then (hK22 _ _ ?_)
            refine c_false rfl ?_
            refine c_exit ?_
            refine x_then_exit ?_
            refine x_then_exit ?_
            refine x_block_exit ?_
            refine x_then (hK19 _ _ ?_)
            refine c_seq fun _ hK25 => ?_
            refine c_seq fun _ hK26 => ?_
            refine c_region ?_
            refine o_step rfl (s_assign rfl) ?_
            refine o_nil ?_
            refine x_then (hK26 _ _ ?_)
            refine c_block ?_
            -- not carried: 6
            have hTb := hbI (by omega)
            rw [hUb] at hTb
            have hTb := Option.some.inj hTb
            refine c_loopB (fun (i : Nat) => i ≤ zs.length) (fun (i : Nat) => [(14, .int .i64 i)]) [(0, _), (7, _), (8, _), (10, _), (12, _)] (fun (i : Nat) => (b12, .cells (Erw zb).toArray 35 (0, 0)) :: (S67 ++ S3)) (fun (i : Nat) => zs.length - i) 0 (Nat.zero_le _) sbA sbA hzB ?_
            rintro i hi
            refine c_seq fun _ hK27 => ?_
            refine c_seq fun _ hK28 => ?_
            refine c_region ?_
            refine o_step rfl (s_move rfl) ?_
            refine o_step rfl (s_move rfl) ?_
            refine o_step rfl (s_len rfl) ?_
            by_cases hil : (i : Int) < zs.length
            ·
             obtain ⟨z, hz⟩ : ∃ z, zs[i]? = some z := ⟨_, List.getElem?_eq_getElem (by omega)⟩
             obtain ⟨U, hU⟩ : ∃ U, us[i]? = some U := ⟨_, List.getElem?_eq_getElem (by have := hkn.1; omega)⟩
             obtain ⟨Ki, rfl⟩ := hkn.2 i z U hz hU
             have hsi := hsm _ (List.mem_of_getElem? hU)
             have hz3 : z.a = 0 ∧ z.p = p ∧ z.q = q := by obtain ⟨_, ex, _⟩ := dT_one.1 ((hA3.mem hL3 _).1 (List.mem_of_getElem? hU)); simp only [TF.nd.injEq] at ex; exact ⟨ex.1, ex.2.1, ex.2.2.1⟩
             have hb1 := hbest _ (List.mem_of_getElem? hU)
             have hbK : Mc.bt Ki Kb ≤ 0 ∧ 0 ≤ Mc.bt Kb Ki := by rcases hb1 with h | ⟨h1, h2⟩; (· rw [← hTb] at h; simp only [TF.nd.injEq] at h; rw [h.2.2.2.1, bt_self]; exact ⟨Int.le_refl _, Int.le_refl _⟩); (· rw [← hTb, bt_wrap2 (by omega) (by omega) (by omega)] at h1 h2; omega)
             refine o_step rfl (step_cast (v' := .bool true) (s_lss rfl rfl) (by rw [decide_eq_true (by omega)])) ?_
             refine o_nil ?_
             refine x_then (hK28 _ _ ?_)
             refine c_true rfl ?_
             refine c_skip ?_
             refine x_then (hK27 _ _ ?_)
             refine c_seq fun _ hK29 => ?_
             refine c_block ?_
             refine c_seq fun _ hK30 => ?_
             refine c_drawE ((b12, .cells (Erw zb).toArray 35 (0, 0)) :: S3) (fun i => false) ?_
             refine e_take 0 rfl (by kernel_rfl) (by kernel_rfl) (by kernel_rfl) (by kernel_rfl) (fun _ _ => rfl) rfl hzB (s_move rfl) ?_
             refine e_take 1 rfl (by kernel_rfl) (by kernel_rfl) (by kernel_rfl) (by kernel_rfl) (fun _ _ => rfl) rfl hzB (s_move rfl) ?_
             refine e_take 2 rfl (by kernel_rfl) (by kernel_rfl) (by kernel_rfl) (by kernel_rfl) (fun _ _ => rfl) rfl hzB (s_idx rfl rfl hs3 (by omega)) ?_
             refine e_take 3 rfl (by kernel_rfl) (by kernel_rfl) (by kernel_rfl) (by kernel_rfl) (fun _ _ => rfl) rfl hzB (s_ldB rfl ((hR3.rdk hiA).lds i hz rfl) lnA) ?_
             refine e_take 4 rfl (by kernel_rfl) (by kernel_rfl) (by kernel_rfl) (by kernel_rfl) (fun _ _ => rfl) rfl hzB (s_ldB rfl (RdPK.cels (.own meA)) lnA) ?_
             refine e_one 5 rfl (by kernel_rfl) ?_
             refine o_callP (better_all Ki Kb z zb hsi.2.2.1 hsb2.2.2.1) rfl rfl rfl (fun w2 st => ⟨((hA3.rows w2 (Bears.of st hiA) Bears.nil).get i z _ hz hU).kid, ((hA3.rows w2 (Bears.of st hiA) Bears.nil).get jb zb _ hzb hUb).kid⟩) (fun v114 hv114 => ?_)
             subst hv114
             refine o_nil ?_
             refine x_oneS hzB ?_
             refine e_one 6 rfl (by kernel_rfl) ?_
             refine o_step rfl (s_gtr_f rfl rfl (by omega)) ?_
             refine o_nil ?_
             refine x_oneS hzB ?_
             refine e_one 7 rfl (by kernel_rfl) ?_
             refine o_step rfl (s_move rfl) ?_
             refine o_nil ?_
             refine x_oneS hzB ?_
             refine e_take 8 rfl (by kernel_rfl) (by kernel_rfl) (by kernel_rfl) (by kernel_rfl) (fun _ fr => by rw [wanted_of fr rfl rfl rfl]; rfl) rfl hzB (s_ldB rfl (RdPK.cels (.own meA)) lnA) ?_
             refine e_take 9 rfl (by kernel_rfl) (by kernel_rfl) (by kernel_rfl) (by kernel_rfl) (fun _ fr => by rw [wanted_of fr rfl rfl rfl]; rfl) rfl hzB (s_move rfl) ?_
             refine e_take 10 rfl (by kernel_rfl) (by kernel_rfl) (by kernel_rfl) (by kernel_rfl) (fun _ fr => by rw [wanted_of fr rfl rfl rfl]; rfl) rfl hzB (s_move rfl) ?_
             refine e_take 11 rfl (by kernel_rfl) (by kernel_rfl) (by kernel_rfl) (by kernel_rfl) (fun _ fr => by rw [wanted_of fr rfl rfl rfl]; rfl) rfl hzB (s_idx rfl rfl hs3 (by omega)) ?_
             refine e_take 12 rfl (by kernel_rfl) (by kernel_rfl) (by kernel_rfl) (by kernel_rfl) (fun _ fr => by rw [wanted_of fr rfl rfl rfl]; rfl) rfl hzB (s_ldB rfl ((hR3.rdk hiA).lds i hz rfl) lnA) ?_
             refine e_one 13 rfl (by kernel_rfl) ?_
             refine o_yes rfl rfl ?_
             refine o_callP (better_all Kb Ki zb z hsb2.2.2.1 hsi.2.2.1) rfl rfl rfl (fun w2 st => ⟨((hA3.rows w2 (Bears.of st hiA) Bears.nil).get jb zb _ hzb hUb).kid, ((hA3.rows w2 (Bears.of st hiA) Bears.nil).get i z _ hz hU).kid⟩) (fun v122 hv122 => ?_)
             subst hv122
             refine o_nil ?_
             refine x_oneS hzB ?_
             refine e_one 14 rfl (by kernel_rfl) ?_
             refine o_yes rfl rfl ?_
             refine o_step rfl (s_lss_f rfl rfl (by omega)) ?_
             refine o_nil ?_
             refine x_oneS hzB ?_
             refine e_one 15 rfl (by kernel_rfl) ?_
             refine o_step rfl (s_pick_f rfl rfl) ?_
             refine o_nil ?_
             refine x_oneS hzB ?_
             refine e_done (by kernel_rfl) ?_
             refine x_then (hK30 _ _ ?_)
             refine c_false rfl ?_
             refine c_skip ?_
             refine x_block ?_
             refine x_then (hK29 _ _ ?_)
             refine c_region ?_
             refine o_step rfl (s_move rfl) ?_
             refine o_step rfl (s_add rfl rfl (by omega)) ?_
             refine o_step rfl (s_assign rfl) ?_
             refine o_nil ?_
             exact x_then (x_inv (i + 1) (by omega) (by first | omega | (dsimp only; omega)) sbA hzB)
            ·
             refine o_step rfl (step_cast (v' := .bool false) (s_lss rfl rfl) (by rw [decide_eq_false (by omega)])) ?_
             refine o_nil ?_
             refine x_then (hK28 _ _ ?_)
             refine c_false rfl ?_
             refine c_exit ?_
             refine x_then_exit ?_
             refine x_then_exit ?_
             refine x_block_exit ?_
             refine x_then (hK25 _ _ ?_)
             refine c_seq fun _ hK31 => ?_
             have hcap : capsV w re x ks p q = (bst w (.nd x ks .nil) false p q (List.replicate (gcn re + 1) noS)).set 0 ⟨zb.p, zb.q⟩ := by rw [bst_one hd, hzb3.2.1, hzb3.2.2]; rfl
             refine c_region ?_
             refine o_step rfl (s_move rfl) ?_
             refine o_step rfl (s_move rfl) ?_
             refine o_yes rfl rfl ?_
             refine o_step rfl (s_move rfl) ?_
             refine o_yes rfl rfl ?_
             refine o_step rfl (s_move rfl) ?_
             refine o_yes rfl rfl ?_
             refine o_step rfl (s_ldB rfl (RdPK.cels (.own meA)) lnA) ?_
             refine o_yes rfl rfl ?_
             refine o_call (rCaptures_fn ra rc re hre hr8 (by omega) hsb zb Kb (bst w (.nd x ks .nil) false p q (List.replicate (gcn re + 1) noS)) (by rw [hTb]; exact htld (List.replicate (gcn re + 1) noS))) rfl rfl rfl (by exact .nil) (fun w2 st => ⟨(RdK.old0 hw.1).out w2 st, ((hA3.rows w2 (Bears.of st hiA) Bears.nil).get jb zb _ hzb hUb).kid⟩) (fun v130 S130 ⟨a130, c130, hv130, hS130⟩ => ?_)
             subst hv130
             refine o_yes rfl rfl ?_
             refine o_callP (eqSpans_fn a67 a130 c67 c130 _ _) rfl rfl rfl (fun w2 st => ⟨(hO67.rdk hiA).out w2 st, (hS130.rdk hiA).out w2 st⟩) (fun v131 hv131 => ?_)
             rw [decide_eq_true hcap] at hv131
             subst hv131
             refine o_step rfl (s_pick_t rfl rfl) ?_
             refine o_step rfl (s_assign rfl) ?_
             refine o_nil ?_
             refine x_then (hK31 _ _ ?_)
             refine c_ret ?_
             refine ?_
             exact x_ret rfl (.tmp rfl (.nil)) (rfl)
          ·
           have hus : us = [] := by cases us with | nil => rfl | cons T l => exact absurd (dT_der _ _ _ _ _ _ hmx.part.wf ((hA3.mem hL3 T).1 List.mem_cons_self)) fun h => hnb ⟨x, ks, p, q, ⟨hsb, hrb, hmx⟩, rfl, rfl, by omega, by omega, h⟩
           have hzl : zs.length = 0 := by rw [hkn.1, hus]; rfl
           refine o_step rfl (s_move rfl) ?_
           refine o_step rfl (s_extract rfl rfl) ?_
           refine o_step rfl (s_extract rfl rfl) ?_
           refine o_step rfl (s_assign rfl) ?_
           refine o_step rfl (s_assign rfl) ?_
           refine o_nil ?_
           refine x_then (hK13 _ _ ?_)
           refine c_seq fun _ hK32 => ?_
           refine c_seq fun _ hK33 => ?_
           refine c_region ?_
           refine o_step rfl (s_move rfl) ?_
           refine o_step rfl (s_move rfl) ?_
           refine o_step rfl (s_len rfl) ?_
           refine o_step rfl (s_gtr_f rfl rfl (by omega)) ?_
           refine o_step rfl (step_cast (v' := .bool false) (s_neq_bool rfl rfl) (by simp)) ?_
           refine o_nil ?_
           refine x_then (hK33 _ _ ?_)
           refine c_false rfl ?_
           refine c_skip ?_
           refine x_then (hK32 _ _ ?_)
           refine c_seq fun _ hK34 => ?_
           refine c_seq fun _ hK35 => ?_
           refine c_region ?_
           refine o_step rfl (s_move rfl) ?_
           refine o_step rfl (step_cast (v' := .bool true) (s_not rfl) rfl) ?_
           refine o_nil ?_
           refine x_then (hK35 _ _ ?_)
           refine c_true rfl ?_
           refine c_seq fun _ hK36 => ?_
           refine c_region ?_
           refine o_step rfl (s_move rfl) ?_
           refine o_step rfl (s_move rfl) ?_
           refine o_yes rfl rfl ?_
           refine o_step rfl (s_move rfl) ?_
           refine o_yes rfl rfl ?_
           refine o_step rfl (s_len rfl) ?_
           refine o_yes rfl rfl ?_
           refine o_step rfl (s_eql_t rfl rfl (by rfl)) ?_
           refine o_step rfl (s_pick_t rfl rfl) ?_
           refine o_step rfl (s_assign rfl) ?_
           refine o_nil ?_
           refine x_then (hK36 _ _ ?_)
           refine c_ret ?_
           refine x_then_ret (?_)
           exact x_ret rfl (.tmp rfl (.nil)) (rfl)
         ·
          refine o_step rfl (step_cast (v' := .bool false) (s_extract rfl rfl) (by rw [decide_eq_false hL3]; rfl)) ?_
          refine o_step rfl (s_assign rfl) ?_
          refine o_step rfl (s_assign rfl) ?_
          refine o_nil ?_
          refine x_then (hK10 _ _ ?_)
          refine c_seq fun _ hK37 => ?_
          refine c_seq fun _ hK38 => ?_
          refine c_region ?_
          refine o_step rfl (s_move rfl) ?_
          refine o_step rfl (s_not rfl) ?_
          refine o_nil ?_
          refine x_then (hK38 _ _ ?_)
          refine c_true rfl ?_
          refine c_seq fun _ hK39 => ?_
          refine c_region ?_
          refine o_step rfl (s_move rfl) ?_
          refine o_step rfl (s_assign rfl) ?_
          refine o_nil ?_
          refine x_then (hK39 _ _ ?_)
          refine c_ret ?_
          refine x_then_ret (?_)
          exact x_ret rfl (.tmp rfl (.nil)) (rfl)
     ·
      have hmf : (shapedB re && !refsB re) = false := by simpa using hmay
      rw [hmf] at hv30
      subst hv30
      refine o_yes rfl rfl ?_
      refine o_step rfl (s_not rfl) ?_
      refine o_step rfl (s_pick_f rfl rfl) ?_
      refine o_step rfl (s_move rfl) ?_
      refine o_no rfl rfl rfl rfl ?_
      refine o_no rfl rfl rfl rfl ?_
      refine o_no rfl rfl rfl rfl ?_
      refine o_step rfl (s_pick_t rfl rfl) ?_
      refine o_step rfl (s_move rfl) ?_
      refine o_no rfl rfl rfl rfl ?_
      refine o_no rfl rfl rfl rfl ?_
      refine o_no rfl rfl rfl rfl ?_
      refine o_no rfl rfl rfl rfl ?_
      refine o_no rfl rfl rfl rfl ?_
      refine o_step rfl (s_pick_t rfl rfl) ?_
      refine o_step rfl (s_move rfl) ?_
      refine o_no rfl rfl rfl rfl ?_
      refine o_no rfl rfl rfl rfl ?_
      refine o_no rfl rfl rfl rfl ?_
      refine o_no rfl rfl rfl rfl ?_
      refine o_no rfl rfl rfl rfl ?_
      refine o_step rfl (s_pick_t rfl rfl) ?_
      refine o_nil ?_
      refine x_then (hK4 _ _ ?_)
      refine c_true rfl ?_
      refine c_seq fun _ hK40 => ?_
      refine c_region ?_
      refine o_step rfl (s_move rfl) ?_
      refine o_step rfl (s_assign rfl) ?_
      refine o_nil ?_
      refine x_then (hK40 _ _ ?_)
      refine c_ret ?_
      refine x_then_ret (?_)
      exact x_ret rfl (.tmp rfl (.nil)) (rfl)
  ·
   refine o_step rfl (s_move rfl) ?_
   refine o_no rfl rfl rfl rfl ?_
   refine o_no rfl rfl rfl rfl ?_
   refine o_no rfl rfl rfl rfl ?_
   refine o_step rfl (s_pick_t rfl rfl) ?_
   refine o_step rfl (s_move rfl) ?_
   refine o_no rfl rfl rfl rfl ?_
   refine o_no rfl rfl rfl rfl ?_
   refine o_no rfl rfl rfl rfl ?_
   refine o_step rfl (s_pick_t rfl rfl) ?_
   refine o_step rfl (s_move rfl) ?_
   refine o_no rfl rfl rfl rfl ?_
   refine o_no rfl rfl rfl rfl ?_
   refine o_no rfl rfl rfl rfl ?_
   refine o_step rfl (s_pick_t rfl rfl) ?_
   refine o_step rfl (s_move rfl) ?_
   refine o_no rfl rfl rfl rfl ?_
   refine o_no rfl rfl rfl rfl ?_
   refine o_no rfl rfl rfl rfl ?_
   refine o_step rfl (s_pick_t rfl rfl) ?_
   refine o_step rfl (s_move rfl) ?_
   refine o_no rfl rfl rfl rfl ?_
   refine o_no rfl rfl rfl rfl ?_
   refine o_no rfl rfl rfl rfl ?_
   refine o_no rfl rfl rfl rfl ?_
   refine o_no rfl rfl rfl rfl ?_
   refine o_step rfl (s_pick_t rfl rfl) ?_
   refine o_step rfl (s_move rfl) ?_
   refine o_no rfl rfl rfl rfl ?_
   refine o_no rfl rfl rfl rfl ?_
   refine o_no rfl rfl rfl rfl ?_
   refine o_no rfl rfl rfl rfl ?_
   refine o_no rfl rfl rfl rfl ?_
   refine o_step rfl (s_pick_t rfl rfl) ?_
   refine o_nil ?_
   refine x_then (hK4 _ _ ?_)
   refine c_true rfl ?_
   refine c_seq fun _ hK41 => ?_
   refine c_region ?_
   refine o_step rfl (s_move rfl) ?_
   refine o_step rfl (s_assign rfl) ?_
   refine o_nil ?_
   refine x_then (hK41 _ _ ?_)
   refine c_ret ?_
   refine x_then_ret (?_)
   exact x_ret rfl (.tmp rfl (.nil)) (rfl)
end Go.Proofs.Ytiggliigookieaa
