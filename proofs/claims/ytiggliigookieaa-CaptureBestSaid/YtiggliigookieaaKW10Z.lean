/- Part of the proofs over this seat: see the text that holds the theorem. Conditions: each theorem bears its own. -/
import Derived.Test.YtiggliigookieaaMOZ
import Derived.Test.YtiggliigookieaaKN5Z
import Derived.Test.YtiggliigookieaaM1Z
import Derived.Test.YtiggliigookieaaKF1Z
import Derived.Test.YtiggliigookieaaKN1Z
import Derived.Test.YtiggliigookieaaHlB
namespace Go.Proofs.Ytiggliigookieaa
open Go Go.HL Go.Proofs Go.HL.Kl Go.HL.Kl.Mc Go.HL.Kl.Mc.AskE
theorem letter_fn (b : UInt8) : HL.Fn Try.prog 19 [.int .u8 b.toNat] (fun _ => True) [] (fun v _ => v = .agg (En (letN b)).toArray) := by
  refine fn_of Try.func19 rfl rfl rfl fun w0 hw => ?_
  have hx := b.toNat_lt
  refine c_seq fun _ hK1 => ?_
  refine c_region ?_
  refine o_alloc (l := En zN) (by rw [En_zero]; rfl) rfl fun b2 => ?_
  refine o_nil ?_
  refine x_then (hK1 _ _ ?_)
  refine c_seq fun _ hK2 => ?_
  refine c_region ?_
  refine o_step rfl (step_cast (v' := .agg (En (⟨1, 0, 0, 0, 0, 0⟩ : Nd)).toArray) (s_build (cs := [_, _, _, _, _, _, _, _, _]) (vs := [_]) rfl rfl (.cons rfl rfl rfl rfl rfl .nil)) (by rw [En_one])) ?_
  refine o_alloc (l := En zN) (by rw [En_zero]; rfl) rfl fun b3 => ?_
  refine o_stW rfl rfl upA lnA lnA onA ?_
  refine o_nil ?_
  refine x_then (hK2 _ _ ?_)
  refine c_seq fun _ hK3 => ?_
  refine c_region ?_
  refine o_step rfl (s_move rfl) ?_
  refine o_step rfl (step_cast (v' := .int .u8 ((b.toNat / 64 : Nat) : Int)) (s_quo rfl rfl (by decide)) (congrArg _ (quo64 hx))) ?_
  refine o_step rfl (s_move rfl) ?_
  refine o_step rfl (step_cast (v' := .int .u8 ((b.toNat % 64 : Nat) : Int)) (s_rem rfl rfl (by decide)) (congrArg _ (rem64 hx))) ?_
  refine o_step rfl (step_cast (v' := Ew (1#64 <<< (b.toNat % 64))) (s_shl rfl rfl (by omega)) (v_shl1 (by omega))) ?_
  refine o_step rfl (s_field rfl rfl (by decide)) ?_
  refine o_step rfl (s_indexA rfl rfl (by omega)) ?_
  refine o_store rfl rfl rfl upA (by show _ < 9; omega) rfl ?_
  rw [letN_set b]
  refine o_nil ?_
  refine x_then (hK3 _ _ ?_)
  refine c_seq fun _ hK4 => ?_
  refine c_region ?_
  refine o_step rfl (s_ldB rfl (RdPK.cels (.own meA)) lnA) ?_
  refine o_stW rfl rfl upA lnA lnA onA ?_
  refine o_nil ?_
  refine x_then (hK4 _ _ ?_)
  refine c_ret ?_
  refine ?_
  exact x_ret rfl (.agg inferInstance inferInstance rfl (RdPK.cels (.own meA)) lnA (.nil)) (rfl)

theorem eqSpans_fn (a a2 : Option Addr) (c c2 : Nat) (xs ys : List Sp) : HL.Fn Try.prog 12 [.slice a xs.length c, .slice a2 ys.length c2] (fun w => Rd Esp w (.slice a xs.length c) xs ∧ Rd Esp w (.slice a2 ys.length c2) ys) [] (fun v _ => v = .bool (decide (xs = ys))) := by
  refine fn_of Try.func12 rfl rfl rfl fun w0 hw => ?_
  obtain ⟨hx, hy⟩ := hw
  have hsx := hx.sl
  have hsy := hy.sl
  have hbx := hsx.le
  have hby := hsy.le
  refine c_seq fun _ hK1 => ?_
  refine c_region ?_
  refine o_step rfl (s_assign rfl) ?_
  refine o_nil ?_
  refine x_then (hK1 _ _ ?_)
  refine c_seq fun _ hK2 => ?_
  refine c_seq fun _ hK3 => ?_
  refine c_region ?_
  refine o_step rfl (s_move rfl) ?_
  refine o_step rfl (s_len rfl) ?_
  refine o_step rfl (s_move rfl) ?_
  refine o_step rfl (s_len rfl) ?_
  refine o_step rfl (s_neq rfl rfl) ?_
  refine o_nil ?_
  refine x_then (hK3 _ _ ?_)
  refine c_if rfl (fun hl => ?_) (fun hl => ?_)
  ·
   refine c_seq fun _ hK4 => ?_
   refine c_region ?_
   refine o_step rfl (s_assign rfl) ?_
   refine o_nil ?_
   refine x_then (hK4 _ _ ?_)
   refine c_ret ?_
   refine x_then_ret (?_)
   exact x_ret rfl (.tmp rfl (.nil)) ((congrArg Value.bool (decide_eq_false (by intro e; subst e; omega)).symm))
  ·
   refine c_skip ?_
   refine x_then (hK2 _ _ ?_)
   refine c_seq fun _ hK5 => ?_
   refine c_seq fun _ hK6 => ?_
   refine c_region ?_
   refine o_step rfl (s_assign rfl) ?_
   refine o_nil ?_
   refine x_then (hK6 _ _ ?_)
   refine c_block ?_
   -- not carried: 4
   refine c_loopB (fun (j : Nat) => j ≤ xs.length ∧ ∀ i, i < j → xs[i]? = ys[i]?) (fun (j : Nat) => [(5, .int .i64 j)]) [(0, _), (1, _)] (fun (j : Nat) => _) (fun (j : Nat) => xs.length - j) 0 ⟨by omega, fun i hi => by omega⟩ sbA sbA hzB ?_
   rintro j ⟨hj, hjt⟩
   refine c_seq fun _ hK7 => ?_
   refine c_seq fun _ hK8 => ?_
   refine c_region ?_
   refine o_step rfl (s_move rfl) ?_
   refine o_step rfl (s_move rfl) ?_
   refine o_step rfl (s_len rfl) ?_
   refine o_step rfl (s_lss rfl rfl) ?_
   refine o_nil ?_
   refine x_then (hK8 _ _ ?_)
   refine c_if rfl (fun hlt => ?_) (fun hlt => ?_)
   ·
    obtain ⟨x, hxj⟩ : ∃ x, xs[j]? = some x := ⟨_, List.getElem?_eq_getElem (by omega)⟩
    obtain ⟨y, hyj⟩ : ∃ y, ys[j]? = some y := ⟨_, List.getElem?_eq_getElem (by omega)⟩
    refine c_skip ?_
    refine x_then (hK7 _ _ ?_)
    refine c_seq fun _ hK9 => ?_
    refine c_block ?_
    refine c_seq fun _ hK10 => ?_
    refine c_drawE ([]) (fun i => false) ?_
    refine e_take 0 rfl (by kernel_rfl) (by kernel_rfl) (by kernel_rfl) (by kernel_rfl) (fun _ _ => rfl) rfl (by exact HSub.nil) (s_move rfl) ?_
    refine e_take 1 rfl (by kernel_rfl) (by kernel_rfl) (by kernel_rfl) (by kernel_rfl) (fun _ _ => rfl) rfl (by exact HSub.nil) (s_move rfl) ?_
    refine e_take 2 rfl (by kernel_rfl) (by kernel_rfl) (by kernel_rfl) (by kernel_rfl) (fun _ _ => rfl) rfl (by exact HSub.nil) (s_idx rfl rfl hsx (by omega)) ?_
    refine e_take 3 rfl (by kernel_rfl) (by kernel_rfl) (by kernel_rfl) (by kernel_rfl) (fun _ _ => rfl) rfl (by exact HSub.nil) (s_ldB rfl ((RdK.old0 hx).lds j hxj (by omega)) (by rfl)) ?_
    refine e_take 4 rfl (by kernel_rfl) (by kernel_rfl) (by kernel_rfl) (by kernel_rfl) (fun _ _ => rfl) rfl (by exact HSub.nil) (s_move rfl) ?_
    refine e_take 5 rfl (by kernel_rfl) (by kernel_rfl) (by kernel_rfl) (by kernel_rfl) (fun _ _ => rfl) rfl (by exact HSub.nil) (s_move rfl) ?_
    refine e_take 6 rfl (by kernel_rfl) (by kernel_rfl) (by kernel_rfl) (by kernel_rfl) (fun _ _ => rfl) rfl (by exact HSub.nil) (s_idx rfl rfl hsy (by omega)) ?_
    refine e_take 7 rfl (by kernel_rfl) (by kernel_rfl) (by kernel_rfl) (by kernel_rfl) (fun _ _ => rfl) rfl (by exact HSub.nil) (s_ldB rfl ((RdK.old0 hy).lds j hyj (by omega)) (by rfl)) ?_
    refine e_take 8 rfl (by kernel_rfl) (by kernel_rfl) (by kernel_rfl) (by kernel_rfl) (fun _ _ => rfl) rfl (by exact HSub.nil) (s_neq_sp rfl rfl) ?_
    refine e_done (by kernel_rfl) ?_
    refine x_then (hK10 _ _ ?_)
    refine c_ifn rfl (fun hne => ?_) (fun hne => ?_)
    ·
     refine c_seq fun _ hK11 => ?_
     refine c_region ?_
     refine o_step rfl (s_assign rfl) ?_
     refine o_nil ?_
     refine x_then (hK11 _ _ ?_)
     refine c_ret ?_
     refine x_block_ret (x_then_ret (x_then_ret (x_block_ret (x_then_ret (?_)))))
     exact x_ret rfl (.tmp rfl (.nil)) ((congrArg Value.bool (decide_eq_false (by intro e; subst e; rw [hxj] at hyj; cases hyj; exact hne rfl)).symm))
    ·
     refine c_skip ?_
     refine x_block ?_
     refine x_then (hK9 _ _ ?_)
     refine c_region ?_
     refine o_step rfl (s_move rfl) ?_
     refine o_step rfl (s_add rfl rfl (by omega)) ?_
     refine o_step rfl (s_assign rfl) ?_
     refine o_nil ?_
     exact x_then (x_inv (j + 1) ⟨by omega, fun i hi => by rcases Nat.lt_or_ge i j with h | h; exact hjt i h; rw [show i = j by omega, hxj, hyj, hne]⟩ (by first | omega | (dsimp only; omega)) sbA hzB)
   ·
    refine c_exit ?_
    refine x_then_exit ?_
    refine x_then_exit ?_
    refine x_block_exit ?_
    refine x_then (hK5 _ _ ?_)
    refine c_seq fun _ hK12 => ?_
    refine c_region ?_
    refine o_step rfl (s_assign rfl) ?_
    refine o_nil ?_
    refine x_then (hK12 _ _ ?_)
    refine c_ret ?_
    refine ?_
    exact x_ret rfl (.tmp rfl (.nil)) ((congrArg Value.bool (decide_eq_true (ext_upto (by omega) fun i hi => hjt i (by omega))).symm))

theorem may_fn (ra : Option Addr) (rc : Nat) (re : List Nd) (hre : ∀ x ∈ re, -128 ≤ x.op ∧ x.op < 128) : HL.Fn Try.prog 8 [.slice ra re.length rc] (fun w => Rd En w (.slice ra re.length rc) re) [] (fun v _ => v = .bool (shapedB re && !refsB re)) := by
  refine fn_of Try.func8 rfl rfl rfl fun w0 hw => ?_
  refine c_seq fun _ hK1 => ?_
  refine c_region ?_
  refine o_step rfl (s_assign rfl) ?_
  refine o_nil ?_
  refine x_then (hK1 _ _ ?_)
  refine c_seq fun _ hK2 => ?_
  refine c_region ?_
  refine o_step rfl (s_move rfl) ?_
  refine o_callP (rShaped_fn ra rc re hre) rfl rfl rfl (fun w st => (RdK.old0 hw).out w st) (fun v4 hv4 => ?_)
  subst hv4
  cases hsb : shapedB re
  ·
   refine o_step rfl (s_move rfl) ?_
   refine o_no rfl rfl rfl rfl ?_
   refine o_no rfl rfl rfl rfl ?_
   refine o_no rfl rfl rfl rfl ?_
   refine o_step rfl (s_pick_f rfl rfl) ?_
   refine o_step rfl (s_assign rfl) ?_
   refine o_nil ?_
   refine x_then (hK2 _ _ ?_)
   refine c_ret ?_
   refine ?_
   exact x_ret rfl (.tmp rfl (.nil)) ((by rw [hsb]; rfl))
  ·
   refine o_step rfl (s_move rfl) ?_
   refine o_yes rfl rfl ?_
   refine o_step rfl (s_move rfl) ?_
   refine o_yes rfl rfl ?_
   refine o_callP (rRefs_fn ra rc re hre) rfl rfl rfl (fun w st => (RdK.old0 hw).out w st) (fun v7 hv7 => ?_)
   subst hv7
   refine o_yes rfl rfl ?_
   refine o_step rfl (s_not rfl) ?_
   refine o_step rfl (s_pick_t rfl rfl) ?_
   refine o_step rfl (s_assign rfl) ?_
   refine o_nil ?_
   refine x_then (hK2 _ _ ?_)
   refine c_ret ?_
   refine ?_
   exact x_ret rfl (.tmp rfl (.nil)) ((by rw [hsb]; rfl))

theorem rGroups_fn (ra : Option Addr) (rc : Nat) (re : List Nd) (hre : ∀ x ∈ re, -128 ≤ x.op ∧ x.op < 128) : HL.Fn Try.prog 17 [.slice ra re.length rc] (fun w => Rd En w (.slice ra re.length rc) re) [] (fun v _ => v = .int .i64 ((if shapedB re = true then gcn re else 0 : Nat) : Int)) := by
  refine fn_of Try.func17 rfl rfl rfl fun w0 hw => ?_
  have hsl := hw.sl
  have hbl := hsl.le
  refine c_seq fun _ hK1 => ?_
  refine c_region ?_
  refine o_step rfl (s_assign rfl) ?_
  refine o_nil ?_
  refine x_then (hK1 _ _ ?_)
  refine c_seq fun _ hK2 => ?_
  refine c_seq fun _ hK3 => ?_
  refine c_region ?_
  refine o_step rfl (s_move rfl) ?_
  refine o_callP (rShaped_fn ra rc re hre) rfl rfl rfl (fun w st => (RdK.old0 hw).out w st) (fun v6 hv6 => ?_)
  subst hv6
  cases hsb : shapedB re
  ·
   refine o_step rfl (s_not rfl) ?_
   refine o_nil ?_
   refine x_then (hK3 _ _ ?_)
   refine c_true rfl ?_
   refine c_seq fun _ hK4 => ?_
   refine c_region ?_
   refine o_step rfl (s_assign rfl) ?_
   refine o_nil ?_
   refine x_then (hK4 _ _ ?_)
   refine c_ret ?_
   refine x_then_ret (?_)
   exact x_ret rfl (.tmp rfl (.nil)) ((by rw [hsb]; rfl))
  ·
   refine o_step rfl (s_not rfl) ?_
   refine o_nil ?_
   refine x_then (hK3 _ _ ?_)
   refine c_false rfl ?_
   refine c_skip ?_
   refine x_then (hK2 _ _ ?_)
   refine c_seq fun _ hK5 => ?_
   refine c_region ?_
   refine o_step rfl (s_assign rfl) ?_
   refine o_nil ?_
   refine x_then (hK5 _ _ ?_)
   refine c_seq fun _ hK6 => ?_
   refine c_seq fun _ hK7 => ?_
   refine c_region ?_
   refine o_step rfl (s_assign rfl) ?_
   refine o_nil ?_
   refine x_then (hK7 _ _ ?_)
   refine c_block ?_
   refine c_loopB (fun (j : Nat) => j ≤ re.length) (fun (j : Nat) => [(4, .int .i64 j), (3, .int .i64 (gcn (re.take j) : Nat))]) [(0, _), (2, _)] (fun (j : Nat) => _) (fun (j : Nat) => re.length - j) 0 (Nat.zero_le _) sbA sbA hzB ?_
   rintro j hj
   refine c_seq fun _ hK8 => ?_
   refine c_seq fun _ hK9 => ?_
   refine c_region ?_
   refine o_step rfl (s_move rfl) ?_
   refine o_step rfl (s_move rfl) ?_
   refine o_step rfl (s_len rfl) ?_
   by_cases hjl : j < re.length
   ·
    obtain ⟨x, hx⟩ : ∃ x, re[j]? = some x := ⟨_, List.getElem?_eq_getElem hjl⟩
    have hxo := hre x (List.mem_of_getElem? hx)
    have hgl : gcn (re.take j) ≤ j := by have h1 := List.countP_le_length (p := fun x => decide (x.op = 7)) (l := re.take j); rw [List.length_take] at h1; unfold gcn; omega
    refine o_step rfl (step_cast (v' := .bool true) (s_lss rfl rfl) (by rw [decide_eq_true (by omega)])) ?_
    refine o_nil ?_
    refine x_then (hK9 _ _ ?_)
    refine c_true rfl ?_
    refine c_skip ?_
    refine x_then (hK8 _ _ ?_)
    refine c_seq fun _ hK10 => ?_
    refine c_block ?_
    refine c_seq fun _ hK11 => ?_
    refine c_region ?_
    refine o_step rfl (s_move rfl) ?_
    refine o_step rfl (s_move rfl) ?_
    refine o_step rfl (s_idx rfl rfl hsl (by omega)) ?_
    refine o_step rfl (s_field rfl rfl (by decide)) ?_
    refine o_step rfl (s_ld rfl ((RdK.old0 hw).ld j 0 hx rfl (by decide) (by omega))) ?_
    refine o_step rfl (s_convI rfl (by omega)) ?_
    by_cases h7 : x.op = 7
    ·
     refine o_step rfl (step_cast (v' := .bool true) (s_eql rfl rfl) (by rw [decide_eq_true h7])) ?_
     refine o_nil ?_
     refine x_then (hK11 _ _ ?_)
     refine c_true rfl ?_
     refine c_region ?_
     refine o_step rfl (s_move rfl) ?_
     refine o_step rfl (s_add rfl rfl (by omega)) ?_
     refine o_step rfl (s_assign rfl) ?_
     refine o_nil ?_
     refine x_block ?_
     refine x_then (hK10 _ _ ?_)
     refine c_region ?_
     refine o_step rfl (s_move rfl) ?_
     refine o_step rfl (s_add rfl rfl (by omega)) ?_
     refine o_step rfl (s_assign rfl) ?_
     refine o_nil ?_
     exact x_then (x_inv (j + 1) (by omega) (by first | omega | (dsimp only; omega)) (by exact Sub.cons rfl (Sub.cons' rfl (by rw [gcn_take hx, if_pos h7]; rfl) sbA)) hzB)
    ·
     refine o_step rfl (step_cast (v' := .bool false) (s_eql rfl rfl) (by rw [decide_eq_false h7])) ?_
     refine o_nil ?_
     refine x_then (hK11 _ _ ?_)
     refine c_false rfl ?_
     refine c_skip ?_
     refine x_block ?_
     refine x_then (hK10 _ _ ?_)
     refine c_region ?_
     refine o_step rfl (s_move rfl) ?_
     refine o_step rfl (s_add rfl rfl (by omega)) ?_
     refine o_step rfl (s_assign rfl) ?_
     refine o_nil ?_
     exact x_then (x_inv (j + 1) (by omega) (by first | omega | (dsimp only; omega)) (by exact Sub.cons rfl (Sub.cons' rfl (by rw [gcn_take hx, if_neg h7]; rfl) sbA)) hzB)
   ·
    obtain rfl : j = re.length := by omega
    refine o_step rfl (step_cast (v' := .bool false) (s_lss rfl rfl) (by rw [decide_eq_false (by omega)])) ?_
    refine o_nil ?_
    refine x_then (hK9 _ _ ?_)
    refine c_false rfl ?_
    refine c_exit ?_
    refine x_then_exit ?_
    refine x_then_exit ?_
    refine x_block_exit ?_
    refine x_then (hK6 _ _ ?_)
    refine c_seq fun _ hK12 => ?_
    refine c_region ?_
    refine o_step rfl (s_move rfl) ?_
    refine o_step rfl (s_assign rfl) ?_
    refine o_nil ?_
    refine x_then (hK12 _ _ ?_)
    refine c_ret ?_
    refine ?_
    exact x_ret rfl (.tmp rfl (.nil)) ((by rw [hsb, List.take_length]; rfl))

set_option maxHeartbeats 1000000 in
theorem works_fn  : HL.Fn Try.prog 6 [] (fun _ => True) [] (fun v _ => v = .bool true) := by
  refine fn_of Try.func6 rfl rfl rfl fun w0 hw => ?_
  refine c_seq fun _ hK1 => ?_
  refine c_region ?_
  refine o_step rfl (s_assign rfl) ?_
  refine o_nil ?_
  refine x_then (hK1 _ _ ?_)
  refine c_seq fun _ hK2 => ?_
  refine c_region ?_
  refine o_step rfl (step_cast (v' := .agg (En catC).toArray) (s_build (cs := [_, _, _, _, _, _, _, _, _]) (vs := [_, _]) rfl rfl (.cons rfl rfl rfl rfl rfl (.cons rfl rfl rfl rfl rfl (.nil)))) (by rw [En_catC])) ?_
  refine o_step rfl (step_cast (v' := .agg (En grpC).toArray) (s_build (cs := [_, _, _, _, _, _, _, _, _]) (vs := [_, _, _]) rfl rfl (.cons rfl rfl rfl rfl rfl (.cons rfl rfl rfl rfl rfl (.cons rfl rfl rfl rfl rfl (.nil))))) (by rw [En_grpC])) ?_
  refine o_step rfl (step_cast (v' := .agg (En starN).toArray) (s_build (cs := [_, _, _, _, _, _, _, _, _]) (vs := [_, _, _]) rfl rfl (.cons rfl rfl rfl rfl rfl (.cons rfl rfl rfl rfl rfl (.cons rfl rfl rfl rfl rfl (.nil))))) (by rw [En_star])) ?_
  refine o_callP (letter_fn 97) rfl rfl rfl (fun _ _ => trivial) (fun v9 hv9 => ?_)
  subst hv9
  refine o_callP (letter_fn 98) rfl rfl rfl (fun _ _ => trivial) (fun v10 hv10 => ?_)
  subst hv10
  refine o_bs (E := En) (xs := [catC, grpC, starN, letN 97, letN 98]) (vs := [_, _, _, _, _]) rfl rfl rfl rfl rfl (by decide) (by decide) fun b11 S11 hS11 => ?_
  refine o_step rfl (s_assign rfl) ?_
  refine o_nil ?_
  refine x_then (hK2 _ _ ?_)
  refine c_seq fun _ hK3 => ?_
  refine c_region ?_
  refine o_step rfl (s_move rfl) ?_
  refine o_bs (E := Eb) (xs := [99, 97, 97, 98]) (vs := [_, _, _, _]) rfl rfl rfl rfl rfl (by decide) (by decide) fun b14 S14 hS14 => ?_
  refine o_conv_same rfl hS14 pkA rfl fun S15 hS15 => ?_
  refine o_call (find_fn (some ⟨b11, 0, none⟩) 5 reC rngC (some ⟨b14, 0, none⟩) 4 wC (by decide) 0) rfl rfl rfl (by exact .nil) (fun w st => ⟨(hS11.rdk hiA).out w st, (hS15.rdk hiA).out w st⟩) (fun v16 S16 hv16 => ?_)
  obtain ⟨a16, cc16, rfl, hO16⟩ := findC hv16
  refine o_step rfl (s_move rfl) ?_
  refine o_step rfl (s_extract rfl rfl) ?_
  refine o_step rfl (s_extract rfl rfl) ?_
  refine o_step rfl (s_assign rfl) ?_
  refine o_step rfl (s_assign rfl) ?_
  refine o_nil ?_
  refine x_then (hK3 _ _ ?_)
  refine c_seq fun _ hK4 => ?_
  refine c_region ?_
  refine o_step rfl (s_move rfl) ?_
  refine o_bs (E := Eb) (xs := [99, 97, 97, 98]) (vs := [_, _, _, _]) rfl rfl rfl rfl rfl (by decide) (by decide) fun b21 S21 hS21 => ?_
  refine o_conv_same rfl hS21 pkA rfl fun S22 hS22 => ?_
  refine o_step rfl (step_cast (v' := .agg (Esp ⟨2, 4⟩).toArray) (s_build (cs := [_, _]) (vs := [_, _]) rfl rfl (.cons rfl rfl rfl rfl rfl (.cons rfl rfl rfl rfl rfl (.nil)))) rfl) ?_
  refine o_call (best_fn (some ⟨b11, 0, none⟩) 5 reC rngC (some ⟨b21, 0, none⟩) 4 wC (by decide) 2 4) rfl rfl rfl (by exact .nil) (fun w st => ⟨(hS11.rdk hiA).out w st, (hS22.rdk hiA).out w st⟩) (fun v24 S24 hv24 => ?_)
  obtain ⟨a24, cc24, rfl, hO24⟩ := bestC hv24
  refine o_step rfl (s_move rfl) ?_
  refine o_step rfl (s_extract rfl rfl) ?_
  refine o_step rfl (s_extract rfl rfl) ?_
  refine o_step rfl (s_assign rfl) ?_
  refine o_step rfl (s_assign rfl) ?_
  refine o_nil ?_
  refine x_then (hK4 _ _ ?_)
  refine c_seq fun _ hK5 => ?_
  refine c_region ?_
  refine o_step rfl (s_move rfl) ?_
  refine o_step rfl (s_move rfl) ?_
  refine o_yes rfl rfl ?_
  refine o_step rfl (s_move rfl) ?_
  refine o_step rfl (s_pick_t rfl rfl) ?_
  refine o_step rfl (s_move rfl) ?_
  refine o_yes rfl rfl ?_
  refine o_step rfl (s_move rfl) ?_
  refine o_yes rfl rfl ?_
  refine o_step rfl (step_cast (v' := .agg (Esp ⟨1, 4⟩).toArray) (s_build (cs := [_, _]) (vs := [_, _]) rfl rfl (.cons rfl rfl rfl rfl rfl (.cons rfl rfl rfl rfl rfl (.nil)))) rfl) ?_
  refine o_yes rfl rfl ?_
  refine o_step rfl (step_cast (v' := .agg (Esp ⟨1, 3⟩).toArray) (s_build (cs := [_, _]) (vs := [_, _]) rfl rfl (.cons rfl rfl rfl rfl rfl (.cons rfl rfl rfl rfl rfl (.nil)))) rfl) ?_
  refine o_yes rfl rfl ?_
  refine o_bs (E := Esp) (xs := [⟨1, 4⟩, ⟨1, 3⟩]) (vs := [_, _]) rfl rfl rfl rfl rfl (by decide) (by decide) fun b35 S35 hS35 => ?_
  refine o_yes rfl rfl ?_
  refine o_callP (eqSpans_fn a16 (some ⟨b35, 0, none⟩) cc16 2 [⟨1, 4⟩, ⟨1, 3⟩] [⟨1, 4⟩, ⟨1, 3⟩]) rfl rfl rfl (fun w st => ⟨(hO16.rdk hiA).out w st, (hS35.rdk hiA).out w st⟩) (fun v36 hv36 => ?_)
  rw [decide_eq_true rfl] at hv36
  subst hv36
  refine o_step rfl (s_pick_t rfl rfl) ?_
  refine o_step rfl (s_move rfl) ?_
  refine o_yes rfl rfl ?_
  refine o_step rfl (s_move rfl) ?_
  refine o_yes rfl rfl ?_
  refine o_step rfl (step_cast (v' := .agg (Esp ⟨2, 4⟩).toArray) (s_build (cs := [_, _]) (vs := [_, _]) rfl rfl (.cons rfl rfl rfl rfl rfl (.cons rfl rfl rfl rfl rfl (.nil)))) rfl) ?_
  refine o_yes rfl rfl ?_
  refine o_step rfl (step_cast (v' := .agg (Esp ⟨2, 3⟩).toArray) (s_build (cs := [_, _]) (vs := [_, _]) rfl rfl (.cons rfl rfl rfl rfl rfl (.cons rfl rfl rfl rfl rfl (.nil)))) rfl) ?_
  refine o_yes rfl rfl ?_
  refine o_bs (E := Esp) (xs := [⟨2, 4⟩, ⟨2, 3⟩]) (vs := [_, _]) rfl rfl rfl rfl rfl (by decide) (by decide) fun b42 S42 hS42 => ?_
  refine o_yes rfl rfl ?_
  refine o_callP (eqSpans_fn a24 (some ⟨b42, 0, none⟩) cc24 2 [⟨2, 4⟩, ⟨2, 3⟩] [⟨2, 4⟩, ⟨2, 3⟩]) rfl rfl rfl (fun w st => ⟨(hO24.rdk hiA).out w st, (hS42.rdk hiA).out w st⟩) (fun v43 hv43 => ?_)
  rw [decide_eq_true rfl] at hv43
  subst hv43
  refine o_step rfl (s_pick_t rfl rfl) ?_
  refine o_step rfl (s_assign rfl) ?_
  refine o_nil ?_
  refine x_then (hK5 _ _ ?_)
  refine c_ret ?_
  refine ?_
  exact x_ret rfl (.tmp rfl (.nil)) (rfl)
end Go.Proofs.Ytiggliigookieaa

/- Part of the proofs over this seat: see the text that holds the theorem. Conditions: each theorem bears its own. -/
namespace Go.Proofs.Ytiggliigookieaa
open Go Go.HL Go.Proofs Go.HL.Kl Go.HL.Kl.Mc
end Go.Proofs.Ytiggliigookieaa

/- Part of the proofs over this seat: see the text that holds the theorem. Conditions: each theorem bears its own. -/
namespace Go.Proofs.Ytiggliigookieaa
open Go Go.HL Go.Proofs Go.HL.Kl Go.HL.Kl.Mc
end Go.Proofs.Ytiggliigookieaa

/- Part of the proofs over this seat: see the text that holds the theorem. Conditions: each theorem bears its own. -/
namespace Go.Proofs.Ytiggliigookieaa
open Go Go.HL Go.Proofs Go.HL.Kl Go.HL.Kl.Mc
theorem rHas_fn (c : Cl) (x : Nat) (hx : x < 256) : HL.Fn Try.prog 33 [.agg (Ec c).toArray, .int .u8 x] (fun _ => True) [] (fun v _ => v = .bool (c.getLsbD x)) := by
  refine fn_of Try.func33 rfl rfl rfl fun w0 hw => ?_
  refine c_seq fun _ hK1 => ?_
  refine c_region ?_
  refine o_box rfl rfl rfl fun b2 => ?_
  refine o_step rfl (s_assign rfl) ?_
  refine o_nil ?_
  refine x_then (hK1 _ _ ?_)
  refine c_seq fun _ hK2 => ?_
  refine c_region ?_
  refine o_step rfl (s_move rfl) ?_
  refine o_step rfl (step_cast (v' := .int .u8 ((x / 64 : Nat) : Int)) (s_quo rfl rfl (by decide)) (congrArg _ (quo64 hx))) ?_
  refine o_step rfl (s_idx1 rfl rfl (by omega)) ?_
  refine o_step rfl (s_ld rfl ((RdPK.own meA).cel (j := x / 64) (Ec_get _ (by omega)) (by omega))) ?_
  refine o_step rfl (s_move rfl) ?_
  refine o_step rfl (step_cast (v' := .int .u8 ((x % 64 : Nat) : Int)) (s_rem rfl rfl (by decide)) (congrArg _ (rem64 hx))) ?_
  refine o_step rfl (s_shr rfl rfl (by omega)) ?_
  refine o_step rfl (s_and rfl rfl) ?_
  refine o_step rfl (step_cast (v' := .bool (c.getLsbD x)) (s_eql rfl rfl) (congrArg Value.bool (hasB c hx))) ?_
  refine o_step rfl (s_assign rfl) ?_
  refine o_nil ?_
  refine x_then (hK2 _ _ ?_)
  refine c_ret ?_
  refine ?_
  exact x_ret rfl (.tmp rfl (.nil)) (rfl)
end Go.Proofs.Ytiggliigookieaa

/- Part of the proofs over this seat: see the text that holds the theorem. Conditions: each theorem bears its own. -/
namespace Go.Proofs.Ytiggliigookieaa
open Go Go.HL Go.Proofs Go.HL.Kl Go.HL.Kl.Mc
end Go.Proofs.Ytiggliigookieaa

/- Part of the proofs over this seat: see the text that holds the theorem. Conditions: each theorem bears its own. -/
namespace Go.Proofs.Ytiggliigookieaa
open Go Go.HL Go.Proofs Go.HL.Kl Go.HL.Kl.Mc
set_option maxHeartbeats 1000000 in
theorem beyond_fn (ra : Option Addr) (rc : Nat) (re : List Nd) (hre : ∀ x ∈ re, -128 ≤ x.op ∧ x.op < 128) : HL.Fn Try.prog 7 [.slice ra re.length rc] (fun w => Rd En w (.slice ra re.length rc) re) [] (fun v _ => ∃ b, v = .bool b) := by
  refine fn_of Try.func7 rfl rfl rfl fun w0 hw => ?_
  have hsl := hw.sl
  have hbl := hsl.le
  refine c_seq fun _ hK1 => ?_
  refine c_region ?_
  refine o_step rfl (s_assign rfl) ?_
  refine o_nil ?_
  refine x_then (hK1 _ _ ?_)
  refine c_seq fun _ hK2 => ?_
  refine c_region ?_
  refine o_step rfl (s_assign rfl) ?_
  refine o_nil ?_
  refine x_then (hK2 _ _ ?_)
  refine c_seq fun _ hK3 => ?_
  refine c_seq fun _ hK4 => ?_
  refine c_region ?_
  refine o_step rfl (s_assign rfl) ?_
  refine o_nil ?_
  refine x_then (hK4 _ _ ?_)
  refine c_block ?_
  -- not carried: 2
  refine c_loop3 (fun (j : Nat) (q : Sl Int) (S : Hp) => j ≤ re.length ∧ q.xs.length ≤ 65536 ∧ OwnS Ei 1 3 (.slice q.a q.xs.length q.c) q.xs S) (fun (j : Nat) (q : Sl Int) (S : Hp) => [(4, .int .i64 j), (3, .slice q.a q.xs.length q.c)]) [(0, _)] (fun (j : Nat) (q : Sl Int) (S : Hp) => S) (fun (j : Nat) (q : Sl Int) (S : Hp) => re.length - j) 0 ⟨none, 0, []⟩ [] ⟨by omega, by simp, .nil⟩ sbA sbA hzB ?_
  rintro j q0 S0 ⟨hj, hq0, hO0⟩
  refine c_seq fun _ hK5 => ?_
  refine c_seq fun _ hK6 => ?_
  refine c_region ?_
  refine o_step rfl (s_move rfl) ?_
  refine o_step rfl (s_move rfl) ?_
  refine o_step rfl (s_len rfl) ?_
  by_cases hjl : j < re.length
  ·
   obtain ⟨x, hx⟩ : ∃ x, re[j]? = some x := ⟨_, List.getElem?_eq_getElem hjl⟩
   refine o_step rfl (step_cast (v' := .bool true) (s_lss rfl rfl) (by rw [decide_eq_true (by omega)])) ?_
   refine o_nil ?_
   refine x_then (hK6 _ _ ?_)
   refine c_true rfl ?_
   refine c_skip ?_
   refine x_then (hK5 _ _ ?_)
   refine c_seq fun _ hK7 => ?_
   refine c_block ?_
   refine c_seq fun _ hK8 => ?_
   refine c_block ?_
   refine c_loop2 (fun (q : Sl Int) (S : Hp) => q.xs.length ≤ 65536 ∧ OwnS Ei 1 3 (.slice q.a q.xs.length q.c) q.xs S) (fun (q : Sl Int) (S : Hp) => [(3, .slice q.a q.xs.length q.c)]) [(0, _), (4, _), (5, _), (6, _), (7, _), (8, _)] (fun (q : Sl Int) (S : Hp) => S) (fun (q : Sl Int) (S : Hp) => q.xs.length) q0 S0 ⟨hq0, hO0⟩ sbA sbA hzB ?_
   rintro q S ⟨hq, hO⟩
   have hOs := hO.sl
   have hOc := hOs.cap
   refine c_seq fun _ hK9 => ?_
   refine c_seq fun _ hK10 => ?_
   refine c_region ?_
   refine o_step rfl (s_move rfl) ?_
   refine o_step rfl (s_len rfl) ?_
   by_cases hp0 : (q.xs.length : Int) > 0
   ·
    obtain ⟨u, hu⟩ : ∃ u, q.xs[q.xs.length - 1]? = some u := ⟨_, List.getElem?_eq_getElem (by omega)⟩
    have hO1 := hO.pre (q.xs.length - 1) (by omega)
    have hql1 : (q.xs.take (q.xs.length - 1)).length = q.xs.length - 1 := by rw [List.length_take]; omega
    refine o_step rfl (step_cast (v' := .bool true) (s_gtr rfl rfl) (by rw [decide_eq_true (by omega)])) ?_
    refine o_step rfl (s_move rfl) ?_
    refine o_yes rfl rfl ?_
    refine o_step rfl (s_move rfl) ?_
    refine o_yes rfl rfl ?_
    refine o_step rfl (s_move rfl) ?_
    refine o_yes rfl rfl ?_
    refine o_step rfl (s_len rfl) ?_
    refine o_yes rfl rfl ?_
    refine o_step rfl (s_sub rfl rfl (by omega)) ?_
    refine o_yes rfl rfl ?_
    refine o_step rfl (s_idx rfl rfl hOs (by omega)) ?_
    refine o_yes rfl rfl ?_
    refine o_step rfl (s_ld rfl ((hO.rdk hiA).ld (q.xs.length - 1) 0 hu rfl (by decide) (by omega))) ?_
    refine o_yes rfl rfl ?_
    by_cases hle : u ≤ 0
    ·
     refine o_step rfl (step_cast (v' := .bool true) (s_leq rfl rfl) (by rw [decide_eq_true (by omega)])) ?_
     refine o_step rfl (s_pick_t rfl rfl) ?_
     refine o_nil ?_
     refine x_then (hK10 _ _ ?_)
     refine c_true rfl ?_
     refine c_skip ?_
     refine x_then (hK9 _ _ ?_)
     refine c_block ?_
     refine c_region ?_
     refine o_step rfl (s_move rfl) ?_
     refine o_step rfl (s_move rfl) ?_
     refine o_step rfl (s_len rfl) ?_
     refine o_step rfl (s_sub rfl rfl (by omega)) ?_
     refine o_step rfl (step_cast (v' := .slice q.a (q.xs.take (q.xs.length - 1)).length q.c) (s_slice_hi rfl rfl (by omega)) (by rw [hql1]; congr 1; omega)) ?_
     refine o_step rfl (s_assign rfl) ?_
     refine o_nil ?_
     refine x_block ?_
     exact x_then (x_inv (⟨q.a, q.c, q.xs.take (q.xs.length - 1)⟩, S) ⟨by rw [hql1]; omega, by dsimp only; rw [hql1]; exact hO1⟩ (by dsimp only; rw [hql1]; omega) sbA hzB)
    ·
     refine o_step rfl (step_cast (v' := .bool false) (s_leq rfl rfl) (by rw [decide_eq_false (by omega)])) ?_
     refine o_step rfl (s_pick_t rfl rfl) ?_
     refine o_nil ?_
     refine x_then (hK10 _ _ ?_)
     refine c_false rfl ?_
     refine c_exit ?_
     refine x_then_exit ?_
     refine x_then_exit ?_
     refine x_block_exit ?_
     refine x_then (hK8 _ _ ?_)
     refine c_seq fun _ hK11 => ?_
     refine c_seq fun _ hK12 => ?_
     refine c_region ?_
     refine o_step rfl (s_move rfl) ?_
     refine o_step rfl (s_len rfl) ?_
     by_cases hp1 : (q.xs.length : Int) > 0
     ·
      obtain ⟨u2, hu2⟩ : ∃ u, q.xs[q.xs.length - 1]? = some u := ⟨_, List.getElem?_eq_getElem (by omega)⟩
      refine o_step rfl (step_cast (v' := .bool true) (s_gtr rfl rfl) (by rw [decide_eq_true (by omega)])) ?_
      refine o_nil ?_
      refine x_then (hK12 _ _ ?_)
      refine c_true rfl ?_
      refine c_region ?_
      refine o_step rfl (s_move rfl) ?_
      refine o_step rfl (s_move rfl) ?_
      refine o_step rfl (s_len rfl) ?_
      refine o_step rfl (s_sub rfl rfl (by omega)) ?_
      refine o_step rfl (s_move rfl) ?_
      refine o_step rfl (s_move rfl) ?_
      refine o_step rfl (s_len rfl) ?_
      refine o_step rfl (s_sub rfl rfl (by omega)) ?_
      refine o_step rfl (s_idx rfl rfl hOs (by omega)) ?_
      refine o_step rfl (s_ld rfl ((hO.rdk hiA).ld (q.xs.length - 1) 0 hu2 rfl (by decide) (by omega))) ?_
      refine o_step rfl (s_subw rfl rfl) ?_
      refine o_step rfl (s_idx rfl rfl hOs (by omega)) ?_
      refine o_stS1 (q.xs.length - 1) _ hO pkA rfl rfl rfl (by omega) (by omega) fun S' hS' => ?_
      have hO := hS'
      refine o_nil ?_
      refine x_then (hK11 _ _ ?_)
      refine c_seq fun _ hK13 => ?_
      refine c_region ?_
      refine o_step rfl (s_move rfl) ?_
      refine o_step rfl (s_move rfl) ?_
      refine o_step rfl (s_move rfl) ?_
      refine o_step rfl (s_idx rfl rfl hsl (by omega)) ?_
      refine o_step rfl (s_field rfl rfl (by decide)) ?_
      refine o_step rfl (s_ld rfl ((RdK.old0 hw).ld j 8 hx rfl (by decide) (by omega))) ?_
      refine o_bs (E := Ei) (xs := [x.kids]) (vs := [_]) rfl rfl rfl rfl rfl (by decide) (by decide) fun b49 S49 hS49 => ?_
      refine o_app hO (hS49.rdk hiA) rfl rfl rfl rfl (by simp; omega) (by simp; omega) rfl pkA fun a50 c50 S50 hS50 => ?_
      refine o_step rfl (s_assign rfl) ?_
      refine o_nil ?_
      refine x_then (hK13 _ _ ?_)
      refine c_seq fun _ hK14 => ?_
      refine c_region ?_
      refine o_step rfl (s_move rfl) ?_
      refine o_step rfl (s_len rfl) ?_
      refine o_step rfl (s_gtr rfl rfl) ?_
      refine o_nil ?_
      refine x_then (hK14 _ _ ?_)
      refine c_if rfl (fun hbig => ?_) (fun hbig => ?_)
      ·
       refine c_seq fun _ hK15 => ?_
       refine c_region ?_
       refine o_step rfl (s_assign rfl) ?_
       refine o_nil ?_
       refine x_then (hK15 _ _ ?_)
       refine c_ret ?_
       refine x_block_ret (x_then_ret (x_then_ret (x_block_ret (x_then_ret (?_)))))
       exact x_ret rfl (.tmp rfl (.nil)) (⟨_, rfl⟩)
      ·
       refine c_skip ?_
       refine x_block ?_
       refine x_then (hK7 _ _ ?_)
       refine c_region ?_
       refine o_step rfl (s_move rfl) ?_
       refine o_step rfl (s_add rfl rfl (by omega)) ?_
       refine o_step rfl (s_assign rfl) ?_
       refine o_nil ?_
       exact x_then (x_inv (j + 1, ⟨a50, c50, _⟩, S50) ⟨by omega, by dsimp only; omega, hS50⟩ (by first | omega | (dsimp only; omega)) sbA hzB)
     ·
      refine o_step rfl (step_cast (v' := .bool false) (s_gtr rfl rfl) (by rw [decide_eq_false (by omega)])) ?_
      refine o_nil ?_
      refine x_then (hK12 _ _ ?_)
      refine c_false rfl ?_
      refine c_skip ?_
      refine x_then (hK11 _ _ ?_)
      refine c_seq fun _ hK16 => ?_
      refine c_region ?_
      refine o_step rfl (s_move rfl) ?_
      refine o_step rfl (s_move rfl) ?_
      refine o_step rfl (s_move rfl) ?_
      refine o_step rfl (s_idx rfl rfl hsl (by omega)) ?_
      refine o_step rfl (s_field rfl rfl (by decide)) ?_
      refine o_step rfl (s_ld rfl ((RdK.old0 hw).ld j 8 hx rfl (by decide) (by omega))) ?_
      refine o_bs (E := Ei) (xs := [x.kids]) (vs := [_]) rfl rfl rfl rfl rfl (by decide) (by decide) fun b49 S49 hS49 => ?_
      refine o_app hO (hS49.rdk hiA) rfl rfl rfl rfl (by simp; omega) (by simp; omega) rfl pkA fun a50 c50 S50 hS50 => ?_
      refine o_step rfl (s_assign rfl) ?_
      refine o_nil ?_
      refine x_then (hK16 _ _ ?_)
      refine c_seq fun _ hK17 => ?_
      refine c_region ?_
      refine o_step rfl (s_move rfl) ?_
      refine o_step rfl (s_len rfl) ?_
      refine o_step rfl (s_gtr rfl rfl) ?_
      refine o_nil ?_
      refine x_then (hK17 _ _ ?_)
      refine c_if rfl (fun hbig => ?_) (fun hbig => ?_)
      ·
       refine c_seq fun _ hK18 => ?_
       refine c_region ?_
       refine o_step rfl (s_assign rfl) ?_
       refine o_nil ?_
       refine x_then (hK18 _ _ ?_)
       refine c_ret ?_
       refine x_block_ret (x_then_ret (x_then_ret (x_block_ret (x_then_ret (?_)))))
       exact x_ret rfl (.tmp rfl (.nil)) (⟨_, rfl⟩)
      ·
       refine c_skip ?_
       refine x_block ?_
       refine x_then (hK7 _ _ ?_)
       refine c_region ?_
       refine o_step rfl (s_move rfl) ?_
       refine o_step rfl (s_add rfl rfl (by omega)) ?_
       refine o_step rfl (s_assign rfl) ?_
       refine o_nil ?_
       exact x_then (x_inv (j + 1, ⟨a50, c50, _⟩, S50) ⟨by omega, by dsimp only; omega, hS50⟩ (by first | omega | (dsimp only; omega)) sbA hzB)
   ·
    refine o_step rfl (step_cast (v' := .bool false) (s_gtr rfl rfl) (by rw [decide_eq_false (by omega)])) ?_
    refine o_step rfl (s_move rfl) ?_
    refine o_no rfl rfl rfl rfl ?_
    refine o_no rfl rfl rfl rfl ?_
    refine o_no rfl rfl rfl rfl ?_
    refine o_no rfl rfl rfl rfl ?_
    refine o_no rfl rfl rfl rfl ?_
    refine o_no rfl rfl rfl rfl ?_
    refine o_no rfl rfl rfl rfl ?_
    refine o_step rfl (s_pick_f rfl rfl) ?_
    refine o_nil ?_
    refine x_then (hK10 _ _ ?_)
    refine c_false rfl ?_
    refine c_exit ?_
    refine x_then_exit ?_
    refine x_then_exit ?_
    refine x_block_exit ?_
    refine x_then (hK8 _ _ ?_)
    refine c_seq fun _ hK19 => ?_
    refine c_seq fun _ hK20 => ?_
    refine c_region ?_
    refine o_step rfl (s_move rfl) ?_
    refine o_step rfl (s_len rfl) ?_
    by_cases hp1 : (q.xs.length : Int) > 0
    ·
     obtain ⟨u2, hu2⟩ : ∃ u, q.xs[q.xs.length - 1]? = some u := ⟨_, List.getElem?_eq_getElem (by omega)⟩
     refine o_step rfl (step_cast (v' := .bool true) (s_gtr rfl rfl) (by rw [decide_eq_true (by omega)])) ?_
     refine o_nil ?_
     refine x_then (hK20 _ _ ?_)
     refine c_true rfl ?_
     refine c_region ?_
     refine o_step rfl (s_move rfl) ?_
     refine o_step rfl (s_move rfl) ?_
     refine o_step rfl (s_len rfl) ?_
     refine o_step rfl (s_sub rfl rfl (by omega)) ?_
     refine o_step rfl (s_move rfl) ?_
     refine o_step rfl (s_move rfl) ?_
     refine o_step rfl (s_len rfl) ?_
     refine o_step rfl (s_sub rfl rfl (by omega)) ?_
     refine o_step rfl (s_idx rfl rfl hOs (by omega)) ?_
     refine o_step rfl (s_ld rfl ((hO.rdk hiA).ld (q.xs.length - 1) 0 hu2 rfl (by decide) (by omega))) ?_
     refine o_step rfl (s_subw rfl rfl) ?_
     refine o_step rfl (s_idx rfl rfl hOs (by omega)) ?_
     refine o_stS1 (q.xs.length - 1) _ hO pkA rfl rfl rfl (by omega) (by omega) fun S' hS' => ?_
     have hO := hS'
     refine o_nil ?_
     refine x_then (hK19 _ _ ?_)
     refine c_seq fun _ hK21 => ?_
     refine c_region ?_
     refine o_step rfl (s_move rfl) ?_
     refine o_step rfl (s_move rfl) ?_
     refine o_step rfl (s_move rfl) ?_
     refine o_step rfl (s_idx rfl rfl hsl (by omega)) ?_
     refine o_step rfl (s_field rfl rfl (by decide)) ?_
     refine o_step rfl (s_ld rfl ((RdK.old0 hw).ld j 8 hx rfl (by decide) (by omega))) ?_
     refine o_bs (E := Ei) (xs := [x.kids]) (vs := [_]) rfl rfl rfl rfl rfl (by decide) (by decide) fun b49 S49 hS49 => ?_
     refine o_app hO (hS49.rdk hiA) rfl rfl rfl rfl (by simp; omega) (by simp; omega) rfl pkA fun a50 c50 S50 hS50 => ?_
     refine o_step rfl (s_assign rfl) ?_
     refine o_nil ?_
     refine x_then (hK21 _ _ ?_)
     refine c_seq fun _ hK22 => ?_
     refine c_region ?_
     refine o_step rfl (s_move rfl) ?_
     refine o_step rfl (s_len rfl) ?_
     refine o_step rfl (s_gtr rfl rfl) ?_
     refine o_nil ?_
     refine x_then (hK22 _ _ ?_)
     refine c_if rfl (fun hbig => ?_) (fun hbig => ?_)
     ·
      refine c_seq fun _ hK23 => ?_
      refine c_region ?_
      refine o_step rfl (s_assign rfl) ?_
      refine o_nil ?_
      refine x_then (hK23 _ _ ?_)
      refine c_ret ?_
      refine x_block_ret (x_then_ret (x_then_ret (x_block_ret (x_then_ret (?_)))))
      exact x_ret rfl (.tmp rfl (.nil)) (⟨_, rfl⟩)
     ·
      refine c_skip ?_
      refine x_block ?_
      refine x_then (hK7 _ _ ?_)
      refine c_region ?_
      refine o_step rfl (s_move rfl) ?_
      refine o_step rfl (s_add rfl rfl (by omega)) ?_
      refine o_step rfl (s_assign rfl) ?_
      refine o_nil ?_
      exact x_then (x_inv (j + 1, ⟨a50, c50, _⟩, S50) ⟨by omega, by dsimp only; omega, hS50⟩ (by first | omega | (dsimp only; omega)) sbA hzB)
    ·
     refine o_step rfl (step_cast (v' := .bool false) (s_gtr rfl rfl) (by rw [decide_eq_false (by omega)])) ?_
     refine o_nil ?_
     refine x_then (hK20 _ _ ?_)
     refine c_false rfl ?_
     refine c_skip ?_
     refine x_then (hK19 _ _ ?_)
     refine c_seq fun _ hK24 => ?_
     refine c_region ?_
     refine o_step rfl (s_move rfl) ?_
     refine o_step rfl (s_move rfl) ?_
     refine o_step rfl (s_move rfl) ?_
     refine o_step rfl (s_idx rfl rfl hsl (by omega)) ?_
     refine o_step rfl (s_field rfl rfl (by decide)) ?_
     refine o_step rfl (s_ld rfl ((RdK.old0 hw).ld j 8 hx rfl (by decide) (by omega))) ?_
     refine o_bs (E := Ei) (xs := [x.kids]) (vs := [_]) rfl rfl rfl rfl rfl (by decide) (by decide) fun b49 S49 hS49 => ?_
     refine o_app hO (hS49.rdk hiA) rfl rfl rfl rfl (by simp; omega) (by simp; omega) rfl pkA fun a50 c50 S50 hS50 => ?_
     refine o_step rfl (s_assign rfl) ?_
     refine o_nil ?_
     refine x_then (hK24 _ _ ?_)
     refine c_seq fun _ hK25 => ?_
     refine c_region ?_
     refine o_step rfl (s_move rfl) ?_
     refine o_step rfl (s_len rfl) ?_
     refine o_step rfl (s_gtr rfl rfl) ?_
     refine o_nil ?_
     refine x_then (hK25 _ _ ?_)
     refine c_if rfl (fun hbig => ?_) (fun hbig => ?_)
     ·
      refine c_seq fun _ hK26 => ?_
      refine c_region ?_
      refine o_step rfl (s_assign rfl) ?_
      refine o_nil ?_
      refine x_then (hK26 _ _ ?_)
      refine c_ret ?_
      refine x_block_ret (x_then_ret (x_then_ret (x_block_ret (x_then_ret (?_)))))
      exact x_ret rfl (.tmp rfl (.nil)) (⟨_, rfl⟩)
     ·
      refine c_skip ?_
      refine x_block ?_
      refine x_then (hK7 _ _ ?_)
      refine c_region ?_
      refine o_step rfl (s_move rfl) ?_
      refine o_step rfl (s_add rfl rfl (by omega)) ?_
      refine o_step rfl (s_assign rfl) ?_
      refine o_nil ?_
      exact x_then (x_inv (j + 1, ⟨a50, c50, _⟩, S50) ⟨by omega, by dsimp only; omega, hS50⟩ (by first | omega | (dsimp only; omega)) sbA hzB)
  ·
   refine o_step rfl (step_cast (v' := .bool false) (s_lss rfl rfl) (by rw [decide_eq_false (by omega)])) ?_
   refine o_nil ?_
   refine x_then (hK6 _ _ ?_)
   refine c_false rfl ?_
   refine c_exit ?_
   refine x_then_exit ?_
   refine x_then_exit ?_
   refine x_block_exit ?_
   refine x_then (hK3 _ _ ?_)
   refine c_seq fun _ hK27 => ?_
   refine c_region ?_
   refine o_step rfl (s_assign rfl) ?_
   refine o_nil ?_
   refine x_then (hK27 _ _ ?_)
   refine c_ret ?_
   refine ?_
   exact x_ret rfl (.tmp rfl (.nil)) (⟨_, rfl⟩)

end Go.Proofs.Ytiggliigookieaa

/- A slice out of the middle of one. Conditions: none. -/
namespace Go.HL
open Go
def midA (a : Option Addr) (c lo k : Nat) : Option Addr := if c = lo then a else a.map (·.add (lo * k))
section
variable {P : Program} {κ : Cx} {L : HL.Loc} {H : Hp} {ty t : TypeId} {x y z : Operand}
end
end Go.HL

/- The document's walk through the best derivation. Conditions: none. -/
namespace Go.HL.Kl.Mc
open Go Go.HL Go.HL.Kl AskE
structure WalkE where
  (bW : Nat)
  (ra : Option Addr) (rc : Nat) (re : List Nd) (ta : Option Addr) (tc : Nat) (tx : List UInt8) (ca : Option Addr) (N cc : Nat)
namespace WalkE
abbrev vre (K : WalkE) : Value := .slice K.ra K.re.length K.rc
abbrev vtx (K : WalkE) : Value := .slice K.ta K.tx.length K.tc
abbrev vca (K : WalkE) : Value := .slice K.ca K.N K.cc
abbrev cells (K : WalkE) : List Value := [K.vre, K.vtx, K.vca]
end WalkE
structure EnvW (w : World) (K : WalkE) (M : List Nat) : Prop where
  p1 : RdP w K.bW 0 K.cells
  d1 : Rd En w K.vre K.re
  d2 : Rd Eb w K.vtx K.tx
  n1 : K.bW ∉ M
  a1 : Apart M K.vre
  a2 : Apart M K.vtx
structure WalkE.ok (K : WalkE) : Prop where
  rng : ∀ x ∈ K.re, -128 ≤ x.op ∧ x.op < 128
  no8 : ∀ x ∈ K.re, ¬ x.op = 8
  len : K.re.length ≤ 1000000
  tx : K.tx.length ≤ 1000000
def BestK (P : Program) (K : WalkE) (fn T : Nat) (x : Nd) (ks : F) : Prop := ∀ (i i1 p q : Nat) (cs : List Sp) (Sc : Hp), Part K.re (.nd x ks .nil) i i1 → p ≤ q → q ≤ K.tx.length → der1 K.tx x ks p q → cs.length = K.N → Slots K.re K.N → OwnS Esp 2 T K.vca cs Sc →
  Fn P fn [pt K.bW, .int .i64 i, .int .i64 p, .int .i64 q] (fun W => EnvW W K (keys Sc)) Sc (fun _ S' => OwnS Esp 2 T K.vca (bst1 K.tx x ks p q cs) S')
theorem RQ_cap {x : Nd} {D : Nat → Nat → Prop} {r s p q m : Nat} (h1 : x.mx = -1) (h2 : max x.mn.toNat 1 ≤ r) (h3 : max x.mn.toNat 1 ≤ s) : RQ x D r p q m ↔ RQ x D s p q m := by
  unfold RQ
  rw [RR_cap (r := r + 1) (s := s + 1) h1 (by omega) (by omega)]
  constructor
  · rintro ⟨_, b, c, d⟩; exact ⟨.inl h1, by omega, c, d⟩
  · rintro ⟨_, b, c, d⟩; exact ⟨.inl h1, by omega, c, d⟩
/-- rounds counted, and rounds that count -/
def CapR (x : Nd) (r s : Nat) : Prop := r = s ∨ (x.mx = -1 ∧ max x.mn.toNat 1 ≤ r ∧ s = max x.mn.toNat 1)
theorem CapR.rq {x : Nd} {D : Nat → Nat → Prop} {r s p q m : Nat} (h : CapR x r s) : RQ x D r p q m ↔ RQ x D s p q m := by
  rcases h with rfl | ⟨h1, h2, rfl⟩
  · exact Iff.rfl
  · exact RQ_cap h1 h2 (Nat.le_refl _)
theorem CapR.next {x : Nd} {r s : Nat} (h : CapR x r s) (hv : (x.mx = -1 ∧ s ≤ max x.mn.toNat 1) ∨ (0 ≤ x.mx ∧ (s : Int) ≤ x.mx)) : CapR x (r + 1) (nxtR x s) := by
  unfold CapR nxtR
  unfold CapR at h
  split
  · omega
  · omega
end Go.HL.Kl.Mc
