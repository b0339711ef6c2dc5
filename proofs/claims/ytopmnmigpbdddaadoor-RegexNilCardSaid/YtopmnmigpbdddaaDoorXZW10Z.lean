/- Part of the proofs over this seat: see the text that holds the theorem. Conditions: each theorem bears its own. -/
import Derived.Test.YtopmnmigpbdddaaDoorXZW9Z
import Derived.Test.YtopmnmigpbdddaaDoorXZN5Z
import Derived.Test.YtopmnmigpbdddaaDoorMT9Z
import Derived.Test.YtopmnmigpbdddaaDoorM1Z
import Derived.Test.YtopmnmigpbdddaaDoorHlB
import Derived.Test.YtopmnmigpbdddaaDoorRows
import Derived.ProofKit
import Derived.LaidMore
import Derived.Stop.Joined
import Derived.Lib.LaidTab
namespace Go.Proofs.YtopmnmigpbdddaaDoor
open Go Go.HL Go.Proofs Go.HL.Kl Go.HL.Kl.Mc Go.HL.Kl.Mc.AskE
theorem eqSpans_fn (a a2 : Option Addr) (c c2 : Nat) (xs ys : List Sp) : HL.Fn Tryd.prog 17 [.slice a xs.length c, .slice a2 ys.length c2] (fun w => Rd Esp w (.slice a xs.length c) xs ∧ Rd Esp w (.slice a2 ys.length c2) ys) [] (fun v _ => v = .bool (decide (xs = ys))) := by
  refine fn_of Tryd.func17 rfl rfl rfl fun w0 hw => ?_
  obtain ⟨hx, hy⟩ := hw
  have hsx := hx.sl
  have hsy := hy.sl
  have hbx := hsx.le
  have hby := hsy.le
  refine c_seq fun _ hK1 => ?_
  refine c_region ?_
  refine o_step rfl (s_assign rfl) ?_
  refine o_nil ?_
  refine x_then (hK1 _ _ ?_)
  refine c_seq fun _ hK2 => ?_
  refine c_seq fun _ hK3 => ?_
  refine c_region ?_
  refine o_step rfl (s_move rfl) ?_
  refine o_step rfl (s_len rfl) ?_
  refine o_step rfl (s_move rfl) ?_
  refine o_step rfl (s_len rfl) ?_
  refine o_step rfl (s_neq rfl rfl) ?_
  refine o_nil ?_
  refine x_then (hK3 _ _ ?_)
  refine c_if rfl (fun hl => ?_) (fun hl => ?_)
  ·
   refine c_seq fun _ hK4 => ?_
   refine c_region ?_
   refine o_step rfl (s_assign rfl) ?_
   refine o_nil ?_
   refine x_then (hK4 _ _ ?_)
   refine c_ret ?_
   refine x_then_ret (?_)
   exact x_ret rfl (.tmp rfl (.nil)) ((congrArg Value.bool (decide_eq_false (by intro e; subst e; omega)).symm))
  ·
   refine c_skip ?_
   refine x_then (hK2 _ _ ?_)
   refine c_seq fun _ hK5 => ?_
   refine c_seq fun _ hK6 => ?_
   refine c_region ?_
   refine o_step rfl (s_assign rfl) ?_
   refine o_nil ?_
   refine x_then (hK6 _ _ ?_)
   refine c_block ?_
   -- not carried: 4
   refine c_loopB (fun (j : Nat) => j ≤ xs.length ∧ ∀ i, i < j → xs[i]? = ys[i]?) (fun (j : Nat) => [(5, .int .i64 j)]) [(0, _), (1, _)] (fun (j : Nat) => _) (fun (j : Nat) => xs.length - j) 0 ⟨by omega, fun i hi => by omega⟩ sbA sbA hzB ?_
   rintro j ⟨hj, hjt⟩
   refine c_seq fun _ hK7 => ?_
   refine c_seq fun _ hK8 => ?_
   refine c_region ?_
   refine o_step rfl (s_move rfl) ?_
   refine o_step rfl (s_move rfl) ?_
   refine o_step rfl (s_len rfl) ?_
   refine o_step rfl (s_lss rfl rfl) ?_
   refine o_nil ?_
   refine x_then (hK8 _ _ ?_)
   refine c_if rfl (fun hlt => ?_) (fun hlt => ?_)
   ·
    obtain ⟨x, hxj⟩ : ∃ x, xs[j]? = some x := ⟨_, List.getElem?_eq_getElem (by omega)⟩
    obtain ⟨y, hyj⟩ : ∃ y, ys[j]? = some y := ⟨_, List.getElem?_eq_getElem (by omega)⟩
    refine c_skip ?_
    refine x_then (hK7 _ _ ?_)
    refine c_seq fun _ hK9 => ?_
    refine c_block ?_
    refine c_seq fun _ hK10 => ?_
    refine c_drawE ([]) (fun i => false) ?_
    refine e_take 0 rfl (by kernel_rfl) (by kernel_rfl) (by kernel_rfl) (by kernel_rfl) (fun _ _ => rfl) rfl (by exact HSub.nil) (s_move rfl) ?_
    refine e_take 1 rfl (by kernel_rfl) (by kernel_rfl) (by kernel_rfl) (by kernel_rfl) (fun _ _ => rfl) rfl (by exact HSub.nil) (s_move rfl) ?_
    refine e_take 2 rfl (by kernel_rfl) (by kernel_rfl) (by kernel_rfl) (by kernel_rfl) (fun _ _ => rfl) rfl (by exact HSub.nil) (s_idx rfl rfl hsx (by omega)) ?_
    refine e_take 3 rfl (by kernel_rfl) (by kernel_rfl) (by kernel_rfl) (by kernel_rfl) (fun _ _ => rfl) rfl (by exact HSub.nil) (s_ldB rfl ((RdK.old0 hx).lds j hxj (by omega)) (by rfl)) ?_
    refine e_take 4 rfl (by kernel_rfl) (by kernel_rfl) (by kernel_rfl) (by kernel_rfl) (fun _ _ => rfl) rfl (by exact HSub.nil) (s_move rfl) ?_
    refine e_take 5 rfl (by kernel_rfl) (by kernel_rfl) (by kernel_rfl) (by kernel_rfl) (fun _ _ => rfl) rfl (by exact HSub.nil) (s_move rfl) ?_
    refine e_take 6 rfl (by kernel_rfl) (by kernel_rfl) (by kernel_rfl) (by kernel_rfl) (fun _ _ => rfl) rfl (by exact HSub.nil) (s_idx rfl rfl hsy (by omega)) ?_
    refine e_take 7 rfl (by kernel_rfl) (by kernel_rfl) (by kernel_rfl) (by kernel_rfl) (fun _ _ => rfl) rfl (by exact HSub.nil) (s_ldB rfl ((RdK.old0 hy).lds j hyj (by omega)) (by rfl)) ?_
    refine e_take 8 rfl (by kernel_rfl) (by kernel_rfl) (by kernel_rfl) (by kernel_rfl) (fun _ _ => rfl) rfl (by exact HSub.nil) (s_neq_sp rfl rfl) ?_
    refine e_done (by kernel_rfl) ?_
    refine x_then (hK10 _ _ ?_)
    refine c_ifn rfl (fun hne => ?_) (fun hne => ?_)
    ·
     refine c_seq fun _ hK11 => ?_
     refine c_region ?_
     refine o_step rfl (s_assign rfl) ?_
     refine o_nil ?_
     refine x_then (hK11 _ _ ?_)
     refine c_ret ?_
     refine x_block_ret (x_then_ret (x_then_ret (x_block_ret (x_then_ret (?_)))))
     exact x_ret rfl (.tmp rfl (.nil)) ((congrArg Value.bool (decide_eq_false (by intro e; subst e; rw [hxj] at hyj; cases hyj; exact hne rfl)).symm))
    ·
     refine c_skip ?_
     refine x_block ?_
     refine x_then (hK9 _ _ ?_)
     refine c_region ?_
     refine o_step rfl (s_move rfl) ?_
     refine o_step rfl (s_add rfl rfl (by omega)) ?_
     refine o_step rfl (s_assign rfl) ?_
     refine o_nil ?_
     exact x_then (x_inv (j + 1) ⟨by omega, fun i hi => by rcases Nat.lt_or_ge i j with h | h; exact hjt i h; rw [show i = j by omega, hxj, hyj, hne]⟩ (by first | omega | (dsimp only; omega)) sbA hzB)
   ·
    refine c_exit ?_
    refine x_then_exit ?_
    refine x_then_exit ?_
    refine x_block_exit ?_
    refine x_then (hK5 _ _ ?_)
    refine c_seq fun _ hK12 => ?_
    refine c_region ?_
    refine o_step rfl (s_assign rfl) ?_
    refine o_nil ?_
    refine x_then (hK12 _ _ ?_)
    refine c_ret ?_
    refine ?_
    exact x_ret rfl (.tmp rfl (.nil)) ((congrArg Value.bool (decide_eq_true (ext_upto (by omega) fun i hi => hjt i (by omega))).symm))

end Go.Proofs.YtopmnmigpbdddaaDoor

/- Part of the proofs over this seat: see the text that holds the theorem. Conditions: each theorem bears its own. -/
namespace Go.Proofs.YtopmnmigpbdddaaDoor
open Go Go.HL Go.Proofs Go.HL.Kl Go.HL.Kl.Mc Go.HL.Kl.Mc.AskE Go.Tab
set_option maxHeartbeats 2000000 in
theorem lives_fn  : HL.Fn Tryd.prog 9 [] (fun _ => True) [] (fun v _ => v = .bool true) := by
  refine fn_of Tryd.func9 rfl rfl rfl fun w0 hw => ?_
  refine c_seq fun _ hK1 => ?_
  refine c_region ?_
  refine o_step rfl (s_assign rfl) ?_
  refine o_nil ?_
  refine x_then (hK1 _ _ ?_)
  refine c_seq fun _ hK2 => ?_
  refine c_region ?_
  refine o_step rfl (s_build (cs := [_, _]) (vs := [_]) rfl rfl (.cons rfl rfl rfl rfl rfl (.nil))) ?_
  refine o_step rfl (s_build (cs := [_, _]) (vs := [_]) rfl rfl (.cons rfl rfl rfl rfl rfl (.nil))) ?_
  refine o_bs (E := Em) (xs := lAB) (vs := [_, _]) rfl rfl rfl rfl rfl (by decide) (by decide) fun b11 S11 hS11 => ?_
  refine o_call (compileR_fn (some ⟨b11, 0, none⟩) 2 lAB (by decide) (by decide) (by unfold Lit; decide)) rfl rfl rfl (by exact .nil) (fun _ st => (hS11.rdk hiA).out _ st) (fun v12 S12 ⟨bR, hv12, hPl⟩ => ?_)
  subst hv12
  obtain ⟨x, ks, a1, am, c1, Sr, Sm, hsb, hrf, hSh, rfl, hOr, hOm⟩ := hPl
  have hM : May (litR lAB) wAB x ks := ⟨hsb, hrf, hSh⟩
  refine o_step rfl (s_move rfl) ?_
  refine o_step rfl (s_extract rfl rfl) ?_
  refine o_step rfl (s_extract rfl rfl) ?_
  refine o_step rfl (s_extract rfl rfl) ?_
  refine o_step rfl (s_assign rfl) ?_
  refine o_step rfl (s_assign rfl) ?_
  refine o_step rfl (s_assign rfl) ?_
  refine o_nil ?_
  refine x_then (hK2 _ _ ?_)
  refine c_seq fun _ hK3 => ?_
  refine c_seq fun _ hK4 => ?_
  refine c_region ?_
  refine o_step rfl (s_move rfl) ?_
  refine o_step rfl (step_cast (v' := .bool false) (s_neq rfl rfl) rfl) ?_
  refine o_step rfl (s_move rfl) ?_
  refine o_yes rfl rfl ?_
  refine o_step rfl (s_move rfl) ?_
  refine o_yes rfl rfl ?_
  refine o_step rfl (step_cast (v' := .bool false) (s_eql_nilp rfl rfl) rfl) ?_
  refine o_step rfl (s_pick_f rfl rfl) ?_
  refine o_nil ?_
  refine x_then (hK4 _ _ ?_)
  refine c_false rfl ?_
  refine c_skip ?_
  refine x_then (hK3 _ _ ?_)
  refine c_seq fun _ hK5 => ?_
  refine c_region ?_
  refine o_step rfl (s_move rfl) ?_
  refine o_bs (E := Eb) (xs := wAB) (vs := [_, _, _, _, _]) rfl rfl rfl rfl rfl (by decide) (by decide) fun b24 S24 hS24 => ?_
  refine o_conv_same rfl hS24 pkA rfl fun S25 hS25 => ?_
  refine o_call (find_re bR a1 c1 (litR lAB) (litR_rng lAB) (some ⟨b24, 0, none⟩) 5 wAB (by decide) x ks hM am (mach (.nd x ks .nil)).length 0) rfl rfl rfl (by exact .nil) (fun _ st => ⟨(RdPK.own meA).out _ st, (hOm.rdk hiA).out _ st, (hOr.rdk hiA).out _ st, (hS25.rdk hiA).out _ st⟩) (fun v26 S26 hF26 => ?_)
  obtain ⟨a26, c26, rfl, hO26⟩ := findL hF26
  refine o_step rfl (s_move rfl) ?_
  refine o_step rfl (s_extract rfl rfl) ?_
  refine o_step rfl (s_extract rfl rfl) ?_
  refine o_step rfl (s_assign rfl) ?_
  refine o_step rfl (s_assign rfl) ?_
  refine o_nil ?_
  refine x_then (hK5 _ _ ?_)
  refine c_seq fun _ hK6 => ?_
  refine c_region ?_
  refine o_step rfl (s_move rfl) ?_
  refine o_bs (E := Eb) (xs := wAB) (vs := [_, _, _, _, _]) rfl rfl rfl rfl rfl (by decide) (by decide) fun b31 S31 hS31 => ?_
  refine o_conv_same rfl hS31 pkA rfl fun S32 hS32 => ?_
  refine o_call (find_re bR a1 c1 (litR lAB) (litR_rng lAB) (some ⟨b31, 0, none⟩) 5 wAB (by decide) x ks hM am (mach (.nd x ks .nil)).length 4) rfl rfl rfl (by exact .nil) (fun _ st => ⟨(RdPK.own meA).out _ st, (hOm.rdk hiA).out _ st, (hOr.rdk hiA).out _ st, (hS32.rdk hiA).out _ st⟩) (fun v33 S33 hF33 => ?_)
  obtain ⟨rfl, rfl⟩ := findL4 hF33
  refine o_step rfl (s_move rfl) ?_
  refine o_step rfl (s_extract rfl rfl) ?_
  refine o_step rfl (s_extract rfl rfl) ?_
  refine o_step rfl (s_assign rfl) ?_
  refine o_step rfl (s_assign rfl) ?_
  refine o_nil ?_
  refine x_then (hK6 _ _ ?_)
  refine c_seq fun _ hK7 => ?_
  refine c_region ?_
  refine o_step rfl (s_move rfl) ?_
  refine o_step rfl (s_move rfl) ?_
  refine o_yes rfl rfl ?_
  refine o_step rfl (s_move rfl) ?_
  refine o_yes rfl rfl ?_
  refine o_step rfl (s_not rfl) ?_
  refine o_step rfl (s_pick_t rfl rfl) ?_
  refine o_step rfl (s_move rfl) ?_
  refine o_yes rfl rfl ?_
  refine o_step rfl (s_move rfl) ?_
  refine o_yes rfl rfl ?_
  refine o_step rfl (s_build (cs := [_, _]) (vs := [_, _]) rfl rfl (.cons rfl rfl rfl rfl rfl (.cons rfl rfl rfl rfl rfl (.nil)))) ?_
  refine o_yes rfl rfl ?_
  refine o_bs (E := Esp) (xs := [⟨1, 3⟩]) (vs := [_]) rfl rfl rfl rfl rfl (by decide) (by decide) fun b44 S44 hS44 => ?_
  refine o_yes rfl rfl ?_
  refine o_callP (eqSpans_fn a26 (some ⟨b44, 0, none⟩) c26 1 [⟨1, 3⟩] [⟨1, 3⟩]) rfl rfl rfl (fun _ st => ⟨(hO26.rdk hiA).out _ st, (hS44.rdk hiA).out _ st⟩) (fun v45 hv45 => ?_)
  subst hv45
  refine o_step rfl (s_pick_t rfl rfl) ?_
  refine o_step rfl (s_assign rfl) ?_
  refine o_nil ?_
  refine x_then (hK7 _ _ ?_)
  refine c_ret ?_
  refine ?_
  exact x_ret rfl (.tmp rfl (.nil)) (rfl)
end Go.Proofs.YtopmnmigpbdddaaDoor

/- Part of the proofs over this seat: see the text that holds the theorem. Conditions: each theorem bears its own. -/
namespace Go.Proofs.YtopmnmigpbdddaaDoor
open Go Go.HL Go.Proofs Go.HL.Kl Go.HL.Kl.Mc Go.HL.Kl.Mc.AskE
theorem findNil_fn (xa : Option Addr) (xc : Nat) (w : List UInt8) (f : Int) : HL.Fn Tryd.prog 4 [.pointer none, .slice xa w.length xc, .int .i64 f] (fun _ => True) [] (fun v _ => v = .tuple #[.slice none 0 0, .bool false]) := by
  refine fn_of Tryd.func4 rfl rfl rfl fun w0 hw => ?_
  refine c_seq fun _ hK1 => ?_
  refine c_region ?_
  refine o_step rfl (s_assign rfl) ?_
  refine o_step rfl (s_assign rfl) ?_
  refine o_nil ?_
  refine x_then (hK1 _ _ ?_)
  refine c_seq fun _ hK2 => ?_
  refine c_seq fun _ hK3 => ?_
  refine c_region ?_
  refine o_step rfl (s_move rfl) ?_
  refine o_step rfl (step_cast (v' := .bool true) (s_eql_nilp rfl rfl) rfl) ?_
  refine o_step rfl (s_move rfl) ?_
  refine o_no rfl rfl rfl rfl ?_
  refine o_no rfl rfl rfl rfl ?_
  refine o_step rfl (s_pick_t rfl rfl) ?_
  refine o_step rfl (s_move rfl) ?_
  refine o_no rfl rfl rfl rfl ?_
  refine o_no rfl rfl rfl rfl ?_
  refine o_no rfl rfl rfl rfl ?_
  refine o_no rfl rfl rfl rfl ?_
  refine o_step rfl (s_pick_t rfl rfl) ?_
  refine o_nil ?_
  refine x_then (hK3 _ _ ?_)
  refine c_true rfl ?_
  refine c_seq fun _ hK4 => ?_
  refine c_region ?_
  refine o_step rfl (s_assign rfl) ?_
  refine o_step rfl (s_assign rfl) ?_
  refine o_nil ?_
  refine x_then (hK4 _ _ ?_)
  refine c_ret ?_
  refine x_then_ret (?_)
  exact x_ret rfl (.tmp rfl (.tmp rfl (.nil))) (rfl)

theorem findPl_fn (bR : Nat) (xa : Option Addr) (xc : Nat) (w : List UInt8) (f : Int) : HL.Fn Tryd.prog 4 [pt bR, .slice xa w.length xc, .int .i64 f] (fun W => RdP W bR 0 [.slice none 0 0, .nilIface, .int .i64 0]) [] (fun v _ => v = .tuple #[.slice none 0 0, .bool false]) := by
  refine fn_of Tryd.func4 rfl rfl rfl fun w0 hw => ?_
  refine c_seq fun _ hK1 => ?_
  refine c_region ?_
  refine o_step rfl (s_assign rfl) ?_
  refine o_step rfl (s_assign rfl) ?_
  refine o_nil ?_
  refine x_then (hK1 _ _ ?_)
  refine c_seq fun _ hK2 => ?_
  refine c_seq fun _ hK3 => ?_
  refine c_region ?_
  refine o_step rfl (s_move rfl) ?_
  refine o_step rfl (step_cast (v' := .bool false) (s_eql_nilp rfl rfl) rfl) ?_
  refine o_step rfl (s_move rfl) ?_
  refine o_yes rfl rfl ?_
  refine o_step rfl (s_move rfl) ?_
  refine o_yes rfl rfl ?_
  by_cases hf0 : f < 0
  ·
   refine o_step rfl (step_cast (v' := .bool true) (s_lss rfl rfl) (by rw [decide_eq_true (by omega)])) ?_
   refine o_step rfl (s_pick_f rfl rfl) ?_
   refine o_step rfl (s_move rfl) ?_
   refine o_no rfl rfl rfl rfl ?_
   refine o_no rfl rfl rfl rfl ?_
   refine o_no rfl rfl rfl rfl ?_
   refine o_no rfl rfl rfl rfl ?_
   refine o_step rfl (s_pick_t rfl rfl) ?_
   refine o_nil ?_
   refine x_then (hK3 _ _ ?_)
   refine c_true rfl ?_
   refine c_seq fun _ hK4 => ?_
   refine c_region ?_
   refine o_step rfl (s_assign rfl) ?_
   refine o_step rfl (s_assign rfl) ?_
   refine o_nil ?_
   refine x_then (hK4 _ _ ?_)
   refine c_ret ?_
   refine x_then_ret (?_)
   exact x_ret rfl (.tmp rfl (.tmp rfl (.nil))) (rfl)
  ·
   refine o_step rfl (step_cast (v' := .bool false) (s_lss rfl rfl) (by rw [decide_eq_false (by omega)])) ?_
   refine o_step rfl (s_pick_f rfl rfl) ?_
   refine o_step rfl (s_move rfl) ?_
   refine o_yes rfl rfl ?_
   refine o_step rfl (s_move rfl) ?_
   refine o_yes rfl rfl ?_
   refine o_step rfl (s_move rfl) ?_
   refine o_yes rfl rfl ?_
   refine o_step rfl (s_len rfl) ?_
   refine o_yes rfl rfl ?_
   by_cases hfn : f > w.length
   ·
    refine o_step rfl (step_cast (v' := .bool true) (s_gtr rfl rfl) (by rw [decide_eq_true (by omega)])) ?_
    refine o_step rfl (s_pick_f rfl rfl) ?_
    refine o_nil ?_
    refine x_then (hK3 _ _ ?_)
    refine c_true rfl ?_
    refine c_seq fun _ hK5 => ?_
    refine c_region ?_
    refine o_step rfl (s_assign rfl) ?_
    refine o_step rfl (s_assign rfl) ?_
    refine o_nil ?_
    refine x_then (hK5 _ _ ?_)
    refine c_ret ?_
    refine x_then_ret (?_)
    exact x_ret rfl (.tmp rfl (.tmp rfl (.nil))) (rfl)
   ·
    refine o_step rfl (step_cast (v' := .bool false) (s_gtr rfl rfl) (by rw [decide_eq_false (by omega)])) ?_
    refine o_step rfl (s_pick_f rfl rfl) ?_
    refine o_nil ?_
    refine x_then (hK3 _ _ ?_)
    refine c_false rfl ?_
    refine c_skip ?_
    refine x_then (hK2 _ _ ?_)
    refine c_seq fun _ hK6 => ?_
    refine c_seq fun _ hK7 => ?_
    refine c_region ?_
    refine o_step rfl (s_move rfl) ?_
    refine o_step rfl (s_nil rfl) ?_
    refine o_step rfl (s_field rfl rfl (by decide)) ?_
    refine o_step rfl (s_ld rfl ((RdPK.old0 hw).cel (j := 1) rfl rfl)) ?_
    refine o_nil ?_
    refine x_then (hK7 _ _ ?_)
    refine c_block ?_
    refine c_seq fun _ hK8 => ?_
    refine c_region ?_
    refine o_step rfl (s_tas_n (by kernel_rfl) rfl) ?_
    refine o_step rfl (s_extract rfl rfl) ?_
    refine o_step rfl (s_extract rfl rfl) ?_
    refine o_nil ?_
    refine x_then (hK8 _ _ ?_)
    refine c_false rfl ?_
    refine c_seq fun _ hK9 => ?_
    refine c_region ?_
    refine o_step rfl (s_tas_n (by kernel_rfl) rfl) ?_
    refine o_step rfl (s_extract rfl rfl) ?_
    refine o_step rfl (s_extract rfl rfl) ?_
    refine o_nil ?_
    refine x_then (hK9 _ _ ?_)
    refine c_false rfl ?_
    refine c_skip ?_
    refine x_block ?_
    refine x_then (hK6 _ _ ?_)
    refine c_seq fun _ hK10 => ?_
    refine c_region ?_
    refine o_step rfl (s_assign rfl) ?_
    refine o_step rfl (s_assign rfl) ?_
    refine o_nil ?_
    refine x_then (hK10 _ _ ?_)
    refine c_ret ?_
    refine ?_
    exact x_ret rfl (.tmp rfl (.tmp rfl (.nil))) (rfl)

theorem treeNil_fn  : HL.Fn Tryd.prog 5 [.pointer none] (fun _ => True) [] (fun v _ => ∃ a c, v = .slice a 0 c) := by
  refine fn_of Tryd.func5 rfl rfl rfl fun w0 hw => ?_
  refine c_seq fun _ hK1 => ?_
  refine c_region ?_
  refine o_step rfl (s_assign rfl) ?_
  refine o_nil ?_
  refine x_then (hK1 _ _ ?_)
  refine c_seq fun _ hK2 => ?_
  refine c_seq fun _ hK3 => ?_
  refine c_region ?_
  refine o_step rfl (s_move rfl) ?_
  refine o_step rfl (step_cast (v' := .bool true) (s_eql_nilp rfl rfl) rfl) ?_
  refine o_nil ?_
  refine x_then (hK3 _ _ ?_)
  refine c_true rfl ?_
  refine c_seq fun _ hK4 => ?_
  refine c_region ?_
  refine o_step rfl (s_assign rfl) ?_
  refine o_nil ?_
  refine x_then (hK4 _ _ ?_)
  refine c_ret ?_
  refine x_then_ret (?_)
  exact x_ret rfl (.tmp rfl (.nil)) (⟨_, _, rfl⟩)

theorem treePl_fn (bR : Nat) : HL.Fn Tryd.prog 5 [pt bR] (fun W => RdP W bR 0 [.slice none 0 0, .nilIface, .int .i64 0]) [] (fun v _ => ∃ a c, v = .slice a 0 c) := by
  refine fn_of Tryd.func5 rfl rfl rfl fun w0 hw => ?_
  refine c_seq fun _ hK1 => ?_
  refine c_region ?_
  refine o_step rfl (s_assign rfl) ?_
  refine o_nil ?_
  refine x_then (hK1 _ _ ?_)
  refine c_seq fun _ hK2 => ?_
  refine c_seq fun _ hK3 => ?_
  refine c_region ?_
  refine o_step rfl (s_move rfl) ?_
  refine o_step rfl (step_cast (v' := .bool false) (s_eql_nilp rfl rfl) rfl) ?_
  refine o_nil ?_
  refine x_then (hK3 _ _ ?_)
  refine c_false rfl ?_
  refine c_skip ?_
  refine x_then (hK2 _ _ ?_)
  refine c_seq fun _ hK4 => ?_
  refine c_region ?_
  refine o_step rfl (s_move rfl) ?_
  refine o_step rfl (s_nil rfl) ?_
  refine o_step rfl (s_field rfl rfl (by decide)) ?_
  refine o_step rfl (s_ld rfl ((RdPK.old0 hw).cel (j := 0) rfl rfl)) ?_
  refine o_call (cloneN_fn none 0 [] (by decide)) rfl rfl rfl (by exact .nil) (fun _ _ => Rd.nil _ _) (fun v9 S9 ⟨a9, c9, hv9, hS9⟩ => ?_)
  subst hv9
  refine o_step rfl (s_assign rfl) ?_
  refine o_nil ?_
  refine x_then (hK4 _ _ ?_)
  refine c_ret ?_
  refine ?_
  exact x_ret rfl (.tmp rfl (.nil)) (⟨_, _, rfl⟩)

theorem groupsNil_fn  : HL.Fn Tryd.prog 6 [.pointer none] (fun _ => True) [] (fun v _ => v = .int .i64 0) := by
  refine fn_of Tryd.func6 rfl rfl rfl fun w0 hw => ?_
  refine c_seq fun _ hK1 => ?_
  refine c_region ?_
  refine o_step rfl (s_assign rfl) ?_
  refine o_nil ?_
  refine x_then (hK1 _ _ ?_)
  refine c_seq fun _ hK2 => ?_
  refine c_seq fun _ hK3 => ?_
  refine c_region ?_
  refine o_step rfl (s_move rfl) ?_
  refine o_step rfl (step_cast (v' := .bool true) (s_eql_nilp rfl rfl) rfl) ?_
  refine o_nil ?_
  refine x_then (hK3 _ _ ?_)
  refine c_true rfl ?_
  refine c_seq fun _ hK4 => ?_
  refine c_region ?_
  refine o_step rfl (s_assign rfl) ?_
  refine o_nil ?_
  refine x_then (hK4 _ _ ?_)
  refine c_ret ?_
  refine x_then_ret (?_)
  exact x_ret rfl (.tmp rfl (.nil)) (rfl)

theorem groupsPl_fn (bR : Nat) : HL.Fn Tryd.prog 6 [pt bR] (fun W => RdP W bR 0 [.slice none 0 0, .nilIface, .int .i64 0]) [] (fun v _ => v = .int .i64 0) := by
  refine fn_of Tryd.func6 rfl rfl rfl fun w0 hw => ?_
  refine c_seq fun _ hK1 => ?_
  refine c_region ?_
  refine o_step rfl (s_assign rfl) ?_
  refine o_nil ?_
  refine x_then (hK1 _ _ ?_)
  refine c_seq fun _ hK2 => ?_
  refine c_seq fun _ hK3 => ?_
  refine c_region ?_
  refine o_step rfl (s_move rfl) ?_
  refine o_step rfl (step_cast (v' := .bool false) (s_eql_nilp rfl rfl) rfl) ?_
  refine o_nil ?_
  refine x_then (hK3 _ _ ?_)
  refine c_false rfl ?_
  refine c_skip ?_
  refine x_then (hK2 _ _ ?_)
  refine c_seq fun _ hK4 => ?_
  refine c_region ?_
  refine o_step rfl (s_move rfl) ?_
  refine o_step rfl (s_nil rfl) ?_
  refine o_step rfl (s_field rfl rfl (by decide)) ?_
  refine o_step rfl (s_ld rfl ((RdPK.old0 hw).cel (j := 2) rfl rfl)) ?_
  refine o_step rfl (s_assign rfl) ?_
  refine o_nil ?_
  refine x_then (hK4 _ _ ?_)
  refine c_ret ?_
  refine ?_
  exact x_ret rfl (.tmp rfl (.nil)) (rfl)

theorem cloneB_fn (a : Option Addr) (c : Nat) (xs : List UInt8) : HL.Fn Tryd.prog 14 [.slice a xs.length c] (fun w => Rd Eb w (.slice a xs.length c) xs) [] (fun v S' => ∃ a' c', v = .slice a' xs.length c' ∧ OwnS Eb 1 5 (.slice a' xs.length c') xs S') := by
  refine fn_of Tryd.func14 rfl rfl rfl fun w0 hw => ?_
  have hsx := hw.sl
  have hbx := hsx.le
  refine c_seq fun _ hK1 => ?_
  refine c_region ?_
  refine o_step rfl (s_assign rfl) ?_
  refine o_nil ?_
  refine x_then (hK1 _ _ ?_)
  refine c_seq fun _ hK2 => ?_
  refine c_seq fun _ hK3 => ?_
  refine c_region ?_
  refine o_step rfl (s_move rfl) ?_
  refine o_step rfl (s_eql_nils rfl rfl) ?_
  refine o_nil ?_
  refine x_then (hK3 _ _ ?_)
  refine c_cond rfl (fun hn => ?_) (fun hn => ?_)
  ·
   have ha : a = none := Option.isNone_iff_eq_none.1 hn
   subst ha
   have hx0 : xs = [] := List.eq_nil_of_length_eq_zero hsx.none
   subst hx0
   refine c_seq fun _ hK4 => ?_
   refine c_region ?_
   refine o_step rfl (s_assign rfl) ?_
   refine o_nil ?_
   refine x_then (hK4 _ _ ?_)
   refine c_ret ?_
   refine x_then_ret (?_)
   exact x_ret rfl (.tmp rfl (.nil)) (⟨_, _, rfl, .nil⟩)
  ·
   refine c_skip ?_
   refine x_then (hK2 _ _ ?_)
   refine c_seq fun _ hK5 => ?_
   refine c_region ?_
   refine o_bs (E := Eb) (xs := []) (vs := []) rfl rfl rfl rfl rfl (by decide) (by decide) fun b5 S5 hS5 => ?_
   refine o_step rfl (s_move rfl) ?_
   refine o_app hS5 (RdK.old0 hw) rfl rfl rfl rfl (by simp; omega) (by simp; omega) rfl pkA fun a7 c7 S7 hS7 => ?_
   refine o_step rfl (s_assign rfl) ?_
   refine o_nil ?_
   refine x_then (hK5 _ _ ?_)
   refine c_ret ?_
   refine ?_
   simp only [List.nil_append] at hS7
   exact x_ret rfl (.tmp rfl (.nil)) (⟨_, _, rfl, by simpa using hS7⟩)

theorem all_fn (q : Option Addr) (xa : Option Addr) (xc : Nat) (w : List UInt8) : HL.Fn Tryd.prog 8 [.pointer q, .slice xa w.length xc] (fun W => Rd Eb W (.slice xa w.length xc) w) [] (fun v S' => ∃ b2 b3 u Sx, v = .func (.func 15) #[] #[pt b2, pt b3] ∧ S' = (b2, .cells [.pointer q].toArray 23 (0, 0)) :: (b3, .cells [u].toArray 22 (0, 0)) :: Sx) := by
  refine fn_of Tryd.func8 rfl rfl rfl fun w0 hw => ?_
  refine c_seq fun _ hK1 => ?_
  refine c_region ?_
  refine o_box rfl rfl rfl fun b2 => ?_
  refine o_box rfl rfl rfl fun b3 => ?_
  refine o_step rfl (s_assign rfl) ?_
  refine o_nil ?_
  refine x_then (hK1 _ _ ?_)
  refine c_seq fun _ hK2 => ?_
  refine c_region ?_
  refine o_step rfl (s_ld rfl (.own meA rfl)) ?_
  refine o_call (cloneB_fn xa xc w) rfl rfl rfl (by exact .nil) (fun _ st => (RdK.old0 hw).out _ st) (fun v6 S6 ⟨a6, c6, hv6, hS6⟩ => ?_)
  subst hv6
  refine o_store rfl rfl rfl upA ltA rfl ?_
  refine o_nil ?_
  refine x_then (hK2 _ _ ?_)
  refine c_seq fun _ hK3 => ?_
  refine c_region ?_
  refine o_step rfl (s_func (us := []) (vs := [_, _]) rfl rfl) ?_
  refine o_step rfl (s_assign rfl) ?_
  refine o_nil ?_
  refine x_then (hK3 _ _ ?_)
  refine c_ret ?_
  refine ?_
  refine x_sub (Sub.refl _) (H' := (b2, .cells [.pointer q].toArray 23 (0, 0)) :: (b3, .cells [.slice a6 w.length c6].toArray 22 (0, 0)) :: S6) hzB ?_
  exact x_ret rfl (.tmp rfl (.nil)) (⟨b2, b3, _, S6, rfl, rfl⟩)

theorem allNil_fn (yv : Value) (b2 b3 : Nat) : HL.Fn Tryd.prog 15 [yv, pt b2, pt b3] (fun W => RdP W b2 0 [.pointer none]) [] (fun v S' => v = .tuple #[] ∧ S' = []) := by
  refine fn_of Tryd.func15 rfl rfl rfl fun w0 hw => ?_
  refine c_seq fun _ hK1 => ?_
  refine c_seq fun _ hK2 => ?_
  refine c_region ?_
  refine o_step rfl (s_ld rfl ((RdPK.old0 hw).cel (j := 0) rfl rfl)) ?_
  refine o_step rfl (step_cast (v' := .bool true) (s_eql_nilp rfl rfl) rfl) ?_
  refine o_step rfl (s_move rfl) ?_
  refine o_no rfl rfl rfl rfl ?_
  refine o_no rfl rfl rfl rfl ?_
  refine o_no rfl rfl rfl rfl ?_
  refine o_no rfl rfl rfl rfl ?_
  refine o_no rfl rfl rfl rfl ?_
  refine o_step rfl (s_pick_t rfl rfl) ?_
  refine o_nil ?_
  refine x_then (hK2 _ _ ?_)
  refine c_true rfl ?_
  refine c_ret ?_
  refine x_then_ret (?_)
  exact x_ret rfl (.nil) (⟨rfl, rfl⟩)

theorem allPl_fn (yv : Value) (b2 b3 bR : Nat) : HL.Fn Tryd.prog 15 [yv, pt b2, pt b3] (fun W => RdP W b2 0 [pt bR] ∧ RdP W bR 0 [.slice none 0 0, .nilIface, .int .i64 0]) [] (fun v S' => v = .tuple #[] ∧ S' = []) := by
  refine fn_of Tryd.func15 rfl rfl rfl fun w0 hw => ?_
  refine c_seq fun _ hK1 => ?_
  refine c_seq fun _ hK2 => ?_
  refine c_region ?_
  refine o_step rfl (s_ld rfl ((RdPK.old0 hw.1).cel (j := 0) rfl rfl)) ?_
  refine o_step rfl (step_cast (v' := .bool false) (s_eql_nilp rfl rfl) rfl) ?_
  refine o_step rfl (s_move rfl) ?_
  refine o_yes rfl rfl ?_
  refine o_step rfl (s_ld rfl ((RdPK.old0 hw.1).cel (j := 0) rfl rfl)) ?_
  refine o_yes rfl rfl ?_
  refine o_step rfl (s_nil rfl) ?_
  refine o_yes rfl rfl ?_
  refine o_step rfl (s_field rfl rfl (by decide)) ?_
  refine o_yes rfl rfl ?_
  refine o_step rfl (s_ld rfl ((RdPK.old0 hw.2).cel (j := 1) rfl rfl)) ?_
  refine o_yes rfl rfl ?_
  refine o_step rfl (s_eql_nilif (by kernel_rfl) rfl) ?_
  refine o_step rfl (s_pick_f rfl rfl) ?_
  refine o_nil ?_
  refine x_then (hK2 _ _ ?_)
  refine c_true rfl ?_
  refine c_ret ?_
  refine x_then_ret (?_)
  exact x_ret rfl (.nil) (⟨rfl, rfl⟩)

theorem goneNil_fn (c2 c3 : Nat) (mo : Int) : HL.Fn Tryd.prog 7 [.func (.func 15) #[] #[pt c2, pt c3], .int .i64 mo] (fun W => RdP W c2 0 [.pointer none]) [] (fun v _ => v = .slice none 0 0) := by
  refine fn_of Tryd.func7 rfl rfl rfl fun w0 hw => ?_
  refine c_seq fun _ hK1 => ?_
  refine c_region ?_
  refine o_box rfl rfl rfl fun b3 => ?_
  refine o_step rfl (s_assign rfl) ?_
  refine o_nil ?_
  refine x_then (hK1 _ _ ?_)
  refine c_seq fun _ hK2 => ?_
  refine c_region ?_
  refine o_alloc rfl rfl fun b5 => ?_
  refine o_nil ?_
  refine x_then (hK2 _ _ ?_)
  refine c_seq fun _ hK3 => ?_
  refine c_seq fun _ hK4 => ?_
  refine c_region ?_
  refine o_step rfl (s_move rfl) ?_
  refine o_step rfl (s_eql_nilf rfl rfl) ?_
  refine o_nil ?_
  refine x_then (hK4 _ _ ?_)
  refine c_false rfl ?_
  refine c_skip ?_
  refine x_then (hK3 _ _ ?_)
  refine c_seq fun _ hK5 => ?_
  refine c_region ?_
  refine o_step rfl (s_move rfl) ?_
  refine o_step rfl (s_func (us := []) (vs := [_, _]) rfl rfl) ?_
  refine o_callC (us := []) (vs := [_]) (cs := [pt c2, pt c3]) (allNil_fn _ c2 c3) rfl rfl rfl (by exact .nil) (fun _ st => (RdPK.old0 hw).out _ st) (fun v10 S10 ⟨hv10, hS10⟩ => ?_)
  subst hv10
  subst hS10
  refine o_nil ?_
  refine x_then (hK5 _ _ ?_)
  refine c_seq fun _ hK6 => ?_
  refine c_region ?_
  refine o_step rfl (s_ld rfl (.own meA rfl)) ?_
  refine o_step rfl (s_assign rfl) ?_
  refine o_nil ?_
  refine x_then (hK6 _ _ ?_)
  refine c_ret ?_
  refine ?_
  exact x_ret rfl (.tmp rfl (.nil)) (rfl)

theorem gonePl_fn (c2 c3 bR : Nat) (mo : Int) : HL.Fn Tryd.prog 7 [.func (.func 15) #[] #[pt c2, pt c3], .int .i64 mo] (fun W => RdP W c2 0 [pt bR] ∧ RdP W bR 0 [.slice none 0 0, .nilIface, .int .i64 0]) [] (fun v _ => v = .slice none 0 0) := by
  refine fn_of Tryd.func7 rfl rfl rfl fun w0 hw => ?_
  refine c_seq fun _ hK1 => ?_
  refine c_region ?_
  refine o_box rfl rfl rfl fun b3 => ?_
  refine o_step rfl (s_assign rfl) ?_
  refine o_nil ?_
  refine x_then (hK1 _ _ ?_)
  refine c_seq fun _ hK2 => ?_
  refine c_region ?_
  refine o_alloc rfl rfl fun b5 => ?_
  refine o_nil ?_
  refine x_then (hK2 _ _ ?_)
  refine c_seq fun _ hK3 => ?_
  refine c_seq fun _ hK4 => ?_
  refine c_region ?_
  refine o_step rfl (s_move rfl) ?_
  refine o_step rfl (s_eql_nilf rfl rfl) ?_
  refine o_nil ?_
  refine x_then (hK4 _ _ ?_)
  refine c_false rfl ?_
  refine c_skip ?_
  refine x_then (hK3 _ _ ?_)
  refine c_seq fun _ hK5 => ?_
  refine c_region ?_
  refine o_step rfl (s_move rfl) ?_
  refine o_step rfl (s_func (us := []) (vs := [_, _]) rfl rfl) ?_
  refine o_callC (us := []) (vs := [_]) (cs := [pt c2, pt c3]) (allPl_fn _ c2 c3 bR) rfl rfl rfl (by exact .nil) (fun _ st => ⟨(RdPK.old0 hw.1).out _ st, (RdPK.old0 hw.2).out _ st⟩) (fun v10 S10 ⟨hv10, hS10⟩ => ?_)
  subst hv10
  subst hS10
  refine o_nil ?_
  refine x_then (hK5 _ _ ?_)
  refine c_seq fun _ hK6 => ?_
  refine c_region ?_
  refine o_step rfl (s_ld rfl (.own meA rfl)) ?_
  refine o_step rfl (s_assign rfl) ?_
  refine o_nil ?_
  refine x_then (hK6 _ _ ?_)
  refine c_ret ?_
  refine ?_
  exact x_ret rfl (.tmp rfl (.nil)) (rfl)
end Go.Proofs.YtopmnmigpbdddaaDoor

/- Part of the proofs over this seat: see the text that holds the theorem. Conditions: each theorem bears its own. -/
namespace Go.Proofs.YtopmnmigpbdddaaDoor
open Go Go.HL Go.Proofs Go.HL.Kl Go.HL.Kl.Mc Go.HL.Kl.Mc.AskE
set_option maxHeartbeats 2000000 in
theorem regexNil_fn (xa : Option Addr) (xc : Nat) (w : List UInt8) (f : Int) : HL.Fn Tryd.prog 3 [.slice xa w.length xc, .int .i64 f] (fun W => Rd Eb W (.slice xa w.length xc) w) [] (fun v _ => v = .bool true) := by
  refine fn_of Tryd.func3 rfl rfl rfl fun w0 hw => ?_
  have hsl := hw.sl
  have hbl := hsl.le
  refine c_seq fun _ hK1 => ?_
  refine c_region ?_
  refine o_step rfl (s_assign rfl) ?_
  refine o_nil ?_
  refine x_then (hK1 _ _ ?_)
  refine c_seq fun _ hK2 => ?_
  refine c_region ?_
  refine o_step rfl (s_assign rfl) ?_
  refine o_nil ?_
  refine x_then (hK2 _ _ ?_)
  refine c_seq fun _ hK3 => ?_
  refine c_seq fun _ hK4 => ?_
  refine c_region ?_
  refine o_step rfl (s_assign rfl) ?_
  refine o_nil ?_
  refine x_then (hK4 _ _ ?_)
  refine c_block ?_
  -- not carried: 4
  refine c_loopB (fun (i : Nat) => i ≤ 2) (fun (i : Nat) => [(6, .int .i64 i)]) [(0, _), (1, _), (5, _)] (fun (i : Nat) => []) (fun (i : Nat) => 2 - i) 0 (by omega) sbA sbA hzB ?_
  rintro i hi
  refine c_seq fun _ hK5 => ?_
  refine c_seq fun _ hK6 => ?_
  refine c_region ?_
  refine o_step rfl (s_move rfl) ?_
  by_cases hil : (i : Int) < 2
  ·
   refine o_step rfl (step_cast (v' := .bool true) (s_lss rfl rfl) (by rw [decide_eq_true (by omega)])) ?_
   refine o_nil ?_
   refine x_then (hK6 _ _ ?_)
   refine c_true rfl ?_
   refine c_skip ?_
   refine x_then (hK5 _ _ ?_)
   refine c_seq fun _ hK7 => ?_
   refine c_block ?_
   refine c_seq fun _ hK8 => ?_
   refine c_region ?_
   refine o_step rfl (s_move rfl) ?_
   refine o_step rfl (s_assign rfl) ?_
   refine o_nil ?_
   refine x_then (hK8 _ _ ?_)
   refine c_seq fun _ hK9 => ?_
   refine c_seq fun _ hK10 => ?_
   refine c_region ?_
   refine o_step rfl (s_move rfl) ?_
   by_cases hi1 : (i : Int) = 1
   ·
    refine o_step rfl (step_cast (v' := .bool true) (s_eql rfl rfl) (by rw [decide_eq_true (by omega)])) ?_
    refine o_nil ?_
    refine x_then (hK10 _ _ ?_)
    refine c_true rfl ?_
    refine c_region ?_
    refine o_step rfl (s_build (cs := [_, _, _]) (vs := []) rfl rfl (.nil)) ?_
    refine o_box rfl rfl rfl fun b18 => ?_
    refine o_step rfl (s_assign rfl) ?_
    refine o_nil ?_
    refine x_then (hK9 _ _ ?_)
    refine c_seq fun _ hK11 => ?_
    refine c_region ?_
    refine o_step rfl (s_move rfl) ?_
    refine o_step rfl (s_move rfl) ?_
    refine o_step rfl (s_move rfl) ?_
    refine o_callP (findPl_fn b18 xa xc w f) rfl rfl rfl (fun _ st => (RdPK.own meA).out _ st) (fun v23 hv23 => ?_)
    subst hv23
    refine o_step rfl (s_move rfl) ?_
    refine o_step rfl (s_extract rfl rfl) ?_
    refine o_step rfl (s_extract rfl rfl) ?_
    refine o_step rfl (s_assign rfl) ?_
    refine o_step rfl (s_assign rfl) ?_
    refine o_nil ?_
    refine x_then (hK11 _ _ ?_)
    refine c_seq fun _ hK12 => ?_
    refine c_region ?_
    refine o_step rfl (s_move rfl) ?_
    refine o_callP (treePl_fn b18) rfl rfl rfl (fun _ st => (RdPK.own meA).out _ st) (fun v27 hv27 => ?_)
    obtain ⟨a27, c27, rfl⟩ := hv27
    refine o_step rfl (s_len rfl) ?_
    refine o_step rfl (step_cast (v' := .bool false) (s_neq rfl rfl) rfl) ?_
    refine o_step rfl (s_move rfl) ?_
    refine o_yes rfl rfl ?_
    refine o_step rfl (s_move rfl) ?_
    refine o_yes rfl rfl ?_
    refine o_callP (groupsPl_fn b18) rfl rfl rfl (fun _ st => (RdPK.own meA).out _ st) (fun v32 hv32 => ?_)
    subst hv32
    refine o_yes rfl rfl ?_
    refine o_step rfl (step_cast (v' := .bool false) (s_neq rfl rfl) rfl) ?_
    refine o_step rfl (s_pick_f rfl rfl) ?_
    refine o_step rfl (s_move rfl) ?_
    refine o_yes rfl rfl ?_
    refine o_step rfl (s_move rfl) ?_
    refine o_step rfl (s_pick_f rfl rfl) ?_
    refine o_step rfl (s_move rfl) ?_
    refine o_yes rfl rfl ?_
    refine o_step rfl (s_move rfl) ?_
    refine o_yes rfl rfl ?_
    refine o_step rfl (s_len rfl) ?_
    refine o_yes rfl rfl ?_
    refine o_step rfl (step_cast (v' := .bool false) (s_neq rfl rfl) rfl) ?_
    refine o_step rfl (s_pick_f rfl rfl) ?_
    refine o_step rfl (s_move rfl) ?_
    refine o_yes rfl rfl ?_
    refine o_step rfl (s_move rfl) ?_
    refine o_yes rfl rfl ?_
    refine o_step rfl (s_move rfl) ?_
    refine o_yes rfl rfl ?_
    refine o_call (all_fn (some ⟨b18, 0, none⟩) xa xc w) rfl rfl rfl (by exact .nil) (fun _ st => (RdK.old0 hw).out _ st) (fun v46 S46 ⟨c2, c3, u46, S46x, hv46, hS46⟩ => ?_)
    subst hv46
    subst hS46
    refine o_yes rfl rfl ?_
    refine o_callP (gonePl_fn c2 c3 b18 3) rfl rfl rfl (fun _ st => ⟨(RdPK.own meA).out _ st, (RdPK.own meA).out _ st⟩) (fun v47 hv47 => ?_)
    subst hv47
    refine o_yes rfl rfl ?_
    refine o_step rfl (s_len rfl) ?_
    refine o_yes rfl rfl ?_
    refine o_step rfl (step_cast (v' := .bool false) (s_neq rfl rfl) rfl) ?_
    refine o_step rfl (s_pick_f rfl rfl) ?_
    refine o_nil ?_
    refine x_then (hK12 _ _ ?_)
    refine c_false rfl ?_
    refine c_skip ?_
    refine x_block ?_
    refine x_then (hK7 _ _ ?_)
    refine c_region ?_
    refine o_step rfl (s_move rfl) ?_
    refine o_step rfl (s_add rfl rfl (by omega)) ?_
    refine o_step rfl (s_assign rfl) ?_
    refine o_nil ?_
    exact x_then (x_inv (i + 1) (by omega) (by first | omega | (dsimp only; omega)) sbA hzB)
   ·
    refine o_step rfl (step_cast (v' := .bool false) (s_eql rfl rfl) (by rw [decide_eq_false (by omega)])) ?_
    refine o_nil ?_
    refine x_then (hK10 _ _ ?_)
    refine c_false rfl ?_
    refine c_skip ?_
    refine x_then (hK9 _ _ ?_)
    refine c_seq fun _ hK13 => ?_
    refine c_region ?_
    refine o_step rfl (s_move rfl) ?_
    refine o_step rfl (s_move rfl) ?_
    refine o_step rfl (s_move rfl) ?_
    refine o_callP (findNil_fn xa xc w f) rfl rfl rfl (fun _ _ => trivial) (fun v23 hv23 => ?_)
    subst hv23
    refine o_step rfl (s_move rfl) ?_
    refine o_step rfl (s_extract rfl rfl) ?_
    refine o_step rfl (s_extract rfl rfl) ?_
    refine o_step rfl (s_assign rfl) ?_
    refine o_step rfl (s_assign rfl) ?_
    refine o_nil ?_
    refine x_then (hK13 _ _ ?_)
    refine c_seq fun _ hK14 => ?_
    refine c_region ?_
    refine o_step rfl (s_move rfl) ?_
    refine o_callP (treeNil_fn) rfl rfl rfl (fun _ _ => trivial) (fun v27 hv27 => ?_)
    obtain ⟨a27, c27, rfl⟩ := hv27
    refine o_step rfl (s_len rfl) ?_
    refine o_step rfl (step_cast (v' := .bool false) (s_neq rfl rfl) rfl) ?_
    refine o_step rfl (s_move rfl) ?_
    refine o_yes rfl rfl ?_
    refine o_step rfl (s_move rfl) ?_
    refine o_yes rfl rfl ?_
    refine o_callP (groupsNil_fn) rfl rfl rfl (fun _ _ => trivial) (fun v32 hv32 => ?_)
    subst hv32
    refine o_yes rfl rfl ?_
    refine o_step rfl (step_cast (v' := .bool false) (s_neq rfl rfl) rfl) ?_
    refine o_step rfl (s_pick_f rfl rfl) ?_
    refine o_step rfl (s_move rfl) ?_
    refine o_yes rfl rfl ?_
    refine o_step rfl (s_move rfl) ?_
    refine o_step rfl (s_pick_f rfl rfl) ?_
    refine o_step rfl (s_move rfl) ?_
    refine o_yes rfl rfl ?_
    refine o_step rfl (s_move rfl) ?_
    refine o_yes rfl rfl ?_
    refine o_step rfl (s_len rfl) ?_
    refine o_yes rfl rfl ?_
    refine o_step rfl (step_cast (v' := .bool false) (s_neq rfl rfl) rfl) ?_
    refine o_step rfl (s_pick_f rfl rfl) ?_
    refine o_step rfl (s_move rfl) ?_
    refine o_yes rfl rfl ?_
    refine o_step rfl (s_move rfl) ?_
    refine o_yes rfl rfl ?_
    refine o_step rfl (s_move rfl) ?_
    refine o_yes rfl rfl ?_
    refine o_call (all_fn none xa xc w) rfl rfl rfl (by exact .nil) (fun _ st => (RdK.old0 hw).out _ st) (fun v46 S46 ⟨c2, c3, u46, S46x, hv46, hS46⟩ => ?_)
    subst hv46
    subst hS46
    refine o_yes rfl rfl ?_
    refine o_callP (goneNil_fn c2 c3 3) rfl rfl rfl (fun _ st => (RdPK.own meA).out _ st) (fun v47 hv47 => ?_)
    subst hv47
    refine o_yes rfl rfl ?_
    refine o_step rfl (s_len rfl) ?_
    refine o_yes rfl rfl ?_
    refine o_step rfl (step_cast (v' := .bool false) (s_neq rfl rfl) rfl) ?_
    refine o_step rfl (s_pick_f rfl rfl) ?_
    refine o_nil ?_
    refine x_then (hK14 _ _ ?_)
    refine c_false rfl ?_
    refine c_skip ?_
    refine x_block ?_
    refine x_then (hK7 _ _ ?_)
    refine c_region ?_
    refine o_step rfl (s_move rfl) ?_
    refine o_step rfl (s_add rfl rfl (by omega)) ?_
    refine o_step rfl (s_assign rfl) ?_
    refine o_nil ?_
    exact x_then (x_inv (i + 1) (by omega) (by first | omega | (dsimp only; omega)) sbA hzB)
  ·
   refine o_step rfl (step_cast (v' := .bool false) (s_lss rfl rfl) (by rw [decide_eq_false (by omega)])) ?_
   refine o_nil ?_
   refine x_then (hK6 _ _ ?_)
   refine c_false rfl ?_
   refine c_exit ?_
   refine x_then_exit ?_
   refine x_then_exit ?_
   refine x_block_exit ?_
   refine x_then (hK3 _ _ ?_)
   refine c_seq fun _ hK15 => ?_
   refine c_region ?_
   refine o_callP (lives_fn) rfl rfl rfl (fun _ _ => trivial) (fun v51 hv51 => ?_)
   subst hv51
   refine o_step rfl (s_assign rfl) ?_
   refine o_nil ?_
   refine x_then (hK15 _ _ ?_)
   refine c_ret ?_
   refine ?_
   exact x_ret rfl (.tmp rfl (.nil)) (rfl)
end Go.Proofs.YtopmnmigpbdddaaDoor

/- Part of the proofs over this seat: see the text that holds the theorem. Conditions: each theorem bears its own. -/
namespace Go.Proofs.YtopmnmigpbdddaaDoor
open Go Go.HL Go.Proofs
theorem own : ownKnob Tryd.prog.godebug = none := by kernel_rfl
theorem laidOut : laidOutB Tryd.prog = true := by kernel_rfl
/-- the door's own heap meets the condition -/
theorem door_met (os : Os) (args : Array Value) : laidMetH Tryd.prog Rows.regexNilRow.laid ((World.doorLaid Tryd.prog 400 os).forCall (fun _ _ => 0) ⟨#[], args, []⟩).memory :=
  laidMetH_of_parts3 (fuel := 8) (laidMet_of_run' 8 (by kernel_rfl) (by kernel_rfl)) (by kernel_rfl) (by kernel_rfl)
end Go.Proofs.YtopmnmigpbdddaaDoor
