/- Part of the proofs over this seat: see the text that holds the theorem. Conditions: each theorem bears its own. -/
import Derived.Test.YtihbhlgognpmmaaNW15Z
import Derived.Test.YtihbhlgognpmmaaMT20Z
import Derived.Test.YtihbhlgognpmmaaHlB
import Derived.Test.YtihbhlgognpmmaaNF1Z
import Derived.Test.YtihbhlgognpmmaaMC3Z
namespace Go.Proofs.Ytihbhlgognpmmaa
open Go Go.HL Go.Proofs Go.HL.Kl Go.HL.Kl.Mc
theorem eqBytes_fn (a a2 : Option Addr) (c c2 : Nat) (xs ys : List UInt8) : HL.Fn Try.prog 28 [.slice a xs.length c, .slice a2 ys.length c2] (fun w => Rd Eb w (.slice a xs.length c) xs ∧ Rd Eb w (.slice a2 ys.length c2) ys) [] (fun v _ => v = .bool (decide (xs = ys))) := by
  refine fn_of Try.func28 rfl rfl rfl fun w0 hw => ?_
  obtain ⟨hx, hy⟩ := hw
  have hsx := hx.sl
  have hsy := hy.sl
  have hbx := hsx.le
  have hby := hsy.le
  refine c_seq fun _ hK1 => ?_
  refine c_region ?_
  refine o_step rfl (s_assign rfl) ?_
  refine o_nil ?_
  refine x_then (hK1 _ _ ?_)
  refine c_seq fun _ hK2 => ?_
  refine c_seq fun _ hK3 => ?_
  refine c_region ?_
  refine o_step rfl (s_move rfl) ?_
  refine o_step rfl (s_len rfl) ?_
  refine o_step rfl (s_move rfl) ?_
  refine o_step rfl (s_len rfl) ?_
  refine o_step rfl (s_neq rfl rfl) ?_
  refine o_nil ?_
  refine x_then (hK3 _ _ ?_)
  refine c_if rfl (fun hl => ?_) (fun hl => ?_)
  ·
   refine c_seq fun _ hK4 => ?_
   refine c_region ?_
   refine o_step rfl (s_assign rfl) ?_
   refine o_nil ?_
   refine x_then (hK4 _ _ ?_)
   refine c_ret ?_
   refine x_then_ret (?_)
   exact x_ret rfl (.tmp rfl (.nil)) ((congrArg Value.bool (decide_eq_false (by intro e; subst e; omega)).symm))
  ·
   refine c_skip ?_
   refine x_then (hK2 _ _ ?_)
   refine c_seq fun _ hK5 => ?_
   refine c_seq fun _ hK6 => ?_
   refine c_region ?_
   refine o_step rfl (s_assign rfl) ?_
   refine o_nil ?_
   refine x_then (hK6 _ _ ?_)
   refine c_block ?_
   -- not carried: 4
   refine c_loopB (fun (j : Nat) => j ≤ xs.length ∧ ∀ i, i < j → xs[i]? = ys[i]?) (fun (j : Nat) => [(5, .int .i64 j)]) [(0, _), (1, _)] (fun (j : Nat) => _) (fun (j : Nat) => xs.length - j) 0 ⟨by omega, fun i hi => by omega⟩ sbA sbA hzB ?_
   rintro j ⟨hj, hjt⟩
   refine c_seq fun _ hK7 => ?_
   refine c_seq fun _ hK8 => ?_
   refine c_region ?_
   refine o_step rfl (s_move rfl) ?_
   refine o_step rfl (s_move rfl) ?_
   refine o_step rfl (s_len rfl) ?_
   refine o_step rfl (s_lss rfl rfl) ?_
   refine o_nil ?_
   refine x_then (hK8 _ _ ?_)
   refine c_if rfl (fun hlt => ?_) (fun hlt => ?_)
   ·
    obtain ⟨x, hxj⟩ : ∃ x, xs[j]? = some x := ⟨_, List.getElem?_eq_getElem (by omega)⟩
    obtain ⟨y, hyj⟩ : ∃ y, ys[j]? = some y := ⟨_, List.getElem?_eq_getElem (by omega)⟩
    refine c_skip ?_
    refine x_then (hK7 _ _ ?_)
    refine c_seq fun _ hK9 => ?_
    refine c_block ?_
    refine c_seq fun _ hK10 => ?_
    refine c_drawE ([]) (fun i => false) ?_
    refine e_take 0 rfl (by kernel_rfl) (by kernel_rfl) (by kernel_rfl) (by kernel_rfl) (fun _ _ => rfl) rfl (by exact HSub.nil) (s_move rfl) ?_
    refine e_take 1 rfl (by kernel_rfl) (by kernel_rfl) (by kernel_rfl) (by kernel_rfl) (fun _ _ => rfl) rfl (by exact HSub.nil) (s_move rfl) ?_
    refine e_take 2 rfl (by kernel_rfl) (by kernel_rfl) (by kernel_rfl) (by kernel_rfl) (fun _ _ => rfl) rfl (by exact HSub.nil) (s_idx rfl rfl hsx (by omega)) ?_
    refine e_take 3 rfl (by kernel_rfl) (by kernel_rfl) (by kernel_rfl) (by kernel_rfl) (fun _ _ => rfl) rfl (by exact HSub.nil) (s_ld rfl ((RdK.old0 hx).ld j 0 hxj rfl (by decide) (by omega))) ?_
    refine e_take 4 rfl (by kernel_rfl) (by kernel_rfl) (by kernel_rfl) (by kernel_rfl) (fun _ _ => rfl) rfl (by exact HSub.nil) (s_move rfl) ?_
    refine e_take 5 rfl (by kernel_rfl) (by kernel_rfl) (by kernel_rfl) (by kernel_rfl) (fun _ _ => rfl) rfl (by exact HSub.nil) (s_move rfl) ?_
    refine e_take 6 rfl (by kernel_rfl) (by kernel_rfl) (by kernel_rfl) (by kernel_rfl) (fun _ _ => rfl) rfl (by exact HSub.nil) (s_idx rfl rfl hsy (by omega)) ?_
    refine e_take 7 rfl (by kernel_rfl) (by kernel_rfl) (by kernel_rfl) (by kernel_rfl) (fun _ _ => rfl) rfl (by exact HSub.nil) (s_ld rfl ((RdK.old0 hy).ld j 0 hyj rfl (by decide) (by omega))) ?_
    refine e_take 8 rfl (by kernel_rfl) (by kernel_rfl) (by kernel_rfl) (by kernel_rfl) (fun _ _ => rfl) rfl (by exact HSub.nil) (step_cast (v' := .bool (!decide (x = y))) (s_neq rfl rfl) (congrArg Value.bool u8_ne)) ?_
    refine e_done (by kernel_rfl) ?_
    refine x_then (hK10 _ _ ?_)
    refine c_ifn rfl (fun hne => ?_) (fun hne => ?_)
    ·
     refine c_seq fun _ hK11 => ?_
     refine c_region ?_
     refine o_step rfl (s_assign rfl) ?_
     refine o_nil ?_
     refine x_then (hK11 _ _ ?_)
     refine c_ret ?_
     refine x_block_ret (x_then_ret (x_then_ret (x_block_ret (x_then_ret (?_)))))
     exact x_ret rfl (.tmp rfl (.nil)) ((congrArg Value.bool (decide_eq_false (by intro e; subst e; rw [hxj] at hyj; cases hyj; exact hne rfl)).symm))
    ·
     refine c_skip ?_
     refine x_block ?_
     refine x_then (hK9 _ _ ?_)
     refine c_region ?_
     refine o_step rfl (s_move rfl) ?_
     refine o_step rfl (s_add rfl rfl (by omega)) ?_
     refine o_step rfl (s_assign rfl) ?_
     refine o_nil ?_
     exact x_then (x_inv (j + 1) ⟨by omega, fun i hi => by rcases Nat.lt_or_ge i j with h | h; exact hjt i h; rw [show i = j by omega, hxj, hyj, hne]⟩ (by first | omega | (dsimp only; omega)) sbA hzB)
   ·
    refine c_exit ?_
    refine x_then_exit ?_
    refine x_then_exit ?_
    refine x_block_exit ?_
    refine x_then (hK5 _ _ ?_)
    refine c_seq fun _ hK12 => ?_
    refine c_region ?_
    refine o_step rfl (s_assign rfl) ?_
    refine o_nil ?_
    refine x_then (hK12 _ _ ?_)
    refine c_ret ?_
    refine ?_
    exact x_ret rfl (.tmp rfl (.nil)) ((congrArg Value.bool (decide_eq_true (ext_upto (by omega) fun i hi => hjt i (by omega))).symm))

set_option maxHeartbeats 4000000 in
theorem machineRows_fn (aa : Option Addr) (ac : Nat) (row : List UInt8) (ta : Option Addr) (tc : Nat) (w : List UInt8) (l m : Int) : HL.Fn Try.prog 6 [.slice aa row.length ac, .slice ta w.length tc, .int .i64 l, .int .i64 m] (fun W => Rd Eb W (.slice aa row.length ac) row ∧ Rd Eb W (.slice ta w.length tc) w) [] (fun v _ => v = .bool true) := by
  refine fn_of Try.func6 rfl rfl rfl fun w0 hw => ?_
  have hsa := hw.1.sl
  have hst := hw.2.sl
  have hstc := hst.cap
  have hbl := hsa.le
  have htl := hst.le
  refine c_seq fun _ hK1 => ?_
  refine c_region ?_
  refine o_step rfl (s_assign rfl) ?_
  refine o_nil ?_
  refine x_then (hK1 _ _ ?_)
  refine c_seq fun _ hK2 => ?_
  refine c_region ?_
  refine o_callP (works_fn) rfl rfl rfl (fun _ _ => trivial) (fun v18 hv18 => ?_)
  subst hv18
  refine o_step rfl (s_assign rfl) ?_
  refine o_nil ?_
  refine x_then (hK2 _ _ ?_)
  refine c_seq fun _ hK3 => ?_
  refine c_seq fun _ hK4 => ?_
  refine c_region ?_
  refine o_step rfl (s_move rfl) ?_
  refine o_step rfl (s_len rfl) ?_
  by_cases h0 : (row.length : Int) = 0
  ·
   refine o_step rfl (step_cast (v' := .bool true) (s_eql rfl rfl) (by rw [decide_eq_true (by omega)])) ?_
   refine o_step rfl (s_move rfl) ?_
   refine o_no rfl rfl rfl rfl ?_
   refine o_no rfl rfl rfl rfl ?_
   refine o_no rfl rfl rfl rfl ?_
   refine o_step rfl (s_pick_t rfl rfl) ?_
   refine o_step rfl (s_move rfl) ?_
   refine o_no rfl rfl rfl rfl ?_
   refine o_no rfl rfl rfl rfl ?_
   refine o_no rfl rfl rfl rfl ?_
   refine o_step rfl (s_pick_t rfl rfl) ?_
   refine o_step rfl (s_move rfl) ?_
   refine o_no rfl rfl rfl rfl ?_
   refine o_no rfl rfl rfl rfl ?_
   refine o_step rfl (s_pick_t rfl rfl) ?_
   refine o_step rfl (s_move rfl) ?_
   refine o_no rfl rfl rfl rfl ?_
   refine o_no rfl rfl rfl rfl ?_
   refine o_step rfl (s_pick_t rfl rfl) ?_
   refine o_step rfl (s_move rfl) ?_
   refine o_no rfl rfl rfl rfl ?_
   refine o_no rfl rfl rfl rfl ?_
   refine o_step rfl (s_pick_t rfl rfl) ?_
   refine o_step rfl (s_move rfl) ?_
   refine o_no rfl rfl rfl rfl ?_
   refine o_no rfl rfl rfl rfl ?_
   refine o_step rfl (s_pick_t rfl rfl) ?_
   refine o_nil ?_
   refine x_then (hK4 _ _ ?_)
   refine c_true rfl ?_
   refine c_seq fun _ hK5 => ?_
   refine c_region ?_
   refine o_step rfl (s_move rfl) ?_
   refine o_step rfl (s_assign rfl) ?_
   refine o_nil ?_
   refine x_then (hK5 _ _ ?_)
   refine c_ret ?_
   refine x_then_ret (?_)
   exact x_ret rfl (.tmp rfl (.nil)) (rfl)
  ·
   have hn1 : 1 ≤ row.length := by omega
   refine o_step rfl (step_cast (v' := .bool false) (s_eql rfl rfl) (by rw [decide_eq_false (by omega)])) ?_
   refine o_step rfl (s_move rfl) ?_
   refine o_yes rfl rfl ?_
   refine o_step rfl (s_move rfl) ?_
   refine o_yes rfl rfl ?_
   refine o_step rfl (s_len rfl) ?_
   refine o_yes rfl rfl ?_
   by_cases h40 : (row.length : Int) > 40
   ·
    refine o_step rfl (step_cast (v' := .bool true) (s_gtr rfl rfl) (by rw [decide_eq_true (by omega)])) ?_
    refine o_step rfl (s_pick_f rfl rfl) ?_
    refine o_step rfl (s_move rfl) ?_
    refine o_no rfl rfl rfl rfl ?_
    refine o_no rfl rfl rfl rfl ?_
    refine o_no rfl rfl rfl rfl ?_
    refine o_step rfl (s_pick_t rfl rfl) ?_
    refine o_step rfl (s_move rfl) ?_
    refine o_no rfl rfl rfl rfl ?_
    refine o_no rfl rfl rfl rfl ?_
    refine o_step rfl (s_pick_t rfl rfl) ?_
    refine o_step rfl (s_move rfl) ?_
    refine o_no rfl rfl rfl rfl ?_
    refine o_no rfl rfl rfl rfl ?_
    refine o_step rfl (s_pick_t rfl rfl) ?_
    refine o_step rfl (s_move rfl) ?_
    refine o_no rfl rfl rfl rfl ?_
    refine o_no rfl rfl rfl rfl ?_
    refine o_step rfl (s_pick_t rfl rfl) ?_
    refine o_step rfl (s_move rfl) ?_
    refine o_no rfl rfl rfl rfl ?_
    refine o_no rfl rfl rfl rfl ?_
    refine o_step rfl (s_pick_t rfl rfl) ?_
    refine o_nil ?_
    refine x_then (hK4 _ _ ?_)
    refine c_true rfl ?_
    refine c_seq fun _ hK6 => ?_
    refine c_region ?_
    refine o_step rfl (s_move rfl) ?_
    refine o_step rfl (s_assign rfl) ?_
    refine o_nil ?_
    refine x_then (hK6 _ _ ?_)
    refine c_ret ?_
    refine x_then_ret (?_)
    exact x_ret rfl (.tmp rfl (.nil)) (rfl)
   ·
    have hn40 : row.length ≤ 40 := by omega
    refine o_step rfl (step_cast (v' := .bool false) (s_gtr rfl rfl) (by rw [decide_eq_false (by omega)])) ?_
    refine o_step rfl (s_pick_f rfl rfl) ?_
    refine o_step rfl (s_move rfl) ?_
    refine o_yes rfl rfl ?_
    refine o_step rfl (s_move rfl) ?_
    refine o_yes rfl rfl ?_
    refine o_step rfl (s_len rfl) ?_
    refine o_yes rfl rfl ?_
    by_cases hw4 : (w.length : Int) > 4096
    ·
     refine o_step rfl (step_cast (v' := .bool true) (s_gtr rfl rfl) (by rw [decide_eq_true (by omega)])) ?_
     refine o_step rfl (s_pick_f rfl rfl) ?_
     refine o_step rfl (s_move rfl) ?_
     refine o_no rfl rfl rfl rfl ?_
     refine o_no rfl rfl rfl rfl ?_
     refine o_step rfl (s_pick_t rfl rfl) ?_
     refine o_step rfl (s_move rfl) ?_
     refine o_no rfl rfl rfl rfl ?_
     refine o_no rfl rfl rfl rfl ?_
     refine o_step rfl (s_pick_t rfl rfl) ?_
     refine o_step rfl (s_move rfl) ?_
     refine o_no rfl rfl rfl rfl ?_
     refine o_no rfl rfl rfl rfl ?_
     refine o_step rfl (s_pick_t rfl rfl) ?_
     refine o_step rfl (s_move rfl) ?_
     refine o_no rfl rfl rfl rfl ?_
     refine o_no rfl rfl rfl rfl ?_
     refine o_step rfl (s_pick_t rfl rfl) ?_
     refine o_nil ?_
     refine x_then (hK4 _ _ ?_)
     refine c_true rfl ?_
     refine c_seq fun _ hK7 => ?_
     refine c_region ?_
     refine o_step rfl (s_move rfl) ?_
     refine o_step rfl (s_assign rfl) ?_
     refine o_nil ?_
     refine x_then (hK7 _ _ ?_)
     refine c_ret ?_
     refine x_then_ret (?_)
     exact x_ret rfl (.tmp rfl (.nil)) (rfl)
    ·
     refine o_step rfl (step_cast (v' := .bool false) (s_gtr rfl rfl) (by rw [decide_eq_false (by omega)])) ?_
     refine o_step rfl (s_pick_f rfl rfl) ?_
     refine o_step rfl (s_move rfl) ?_
     refine o_yes rfl rfl ?_
     refine o_step rfl (s_move rfl) ?_
     refine o_yes rfl rfl ?_
     by_cases hl0 : l < 0
     ·
      refine o_step rfl (step_cast (v' := .bool true) (s_lss rfl rfl) (by rw [decide_eq_true (by omega)])) ?_
      refine o_step rfl (s_pick_f rfl rfl) ?_
      refine o_step rfl (s_move rfl) ?_
      refine o_no rfl rfl rfl rfl ?_
      refine o_no rfl rfl rfl rfl ?_
      refine o_step rfl (s_pick_t rfl rfl) ?_
      refine o_step rfl (s_move rfl) ?_
      refine o_no rfl rfl rfl rfl ?_
      refine o_no rfl rfl rfl rfl ?_
      refine o_step rfl (s_pick_t rfl rfl) ?_
      refine o_step rfl (s_move rfl) ?_
      refine o_no rfl rfl rfl rfl ?_
      refine o_no rfl rfl rfl rfl ?_
      refine o_step rfl (s_pick_t rfl rfl) ?_
      refine o_nil ?_
      refine x_then (hK4 _ _ ?_)
      refine c_true rfl ?_
      refine c_seq fun _ hK8 => ?_
      refine c_region ?_
      refine o_step rfl (s_move rfl) ?_
      refine o_step rfl (s_assign rfl) ?_
      refine o_nil ?_
      refine x_then (hK8 _ _ ?_)
      refine c_ret ?_
      refine x_then_ret (?_)
      exact x_ret rfl (.tmp rfl (.nil)) (rfl)
     ·
      refine o_step rfl (step_cast (v' := .bool false) (s_lss rfl rfl) (by rw [decide_eq_false (by omega)])) ?_
      refine o_step rfl (s_pick_f rfl rfl) ?_
      refine o_step rfl (s_move rfl) ?_
      refine o_yes rfl rfl ?_
      refine o_step rfl (s_move rfl) ?_
      refine o_yes rfl rfl ?_
      by_cases hl30 : l > 30
      ·
       refine o_step rfl (step_cast (v' := .bool true) (s_gtr rfl rfl) (by rw [decide_eq_true (by omega)])) ?_
       refine o_step rfl (s_pick_f rfl rfl) ?_
       refine o_step rfl (s_move rfl) ?_
       refine o_no rfl rfl rfl rfl ?_
       refine o_no rfl rfl rfl rfl ?_
       refine o_step rfl (s_pick_t rfl rfl) ?_
       refine o_step rfl (s_move rfl) ?_
       refine o_no rfl rfl rfl rfl ?_
       refine o_no rfl rfl rfl rfl ?_
       refine o_step rfl (s_pick_t rfl rfl) ?_
       refine o_nil ?_
       refine x_then (hK4 _ _ ?_)
       refine c_true rfl ?_
       refine c_seq fun _ hK9 => ?_
       refine c_region ?_
       refine o_step rfl (s_move rfl) ?_
       refine o_step rfl (s_assign rfl) ?_
       refine o_nil ?_
       refine x_then (hK9 _ _ ?_)
       refine c_ret ?_
       refine x_then_ret (?_)
       exact x_ret rfl (.tmp rfl (.nil)) (rfl)
      ·
       refine o_step rfl (step_cast (v' := .bool false) (s_gtr rfl rfl) (by rw [decide_eq_false (by omega)])) ?_
       refine o_step rfl (s_pick_f rfl rfl) ?_
       refine o_step rfl (s_move rfl) ?_
       refine o_yes rfl rfl ?_
       refine o_step rfl (s_move rfl) ?_
       refine o_yes rfl rfl ?_
       by_cases hm0 : m < 0
       ·
        refine o_step rfl (step_cast (v' := .bool true) (s_lss rfl rfl) (by rw [decide_eq_true (by omega)])) ?_
        refine o_step rfl (s_pick_f rfl rfl) ?_
        refine o_step rfl (s_move rfl) ?_
        refine o_no rfl rfl rfl rfl ?_
        refine o_no rfl rfl rfl rfl ?_
        refine o_step rfl (s_pick_t rfl rfl) ?_
        refine o_nil ?_
        refine x_then (hK4 _ _ ?_)
        refine c_true rfl ?_
        refine c_seq fun _ hK10 => ?_
        refine c_region ?_
        refine o_step rfl (s_move rfl) ?_
        refine o_step rfl (s_assign rfl) ?_
        refine o_nil ?_
        refine x_then (hK10 _ _ ?_)
        refine c_ret ?_
        refine x_then_ret (?_)
        exact x_ret rfl (.tmp rfl (.nil)) (rfl)
       ·
        refine o_step rfl (step_cast (v' := .bool false) (s_lss rfl rfl) (by rw [decide_eq_false (by omega)])) ?_
        refine o_step rfl (s_pick_f rfl rfl) ?_
        refine o_step rfl (s_move rfl) ?_
        refine o_yes rfl rfl ?_
        refine o_step rfl (s_move rfl) ?_
        refine o_yes rfl rfl ?_
        by_cases hm30 : m > 30
        ·
         refine o_step rfl (step_cast (v' := .bool true) (s_gtr rfl rfl) (by rw [decide_eq_true (by omega)])) ?_
         refine o_step rfl (s_pick_f rfl rfl) ?_
         refine o_nil ?_
         refine x_then (hK4 _ _ ?_)
         refine c_true rfl ?_
         refine c_seq fun _ hK11 => ?_
         refine c_region ?_
         refine o_step rfl (s_move rfl) ?_
         refine o_step rfl (s_assign rfl) ?_
         refine o_nil ?_
         refine x_then (hK11 _ _ ?_)
         refine c_ret ?_
         refine x_then_ret (?_)
         exact x_ret rfl (.tmp rfl (.nil)) (rfl)
        ·
         obtain ⟨L, rfl⟩ : ∃ L : Nat, l = L := ⟨l.toNat, by omega⟩
         obtain ⟨M, rfl⟩ : ∃ M : Nat, m = M := ⟨m.toNat, by omega⟩
         have hshp := rowR_shp (row := row) (l := L) (m := M) hn1 hn40 (by omega) (by omega)
         have hmk := hshp.mok
         refine o_step rfl (step_cast (v' := .bool false) (s_gtr rfl rfl) (by rw [decide_eq_false (by omega)])) ?_
         refine o_step rfl (s_pick_f rfl rfl) ?_
         refine o_nil ?_
         refine x_then (hK4 _ _ ?_)
         refine c_false rfl ?_
         refine c_skip ?_
         refine x_then (hK3 _ _ ?_)
         refine c_seq fun _ hK12 => ?_
         refine c_region ?_
         refine o_step rfl (s_move rfl) ?_
         refine o_step rfl (s_move rfl) ?_
         refine o_step rfl (s_move rfl) ?_
         refine o_step rfl (s_add rfl rfl (by omega)) ?_
         refine o_step rfl (step_cast (v' := .agg (En (timN L M)).toArray) (s_build (cs := [_, _, _, _, _, _, _, _, _]) (vs := [_, _, _, _]) rfl rfl (.cons rfl rfl rfl rfl rfl (.cons rfl rfl rfl rfl rfl (.cons rfl rfl rfl rfl rfl (.cons rfl rfl rfl rfl rfl (.nil)))))) (by rw [En_tim])) ?_
         refine o_step rfl (s_move rfl) ?_
         refine o_step rfl (s_len rfl) ?_
         refine o_step rfl (s_add rfl rfl (by omega)) ?_
         refine o_step rfl (step_cast (v' := .agg (En (rowN row.length)).toArray) (s_build (cs := [_, _, _, _, _, _, _, _, _]) (vs := [_, _]) rfl rfl (.cons rfl rfl rfl rfl rfl (.cons rfl rfl rfl rfl rfl (.nil)))) (by rw [En_row])) ?_
         refine o_bs (E := En) (xs := [timN L M, rowN row.length]) (vs := [_, _]) rfl rfl rfl rfl rfl (by decide) (by decide) fun b58 S58 hS58 => ?_
         refine o_step rfl (s_assign rfl) ?_
         refine o_nil ?_
         refine x_then (hK12 _ _ ?_)
         refine c_seq fun _ hK13 => ?_
         refine c_seq fun _ hK14 => ?_
         refine c_region ?_
         refine o_step rfl (s_assign rfl) ?_
         refine o_nil ?_
         refine x_then (hK14 _ _ ?_)
         refine c_block ?_
         refine c_loop3 (fun (j : Nat) (q : Sl Nd) (S : Hp) => j ≤ row.length ∧ q.xs = timN L M :: rowN row.length :: (row.take j).map letN ∧ OwnS En 9 46 (.slice q.a q.xs.length q.c) q.xs S) (fun (j : Nat) (q : Sl Nd) (S : Hp) => [(11, .int .i64 j), (10, .slice q.a q.xs.length q.c)]) [(0, _), (1, _), (2, _), (3, _), (8, _), (9, _)] (fun (j : Nat) (q : Sl Nd) (S : Hp) => S) (fun (j : Nat) (q : Sl Nd) (S : Hp) => row.length - j) 0 ⟨some ⟨b58, 0, none⟩, 2, [timN L M, rowN row.length]⟩ S58 ⟨by omega, by simp, hS58⟩ sbA sbA hzB ?_
         rintro j q S ⟨hj, hq, hS⟩
         have hql : q.xs.length ≤ 42 := by rw [hq]; simp; omega
         refine c_seq fun _ hK15 => ?_
         refine c_seq fun _ hK16 => ?_
         refine c_region ?_
         refine o_step rfl (s_move rfl) ?_
         refine o_step rfl (s_move rfl) ?_
         refine o_step rfl (s_len rfl) ?_
         by_cases hjl : j < row.length
         ·
          obtain ⟨b, hb⟩ : ∃ b, row[j]? = some b := ⟨_, List.getElem?_eq_getElem hjl⟩
          refine o_step rfl (step_cast (v' := .bool true) (s_lss rfl rfl) (by rw [decide_eq_true (by omega)])) ?_
          refine o_nil ?_
          refine x_then (hK16 _ _ ?_)
          refine c_true rfl ?_
          refine c_skip ?_
          refine x_then (hK15 _ _ ?_)
          refine c_seq fun _ hK17 => ?_
          refine c_block ?_
          refine c_region ?_
          refine o_step rfl (s_move rfl) ?_
          refine o_step rfl (s_move rfl) ?_
          refine o_step rfl (s_move rfl) ?_
          refine o_step rfl (s_idx rfl rfl hsa (by omega)) ?_
          refine o_step rfl (s_ld rfl ((RdK.old0 hw.1).ld j 0 hb rfl (by decide) (by omega))) ?_
          refine o_callP (letter_fn b) rfl rfl rfl (fun _ _ => trivial) (fun v70 hv70 => ?_)
          subst hv70
          refine o_bs (E := En) (xs := [letN b]) (vs := [_]) rfl rfl rfl rfl rfl (by decide) (by decide) fun b71 S71 hS71 => ?_
          refine o_app hS (hS71.rdk hiA) rfl rfl rfl rfl (by simp; omega) (by simp; omega) rfl pkA fun a72 c72 S72 hS72 => ?_
          refine o_step rfl (s_assign rfl) ?_
          refine o_nil ?_
          refine x_block ?_
          refine x_then (hK17 _ _ ?_)
          refine c_region ?_
          refine o_step rfl (s_move rfl) ?_
          refine o_step rfl (s_add rfl rfl (by omega)) ?_
          refine o_step rfl (s_assign rfl) ?_
          refine o_nil ?_
          exact x_then (x_inv (j + 1, ⟨a72, c72, q.xs ++ [letN b]⟩, S72) ⟨by omega, by dsimp only; rw [hq, List.take_add_one, hb]; simp, hS72⟩ (by first | omega | (dsimp only; omega)) sbA hzB)
         ·
          obtain rfl : j = row.length := by omega
          refine o_step rfl (step_cast (v' := .bool false) (s_lss rfl rfl) (by rw [decide_eq_false (by omega)])) ?_
          refine o_nil ?_
          refine x_then (hK16 _ _ ?_)
          refine c_false rfl ?_
          refine c_exit ?_
          refine x_then_exit ?_
          refine x_then_exit ?_
          refine x_block_exit ?_
          refine x_then (hK13 _ _ ?_)
          refine c_seq fun _ hK18 => ?_
          refine c_region ?_
          refine o_step rfl (s_move rfl) ?_
          refine o_step rfl (step_cast (v' := .agg (En endN).toArray) (s_build (cs := [_, _, _, _, _, _, _, _, _]) (vs := [_]) rfl rfl (.cons rfl rfl rfl rfl rfl (.nil))) (by rw [En_end])) ?_
          refine o_bs (E := En) (xs := [endN]) (vs := [_]) rfl rfl rfl rfl rfl (by decide) (by decide) fun b75 S75 hS75 => ?_
          refine o_app hS (hS75.rdk hiA) rfl rfl rfl rfl (by simp; omega) (by simp; omega) rfl pkA fun a76 c76 S76 hS76 => ?_
          have hre : q.xs ++ [endN] = (rowR row L M) := by rw [hq, List.take_of_length_le (Nat.le_refl _)]; simp [rowR]
          rw [hre] at hS76 ⊢
          refine o_step rfl (s_assign rfl) ?_
          refine o_nil ?_
          refine x_then (hK18 _ _ ?_)
          refine c_seq fun _ hK19 => ?_
          refine c_region ?_
          refine o_step rfl (s_move rfl) ?_
          refine o_call (compile_fn a76 c76 (rowR row L M) (rowR_rng row L M)) rfl rfl rfl (by exact .nil) (fun w st => (hS76.rdk hiA).out w st) (fun v79 S79 hv79 => ?_)
          obtain ⟨am, rfl, hm⟩ := hv79.good hshp (rowR_good hn1 hn40 (by omega) (by omega))
          refine o_step rfl (s_move rfl) ?_
          refine o_step rfl (s_extract rfl rfl) ?_
          refine o_step rfl (s_extract rfl rfl) ?_
          refine o_step rfl (s_assign rfl) ?_
          refine o_step rfl (s_assign rfl) ?_
          refine o_nil ?_
          refine x_then (hK19 _ _ ?_)
          refine c_seq fun _ hK20 => ?_
          refine c_seq fun _ hK21 => ?_
          refine c_region ?_
          refine o_step rfl (s_move rfl) ?_
          refine o_step rfl (s_neq_f rfl rfl (by decide)) ?_
          refine o_step rfl (s_move rfl) ?_
          refine o_yes rfl rfl ?_
          refine o_step rfl (s_move rfl) ?_
          refine o_yes rfl rfl ?_
          refine o_callP (rMShaped_fn am _ (mach (.nd (timN L M) (.nd (rowN row.length) (rowF row) .nil) .nil)) hmk.rng) rfl rfl rfl (fun w st => (hm.rdk hiA).out w st) (fun v86 hv86 => ?_)
          rw [mokB_iff.2 hmk] at hv86
          subst hv86
          refine o_yes rfl rfl ?_
          refine o_step rfl (s_not rfl) ?_
          refine o_step rfl (s_pick_f rfl rfl) ?_
          refine o_nil ?_
          refine x_then (hK21 _ _ ?_)
          refine c_false rfl ?_
          refine c_skip ?_
          refine x_then (hK20 _ _ ?_)
          refine c_seq fun _ hK22 => ?_
          refine c_region ?_
          refine o_step rfl (s_move rfl) ?_
          refine o_step rfl (s_move rfl) ?_
          refine o_call (ends_fn am _ (mach (.nd (timN L M) (.nd (rowN row.length) (rowF row) .nil) .nil)) hmk.rng ta tc w (by omega) 0) rfl rfl rfl (by exact .nil) (fun w st => ⟨(hm.rdk hiA).out w st, (RdK.old0 hw.2).out w st⟩) (fun v91 S91 ⟨ae, ce, out, hv91, hE, hP⟩ => ?_)
          have hi := ends_isS (p := 0) hshp.wf hmk (Nat.zero_le _) hP
          rw [← hP.1] at hv91
          subst hv91
          have hEs := hE.sl
          have hol := hi.len
          refine o_step rfl (s_assign rfl) ?_
          refine o_nil ?_
          refine x_then (hK22 _ _ ?_)
          refine c_seq fun _ hK23 => ?_
          refine c_region ?_
          refine o_step rfl (s_assign rfl) ?_
          refine o_nil ?_
          refine x_then (hK23 _ _ ?_)
          refine c_seqJ (ι := Nat) (fun k => Most row w (L + M) k) (fun k => [(15, .int .i64 k)]) [(0, _), (2, _), (8, _), (9, _), (14, _)] (fun k => S91 ++ (S79 ++ S76)) sbA ?_ ?_
          ·
           rintro k hmo
           refine c_seq fun _ hK25 => ?_
           refine c_seq fun _ hK26 => ?_
           refine c_region ?_
           refine o_step rfl (s_assign rfl) ?_
           refine o_nil ?_
           refine x_then (hK26 _ _ ?_)
           refine c_block ?_
           -- not carried: 8
           refine c_loopB (fun (p : Nat) => p ≤ out.length) (fun (p : Nat) => [(16, .int .i64 p)]) [(0, _), (2, _), (9, _), (14, _), (15, _)] (fun (p : Nat) => S91 ++ (S79 ++ S76)) (fun (p : Nat) => out.length - p) 0 (by omega) sbA sbA hzB ?_
           rintro p hp
           refine c_seq fun _ hK27 => ?_
           refine c_seq fun _ hK28 => ?_
           refine c_region ?_
           refine o_step rfl (s_move rfl) ?_
           refine o_step rfl (s_move rfl) ?_
           refine o_step rfl (s_len rfl) ?_
           by_cases hpo : p < out.length
           ·
            have hwant := row_isS hn1 hmo hi (q := p) (by omega)
            refine o_step rfl (step_cast (v' := .bool true) (s_lss rfl rfl) (by rw [decide_eq_true (by omega)])) ?_
            refine o_nil ?_
            refine x_then (hK28 _ _ ?_)
            refine c_true rfl ?_
            refine c_skip ?_
            refine x_then (hK27 _ _ ?_)
            refine c_seq fun _ hK29 => ?_
            refine c_block ?_
            refine c_seq fun _ hK30 => ?_
            refine c_region ?_
            refine o_step rfl (s_move rfl) ?_
            refine o_step rfl (s_move rfl) ?_
            refine o_step rfl (s_len rfl) ?_
            refine o_step rfl (step_cast (v' := .int .i64 (p % row.length : Nat)) (s_rem rfl rfl (by omega)) (congrArg _ remN)) ?_
            by_cases hr0 : ((p % row.length : Nat) : Int) = 0
            ·
             refine o_step rfl (step_cast (v' := .bool true) (s_eql rfl rfl) (by rw [decide_eq_true (by omega)])) ?_
             refine o_step rfl (s_move rfl) ?_
             refine o_yes rfl rfl ?_
             refine o_step rfl (s_move rfl) ?_
             refine o_yes rfl rfl ?_
             refine o_step rfl (s_move rfl) ?_
             refine o_yes rfl rfl ?_
             refine o_step rfl (s_len rfl) ?_
             refine o_yes rfl rfl ?_
             refine o_step rfl (step_cast (v' := .int .i64 (p / row.length : Nat)) (s_quo rfl rfl (by omega)) (congrArg _ (quoN (by omega)))) ?_
             refine o_yes rfl rfl ?_
             refine o_step rfl (s_move rfl) ?_
             refine o_yes rfl rfl ?_
             by_cases hdk : ((p / row.length : Nat) : Int) ≤ k
             ·
              refine o_step rfl (step_cast (v' := .bool true) (s_leq rfl rfl) (by rw [decide_eq_true (by omega)])) ?_
              refine o_step rfl (s_pick_t rfl rfl) ?_
              refine o_step rfl (s_move rfl) ?_
              refine o_yes rfl rfl ?_
              refine o_step rfl (s_move rfl) ?_
              refine o_yes rfl rfl ?_
              refine o_step rfl (s_move rfl) ?_
              refine o_yes rfl rfl ?_
              refine o_step rfl (s_len rfl) ?_
              refine o_yes rfl rfl ?_
              refine o_step rfl (step_cast (v' := .int .i64 (p / row.length : Nat)) (s_quo rfl rfl (by omega)) (congrArg _ (quoN (by omega)))) ?_
              refine o_yes rfl rfl ?_
              refine o_step rfl (s_move rfl) ?_
              refine o_yes rfl rfl ?_
              by_cases hdl : ((p / row.length : Nat) : Int) ≥ L
              ·
               refine o_step rfl (step_cast (v' := .bool true) (s_geq rfl rfl) (by rw [decide_eq_true (by omega)])) ?_
               refine o_step rfl (s_pick_t rfl rfl) ?_
               refine o_step rfl (s_assign rfl) ?_
               refine o_nil ?_
               refine x_then (hK30 _ _ ?_)
               refine c_seq fun _ hK31 => ?_
               refine c_region ?_
               refine o_step rfl (s_move rfl) ?_
               refine o_step rfl (s_move rfl) ?_
               refine o_step rfl (s_idx rfl rfl hEs (by omega)) ?_
               refine o_step rfl (s_ld rfl ((hE.rdk hiA).ld p 0 (bo0_get hpo) rfl (by decide) (by omega))) ?_
               refine o_step rfl (s_move rfl) ?_
               refine o_step rfl (step_cast (v' := .bool false) (s_neq_bool rfl rfl) (by rw [hwant]; simp; omega)) ?_
               refine o_nil ?_
               refine x_then (hK31 _ _ ?_)
               refine c_false rfl ?_
               refine c_skip ?_
               refine x_block ?_
               refine x_then (hK29 _ _ ?_)
               refine c_region ?_
               refine o_step rfl (s_move rfl) ?_
               refine o_step rfl (s_add rfl rfl (by omega)) ?_
               refine o_step rfl (s_assign rfl) ?_
               refine o_nil ?_
               exact x_then (x_inv (p + 1) (by omega) (by first | omega | (dsimp only; omega)) sbA hzB)
              ·
               refine o_step rfl (step_cast (v' := .bool false) (s_geq rfl rfl) (by rw [decide_eq_false (by omega)])) ?_
               refine o_step rfl (s_pick_t rfl rfl) ?_
               refine o_step rfl (s_assign rfl) ?_
               refine o_nil ?_
               refine x_then (hK30 _ _ ?_)
               refine c_seq fun _ hK32 => ?_
               refine c_region ?_
               refine o_step rfl (s_move rfl) ?_
               refine o_step rfl (s_move rfl) ?_
               refine o_step rfl (s_idx rfl rfl hEs (by omega)) ?_
               refine o_step rfl (s_ld rfl ((hE.rdk hiA).ld p 0 (bo0_get hpo) rfl (by decide) (by omega))) ?_
               refine o_step rfl (s_move rfl) ?_
               refine o_step rfl (step_cast (v' := .bool false) (s_neq_bool rfl rfl) (by rw [hwant]; simp; omega)) ?_
               refine o_nil ?_
               refine x_then (hK32 _ _ ?_)
               refine c_false rfl ?_
               refine c_skip ?_
               refine x_block ?_
               refine x_then (hK29 _ _ ?_)
               refine c_region ?_
               refine o_step rfl (s_move rfl) ?_
               refine o_step rfl (s_add rfl rfl (by omega)) ?_
               refine o_step rfl (s_assign rfl) ?_
               refine o_nil ?_
               exact x_then (x_inv (p + 1) (by omega) (by first | omega | (dsimp only; omega)) sbA hzB)
             ·
              refine o_step rfl (step_cast (v' := .bool false) (s_leq rfl rfl) (by rw [decide_eq_false (by omega)])) ?_
              refine o_step rfl (s_pick_t rfl rfl) ?_
              refine o_step rfl (s_move rfl) ?_
              refine o_no rfl rfl rfl rfl ?_
              refine o_no rfl rfl rfl rfl ?_
              refine o_no rfl rfl rfl rfl ?_
              refine o_no rfl rfl rfl rfl ?_
              refine o_no rfl rfl rfl rfl ?_
              refine o_no rfl rfl rfl rfl ?_
              refine o_step rfl (s_pick_f rfl rfl) ?_
              refine o_step rfl (s_assign rfl) ?_
              refine o_nil ?_
              refine x_then (hK30 _ _ ?_)
              refine c_seq fun _ hK33 => ?_
              refine c_region ?_
              refine o_step rfl (s_move rfl) ?_
              refine o_step rfl (s_move rfl) ?_
              refine o_step rfl (s_idx rfl rfl hEs (by omega)) ?_
              refine o_step rfl (s_ld rfl ((hE.rdk hiA).ld p 0 (bo0_get hpo) rfl (by decide) (by omega))) ?_
              refine o_step rfl (s_move rfl) ?_
              refine o_step rfl (step_cast (v' := .bool false) (s_neq_bool rfl rfl) (by rw [hwant]; simp; omega)) ?_
              refine o_nil ?_
              refine x_then (hK33 _ _ ?_)
              refine c_false rfl ?_
              refine c_skip ?_
              refine x_block ?_
              refine x_then (hK29 _ _ ?_)
              refine c_region ?_
              refine o_step rfl (s_move rfl) ?_
              refine o_step rfl (s_add rfl rfl (by omega)) ?_
              refine o_step rfl (s_assign rfl) ?_
              refine o_nil ?_
              exact x_then (x_inv (p + 1) (by omega) (by first | omega | (dsimp only; omega)) sbA hzB)
            ·
             refine o_step rfl (step_cast (v' := .bool false) (s_eql rfl rfl) (by rw [decide_eq_false (by omega)])) ?_
             refine o_step rfl (s_move rfl) ?_
             refine o_no rfl rfl rfl rfl ?_
             refine o_no rfl rfl rfl rfl ?_
             refine o_no rfl rfl rfl rfl ?_
             refine o_no rfl rfl rfl rfl ?_
             refine o_no rfl rfl rfl rfl ?_
             refine o_no rfl rfl rfl rfl ?_
             refine o_step rfl (s_pick_f rfl rfl) ?_
             refine o_step rfl (s_move rfl) ?_
             refine o_no rfl rfl rfl rfl ?_
             refine o_no rfl rfl rfl rfl ?_
             refine o_no rfl rfl rfl rfl ?_
             refine o_no rfl rfl rfl rfl ?_
             refine o_no rfl rfl rfl rfl ?_
             refine o_no rfl rfl rfl rfl ?_
             refine o_step rfl (s_pick_f rfl rfl) ?_
             refine o_step rfl (s_assign rfl) ?_
             refine o_nil ?_
             refine x_then (hK30 _ _ ?_)
             refine c_seq fun _ hK34 => ?_
             refine c_region ?_
             refine o_step rfl (s_move rfl) ?_
             refine o_step rfl (s_move rfl) ?_
             refine o_step rfl (s_idx rfl rfl hEs (by omega)) ?_
             refine o_step rfl (s_ld rfl ((hE.rdk hiA).ld p 0 (bo0_get hpo) rfl (by decide) (by omega))) ?_
             refine o_step rfl (s_move rfl) ?_
             refine o_step rfl (step_cast (v' := .bool false) (s_neq_bool rfl rfl) (by rw [hwant]; simp; omega)) ?_
             refine o_nil ?_
             refine x_then (hK34 _ _ ?_)
             refine c_false rfl ?_
             refine c_skip ?_
             refine x_block ?_
             refine x_then (hK29 _ _ ?_)
             refine c_region ?_
             refine o_step rfl (s_move rfl) ?_
             refine o_step rfl (s_add rfl rfl (by omega)) ?_
             refine o_step rfl (s_assign rfl) ?_
             refine o_nil ?_
             exact x_then (x_inv (p + 1) (by omega) (by first | omega | (dsimp only; omega)) sbA hzB)
           ·
            refine o_step rfl (step_cast (v' := .bool false) (s_lss rfl rfl) (by rw [decide_eq_false (by omega)])) ?_
            refine o_nil ?_
            refine x_then (hK28 _ _ ?_)
            refine c_false rfl ?_
            refine c_exit ?_
            refine x_then_exit ?_
            refine x_then_exit ?_
            refine x_block_exit ?_
            refine x_then (hK25 _ _ ?_)
            refine c_seq fun _ hK35 => ?_
            refine c_region ?_
            refine o_step rfl (s_move rfl) ?_
            refine o_step rfl (s_assign rfl) ?_
            refine o_nil ?_
            refine x_then (hK35 _ _ ?_)
            refine c_ret ?_
            refine ?_
            exact x_ret rfl (.tmp rfl (.nil)) (rfl)
          ·
           intro _ hJ24
           refine c_block ?_
           refine c_loopB (fun (k : Nat) => k ≤ L + M ∧ ∀ j, j < k → Mt row w (j * row.length)) (fun (k : Nat) => [(15, .int .i64 k)]) [(0, _), (1, _), (2, _), (3, _), (8, _), (9, _), (14, _)] (fun (k : Nat) => S91 ++ (S79 ++ S76)) (fun (k : Nat) => L + M - k) 0 ⟨by omega, fun j h => by omega⟩ sbA sbA hzB ?_
           rintro k ⟨hk1, hk2⟩
           refine c_seq fun _ hK36 => ?_
           refine c_seq fun _ hK37 => ?_
           refine c_region ?_
           refine o_step rfl (s_move rfl) ?_
           refine o_step rfl (s_move rfl) ?_
           refine o_step rfl (s_move rfl) ?_
           refine o_step rfl (s_add rfl rfl (by omega)) ?_
           by_cases hkl : (k : Int) < (L : Int) + M
           ·
            refine o_step rfl (step_cast (v' := .bool true) (s_lss rfl rfl) (by rw [decide_eq_true (by omega)])) ?_
            refine o_step rfl (s_move rfl) ?_
            refine o_yes rfl rfl ?_
            refine o_step rfl (s_move rfl) ?_
            refine o_yes rfl rfl ?_
            refine o_step rfl (s_add rfl rfl (by omega)) ?_
            refine o_yes rfl rfl ?_
            refine o_step rfl (s_move rfl) ?_
            refine o_yes rfl rfl ?_
            refine o_step rfl (s_len rfl) ?_
            refine o_yes rfl rfl ?_
            refine o_step rfl (step_cast (v' := .int .i64 ((k + 1) * row.length : Nat)) (s_mul rfl rfl (mulZ (k := (k + 1)) (by omega) hn40 (by push_cast; rfl))) (congrArg (Value.int .i64) (by push_cast; rfl))) ?_
            refine o_yes rfl rfl ?_
            refine o_step rfl (s_move rfl) ?_
            refine o_yes rfl rfl ?_
            refine o_step rfl (s_len rfl) ?_
            refine o_yes rfl rfl ?_
            by_cases hkw : (((k + 1) * row.length : Nat) : Int) ≤ w.length
            ·
             have hkw2 : k * row.length + row.length ≤ w.length := by rw [Nat.succ_mul] at hkw; omega
             have hmid := hw.2.mid (k * row.length) (k * row.length + row.length) (by omega) hkw2
             rw [show k * row.length + row.length - k * row.length = row.length by omega] at hmid
             have hml : ((w.drop (k * row.length)).take row.length).length = row.length := by rw [List.length_take, List.length_drop]; omega
             refine o_step rfl (step_cast (v' := .bool true) (s_leq rfl rfl) (by rw [decide_eq_true (by omega)])) ?_
             refine o_step rfl (s_pick_t rfl rfl) ?_
             refine o_step rfl (s_move rfl) ?_
             refine o_yes rfl rfl ?_
             refine o_step rfl (s_move rfl) ?_
             refine o_yes rfl rfl ?_
             refine o_step rfl (s_move rfl) ?_
             refine o_yes rfl rfl ?_
             refine o_step rfl (s_move rfl) ?_
             refine o_yes rfl rfl ?_
             refine o_step rfl (s_len rfl) ?_
             refine o_yes rfl rfl ?_
             refine o_step rfl (step_cast (v' := .int .i64 (k * row.length : Nat)) (s_mul rfl rfl (mulZ (k := k) (by omega) hn40 (by push_cast; rfl))) (congrArg (Value.int .i64) (by push_cast; rfl))) ?_
             refine o_yes rfl rfl ?_
             refine o_step rfl (s_move rfl) ?_
             refine o_yes rfl rfl ?_
             refine o_step rfl (s_add rfl rfl (by omega)) ?_
             refine o_yes rfl rfl ?_
             refine o_step rfl (s_move rfl) ?_
             refine o_yes rfl rfl ?_
             refine o_step rfl (s_len rfl) ?_
             refine o_yes rfl rfl ?_
             refine o_step rfl (step_cast (v' := .int .i64 ((k + 1) * row.length : Nat)) (s_mul rfl rfl (mulZ (k := (k + 1)) (by omega) hn40 (by push_cast; rfl))) (congrArg (Value.int .i64) (by push_cast; rfl))) ?_
             refine o_yes rfl rfl ?_
             refine o_step rfl (step_cast (v' := .slice (midA ta tc (k * row.length) 1) ((w.drop (k * row.length)).take row.length).length (tc - k * row.length)) (s_slice_mid rfl rfl rfl (by rw [Nat.succ_mul]; omega)) (by rw [hml, Nat.succ_mul]; simp only [Int.toNat_natCast]; congr 1; omega)) ?_
             refine o_yes rfl rfl ?_
             refine o_step rfl (s_move rfl) ?_
             refine o_yes rfl rfl ?_
             refine o_callP (eqBytes_fn _ aa _ ac ((w.drop (k * row.length)).take row.length) row) rfl rfl rfl (fun W st => ⟨(RdK.old0 hmid).out W st, (RdK.old0 hw.1).out W st⟩) (fun v120 hv120 => ?_)
             by_cases hM : Mt row w (k * row.length)
             ·
              have hd : decide (((w.drop (k * row.length)).take row.length) = row) = true := decide_eq_true hM
              rw [hd] at hv120
              subst hv120
              refine o_step rfl (s_pick_t rfl rfl) ?_
              refine o_nil ?_
              refine x_then (hK37 _ _ ?_)
              refine c_true rfl ?_
              refine c_skip ?_
              refine x_then (hK36 _ _ ?_)
              refine c_block ?_
              refine c_region ?_
              refine o_step rfl (s_move rfl) ?_
              refine o_step rfl (s_add rfl rfl (by omega)) ?_
              refine o_step rfl (s_assign rfl) ?_
              refine o_nil ?_
              refine x_block ?_
              exact x_then (x_inv (k + 1) ⟨by omega, fun j hj => if e : j = k then e ▸ hM else hk2 j (by omega)⟩ (by first | omega | (dsimp only; omega)) sbA hzB)
             ·
              have hd : decide (((w.drop (k * row.length)).take row.length) = row) = false := decide_eq_false hM
              rw [hd] at hv120
              subst hv120
              refine o_step rfl (s_pick_t rfl rfl) ?_
              refine o_nil ?_
              refine x_then (hK37 _ _ ?_)
              refine c_false rfl ?_
              refine c_exit ?_
              refine x_then_exit ?_
              refine x_then_exit ?_
              refine x_block_exit ?_
              exact x_then (hJ24 k _ _ ⟨by omega, hk2, .inr hM⟩ sbA sbA hzB)
            ·
             refine o_step rfl (step_cast (v' := .bool false) (s_leq rfl rfl) (by rw [decide_eq_false (by omega)])) ?_
             refine o_step rfl (s_pick_t rfl rfl) ?_
             refine o_step rfl (s_move rfl) ?_
             refine o_no rfl rfl rfl rfl ?_
             refine o_no rfl rfl rfl rfl ?_
             refine o_no rfl rfl rfl rfl ?_
             refine o_no rfl rfl rfl rfl ?_
             refine o_no rfl rfl rfl rfl ?_
             refine o_no rfl rfl rfl rfl ?_
             refine o_no rfl rfl rfl rfl ?_
             refine o_no rfl rfl rfl rfl ?_
             refine o_no rfl rfl rfl rfl ?_
             refine o_no rfl rfl rfl rfl ?_
             refine o_no rfl rfl rfl rfl ?_
             refine o_no rfl rfl rfl rfl ?_
             refine o_no rfl rfl rfl rfl ?_
             refine o_step rfl (s_pick_f rfl rfl) ?_
             refine o_nil ?_
             refine x_then (hK37 _ _ ?_)
             refine c_false rfl ?_
             refine c_exit ?_
             refine x_then_exit ?_
             refine x_then_exit ?_
             refine x_block_exit ?_
             exact x_then (hJ24 k _ _ ⟨by omega, hk2, .inr fun h => by have := mt_len h hn1; rw [Nat.succ_mul] at hkw; omega⟩ sbA sbA hzB)
           ·
            refine o_step rfl (step_cast (v' := .bool false) (s_lss rfl rfl) (by rw [decide_eq_false (by omega)])) ?_
            refine o_step rfl (s_move rfl) ?_
            refine o_no rfl rfl rfl rfl ?_
            refine o_no rfl rfl rfl rfl ?_
            refine o_no rfl rfl rfl rfl ?_
            refine o_no rfl rfl rfl rfl ?_
            refine o_no rfl rfl rfl rfl ?_
            refine o_no rfl rfl rfl rfl ?_
            refine o_no rfl rfl rfl rfl ?_
            refine o_no rfl rfl rfl rfl ?_
            refine o_step rfl (s_pick_f rfl rfl) ?_
            refine o_step rfl (s_move rfl) ?_
            refine o_no rfl rfl rfl rfl ?_
            refine o_no rfl rfl rfl rfl ?_
            refine o_no rfl rfl rfl rfl ?_
            refine o_no rfl rfl rfl rfl ?_
            refine o_no rfl rfl rfl rfl ?_
            refine o_no rfl rfl rfl rfl ?_
            refine o_no rfl rfl rfl rfl ?_
            refine o_no rfl rfl rfl rfl ?_
            refine o_no rfl rfl rfl rfl ?_
            refine o_no rfl rfl rfl rfl ?_
            refine o_no rfl rfl rfl rfl ?_
            refine o_no rfl rfl rfl rfl ?_
            refine o_no rfl rfl rfl rfl ?_
            refine o_step rfl (s_pick_f rfl rfl) ?_
            refine o_nil ?_
            refine x_then (hK37 _ _ ?_)
            refine c_false rfl ?_
            refine c_exit ?_
            refine x_then_exit ?_
            refine x_then_exit ?_
            refine x_block_exit ?_
            exact x_then (hJ24 k _ _ ⟨by omega, hk2, .inl (by omega)⟩ sbA sbA hzB)
end Go.Proofs.Ytihbhlgognpmmaa

/- Nodes, instructions and their lists as they come in. Conditions: none. -/
namespace Go.HL.Kl.Mc
open Go Go.HL Go.HL.Kl Go.RowKit Go.ChangeShapes Go.WideShapes Go.ChangeAt
def Ew1 (w : BitVec 64) : List Value := [Ew w]
instance : Enc Ew1 1 := ⟨fun _ => rfl, fun _ v hv => by simp [Ew1, Ew] at hv; subst hv; rfl⟩
theorem open_u64 {P : Program} {t : TypeId} (ht : P.underlying t = some (.int .u64)) : Opens P t Ew1 (fun _ _ => True) := by
  refine ⟨fun enc w fuel cs x h _ => ?_⟩
  obtain ⟨n, rfl, _, hw⟩ := DataW.trod_int ht h
  have hb : 0 ≤ n ∧ n ≤ 18446744073709551615 := by
    simp only [Lit.wf] at hw
    simpa [IntKind.min, IntKind.max, IntKind.signed, IntKind.bits] using hw
  refine ⟨BitVec.ofNat 64 n.toNat, ?_, trivial⟩
  have e : (BitVec.ofNat 64 n.toNat).toNat = n.toNat := by
    rw [BitVec.toNat_ofNat]
    exact Nat.mod_eq_of_lt (by rw [show (2 : Nat) ^ 64 = 18446744073709551616 from by decide]; omega)
  simp only [Ew1, Ew, e, List.cons.injEq, Value.int.injEq, true_and, and_true]
  omega
def mk4 (a b c d : BitVec 64) : Cl := setw (setw (setw (setw 0 0 a) 1 b) 2 c) 3 d
theorem mk4_wd (a b c d : BitVec 64) : Ec (mk4 a b c d) = [Ew a, Ew b, Ew c, Ew d] := by
  simp [Ec, mk4, wd_setw]
theorem open_cl {P : Program} {t e : TypeId} (ht : P.underlying t = some (.array 4 e)) (he : P.underlying e = some (.int .u64)) (hk : P.cellsOf e = 1) (hc : P.cellsOf t = 4) : Opens P t Ec (fun _ _ => True) := by
  refine ⟨fun enc w fuel cs x h hw => ?_⟩
  obtain ⟨xs, rfl, hl, _⟩ := (open_array ht hk (by rw [hc]) (open_u64 he)).out enc w fuel cs x h hw
  match xs, hl with
  | [a, b, c, d], _ => exact ⟨mk4 a b c d, by rw [mk4_wd]; rfl, trivial⟩
def Ei8 (n : Int) : List Value := [.int .i8 n]
instance : Enc Ei8 1 := ⟨fun _ => rfl, fun _ _ h => by simp [Ei8] at h; subst h; rfl⟩
theorem open_i8 {P : Program} {t : TypeId} (ht : P.underlying t = some (.int .i8)) : Opens P t Ei8 (fun _ n => -128 ≤ n ∧ n < 128) := by
  refine ⟨fun enc w fuel cs x h _ => ?_⟩
  obtain ⟨n, rfl, _, hw⟩ := DataW.trod_int ht h
  refine ⟨n, rfl, ?_⟩
  simp only [Lit.wf] at hw
  have : -128 ≤ n ∧ n ≤ 127 := by simpa [IntKind.min, IntKind.max, IntKind.signed, IntKind.bits] using hw
  omega
theorem open_struct6 {P : Program} {t : TypeId} {f0 f1 f2 f3 f4 f5 : Field} {α0 α1 α2 α3 α4 α5 γ : Type} {E0 : α0 → List Value} {E1 : α1 → List Value} {E2 : α2 → List Value} {E3 : α3 → List Value} {E4 : α4 → List Value} {E5 : α5 → List Value} {E : γ → List Value} {M0 : World → α0 → Prop} {M1 : World → α1 → Prop} {M2 : World → α2 → Prop} {M3 : World → α3 → Prop} {M4 : World → α4 → Prop} {M5 : World → α5 → Prop} {Mem : World → γ → Prop}
    (ht : P.underlying t = some (.struct #[f0, f1, f2, f3, f4, f5])) (h0 : f0.offset = 0) (h1 : f1.offset = P.cellsOf f0.type) (h2 : f2.offset = P.cellsOf f0.type + P.cellsOf f1.type) (h3 : f3.offset = P.cellsOf f0.type + P.cellsOf f1.type + P.cellsOf f2.type)
    (h4 : f4.offset = P.cellsOf f0.type + P.cellsOf f1.type + P.cellsOf f2.type + P.cellsOf f3.type) (h5 : f5.offset = P.cellsOf f0.type + P.cellsOf f1.type + P.cellsOf f2.type + P.cellsOf f3.type + P.cellsOf f4.type) (hc : P.cellsOf t = P.cellsOf f0.type + P.cellsOf f1.type + P.cellsOf f2.type + P.cellsOf f3.type + P.cellsOf f4.type + P.cellsOf f5.type)
    (o0 : Opens P f0.type E0 M0) (o1 : Opens P f1.type E1 M1) (o2 : Opens P f2.type E2 M2) (o3 : Opens P f3.type E3 M3) (o4 : Opens P f4.type E4 M4) (o5 : Opens P f5.type E5 M5) (mk : ∀ w a b c d e f, M0 w a → M1 w b → M2 w c → M3 w d → M4 w e → M5 w f → ∃ z, E z = E0 a ++ (E1 b ++ (E2 c ++ (E3 d ++ (E4 e ++ E5 f)))) ∧ Mem w z) : Opens P t E Mem := by
  refine ⟨fun enc w fuel cs x h hw => ?_⟩
  obtain ⟨hl, n, hf⟩ := trod_fields ht h hw
  obtain ⟨y0, e0, w0⟩ := hf 0 f0 rfl
  obtain ⟨y1, e1, w1⟩ := hf 1 f1 rfl
  obtain ⟨y2, e2, w2⟩ := hf 2 f2 rfl
  obtain ⟨y3, e3, w3⟩ := hf 3 f3 rfl
  obtain ⟨y4, e4, w4⟩ := hf 4 f4 rfl
  obtain ⟨y5, e5, w5⟩ := hf 5 f5 rfl
  obtain ⟨a, ha, ma⟩ := o0.out enc w _ _ _ e0 w0
  obtain ⟨b, hb, mb⟩ := o1.out enc w _ _ _ e1 w1
  obtain ⟨c, hcc, mc⟩ := o2.out enc w _ _ _ e2 w2
  obtain ⟨d, hd, md⟩ := o3.out enc w _ _ _ e3 w3
  obtain ⟨e, he, me⟩ := o4.out enc w _ _ _ e4 w4
  obtain ⟨f, hff, mf⟩ := o5.out enc w _ _ _ e5 w5
  obtain ⟨z, hz, hm⟩ := mk w a b c d e f ma mb mc md me mf
  refine ⟨z, ?_, hm⟩
  rw [hz, ← ha, ← hb, ← hcc, ← hd, ← he, ← hff, h0, h1, h2, h3, h4, h5, List.drop_zero, List.take_of_length_le (l := cs.drop (P.cellsOf f0.type + _ + _ + _ + _)) (by rw [List.length_drop]; omega), ← cells_split, ← cells_split, ← cells_split, ← cells_split, List.take_append_drop]
end Go.HL.Kl.Mc
