/- Part of the proofs over this seat: see the text that holds the theorem. Conditions: each theorem bears its own. -/
import Derived.Test.YtmompllplidphaaDoorHLMZ
import Derived.Test.YtmompllplidphaaDoorKQ8Z
namespace Go.Proofs.YtmompllplidphaaDoor
open Go Go.HL Go.Proofs Go.HL.Kl Go.HL.Kl.Mc Go.HL.Sts
theorem rLeast_fn (c : Kl.Cl) : HL.Fn Tryd.prog 50 [.agg (Ec c).toArray] (fun _ => True) [] (fun v _ => v = .int .u8 (leastR c : Nat)) := by
  refine fn_of Tryd.func50 rfl rfl rfl fun w0 hw => ?_
  refine c_seq fun _ hK1 => ?_
  refine c_region ?_
  refine o_box rfl rfl rfl fun b1 => ?_
  refine o_step rfl (s_assign rfl) ?_
  refine o_nil ?_
  refine x_then (hK1 _ _ ?_)
  refine c_seq fun _ hK2 => ?_
  refine c_seq fun _ hK3 => ?_
  refine c_region ?_
  refine o_step rfl (s_assign rfl) ?_
  refine o_nil ?_
  refine x_then (hK3 _ _ ?_)
  refine c_block ?_
  -- not carried: 2
  refine c_loopB (fun (b : Nat) => b ≤ 256 ∧ ∀ j, j < b → c.getLsbD j = false) (fun (b : Nat) => [(3, .int .i64 b)]) [(1, _)] (fun (b : Nat) => [(b1, .cells (Ec (c)).toArray 54 (0, 0))]) (fun (b : Nat) => 256 - b) 0 ⟨by omega, fun j hj => by omega⟩ sbA sbA hzB ?_
  rintro b ⟨hb, hno⟩
  refine c_seq fun _ hK4 => ?_
  refine c_seq fun _ hK5 => ?_
  refine c_region ?_
  refine o_step rfl (s_move rfl) ?_
  by_cases hlt : b < 256
  ·
   refine o_step rfl (step_cast (v' := .bool true) (s_lss rfl rfl) (congrArg Value.bool (decide_eq_true (by omega)))) ?_
   refine o_nil ?_
   refine x_then (hK5 _ _ ?_)
   refine c_true rfl ?_
   refine c_skip ?_
   refine x_then (hK4 _ _ ?_)
   refine c_seq fun _ hK6 => ?_
   refine c_block ?_
   refine c_seq fun _ hK7 => ?_
   refine c_region ?_
   refine o_step rfl (s_ldB rfl (RdPK.cels (.own meA)) lnA) ?_
   refine o_step rfl (s_move rfl) ?_
   refine o_step rfl (step_cast (v' := .int .u8 ((b : Nat) : Int)) (s_conv rfl) (congrArg _ (conv8 (by omega)))) ?_
   refine o_callP (rHas_fn c b (by omega)) rfl rfl rfl (fun _ _ => trivial) (fun v11 hv11 => ?_)
   cases hh : BitVec.getLsbD c b
   ·
    rw [hh] at hv11
    subst hv11
    refine o_nil ?_
    refine x_then (hK7 _ _ ?_)
    refine c_false rfl ?_
    refine c_skip ?_
    refine x_block ?_
    refine x_then (hK6 _ _ ?_)
    refine c_region ?_
    refine o_step rfl (s_move rfl) ?_
    refine o_step rfl (s_add rfl rfl (by omega)) ?_
    refine o_step rfl (s_assign rfl) ?_
    refine o_nil ?_
    exact x_then (x_inv (b + 1) ⟨by omega, fun j hj => by rcases Nat.lt_or_ge j b with h | h; (· exact hno j h); (· rw [show j = b by omega]; exact hh)⟩ (by first | omega | (dsimp only; omega)) sbA hzB)
   ·
    rw [hh] at hv11
    subst hv11
    refine o_nil ?_
    refine x_then (hK7 _ _ ?_)
    refine c_true rfl ?_
    refine c_seq fun _ hK8 => ?_
    refine c_region ?_
    refine o_step rfl (s_move rfl) ?_
    refine o_step rfl (step_cast (v' := .int .u8 ((b : Nat) : Int)) (s_conv rfl) (congrArg _ (conv8 (by omega)))) ?_
    refine o_step rfl (s_assign rfl) ?_
    refine o_nil ?_
    refine x_then (hK8 _ _ ?_)
    refine c_ret ?_
    refine x_block_ret (x_then_ret (x_then_ret (x_block_ret (x_then_ret (?_)))))
    exact x_ret rfl (.tmp rfl (.nil)) (congrArg (fun n : Nat => Value.int .u8 n) (leastR_at (by omega) hh hno).symm)
  ·
   obtain rfl : b = 256 := by omega
   refine o_step rfl (step_cast (v' := .bool false) (s_lss rfl rfl) (congrArg Value.bool (decide_eq_false (by omega)))) ?_
   refine o_nil ?_
   refine x_then (hK5 _ _ ?_)
   refine c_false rfl ?_
   refine c_exit ?_
   refine x_then_exit ?_
   refine x_then_exit ?_
   refine x_block_exit ?_
   refine x_then (hK2 _ _ ?_)
   refine c_seq fun _ hK9 => ?_
   refine c_region ?_
   refine o_step rfl (s_assign rfl) ?_
   refine o_nil ?_
   refine x_then (hK9 _ _ ?_)
   refine c_ret ?_
   refine ?_
   exact x_ret rfl (.tmp rfl (.nil)) (congrArg (fun n : Nat => Value.int .u8 n) (leastR_none hno).symm)
theorem goes_fn (d : Df) (aa : Option Addr) (ac : Nat) (na : Option Addr) (nc : Nat) (rows : List (Sl Int)) (ea : Option Addr) (ec : Nat) (hx : d.next = rows.map Sl.xs) (hK : ∀ s ∈ rows, s.xs.length = d.atoms.length) (q : Int) (hq : q < rows.length) (u : Nat) (hu : u < 256) : HL.Fn Tryd.prog 51 [.agg [.slice aa d.atoms.length ac, .slice na rows.length nc, .slice ea d.ends.length ec].toArray, .int .i64 q, .int .u8 u] (fun w => RdD d aa ac na nc rows ea ec w) [] (fun v _ => v = .int .i64 (goesR d q u)) := by
  refine fn_of Tryd.func51 rfl rfl rfl fun w0 hw => ?_
  have hsa := hw.at_.sl
  have hsn := hw.nx.sl
  have hba := hsa.le
  refine c_seq fun _ hK1 => ?_
  refine c_region ?_
  refine o_box rfl rfl rfl fun b3 => ?_
  refine o_step rfl (s_assign rfl) ?_
  refine o_nil ?_
  refine x_then (hK1 _ _ ?_)
  refine c_seq fun _ hK2 => ?_
  refine c_seq fun _ hK3 => ?_
  refine c_region ?_
  refine o_step rfl (s_assign rfl) ?_
  refine o_nil ?_
  refine x_then (hK3 _ _ ?_)
  refine c_block ?_
  -- not carried: 6
  refine c_loopB (fun (k : Nat) => k ≤ d.atoms.length ∧ ∀ j c, j < k → d.atoms[j]? = some c → c.getLsbD u = false) (fun (k : Nat) => [(7, .int .i64 k)]) [(1, _), (2, _), (3, _)] (fun (k : Nat) => [(b3, .cells [.slice aa d.atoms.length ac, .slice na rows.length nc, .slice ea d.ends.length ec].toArray 26 (0, 0))]) (fun (k : Nat) => d.atoms.length - k) 0 ⟨Nat.zero_le _, fun j c hj _ => by omega⟩ sbA sbA hzB ?_
  rintro k ⟨hk, hno⟩
  refine c_seq fun _ hK4 => ?_
  refine c_seq fun _ hK5 => ?_
  refine c_region ?_
  refine o_step rfl (s_move rfl) ?_
  refine o_step rfl (s_field rfl rfl (by decide)) ?_
  refine o_step rfl (s_ld rfl (.own meA rfl)) ?_
  refine o_step rfl (s_len rfl) ?_
  by_cases hlt : k < d.atoms.length
  ·
   obtain ⟨a, hak⟩ : ∃ a, d.atoms[k]? = some a := ⟨_, List.getElem?_eq_getElem (by omega)⟩
   refine o_step rfl (step_cast (v' := .bool true) (s_lss rfl rfl) (congrArg Value.bool (decide_eq_true (by omega)))) ?_
   refine o_step rfl (s_move rfl) ?_
   refine o_yes rfl rfl ?_
   refine o_step rfl (s_move rfl) ?_
   refine o_yes rfl rfl ?_
   by_cases hpos : q ≥ 0
   ·
    obtain ⟨q, rfl⟩ := Int.eq_ofNat_of_zero_le hpos
    obtain ⟨s, hs⟩ : ∃ s, rows[q]? = some s := ⟨_, List.getElem?_eq_getElem (by omega)⟩
    have hsm := List.mem_of_getElem? hs
    have hsx := (hw.rw_ s hsm).sl
    have hsk := hK s hsm
    have hrow : d.next[q]? = some s.xs := by rw [hx, List.getElem?_map, hs]; rfl
    obtain ⟨v, hv⟩ : ∃ v, s.xs[k]? = some v := ⟨_, List.getElem?_eq_getElem (by omega)⟩
    refine o_step rfl (step_cast (v' := .bool true) (s_geq rfl rfl) (congrArg Value.bool (decide_eq_true hpos))) ?_
    refine o_step rfl (s_pick_t rfl rfl) ?_
    refine o_nil ?_
    refine x_then (hK5 _ _ ?_)
    refine c_true rfl ?_
    refine c_skip ?_
    refine x_then (hK4 _ _ ?_)
    refine c_seq fun _ hK6 => ?_
    refine c_block ?_
    refine c_seq fun _ hK7 => ?_
    refine c_region ?_
    refine o_step rfl (s_field rfl rfl (by decide)) ?_
    refine o_step rfl (s_ld rfl (.own meA rfl)) ?_
    refine o_step rfl (s_move rfl) ?_
    refine o_step rfl (s_idx rfl rfl hsa (by omega)) ?_
    refine o_step rfl (s_ldB rfl ((RdK.old0 hw.at_).lds k hak (by omega)) lnA) ?_
    refine o_step rfl (s_move rfl) ?_
    refine o_callP (rHas_fn a u hu) rfl rfl rfl (fun _ _ => trivial) (fun v25 hv25 => ?_)
    cases hh : BitVec.getLsbD a u
    ·
     rw [hh] at hv25
     subst hv25
     refine o_nil ?_
     refine x_then (hK7 _ _ ?_)
     refine c_false rfl ?_
     refine c_skip ?_
     refine x_block ?_
     refine x_then (hK6 _ _ ?_)
     refine c_region ?_
     refine o_step rfl (s_move rfl) ?_
     refine o_step rfl (s_add rfl rfl (by omega)) ?_
     refine o_step rfl (s_assign rfl) ?_
     refine o_nil ?_
     exact x_then (x_inv (k + 1) ⟨by omega, fun j c hj hc => by rcases Nat.lt_or_ge j k with h | h; (· exact hno j c h hc); (· rw [show j = k by omega, hak] at hc; rw [← Option.some.inj hc]; exact hh)⟩ (by first | omega | (dsimp only; omega)) sbA hzB)
    ·
     rw [hh] at hv25
     subst hv25
     refine o_nil ?_
     refine x_then (hK7 _ _ ?_)
     refine c_true rfl ?_
     refine c_seq fun _ hK8 => ?_
     refine c_region ?_
     refine o_step rfl (s_field rfl rfl (by decide)) ?_
     refine o_step rfl (s_ld rfl (.own meA rfl)) ?_
     refine o_step rfl (s_move rfl) ?_
     refine o_step rfl (s_idx rfl rfl hsn (by omega)) ?_
     refine o_step rfl (s_ld rfl ((RdK.old0 hw.nx).ld q 0 hs rfl (by decide) (by omega))) ?_
     refine o_step rfl (s_move rfl) ?_
     refine o_step rfl (s_idx rfl rfl hsx (by omega)) ?_
     refine o_step rfl (s_ld rfl ((RdK.old0 (hw.rw_ s hsm)).ld k 0 hv rfl (by decide) (by simp only [Sl.v]; omega))) ?_
     refine o_step rfl (s_assign rfl) ?_
     refine o_nil ?_
     refine x_then (hK8 _ _ ?_)
     refine c_ret ?_
     refine x_block_ret (x_then_ret (x_then_ret (x_block_ret (x_then_ret (?_)))))
     exact x_ret rfl (.tmp rfl (.nil)) (congrArg (Value.int .i64) (goesR_at hak hh hno hrow hv).symm)
   ·
    refine o_step rfl (step_cast (v' := .bool false) (s_geq rfl rfl) (congrArg Value.bool (decide_eq_false hpos))) ?_
    refine o_step rfl (s_pick_t rfl rfl) ?_
    refine o_nil ?_
    refine x_then (hK5 _ _ ?_)
    refine c_false rfl ?_
    refine c_exit ?_
    refine x_then_exit ?_
    refine x_then_exit ?_
    refine x_block_exit ?_
    refine x_then (hK2 _ _ ?_)
    refine c_seq fun _ hK9 => ?_
    refine c_region ?_
    refine o_step rfl (s_assign rfl) ?_
    refine o_nil ?_
    refine x_then (hK9 _ _ ?_)
    refine c_ret ?_
    refine ?_
    exact x_ret rfl (.tmp rfl (.nil)) (congrArg (Value.int .i64) (goesR_neg (by omega)).symm)
  ·
   obtain rfl : k = d.atoms.length := by omega
   refine o_step rfl (step_cast (v' := .bool false) (s_lss rfl rfl) (congrArg Value.bool (decide_eq_false (by omega)))) ?_
   refine o_step rfl (s_move rfl) ?_
   refine o_no rfl rfl rfl rfl ?_
   refine o_no rfl rfl rfl rfl ?_
   refine o_step rfl (s_pick_f rfl rfl) ?_
   refine o_nil ?_
   refine x_then (hK5 _ _ ?_)
   refine c_false rfl ?_
   refine c_exit ?_
   refine x_then_exit ?_
   refine x_then_exit ?_
   refine x_block_exit ?_
   refine x_then (hK2 _ _ ?_)
   refine c_seq fun _ hK10 => ?_
   refine c_region ?_
   refine o_step rfl (s_assign rfl) ?_
   refine o_nil ?_
   refine x_then (hK10 _ _ ?_)
   refine c_ret ?_
   refine ?_
   exact x_ret rfl (.tmp rfl (.nil)) (congrArg (Value.int .i64) (goesR_none hno).symm)
theorem ends_fn (d : Df) (aa : Option Addr) (ac : Nat) (na : Option Addr) (nc : Nat) (rows : List (Sl Int)) (ea : Option Addr) (ec : Nat) (hx : d.next = rows.map Sl.xs) (q : Int) (hq : q < d.ends.length) : HL.Fn Tryd.prog 52 [.agg [.slice aa d.atoms.length ac, .slice na rows.length nc, .slice ea d.ends.length ec].toArray, .int .i64 q] (fun w => RdD d aa ac na nc rows ea ec w) [] (fun v _ => v = .bool (endsR d q)) := by
  refine fn_of Tryd.func52 rfl rfl rfl fun w0 hw => ?_
  have hse := hw.en.sl
  refine c_seq fun _ hK1 => ?_
  refine c_region ?_
  refine o_box rfl rfl rfl fun b2 => ?_
  refine o_step rfl (s_assign rfl) ?_
  refine o_nil ?_
  refine x_then (hK1 _ _ ?_)
  refine c_seq fun _ hK2 => ?_
  refine c_region ?_
  refine o_step rfl (s_move rfl) ?_
  by_cases hpos : q ≥ 0
  ·
   obtain ⟨q, rfl⟩ := Int.eq_ofNat_of_zero_le hpos
   obtain ⟨e, he⟩ : ∃ e, d.ends[q]? = some e := ⟨_, List.getElem?_eq_getElem (by omega)⟩
   refine o_step rfl (step_cast (v' := .bool true) (s_geq rfl rfl) (congrArg Value.bool (decide_eq_true hpos))) ?_
   refine o_step rfl (s_move rfl) ?_
   refine o_yes rfl rfl ?_
   refine o_step rfl (s_field rfl rfl (by decide)) ?_
   refine o_yes rfl rfl ?_
   refine o_step rfl (s_ld rfl (.own meA rfl)) ?_
   refine o_yes rfl rfl ?_
   refine o_step rfl (s_move rfl) ?_
   refine o_yes rfl rfl ?_
   refine o_step rfl (s_idx rfl rfl hse (by omega)) ?_
   refine o_yes rfl rfl ?_
   refine o_step rfl (s_ld rfl ((RdK.old0 hw.en).ld q 0 he rfl (by decide) (by omega))) ?_
   refine o_step rfl (s_pick_t rfl rfl) ?_
   refine o_step rfl (s_assign rfl) ?_
   refine o_nil ?_
   refine x_then (hK2 _ _ ?_)
   refine c_ret ?_
   refine ?_
   exact x_ret rfl (.tmp rfl (.nil)) (congrArg Value.bool (by simp [endsR, he]))
  ·
   refine o_step rfl (step_cast (v' := .bool false) (s_geq rfl rfl) (congrArg Value.bool (decide_eq_false hpos))) ?_
   refine o_step rfl (s_move rfl) ?_
   refine o_no rfl rfl rfl rfl ?_
   refine o_no rfl rfl rfl rfl ?_
   refine o_no rfl rfl rfl rfl ?_
   refine o_no rfl rfl rfl rfl ?_
   refine o_no rfl rfl rfl rfl ?_
   refine o_step rfl (s_pick_f rfl rfl) ?_
   refine o_step rfl (s_assign rfl) ?_
   refine o_nil ?_
   refine x_then (hK2 _ _ ?_)
   refine c_ret ?_
   refine ?_
   exact x_ret rfl (.tmp rfl (.nil)) (congrArg Value.bool (by unfold endsR; rw [decide_eq_false (by omega)]; rfl))
set_option maxHeartbeats 2000000 in
theorem rShaped2_fn (d : Df) (aa : Option Addr) (ac : Nat) (na : Option Addr) (nc : Nat) (rows : List (Sl Int)) (ea : Option Addr) (ec : Nat) (hx : d.next = rows.map Sl.xs) : HL.Fn Tryd.prog 18 [.agg [.slice aa d.atoms.length ac, .slice na rows.length nc, .slice ea d.ends.length ec].toArray] (fun w => RdD d aa ac na nc rows ea ec w) [] (fun v _ => v = .bool (shR d)) := by
  refine fn_of Tryd.func18 rfl rfl rfl fun w0 hw => ?_
  have hsa := hw.at_.sl
  have hsn := hw.nx.sl
  have hse := hw.en.sl
  have hba := hsa.le
  have hbn := hsn.le
  have hnl : d.next.length = rows.length := by rw [hx, List.length_map]
  refine c_seq fun _ hK1 => ?_
  refine c_region ?_
  refine o_box rfl rfl rfl fun b1 => ?_
  refine o_step rfl (s_assign rfl) ?_
  refine o_nil ?_
  refine x_then (hK1 _ _ ?_)
  refine c_seq fun _ hK2 => ?_
  refine c_region ?_
  refine o_step rfl (s_field rfl rfl (by decide)) ?_
  refine o_step rfl (s_ld rfl (.own meA rfl)) ?_
  refine o_step rfl (s_len rfl) ?_
  refine o_step rfl (s_assign rfl) ?_
  refine o_nil ?_
  refine x_then (hK2 _ _ ?_)
  refine c_seq fun _ hK3 => ?_
  refine c_seq fun _ hK4 => ?_
  refine c_region ?_
  refine o_step rfl (s_move rfl) ?_
  by_cases g1 : d.ends.length < 1
  ·
   refine o_step rfl (step_cast (v' := .bool true) (s_lss rfl rfl) (congrArg Value.bool (decide_eq_true (by omega)))) ?_
   refine o_step rfl (s_move rfl) ?_
   refine o_no rfl rfl rfl rfl ?_
   refine o_no rfl rfl rfl rfl ?_
   refine o_step rfl (s_pick_t rfl rfl) ?_
   refine o_step rfl (s_move rfl) ?_
   refine o_no rfl rfl rfl rfl ?_
   refine o_no rfl rfl rfl rfl ?_
   refine o_no rfl rfl rfl rfl ?_
   refine o_no rfl rfl rfl rfl ?_
   refine o_no rfl rfl rfl rfl ?_
   refine o_step rfl (s_pick_t rfl rfl) ?_
   refine o_step rfl (s_move rfl) ?_
   refine o_no rfl rfl rfl rfl ?_
   refine o_no rfl rfl rfl rfl ?_
   refine o_no rfl rfl rfl rfl ?_
   refine o_no rfl rfl rfl rfl ?_
   refine o_step rfl (s_pick_t rfl rfl) ?_
   refine o_step rfl (s_move rfl) ?_
   refine o_no rfl rfl rfl rfl ?_
   refine o_no rfl rfl rfl rfl ?_
   refine o_no rfl rfl rfl rfl ?_
   refine o_no rfl rfl rfl rfl ?_
   refine o_step rfl (s_pick_t rfl rfl) ?_
   refine o_nil ?_
   refine x_then (hK4 _ _ ?_)
   refine c_true rfl ?_
   refine c_seq fun _ hK5 => ?_
   refine c_region ?_
   refine o_step rfl (s_assign rfl) ?_
   refine o_nil ?_
   refine x_then (hK5 _ _ ?_)
   refine c_ret ?_
   refine x_then_ret (?_)
   exact x_ret rfl (.tmp rfl (.nil)) ((congrArg Value.bool (shR_size (fun h => by obtain ⟨q1, q2, q3, q4, q5⟩ := h; omega)).symm))
  ·
   refine o_step rfl (step_cast (v' := .bool false) (s_lss rfl rfl) (congrArg Value.bool (decide_eq_false (by omega)))) ?_
   refine o_step rfl (s_move rfl) ?_
   refine o_yes rfl rfl ?_
   refine o_step rfl (s_move rfl) ?_
   refine o_yes rfl rfl ?_
   by_cases g2 : 256 < d.ends.length
   ·
    refine o_step rfl (step_cast (v' := .bool true) (s_gtr rfl rfl) (congrArg Value.bool (decide_eq_true (by omega)))) ?_
    refine o_step rfl (s_pick_f rfl rfl) ?_
    refine o_step rfl (s_move rfl) ?_
    refine o_no rfl rfl rfl rfl ?_
    refine o_no rfl rfl rfl rfl ?_
    refine o_no rfl rfl rfl rfl ?_
    refine o_no rfl rfl rfl rfl ?_
    refine o_no rfl rfl rfl rfl ?_
    refine o_step rfl (s_pick_t rfl rfl) ?_
    refine o_step rfl (s_move rfl) ?_
    refine o_no rfl rfl rfl rfl ?_
    refine o_no rfl rfl rfl rfl ?_
    refine o_no rfl rfl rfl rfl ?_
    refine o_no rfl rfl rfl rfl ?_
    refine o_step rfl (s_pick_t rfl rfl) ?_
    refine o_step rfl (s_move rfl) ?_
    refine o_no rfl rfl rfl rfl ?_
    refine o_no rfl rfl rfl rfl ?_
    refine o_no rfl rfl rfl rfl ?_
    refine o_no rfl rfl rfl rfl ?_
    refine o_step rfl (s_pick_t rfl rfl) ?_
    refine o_nil ?_
    refine x_then (hK4 _ _ ?_)
    refine c_true rfl ?_
    refine c_seq fun _ hK6 => ?_
    refine c_region ?_
    refine o_step rfl (s_assign rfl) ?_
    refine o_nil ?_
    refine x_then (hK6 _ _ ?_)
    refine c_ret ?_
    refine x_then_ret (?_)
    exact x_ret rfl (.tmp rfl (.nil)) ((congrArg Value.bool (shR_size (fun h => by obtain ⟨q1, q2, q3, q4, q5⟩ := h; omega)).symm))
   ·
    refine o_step rfl (step_cast (v' := .bool false) (s_gtr rfl rfl) (congrArg Value.bool (decide_eq_false (by omega)))) ?_
    refine o_step rfl (s_pick_f rfl rfl) ?_
    refine o_step rfl (s_move rfl) ?_
    refine o_yes rfl rfl ?_
    refine o_step rfl (s_field rfl rfl (by decide)) ?_
    refine o_yes rfl rfl ?_
    refine o_step rfl (s_ld rfl (.own meA rfl)) ?_
    refine o_yes rfl rfl ?_
    refine o_step rfl (s_len rfl) ?_
    refine o_yes rfl rfl ?_
    refine o_step rfl (s_move rfl) ?_
    refine o_yes rfl rfl ?_
    by_cases g3 : rows.length ≠ d.ends.length
    ·
     refine o_step rfl (step_cast (v' := .bool true) (s_neq rfl rfl) (congrArg Value.bool (decide_eq_true (by omega)))) ?_
     refine o_step rfl (s_pick_f rfl rfl) ?_
     refine o_step rfl (s_move rfl) ?_
     refine o_no rfl rfl rfl rfl ?_
     refine o_no rfl rfl rfl rfl ?_
     refine o_no rfl rfl rfl rfl ?_
     refine o_no rfl rfl rfl rfl ?_
     refine o_step rfl (s_pick_t rfl rfl) ?_
     refine o_step rfl (s_move rfl) ?_
     refine o_no rfl rfl rfl rfl ?_
     refine o_no rfl rfl rfl rfl ?_
     refine o_no rfl rfl rfl rfl ?_
     refine o_no rfl rfl rfl rfl ?_
     refine o_step rfl (s_pick_t rfl rfl) ?_
     refine o_nil ?_
     refine x_then (hK4 _ _ ?_)
     refine c_true rfl ?_
     refine c_seq fun _ hK7 => ?_
     refine c_region ?_
     refine o_step rfl (s_assign rfl) ?_
     refine o_nil ?_
     refine x_then (hK7 _ _ ?_)
     refine c_ret ?_
     refine x_then_ret (?_)
     exact x_ret rfl (.tmp rfl (.nil)) ((congrArg Value.bool (shR_size (fun h => by obtain ⟨q1, q2, q3, q4, q5⟩ := h; omega)).symm))
    ·
     refine o_step rfl (step_cast (v' := .bool false) (s_neq rfl rfl) (congrArg Value.bool (decide_eq_false (by omega)))) ?_
     refine o_step rfl (s_pick_f rfl rfl) ?_
     refine o_step rfl (s_move rfl) ?_
     refine o_yes rfl rfl ?_
     refine o_step rfl (s_field rfl rfl (by decide)) ?_
     refine o_yes rfl rfl ?_
     refine o_step rfl (s_ld rfl (.own meA rfl)) ?_
     refine o_yes rfl rfl ?_
     refine o_step rfl (s_len rfl) ?_
     refine o_yes rfl rfl ?_
     by_cases g4 : d.atoms.length < 1
     ·
      refine o_step rfl (step_cast (v' := .bool true) (s_lss rfl rfl) (congrArg Value.bool (decide_eq_true (by omega)))) ?_
      refine o_step rfl (s_pick_f rfl rfl) ?_
      refine o_step rfl (s_move rfl) ?_
      refine o_no rfl rfl rfl rfl ?_
      refine o_no rfl rfl rfl rfl ?_
      refine o_no rfl rfl rfl rfl ?_
      refine o_no rfl rfl rfl rfl ?_
      refine o_step rfl (s_pick_t rfl rfl) ?_
      refine o_nil ?_
      refine x_then (hK4 _ _ ?_)
      refine c_true rfl ?_
      refine c_seq fun _ hK8 => ?_
      refine c_region ?_
      refine o_step rfl (s_assign rfl) ?_
      refine o_nil ?_
      refine x_then (hK8 _ _ ?_)
      refine c_ret ?_
      refine x_then_ret (?_)
      exact x_ret rfl (.tmp rfl (.nil)) ((congrArg Value.bool (shR_size (fun h => by obtain ⟨q1, q2, q3, q4, q5⟩ := h; omega)).symm))
     ·
      refine o_step rfl (step_cast (v' := .bool false) (s_lss rfl rfl) (congrArg Value.bool (decide_eq_false (by omega)))) ?_
      refine o_step rfl (s_pick_f rfl rfl) ?_
      refine o_step rfl (s_move rfl) ?_
      refine o_yes rfl rfl ?_
      refine o_step rfl (s_field rfl rfl (by decide)) ?_
      refine o_yes rfl rfl ?_
      refine o_step rfl (s_ld rfl (.own meA rfl)) ?_
      refine o_yes rfl rfl ?_
      refine o_step rfl (s_len rfl) ?_
      refine o_yes rfl rfl ?_
      by_cases g5 : 256 < d.atoms.length
      ·
       refine o_step rfl (step_cast (v' := .bool true) (s_gtr rfl rfl) (congrArg Value.bool (decide_eq_true (by omega)))) ?_
       refine o_step rfl (s_pick_f rfl rfl) ?_
       refine o_nil ?_
       refine x_then (hK4 _ _ ?_)
       refine c_true rfl ?_
       refine c_seq fun _ hK9 => ?_
       refine c_region ?_
       refine o_step rfl (s_assign rfl) ?_
       refine o_nil ?_
       refine x_then (hK9 _ _ ?_)
       refine c_ret ?_
       refine x_then_ret (?_)
       exact x_ret rfl (.tmp rfl (.nil)) ((congrArg Value.bool (shR_size (fun h => by obtain ⟨q1, q2, q3, q4, q5⟩ := h; omega)).symm))
      ·
       have hsz : sizeOk d := ⟨by omega, by omega, by omega, by omega, by omega⟩
       refine o_step rfl (step_cast (v' := .bool false) (s_gtr rfl rfl) (congrArg Value.bool (decide_eq_false (by omega)))) ?_
       refine o_step rfl (s_pick_f rfl rfl) ?_
       refine o_nil ?_
       refine x_then (hK4 _ _ ?_)
       refine c_false rfl ?_
       refine c_skip ?_
       refine x_then (hK3 _ _ ?_)
       refine c_seq fun _ hK10 => ?_
       refine c_seq fun _ hK11 => ?_
       refine c_region ?_
       refine o_step rfl (s_assign rfl) ?_
       refine o_nil ?_
       refine x_then (hK11 _ _ ?_)
       refine c_block ?_
       -- not carried: 2
       refine c_loopB (fun (b : Nat) => b ≤ 256 ∧ ∀ i, i < b → hasN d.atoms i = 1) (fun (b : Nat) => [(4, .int .i64 b)]) [(1, _), (3, _)] (fun (b : Nat) => [(b1, .cells [.slice aa d.atoms.length ac, .slice na rows.length nc, .slice ea d.ends.length ec].toArray 26 (0, 0))]) (fun (b : Nat) => 256 - b) 0 ⟨by omega, fun i hi => by omega⟩ sbA sbA hzB ?_
       rintro b ⟨hb, hone⟩
       refine c_seq fun _ hK12 => ?_
       refine c_seq fun _ hK13 => ?_
       refine c_region ?_
       refine o_step rfl (s_move rfl) ?_
       by_cases hlt : b < 256
       ·
        refine o_step rfl (step_cast (v' := .bool true) (s_lss rfl rfl) (congrArg Value.bool (decide_eq_true (by omega)))) ?_
        refine o_nil ?_
        refine x_then (hK13 _ _ ?_)
        refine c_true rfl ?_
        refine c_skip ?_
        refine x_then (hK12 _ _ ?_)
        refine c_seq fun _ hK14 => ?_
        refine c_block ?_
        refine c_seq fun _ hK15 => ?_
        refine c_region ?_
        refine o_step rfl (s_assign rfl) ?_
        refine o_nil ?_
        refine x_then (hK15 _ _ ?_)
        refine c_seq fun _ hK16 => ?_
        refine c_seq fun _ hK17 => ?_
        refine c_region ?_
        refine o_step rfl (s_assign rfl) ?_
        refine o_nil ?_
        refine x_then (hK17 _ _ ?_)
        refine c_block ?_
        refine c_loopB (fun (k : Nat) => k ≤ d.atoms.length) (fun (k : Nat) => [(6, .int .i64 k), (5, .int .i64 (hasN (d.atoms.take k) b : Nat))]) [(1, _), (3, _), (4, _), (38, _), (39, _)] (fun (k : Nat) => [(b1, .cells [.slice aa d.atoms.length ac, .slice na rows.length nc, .slice ea d.ends.length ec].toArray 26 (0, 0))]) (fun (k : Nat) => d.atoms.length - k) 0 (Nat.zero_le _) sbA sbA hzB ?_
        rintro k hk
        have hnk := hasN_le (d.atoms.take k) b
        rw [take_len hk] at hnk
        refine c_seq fun _ hK18 => ?_
        refine c_seq fun _ hK19 => ?_
        refine c_region ?_
        refine o_step rfl (s_move rfl) ?_
        refine o_step rfl (s_field rfl rfl (by decide)) ?_
        refine o_step rfl (s_ld rfl (.own meA rfl)) ?_
        refine o_step rfl (s_len rfl) ?_
        by_cases hlt : k < d.atoms.length
        ·
         obtain ⟨a, hak⟩ : ∃ a, d.atoms[k]? = some a := ⟨_, List.getElem?_eq_getElem (by omega)⟩
         refine o_step rfl (step_cast (v' := .bool true) (s_lss rfl rfl) (congrArg Value.bool (decide_eq_true (by omega)))) ?_
         refine o_nil ?_
         refine x_then (hK19 _ _ ?_)
         refine c_true rfl ?_
         refine c_skip ?_
         refine x_then (hK18 _ _ ?_)
         refine c_seq fun _ hK20 => ?_
         refine c_block ?_
         refine c_seq fun _ hK21 => ?_
         refine c_region ?_
         refine o_step rfl (s_field rfl rfl (by decide)) ?_
         refine o_step rfl (s_ld rfl (.own meA rfl)) ?_
         refine o_step rfl (s_move rfl) ?_
         refine o_step rfl (s_idx rfl rfl hsa (by omega)) ?_
         refine o_step rfl (s_ldB rfl ((RdK.old0 hw.at_).lds k hak (by omega)) lnA) ?_
         refine o_step rfl (s_move rfl) ?_
         refine o_step rfl (step_cast (v' := .int .u8 ((b : Nat) : Int)) (s_conv rfl) (congrArg _ (conv8 (by omega)))) ?_
         refine o_callP (rHas_fn a b (by omega)) rfl rfl rfl (fun _ _ => trivial) (fun v56 hv56 => ?_)
         cases hh : BitVec.getLsbD a b
         ·
          rw [hh] at hv56
          subst hv56
          refine o_nil ?_
          refine x_then (hK21 _ _ ?_)
          refine c_false rfl ?_
          refine c_skip ?_
          refine x_block ?_
          refine x_then (hK20 _ _ ?_)
          refine c_region ?_
          refine o_step rfl (s_move rfl) ?_
          refine o_step rfl (s_add rfl rfl (by omega)) ?_
          refine o_step rfl (s_assign rfl) ?_
          refine o_nil ?_
          exact x_then (x_inv (k + 1) (by omega) (by first | omega | (dsimp only; omega)) (by first | (rw [hasN_no hak hh]; exact sbA) | (rw [hasN_yes hak hh]; exact sbA)) hzB)
         ·
          rw [hh] at hv56
          subst hv56
          refine o_nil ?_
          refine x_then (hK21 _ _ ?_)
          refine c_true rfl ?_
          refine c_region ?_
          refine o_step rfl (s_move rfl) ?_
          refine o_step rfl (s_add rfl rfl (by omega)) ?_
          refine o_step rfl (s_assign rfl) ?_
          refine o_nil ?_
          refine x_block ?_
          refine x_then (hK20 _ _ ?_)
          refine c_region ?_
          refine o_step rfl (s_move rfl) ?_
          refine o_step rfl (s_add rfl rfl (by omega)) ?_
          refine o_step rfl (s_assign rfl) ?_
          refine o_nil ?_
          exact x_then (x_inv (k + 1) (by omega) (by first | omega | (dsimp only; omega)) (by first | (rw [hasN_no hak hh]; exact sbA) | (rw [hasN_yes hak hh]; exact sbA)) hzB)
        ·
         obtain rfl : k = d.atoms.length := by omega
         refine o_step rfl (step_cast (v' := .bool false) (s_lss rfl rfl) (congrArg Value.bool (decide_eq_false (by omega)))) ?_
         refine o_nil ?_
         refine x_then (hK19 _ _ ?_)
         refine c_false rfl ?_
         refine c_exit ?_
         refine x_then_exit ?_
         refine x_then_exit ?_
         refine x_block_exit ?_
         refine x_then (hK16 _ _ ?_)
         refine c_seq fun _ hK22 => ?_
         refine c_region ?_
         refine o_step rfl (s_move rfl) ?_
         by_cases hn1 : hasN (d.atoms.take d.atoms.length) b ≠ 1
         ·
          refine o_step rfl (step_cast (v' := .bool true) (s_neq rfl rfl) (congrArg Value.bool (decide_eq_true (by omega)))) ?_
          refine o_nil ?_
          refine x_then (hK22 _ _ ?_)
          refine c_true rfl ?_
          refine c_seq fun _ hK23 => ?_
          refine c_region ?_
          refine o_step rfl (s_assign rfl) ?_
          refine o_nil ?_
          refine x_then (hK23 _ _ ?_)
          refine c_ret ?_
          refine x_block_ret (x_then_ret (x_then_ret (x_block_ret (x_then_ret (?_)))))
          exact x_ret rfl (.tmp rfl (.nil)) ((congrArg Value.bool (shR_has (b := b) (by omega) (by rw [List.take_length] at hn1; exact hn1)).symm))
         ·
          refine o_step rfl (step_cast (v' := .bool false) (s_neq rfl rfl) (congrArg Value.bool (decide_eq_false (by omega)))) ?_
          refine o_nil ?_
          refine x_then (hK22 _ _ ?_)
          refine c_false rfl ?_
          refine c_skip ?_
          refine x_block ?_
          refine x_then (hK14 _ _ ?_)
          refine c_region ?_
          refine o_step rfl (s_move rfl) ?_
          refine o_step rfl (s_add rfl rfl (by omega)) ?_
          refine o_step rfl (s_assign rfl) ?_
          refine o_nil ?_
          exact x_then (x_inv (b + 1) ⟨by omega, fun i hi => by rcases Nat.lt_or_ge i b with h | h; (· exact hone i h); (· rw [show i = b by omega]; rw [List.take_length] at hn1; omega)⟩ (by first | omega | (dsimp only; omega)) sbA hzB)
       ·
        obtain rfl : b = 256 := by omega
        refine o_step rfl (step_cast (v' := .bool false) (s_lss rfl rfl) (congrArg Value.bool (decide_eq_false (by omega)))) ?_
        refine o_nil ?_
        refine x_then (hK13 _ _ ?_)
        refine c_false rfl ?_
        refine c_exit ?_
        refine x_then_exit ?_
        refine x_then_exit ?_
        refine x_block_exit ?_
        refine x_then (hK10 _ _ ?_)
        refine c_seq fun _ hK24 => ?_
        refine c_seq fun _ hK25 => ?_
        refine c_region ?_
        refine o_step rfl (s_assign rfl) ?_
        refine o_nil ?_
        refine x_then (hK25 _ _ ?_)
        refine c_block ?_
        refine c_loopB (fun (k : Nat) => k ≤ d.atoms.length ∧ ∀ i, i < k → riseAt d.atoms i = true) (fun (k : Nat) => [(7, .int .i64 k)]) [(1, _), (3, _)] (fun (k : Nat) => [(b1, .cells [.slice aa d.atoms.length ac, .slice na rows.length nc, .slice ea d.ends.length ec].toArray 26 (0, 0))]) (fun (k : Nat) => d.atoms.length - k) 0 ⟨by omega, fun i hi => by omega⟩ sbA sbA hzB ?_
        rintro k ⟨hk, hri⟩
        refine c_seq fun _ hK26 => ?_
        refine c_seq fun _ hK27 => ?_
        refine c_region ?_
        refine o_step rfl (s_move rfl) ?_
        refine o_step rfl (s_field rfl rfl (by decide)) ?_
        refine o_step rfl (s_ld rfl (.own meA rfl)) ?_
        refine o_step rfl (s_len rfl) ?_
        by_cases hlt : k < d.atoms.length
        ·
         obtain ⟨a, hak⟩ : ∃ a, d.atoms[k]? = some a := ⟨_, List.getElem?_eq_getElem (by omega)⟩
         refine o_step rfl (step_cast (v' := .bool true) (s_lss rfl rfl) (congrArg Value.bool (decide_eq_true (by omega)))) ?_
         refine o_nil ?_
         refine x_then (hK27 _ _ ?_)
         refine c_true rfl ?_
         refine c_skip ?_
         refine x_then (hK26 _ _ ?_)
         refine c_seq fun _ hK28 => ?_
         refine c_block ?_
         refine c_seq fun _ hK29 => ?_
         refine c_drawE ([(b1, .cells [.slice aa d.atoms.length ac, .slice na rows.length nc, .slice ea d.ends.length ec].toArray 26 (0, 0))]) (fun i => false) ?_
         refine e_pure 0 rfl (by kernel_rfl) (by kernel_rfl) (by kernel_rfl) rfl (s_field rfl rfl (by decide)) ?_
         refine e_take 1 rfl (by kernel_rfl) (by kernel_rfl) (by kernel_rfl) (by kernel_rfl) (fun _ _ => rfl) rfl hzB (s_ld rfl (.own meA rfl)) ?_
         refine e_pure 2 rfl (by kernel_rfl) (by kernel_rfl) (by kernel_rfl) rfl (s_move rfl) ?_
         refine e_pure 3 rfl (by kernel_rfl) (by kernel_rfl) (by kernel_rfl) rfl (s_idx rfl rfl hsa (by omega)) ?_
         refine e_take 4 rfl (by kernel_rfl) (by kernel_rfl) (by kernel_rfl) (by kernel_rfl) (fun _ _ => rfl) rfl hzB (s_ldB rfl ((RdK.old0 hw.at_).lds k hak (by omega)) lnA) ?_
         refine e_one 5 rfl (by kernel_rfl) ?_
         refine o_callP (rSize_fn a) rfl rfl rfl (fun _ _ => trivial) (fun v73 hv73 => ?_)
         subst hv73
         refine o_nil ?_
         refine x_oneS hzB ?_
         by_cases hs0 : size a = 0
         ·
          refine e_pure 6 rfl (by kernel_rfl) (by kernel_rfl) (by kernel_rfl) rfl (step_cast (v' := .bool true) (s_eql rfl rfl) (congrArg Value.bool (decide_eq_true (by omega)))) ?_
          refine e_pure 7 rfl (by kernel_rfl) (by kernel_rfl) (by kernel_rfl) rfl (s_move rfl) ?_
          refine e_skip 8 rfl (by kernel_rfl) (by kernel_rfl) (by kernel_rfl) rfl rfl rfl rfl ?_
          refine e_skip 9 rfl (by kernel_rfl) (by kernel_rfl) (by kernel_rfl) rfl rfl rfl rfl ?_
          refine e_skip 10 rfl (by kernel_rfl) (by kernel_rfl) (by kernel_rfl) rfl rfl rfl rfl ?_
          refine e_skipU 11 rfl (by kernel_rfl) (by kernel_rfl) (by kernel_rfl) rfl rfl rfl ?_
          refine e_skipU 12 rfl (by kernel_rfl) (by kernel_rfl) (by kernel_rfl) rfl rfl rfl ?_
          refine e_skipU 13 rfl (by kernel_rfl) (by kernel_rfl) (by kernel_rfl) rfl rfl rfl ?_
          refine e_skipU 14 rfl (by kernel_rfl) (by kernel_rfl) (by kernel_rfl) rfl rfl rfl ?_
          refine e_skipU 15 rfl (by kernel_rfl) (by kernel_rfl) (by kernel_rfl) rfl rfl rfl ?_
          refine e_skipU 16 rfl (by kernel_rfl) (by kernel_rfl) (by kernel_rfl) rfl rfl rfl ?_
          refine e_skipU 18 rfl (by kernel_rfl) (by kernel_rfl) (by kernel_rfl) rfl rfl rfl ?_
          refine e_skipU 19 rfl (by kernel_rfl) (by kernel_rfl) (by kernel_rfl) rfl rfl rfl ?_
          refine e_skipU 20 rfl (by kernel_rfl) (by kernel_rfl) (by kernel_rfl) rfl rfl rfl ?_
          refine e_skipU 21 rfl (by kernel_rfl) (by kernel_rfl) (by kernel_rfl) rfl rfl rfl ?_
          refine e_skipU 22 rfl (by kernel_rfl) (by kernel_rfl) (by kernel_rfl) rfl rfl rfl ?_
          refine e_one 17 rfl (by kernel_rfl) ?_
          refine o_noU rfl rfl rfl ?_
          refine o_nil ?_
          refine x_oneS hzB ?_
          refine e_one 23 rfl (by kernel_rfl) ?_
          refine o_noU rfl rfl rfl ?_
          refine o_nil ?_
          refine x_oneS hzB ?_
          refine e_skipU 24 rfl (by kernel_rfl) (by kernel_rfl) (by kernel_rfl) rfl rfl rfl ?_
          refine e_skip 25 rfl (by kernel_rfl) (by kernel_rfl) (by kernel_rfl) rfl rfl rfl rfl ?_
          refine e_pure 26 rfl (by kernel_rfl) (by kernel_rfl) (by kernel_rfl) rfl (s_pick_t rfl rfl) ?_
          refine e_done (by kernel_rfl) ?_
          refine x_then (hK29 _ _ ?_)
          refine c_true rfl ?_
          refine c_seq fun _ hK30 => ?_
          refine c_region ?_
          refine o_step rfl (s_assign rfl) ?_
          refine o_nil ?_
          refine x_then (hK30 _ _ ?_)
          refine c_ret ?_
          refine x_block_ret (x_then_ret (x_then_ret (x_block_ret (x_then_ret (?_)))))
          exact x_ret rfl (.tmp rfl (.nil)) ((congrArg Value.bool (shR_rise (k := k) (by omega) (riseAt_size hak hs0)).symm))
         ·
          refine e_pure 6 rfl (by kernel_rfl) (by kernel_rfl) (by kernel_rfl) rfl (step_cast (v' := .bool false) (s_eql rfl rfl) (congrArg Value.bool (decide_eq_false (by omega)))) ?_
          refine e_pure 7 rfl (by kernel_rfl) (by kernel_rfl) (by kernel_rfl) rfl (s_move rfl) ?_
          refine e_take 8 rfl (by kernel_rfl) (by kernel_rfl) (by kernel_rfl) (by kernel_rfl) (fun _ fr => by rw [wanted_of fr rfl rfl rfl]; rfl) rfl hzB (s_move rfl) ?_
          by_cases hk0 : k > 0
          ·
           obtain ⟨c, hck⟩ : ∃ c, d.atoms[k - 1]? = some c := ⟨_, List.getElem?_eq_getElem (by omega)⟩
           refine e_take 9 rfl (by kernel_rfl) (by kernel_rfl) (by kernel_rfl) (by kernel_rfl) (fun _ fr => by rw [wanted_of fr rfl rfl rfl]; rfl) rfl hzB (step_cast (v' := .bool true) (s_gtr rfl rfl) (congrArg Value.bool (decide_eq_true (by omega)))) ?_
           refine e_take 10 rfl (by kernel_rfl) (by kernel_rfl) (by kernel_rfl) (by kernel_rfl) (fun _ fr => by rw [wanted_of fr rfl rfl rfl]; rfl) rfl hzB (s_move rfl) ?_
           refine e_take 11 rfl (by kernel_rfl) (by kernel_rfl) (by kernel_rfl) (by kernel_rfl) (fun _ fr => by rw [wanted_of fr rfl rfl rfl]; rfl) rfl hzB (s_field rfl rfl (by decide)) ?_
           refine e_take 12 rfl (by kernel_rfl) (by kernel_rfl) (by kernel_rfl) (by kernel_rfl) (fun _ fr => by rw [wanted_of fr rfl rfl rfl]; rfl) rfl hzB (s_ld rfl (.own meA rfl)) ?_
           refine e_take 13 rfl (by kernel_rfl) (by kernel_rfl) (by kernel_rfl) (by kernel_rfl) (fun _ fr => by rw [wanted_of fr rfl rfl rfl]; rfl) rfl hzB (s_move rfl) ?_
           refine e_take 14 rfl (by kernel_rfl) (by kernel_rfl) (by kernel_rfl) (by kernel_rfl) (fun _ fr => by rw [wanted_of fr rfl rfl rfl]; rfl) rfl hzB (s_sub rfl rfl (by omega)) ?_
           refine e_take 15 rfl (by kernel_rfl) (by kernel_rfl) (by kernel_rfl) (by kernel_rfl) (fun _ fr => by rw [wanted_of fr rfl rfl rfl]; rfl) rfl hzB (s_idx rfl rfl hsa (by omega)) ?_
           refine e_take 16 rfl (by kernel_rfl) (by kernel_rfl) (by kernel_rfl) (by kernel_rfl) (fun _ fr => by rw [wanted_of fr rfl rfl rfl]; rfl) rfl hzB (s_ldB rfl ((RdK.old0 hw.at_).lds (k - 1) hck (by omega)) lnA) ?_
           refine e_take 18 rfl (by kernel_rfl) (by kernel_rfl) (by kernel_rfl) (by kernel_rfl) (fun _ fr => by rw [wanted_of fr rfl rfl rfl]; rfl) rfl hzB (s_field rfl rfl (by decide)) ?_
           refine e_take 19 rfl (by kernel_rfl) (by kernel_rfl) (by kernel_rfl) (by kernel_rfl) (fun _ fr => by rw [wanted_of fr rfl rfl rfl]; rfl) rfl hzB (s_ld rfl (.own meA rfl)) ?_
           refine e_take 20 rfl (by kernel_rfl) (by kernel_rfl) (by kernel_rfl) (by kernel_rfl) (fun _ fr => by rw [wanted_of fr rfl rfl rfl]; rfl) rfl hzB (s_move rfl) ?_
           refine e_take 21 rfl (by kernel_rfl) (by kernel_rfl) (by kernel_rfl) (by kernel_rfl) (fun _ fr => by rw [wanted_of fr rfl rfl rfl]; rfl) rfl hzB (s_idx rfl rfl hsa (by omega)) ?_
           refine e_take 22 rfl (by kernel_rfl) (by kernel_rfl) (by kernel_rfl) (by kernel_rfl) (fun _ fr => by rw [wanted_of fr rfl rfl rfl]; rfl) rfl hzB (s_ldB rfl ((RdK.old0 hw.at_).lds k hak (by omega)) lnA) ?_
           refine e_one 17 rfl (by kernel_rfl) ?_
           refine o_yes rfl rfl ?_
           refine o_callP (rLeast_fn c) rfl rfl rfl (fun _ _ => trivial) (fun v85 hv85 => ?_)
           subst hv85
           refine o_nil ?_
           refine x_oneS hzB ?_
           refine e_one 23 rfl (by kernel_rfl) ?_
           refine o_yes rfl rfl ?_
           refine o_callP (rLeast_fn a) rfl rfl rfl (fun _ _ => trivial) (fun v91 hv91 => ?_)
           subst hv91
           refine o_nil ?_
           refine x_oneS hzB ?_
           by_cases hgt : leastR c > leastR a
           ·
            refine e_take 24 rfl (by kernel_rfl) (by kernel_rfl) (by kernel_rfl) (by kernel_rfl) (fun _ fr => by rw [wanted_of fr rfl rfl rfl]; rfl) rfl hzB (step_cast (v' := .bool true) (s_gtr rfl rfl) (congrArg Value.bool (decide_eq_true (by omega)))) ?_
            refine e_take 25 rfl (by kernel_rfl) (by kernel_rfl) (by kernel_rfl) (by kernel_rfl) (fun _ fr => by rw [wanted_of fr rfl rfl rfl]; rfl) rfl hzB (s_pick_t rfl rfl) ?_
            refine e_pure 26 rfl (by kernel_rfl) (by kernel_rfl) (by kernel_rfl) rfl (s_pick_f rfl rfl) ?_
            refine e_done (by kernel_rfl) ?_
            refine x_then (hK29 _ _ ?_)
            refine c_true rfl ?_
            refine c_seq fun _ hK31 => ?_
            refine c_region ?_
            refine o_step rfl (s_assign rfl) ?_
            refine o_nil ?_
            refine x_then (hK31 _ _ ?_)
            refine c_ret ?_
            refine x_block_ret (x_then_ret (x_then_ret (x_block_ret (x_then_ret (?_)))))
            exact x_ret rfl (.tmp rfl (.nil)) ((congrArg Value.bool (shR_rise (k := k) (by omega) (riseAt_less hak hk0 hck hgt)).symm))
           ·
            refine e_take 24 rfl (by kernel_rfl) (by kernel_rfl) (by kernel_rfl) (by kernel_rfl) (fun _ fr => by rw [wanted_of fr rfl rfl rfl]; rfl) rfl hzB (step_cast (v' := .bool false) (s_gtr rfl rfl) (congrArg Value.bool (decide_eq_false (by omega)))) ?_
            refine e_take 25 rfl (by kernel_rfl) (by kernel_rfl) (by kernel_rfl) (by kernel_rfl) (fun _ fr => by rw [wanted_of fr rfl rfl rfl]; rfl) rfl hzB (s_pick_t rfl rfl) ?_
            refine e_pure 26 rfl (by kernel_rfl) (by kernel_rfl) (by kernel_rfl) rfl (s_pick_f rfl rfl) ?_
            refine e_done (by kernel_rfl) ?_
            refine x_then (hK29 _ _ ?_)
            refine c_false rfl ?_
            refine c_skip ?_
            refine x_block ?_
            refine x_then (hK28 _ _ ?_)
            refine c_region ?_
            refine o_step rfl (s_move rfl) ?_
            refine o_step rfl (s_add rfl rfl (by omega)) ?_
            refine o_step rfl (s_assign rfl) ?_
            refine o_nil ?_
            exact x_then (x_inv (k + 1) ⟨by omega, fun i hi => by rcases Nat.lt_or_ge i k with h | h; (· exact hri i h); (· rw [show i = k by omega]; exact riseAt_yes hak hs0 (.inr (by rw [hck, Option.getD_some]; omega)))⟩ (by first | omega | (dsimp only; omega)) sbA hzB)
          ·
           refine e_take 9 rfl (by kernel_rfl) (by kernel_rfl) (by kernel_rfl) (by kernel_rfl) (fun _ fr => by rw [wanted_of fr rfl rfl rfl]; rfl) rfl hzB (step_cast (v' := .bool false) (s_gtr rfl rfl) (congrArg Value.bool (decide_eq_false (by omega)))) ?_
           refine e_take 10 rfl (by kernel_rfl) (by kernel_rfl) (by kernel_rfl) (by kernel_rfl) (fun _ fr => by rw [wanted_of fr rfl rfl rfl]; rfl) rfl hzB (s_move rfl) ?_
           refine e_skip 11 rfl (by kernel_rfl) (by kernel_rfl) (by kernel_rfl) rfl rfl rfl rfl ?_
           refine e_skip 12 rfl (by kernel_rfl) (by kernel_rfl) (by kernel_rfl) rfl rfl rfl rfl ?_
           refine e_skip 13 rfl (by kernel_rfl) (by kernel_rfl) (by kernel_rfl) rfl rfl rfl rfl ?_
           refine e_skip 14 rfl (by kernel_rfl) (by kernel_rfl) (by kernel_rfl) rfl rfl rfl rfl ?_
           refine e_skip 15 rfl (by kernel_rfl) (by kernel_rfl) (by kernel_rfl) rfl rfl rfl rfl ?_
           refine e_skip 16 rfl (by kernel_rfl) (by kernel_rfl) (by kernel_rfl) rfl rfl rfl rfl ?_
           refine e_skip 18 rfl (by kernel_rfl) (by kernel_rfl) (by kernel_rfl) rfl rfl rfl rfl ?_
           refine e_skip 19 rfl (by kernel_rfl) (by kernel_rfl) (by kernel_rfl) rfl rfl rfl rfl ?_
           refine e_skip 20 rfl (by kernel_rfl) (by kernel_rfl) (by kernel_rfl) rfl rfl rfl rfl ?_
           refine e_skip 21 rfl (by kernel_rfl) (by kernel_rfl) (by kernel_rfl) rfl rfl rfl rfl ?_
           refine e_skip 22 rfl (by kernel_rfl) (by kernel_rfl) (by kernel_rfl) rfl rfl rfl rfl ?_
           refine e_one 17 rfl (by kernel_rfl) ?_
           refine o_no rfl rfl rfl rfl ?_
           refine o_nil ?_
           refine x_oneS hzB ?_
           refine e_one 23 rfl (by kernel_rfl) ?_
           refine o_no rfl rfl rfl rfl ?_
           refine o_nil ?_
           refine x_oneS hzB ?_
           refine e_skip 24 rfl (by kernel_rfl) (by kernel_rfl) (by kernel_rfl) rfl rfl rfl rfl ?_
           refine e_take 25 rfl (by kernel_rfl) (by kernel_rfl) (by kernel_rfl) (by kernel_rfl) (fun _ fr => by rw [wanted_of fr rfl rfl rfl]; rfl) rfl hzB (s_pick_f rfl rfl) ?_
           refine e_pure 26 rfl (by kernel_rfl) (by kernel_rfl) (by kernel_rfl) rfl (s_pick_f rfl rfl) ?_
           refine e_done (by kernel_rfl) ?_
           refine x_then (hK29 _ _ ?_)
           refine c_false rfl ?_
           refine c_skip ?_
           refine x_block ?_
           refine x_then (hK28 _ _ ?_)
           refine c_region ?_
           refine o_step rfl (s_move rfl) ?_
           refine o_step rfl (s_add rfl rfl (by omega)) ?_
           refine o_step rfl (s_assign rfl) ?_
           refine o_nil ?_
           exact x_then (x_inv (k + 1) ⟨by omega, fun i hi => by rcases Nat.lt_or_ge i k with h | h; (· exact hri i h); (· rw [show i = k by omega]; exact riseAt_yes hak hs0 (.inl (by omega)))⟩ (by first | omega | (dsimp only; omega)) sbA hzB)
        ·
         obtain rfl : k = d.atoms.length := by omega
         refine o_step rfl (step_cast (v' := .bool false) (s_lss rfl rfl) (congrArg Value.bool (decide_eq_false (by omega)))) ?_
         refine o_nil ?_
         refine x_then (hK27 _ _ ?_)
         refine c_false rfl ?_
         refine c_exit ?_
         refine x_then_exit ?_
         refine x_then_exit ?_
         refine x_block_exit ?_
         refine x_then (hK24 _ _ ?_)
         refine c_seq fun _ hK32 => ?_
         refine c_seq fun _ hK33 => ?_
         refine c_region ?_
         refine o_step rfl (s_assign rfl) ?_
         refine o_nil ?_
         refine x_then (hK33 _ _ ?_)
         refine c_block ?_
         refine c_loopB (fun (q : Nat) => q ≤ d.ends.length ∧ ∀ i s, i < q → rows[i]? = some s → rowOk d.ends.length d.atoms.length s.xs) (fun (q : Nat) => [(8, .int .i64 q)]) [(1, _), (3, _)] (fun (q : Nat) => [(b1, .cells [.slice aa d.atoms.length ac, .slice na rows.length nc, .slice ea d.ends.length ec].toArray 26 (0, 0))]) (fun (q : Nat) => d.ends.length - q) 0 ⟨Nat.zero_le _, fun i s hi _ => by omega⟩ sbA sbA hzB ?_
         rintro q ⟨hq, hro⟩
         refine c_seq fun _ hK34 => ?_
         refine c_seq fun _ hK35 => ?_
         refine c_region ?_
         refine o_step rfl (s_move rfl) ?_
         refine o_step rfl (s_move rfl) ?_
         by_cases hlt : q < d.ends.length
         ·
          obtain ⟨s, hs⟩ : ∃ s, rows[q]? = some s := ⟨_, List.getElem?_eq_getElem (by omega)⟩
          have hsm := List.mem_of_getElem? hs
          have hsx := (hw.rw_ s hsm).sl
          have hbx := hsx.le
          refine o_step rfl (step_cast (v' := .bool true) (s_lss rfl rfl) (congrArg Value.bool (decide_eq_true (by omega)))) ?_
          refine o_nil ?_
          refine x_then (hK35 _ _ ?_)
          refine c_true rfl ?_
          refine c_skip ?_
          refine x_then (hK34 _ _ ?_)
          refine c_seq fun _ hK36 => ?_
          refine c_block ?_
          refine c_seq fun _ hK37 => ?_
          refine c_seq fun _ hK38 => ?_
          refine c_drawE ([(b1, .cells [.slice aa d.atoms.length ac, .slice na rows.length nc, .slice ea d.ends.length ec].toArray 26 (0, 0))]) (fun i => false) ?_
          refine e_pure 0 rfl (by kernel_rfl) (by kernel_rfl) (by kernel_rfl) rfl (s_field rfl rfl (by decide)) ?_
          refine e_take 1 rfl (by kernel_rfl) (by kernel_rfl) (by kernel_rfl) (by kernel_rfl) (fun _ _ => rfl) rfl hzB (s_ld rfl (.own meA rfl)) ?_
          refine e_pure 2 rfl (by kernel_rfl) (by kernel_rfl) (by kernel_rfl) rfl (s_move rfl) ?_
          refine e_pure 3 rfl (by kernel_rfl) (by kernel_rfl) (by kernel_rfl) rfl (s_idx rfl rfl hsn (by omega)) ?_
          refine e_take 4 rfl (by kernel_rfl) (by kernel_rfl) (by kernel_rfl) (by kernel_rfl) (fun _ _ => rfl) rfl hzB (s_ld rfl ((RdK.old0 hw.nx).ld q 0 hs rfl (by decide) (by omega))) ?_
          refine e_pure 5 rfl (by kernel_rfl) (by kernel_rfl) (by kernel_rfl) rfl (s_len rfl) ?_
          refine e_pure 6 rfl (by kernel_rfl) (by kernel_rfl) (by kernel_rfl) rfl (s_field rfl rfl (by decide)) ?_
          refine e_take 7 rfl (by kernel_rfl) (by kernel_rfl) (by kernel_rfl) (by kernel_rfl) (fun _ _ => rfl) rfl hzB (s_ld rfl (.own meA rfl)) ?_
          refine e_pure 8 rfl (by kernel_rfl) (by kernel_rfl) (by kernel_rfl) rfl (s_len rfl) ?_
          by_cases hln : s.xs.length ≠ d.atoms.length
          ·
           have hbad : shR d = false := shR_row (r := s.xs) (by rw [hx]; exact List.mem_map.2 ⟨s, hsm, rfl⟩) (fun h => hln h.1)
           refine e_pure 9 rfl (by kernel_rfl) (by kernel_rfl) (by kernel_rfl) rfl (step_cast (v' := .bool true) (s_neq rfl rfl) (congrArg Value.bool (decide_eq_true (by omega)))) ?_
           refine e_done (by kernel_rfl) ?_
           refine x_then (hK38 _ _ ?_)
           refine c_true rfl ?_
           refine c_seq fun _ hK39 => ?_
           refine c_region ?_
           refine o_step rfl (s_assign rfl) ?_
           refine o_nil ?_
           refine x_then (hK39 _ _ ?_)
           refine c_ret ?_
           refine x_then_ret (x_block_ret (x_then_ret (x_then_ret (x_block_ret (x_then_ret (?_))))))
           exact x_ret rfl (.tmp rfl (.nil)) ((congrArg Value.bool hbad.symm))
          ·
           refine e_pure 9 rfl (by kernel_rfl) (by kernel_rfl) (by kernel_rfl) rfl (step_cast (v' := .bool false) (s_neq rfl rfl) (congrArg Value.bool (decide_eq_false (by omega)))) ?_
           refine e_done (by kernel_rfl) ?_
           refine x_then (hK38 _ _ ?_)
           refine c_false rfl ?_
           refine c_skip ?_
           refine x_then (hK37 _ _ ?_)
           refine c_seq fun _ hK40 => ?_
           refine c_region ?_
           refine o_step rfl (s_assign rfl) ?_
           refine o_nil ?_
           refine x_then (hK40 _ _ ?_)
           refine c_block ?_
           refine c_loopB (fun (j : Nat) => j ≤ s.xs.length ∧ ∀ i x, i < j → s.xs[i]? = some x → -1 ≤ x ∧ x < d.ends.length) (fun (j : Nat) => [(9, .int .i64 j)]) [(1, _), (3, _), (8, _), (95, _), (96, _), (97, _), (100, _), (101, _), (102, _), (103, _), (104, _), (105, _), (106, _), (107, _), (108, _), (109, _)] (fun (j : Nat) => [(b1, .cells [.slice aa d.atoms.length ac, .slice na rows.length nc, .slice ea d.ends.length ec].toArray 26 (0, 0))]) (fun (j : Nat) => s.xs.length - j) 0 ⟨Nat.zero_le _, fun i s hi _ => by omega⟩ sbA sbA hzB ?_
           rintro j ⟨hj, hel⟩
           refine c_seq fun _ hK41 => ?_
           refine c_seq fun _ hK42 => ?_
           refine c_region ?_
           refine o_step rfl (s_move rfl) ?_
           refine o_step rfl (s_field rfl rfl (by decide)) ?_
           refine o_step rfl (s_ld rfl (.own meA rfl)) ?_
           refine o_step rfl (s_move rfl) ?_
           refine o_step rfl (s_idx rfl rfl hsn (by omega)) ?_
           refine o_step rfl (s_ld rfl ((RdK.old0 hw.nx).ld q 0 hs rfl (by decide) (by omega))) ?_
           refine o_step rfl (s_len rfl) ?_
           by_cases hlt : j < s.xs.length
           ·
            obtain ⟨v, hv⟩ : ∃ v, s.xs[j]? = some v := ⟨_, List.getElem?_eq_getElem (by omega)⟩
            refine o_step rfl (step_cast (v' := .bool true) (s_lss rfl rfl) (congrArg Value.bool (decide_eq_true (by omega)))) ?_
            refine o_nil ?_
            refine x_then (hK42 _ _ ?_)
            refine c_true rfl ?_
            refine c_skip ?_
            refine x_then (hK41 _ _ ?_)
            refine c_seq fun _ hK43 => ?_
            refine c_block ?_
            refine c_seq fun _ hK44 => ?_
            refine c_region ?_
            refine o_step rfl (s_field rfl rfl (by decide)) ?_
            refine o_step rfl (s_ld rfl (.own meA rfl)) ?_
            refine o_step rfl (s_move rfl) ?_
            refine o_step rfl (s_idx rfl rfl hsn (by omega)) ?_
            refine o_step rfl (s_ld rfl ((RdK.old0 hw.nx).ld q 0 hs rfl (by decide) (by omega))) ?_
            refine o_step rfl (s_move rfl) ?_
            refine o_step rfl (s_idx rfl rfl hsx (by omega)) ?_
            refine o_step rfl (s_ld rfl ((RdK.old0 (hw.rw_ s hsm)).ld j 0 hv rfl (by decide) (by simp only [Sl.v]; omega))) ?_
            by_cases hv1 : v < -1
            ·
             have hbad : shR d = false := shR_row (r := s.xs) (by rw [hx]; exact List.mem_map.2 ⟨s, hsm, rfl⟩) (fun h => by have := (h.2 v (List.mem_of_getElem? hv)).1; omega)
             refine o_step rfl (step_cast (v' := .bool true) (s_lss rfl rfl) (congrArg Value.bool (decide_eq_true (by omega)))) ?_
             refine o_step rfl (s_move rfl) ?_
             refine o_no rfl rfl rfl rfl ?_
             refine o_no rfl rfl rfl rfl ?_
             refine o_no rfl rfl rfl rfl ?_
             refine o_no rfl rfl rfl rfl ?_
             refine o_no rfl rfl rfl rfl ?_
             refine o_no rfl rfl rfl rfl ?_
             refine o_no rfl rfl rfl rfl ?_
             refine o_no rfl rfl rfl rfl ?_
             refine o_no rfl rfl rfl rfl ?_
             refine o_no rfl rfl rfl rfl ?_
             refine o_step rfl (s_pick_t rfl rfl) ?_
             refine o_nil ?_
             refine x_then (hK44 _ _ ?_)
             refine c_true rfl ?_
             refine c_seq fun _ hK45 => ?_
             refine c_region ?_
             refine o_step rfl (s_assign rfl) ?_
             refine o_nil ?_
             refine x_then (hK45 _ _ ?_)
             refine c_ret ?_
             refine x_block_ret (x_then_ret (x_then_ret (x_block_ret (x_block_ret (x_then_ret (x_then_ret (x_block_ret (x_then_ret (?_)))))))))
             exact x_ret rfl (.tmp rfl (.nil)) ((congrArg Value.bool hbad.symm))
            ·
             refine o_step rfl (step_cast (v' := .bool false) (s_lss rfl rfl) (congrArg Value.bool (decide_eq_false (by omega)))) ?_
             refine o_step rfl (s_move rfl) ?_
             refine o_yes rfl rfl ?_
             refine o_step rfl (s_field rfl rfl (by decide)) ?_
             refine o_yes rfl rfl ?_
             refine o_step rfl (s_ld rfl (.own meA rfl)) ?_
             refine o_yes rfl rfl ?_
             refine o_step rfl (s_move rfl) ?_
             refine o_yes rfl rfl ?_
             refine o_step rfl (s_idx rfl rfl hsn (by omega)) ?_
             refine o_yes rfl rfl ?_
             refine o_step rfl (s_ld rfl ((RdK.old0 hw.nx).ld q 0 hs rfl (by decide) (by omega))) ?_
             refine o_yes rfl rfl ?_
             refine o_step rfl (s_move rfl) ?_
             refine o_yes rfl rfl ?_
             refine o_step rfl (s_idx rfl rfl hsx (by omega)) ?_
             refine o_yes rfl rfl ?_
             refine o_step rfl (s_ld rfl ((RdK.old0 (hw.rw_ s hsm)).ld j 0 hv rfl (by decide) (by simp only [Sl.v]; omega))) ?_
             refine o_yes rfl rfl ?_
             refine o_step rfl (s_move rfl) ?_
             refine o_yes rfl rfl ?_
             by_cases hv2 : v ≥ (d.ends.length : Int)
             ·
              have hbad : shR d = false := shR_row (r := s.xs) (by rw [hx]; exact List.mem_map.2 ⟨s, hsm, rfl⟩) (fun h => by have := (h.2 v (List.mem_of_getElem? hv)).2; omega)
              refine o_step rfl (step_cast (v' := .bool true) (s_geq rfl rfl) (congrArg Value.bool (decide_eq_true (by omega)))) ?_
              refine o_step rfl (s_pick_f rfl rfl) ?_
              refine o_nil ?_
              refine x_then (hK44 _ _ ?_)
              refine c_true rfl ?_
              refine c_seq fun _ hK46 => ?_
              refine c_region ?_
              refine o_step rfl (s_assign rfl) ?_
              refine o_nil ?_
              refine x_then (hK46 _ _ ?_)
              refine c_ret ?_
              refine x_block_ret (x_then_ret (x_then_ret (x_block_ret (x_block_ret (x_then_ret (x_then_ret (x_block_ret (x_then_ret (?_)))))))))
              exact x_ret rfl (.tmp rfl (.nil)) ((congrArg Value.bool hbad.symm))
             ·
              refine o_step rfl (step_cast (v' := .bool false) (s_geq rfl rfl) (congrArg Value.bool (decide_eq_false (by omega)))) ?_
              refine o_step rfl (s_pick_f rfl rfl) ?_
              refine o_nil ?_
              refine x_then (hK44 _ _ ?_)
              refine c_false rfl ?_
              refine c_skip ?_
              refine x_block ?_
              refine x_then (hK43 _ _ ?_)
              refine c_region ?_
              refine o_step rfl (s_move rfl) ?_
              refine o_step rfl (s_add rfl rfl (by omega)) ?_
              refine o_step rfl (s_assign rfl) ?_
              refine o_nil ?_
              exact x_then (x_inv (j + 1) ⟨by omega, fun i x hi hx => by rcases Nat.lt_or_ge i j with h | h; (· exact hel i x h hx); (· rw [show i = j by omega, hv] at hx; obtain rfl := Option.some.inj hx; exact ⟨by omega, by omega⟩)⟩ (by first | omega | (dsimp only; omega)) sbA hzB)
           ·
            obtain rfl : j = s.xs.length := by omega
            refine o_step rfl (step_cast (v' := .bool false) (s_lss rfl rfl) (congrArg Value.bool (decide_eq_false (by omega)))) ?_
            refine o_nil ?_
            refine x_then (hK42 _ _ ?_)
            refine c_false rfl ?_
            refine c_exit ?_
            refine x_then_exit ?_
            refine x_then_exit ?_
            refine x_block_exit ?_
            refine x_block ?_
            refine x_then (hK36 _ _ ?_)
            refine c_region ?_
            refine o_step rfl (s_move rfl) ?_
            refine o_step rfl (s_add rfl rfl (by omega)) ?_
            refine o_step rfl (s_assign rfl) ?_
            refine o_nil ?_
            exact x_then (x_inv (q + 1) ⟨by omega, fun i s' hi hs' => by rcases Nat.lt_or_ge i q with h | h; (· exact hro i s' h hs'); (· rw [show i = q by omega, hs] at hs'; obtain rfl := Option.some.inj hs'; exact ⟨by omega, fun x hx => by obtain ⟨i, hi⟩ := List.getElem?_of_mem hx; exact hel i x (List.getElem?_eq_some_iff.1 hi).1 hi⟩)⟩ (by first | omega | (dsimp only; omega)) sbA hzB)
         ·
          obtain rfl : q = d.ends.length := by omega
          refine o_step rfl (step_cast (v' := .bool false) (s_lss rfl rfl) (congrArg Value.bool (decide_eq_false (by omega)))) ?_
          refine o_nil ?_
          refine x_then (hK35 _ _ ?_)
          refine c_false rfl ?_
          refine c_exit ?_
          refine x_then_exit ?_
          refine x_then_exit ?_
          refine x_block_exit ?_
          refine x_then (hK32 _ _ ?_)
          refine c_seq fun _ hK47 => ?_
          refine c_region ?_
          refine o_step rfl (s_assign rfl) ?_
          refine o_nil ?_
          refine x_then (hK47 _ _ ?_)
          refine c_ret ?_
          refine ?_
          exact x_ret rfl (.tmp rfl (.nil)) ((congrArg Value.bool (shR_true hsz hone hri (fun r hr => by rw [hx] at hr; obtain ⟨s, hs, rfl⟩ := List.mem_map.1 hr; obtain ⟨i, hi⟩ := List.getElem?_of_mem hs; exact hro i s (by have := (List.getElem?_eq_some_iff.1 hi).1; omega) hi)).symm))
set_option maxHeartbeats 2000000 in
theorem rTakes2_fn (d : Df) (aa : Option Addr) (ac : Nat) (na : Option Addr) (nc : Nat) (rows : List (Sl Int)) (ea : Option Addr) (ec : Nat) (hx : d.next = rows.map Sl.xs) (ta : Option Addr) (tc : Nat) (w : List UInt8) : HL.Fn Tryd.prog 19 [.agg [.slice aa d.atoms.length ac, .slice na rows.length nc, .slice ea d.ends.length ec].toArray, .slice ta w.length tc] (fun W => RdD d aa ac na nc rows ea ec W ∧ Rd Eb W (.slice ta w.length tc) w) [] (fun v _ => v = .bool (takesR d w)) := by
  refine fn_of Tryd.func19 rfl rfl rfl fun w0 hw => ?_
  have hst := hw.2.sl
  have hbt := hst.le
  have hnl : d.next.length = rows.length := by rw [hx, List.length_map]
  refine c_seq fun _ hK1 => ?_
  refine c_region ?_
  refine o_box rfl rfl rfl fun b2 => ?_
  refine o_step rfl (s_assign rfl) ?_
  refine o_nil ?_
  refine x_then (hK1 _ _ ?_)
  refine c_seq fun _ hK2 => ?_
  refine c_seq fun _ hK3 => ?_
  refine c_region ?_
  refine o_step rfl (s_ldB rfl (RdPK.cels (.own meA)) lnA) ?_
  refine o_callP (rShaped2_fn d aa ac na nc rows ea ec hx) rfl rfl rfl (fun w st => hw.1.old st) (fun v8 hv8 => ?_)
  subst hv8
  cases hsh : shR d
  ·
   refine o_step rfl (s_not rfl) ?_
   refine o_nil ?_
   refine x_then (hK3 _ _ ?_)
   refine c_true rfl ?_
   refine c_seq fun _ hK4 => ?_
   refine c_region ?_
   refine o_step rfl (s_assign rfl) ?_
   refine o_nil ?_
   refine x_then (hK4 _ _ ?_)
   refine c_ret ?_
   refine x_then_ret (?_)
   exact x_ret rfl (.tmp rfl (.nil)) ((congrArg Value.bool (takesR_no hsh).symm))
  ·
   have hS := shP_iff.1 ((sh_eq d).trans hsh)
   obtain ⟨z1, z2, z3, z4, z5⟩ := hS.sz
   have hK : ∀ s ∈ rows, s.xs.length = d.atoms.length := fun s hs => (hS.rows s.xs (by rw [hx]; exact List.mem_map.2 ⟨s, hs, rfl⟩)).1
   refine o_step rfl (s_not rfl) ?_
   refine o_nil ?_
   refine x_then (hK3 _ _ ?_)
   refine c_false rfl ?_
   refine c_skip ?_
   refine x_then (hK2 _ _ ?_)
   refine c_seq fun _ hK5 => ?_
   refine c_region ?_
   refine o_step rfl (s_assign rfl) ?_
   refine o_nil ?_
   refine x_then (hK5 _ _ ?_)
   refine c_seq fun _ hK6 => ?_
   refine c_seq fun _ hK7 => ?_
   refine c_region ?_
   refine o_step rfl (s_assign rfl) ?_
   refine o_nil ?_
   refine x_then (hK7 _ _ ?_)
   refine c_block ?_
   refine c_loop2 (fun (k : Nat) (q : Int) => k ≤ w.length ∧ q = tkR d (w.take k) 0 ∧ q < d.ends.length) (fun (k : Nat) (q : Int) => [(6, .int .i64 k), (5, .int .i64 q)]) [(1, _), (2, _), (4, _)] (fun (k : Nat) (q : Int) => [(b2, .cells [.slice aa d.atoms.length ac, .slice na rows.length nc, .slice ea d.ends.length ec].toArray 26 (0, 0))]) (fun (k : Nat) (q : Int) => w.length - k) 0 0 ⟨Nat.zero_le _, rfl, by omega⟩ sbA sbA hzB ?_
   rintro k q ⟨hk, hq, hqn⟩
   refine c_seq fun _ hK8 => ?_
   refine c_seq fun _ hK9 => ?_
   refine c_region ?_
   refine o_step rfl (s_move rfl) ?_
   refine o_step rfl (s_move rfl) ?_
   refine o_step rfl (s_len rfl) ?_
   by_cases hlt : k < w.length
   ·
    obtain ⟨u, huk⟩ : ∃ u, w[k]? = some u := ⟨_, List.getElem?_eq_getElem (by omega)⟩
    refine o_step rfl (step_cast (v' := .bool true) (s_lss rfl rfl) (congrArg Value.bool (decide_eq_true (by omega)))) ?_
    refine o_nil ?_
    refine x_then (hK9 _ _ ?_)
    refine c_true rfl ?_
    refine c_skip ?_
    refine x_then (hK8 _ _ ?_)
    refine c_seq fun _ hK10 => ?_
    refine c_block ?_
    refine c_drawE ([(b2, .cells [.slice aa d.atoms.length ac, .slice na rows.length nc, .slice ea d.ends.length ec].toArray 26 (0, 0))]) (fun i => false) ?_
    refine e_take 0 rfl (by kernel_rfl) (by kernel_rfl) (by kernel_rfl) (by kernel_rfl) (fun _ _ => rfl) rfl hzB (s_ldB rfl (RdPK.cels (.own meA)) lnA) ?_
    refine e_pure 1 rfl (by kernel_rfl) (by kernel_rfl) (by kernel_rfl) rfl (s_move rfl) ?_
    refine e_pure 2 rfl (by kernel_rfl) (by kernel_rfl) (by kernel_rfl) rfl (s_move rfl) ?_
    refine e_pure 3 rfl (by kernel_rfl) (by kernel_rfl) (by kernel_rfl) rfl (s_move rfl) ?_
    refine e_pure 4 rfl (by kernel_rfl) (by kernel_rfl) (by kernel_rfl) rfl (s_idx rfl rfl hst (by omega)) ?_
    refine e_take 5 rfl (by kernel_rfl) (by kernel_rfl) (by kernel_rfl) (by kernel_rfl) (fun _ _ => rfl) rfl hzB (s_ld rfl ((RdK.old0 hw.2).ld k 0 huk rfl (by decide) (by omega))) ?_
    refine e_one 6 rfl (by kernel_rfl) ?_
    refine o_callP (goes_fn d aa ac na nc rows ea ec hx hK q (by omega) u.toNat u.toNat_lt) rfl rfl rfl (fun w st => hw.1.old st) (fun v22 hv22 => ?_)
    subst hv22
    refine o_nil ?_
    refine x_oneS hzB ?_
    refine e_pure 7 rfl (by kernel_rfl) (by kernel_rfl) (by kernel_rfl) rfl (s_assign rfl) ?_
    refine e_done (by kernel_rfl) ?_
    refine x_block ?_
    refine x_then (hK10 _ _ ?_)
    refine c_region ?_
    refine o_step rfl (s_move rfl) ?_
    refine o_step rfl (s_add rfl rfl (by omega)) ?_
    refine o_step rfl (s_assign rfl) ?_
    refine o_nil ?_
    exact x_then (x_inv (k + 1, goesR d q u.toNat) ⟨by omega, by rw [tkR_succ huk, ← hq], (hS.goesR_ok hqn).2⟩ (by first | omega | (dsimp only; omega)) sbA hzB)
   ·
    obtain rfl : k = w.length := by omega
    rw [List.take_length] at hq
    refine o_step rfl (step_cast (v' := .bool false) (s_lss rfl rfl) (congrArg Value.bool (decide_eq_false (by omega)))) ?_
    refine o_nil ?_
    refine x_then (hK9 _ _ ?_)
    refine c_false rfl ?_
    refine c_exit ?_
    refine x_then_exit ?_
    refine x_then_exit ?_
    refine x_block_exit ?_
    refine x_then (hK6 _ _ ?_)
    refine c_seq fun _ hK11 => ?_
    refine c_region ?_
    refine o_step rfl (s_ldB rfl (RdPK.cels (.own meA)) lnA) ?_
    refine o_step rfl (s_move rfl) ?_
    refine o_callP (ends_fn d aa ac na nc rows ea ec hx q (by omega)) rfl rfl rfl (fun w st => hw.1.old st) (fun v25 hv25 => ?_)
    subst hv25
    refine o_step rfl (s_assign rfl) ?_
    refine o_nil ?_
    refine x_then (hK11 _ _ ?_)
    refine c_ret ?_
    refine ?_
    exact x_ret rfl (.tmp rfl (.nil)) ((congrArg Value.bool (by rw [takesR_yes hsh, ← hq])))
end Go.Proofs.YtmompllplidphaaDoor
