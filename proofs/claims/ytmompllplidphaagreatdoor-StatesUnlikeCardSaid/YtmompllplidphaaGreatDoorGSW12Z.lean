/- Part of the proofs over this seat: see the text that holds the theorem. Conditions: each theorem bears its own. -/
import Derived.Test.YtmompllplidphaaGreatDoorHTZ
import Derived.Test.YtmompllplidphaaGreatDoorGSW10Z
import Derived.Test.YtmompllplidphaaGreatDoorKQZ
import Derived.Test.YtmompllplidphaaGreatDoorGSW9Z
import Derived.Test.YtmompllplidphaaGreatDoorGSW3Z
import Derived.Test.YtmompllplidphaaGreatDoorHlB
import Derived.Test.YtmompllplidphaaGreatDoorGSW1Z
namespace Go.Proofs.YtmompllplidphaaGreatDoor
open Go Go.HL Go.Proofs Go.HL.Kl Go.HL.Kl.Mc Go.HL.Sts
theorem rLeast_fn (c : Kl.Cl) : HL.Fn Tryz.prog 92 [.agg (Ec c).toArray] (fun _ => True) [] (fun v _ => v = .int .u8 (leastR c : Nat)) := by
  refine fn_of Tryz.func92 rfl rfl rfl fun w0 hw => ?_; refine cR fun _ hK1 => ?_; refine o_box rfl rfl rfl fun b1 => ?_; refine oA (oZ hK1 (c_seq fun _ hK2 => ?_)); refine cR fun _ hK3 => ?_; refine oA (oZ hK3 (c_block ?_))
  -- not carried: 2
  refine c_loopB (fun (b : Nat) => b ≤ 256 ∧ ∀ j, j < b → c.getLsbD j = false) (fun (b : Nat) => [(3, .int .i64 b)]) [(1, _)] (fun (b : Nat) => [(b1, .cells (Ec (c)).toArray 39 (0, 0))]) (fun (b : Nat) => 256 - b) 0 ⟨by omega, fun j hj => by omega⟩ sbA sbA hzB ?_
  rintro b ⟨hb, hno⟩
  refine c_seq fun _ hK4 => ?_; refine cR fun _ hK5 => ?_; refine oM ?_
  by_cases hlt : b < 256
  ·refine oS (step_cast (v' := .bool true) (s_lss rfl rfl) (congrArg Value.bool (decide_eq_true (by omega)))) ?_; refine oZ hK5 ?_; refine cTZ hK4 (c_seq fun _ hK6 => ?_); refine c_block (cR fun _ hK7 => ?_); refine oS (s_ldB rfl (RdPK.cels (.own meA)) lnA) ?_; refine oM ?_; refine oS (step_cast (v' := .int .u8 ((b : Nat) : Int)) (s_conv rfl) (congrArg _ (conv8 (by omega)))) ?_; refine o_callP (rHas_fn c b (by omega)) rfl rfl rfl (fun _ _ => trivial) (fun v11 hv11 => ?_)
   cases hh : BitVec.getLsbD c b
   ·rw [hh] at hv11
    subst hv11; refine oZ hK7 ?_; refine cF (c_skip (x_block (xZ hK6 (c_region (oM ?_))))); refine oS sD (oA (o_nil ?_)); exact xI (b + 1) ⟨by omega, fun j hj => by rcases Nat.lt_or_ge j b with h | h; (· exact hno j h); (· rw [show j = b by omega]; exact hh)⟩
   ·rw [hh] at hv11
    subst hv11; refine oZ hK7 ?_; refine cT (cR fun _ hK8 => ?_); refine oM ?_; refine oS (step_cast (v' := .int .u8 ((b : Nat) : Int)) (s_conv rfl) (congrArg _ (conv8 (by omega)))) ?_; refine oA (oZ hK8 (c_ret ?_)); refine x_block_ret (x_then_ret (x_then_ret (x_block_ret (x_then_ret (?_)))))
    exact xR rfl rfl (congrArg (fun n : Nat => Value.int .u8 n) (leastR_at (by omega) hh hno).symm)
  ·obtain rfl : b = 256 := by omega
   refine oS (step_cast (v' := .bool false) (s_lss rfl rfl) (congrArg Value.bool (decide_eq_false (by omega)))) ?_; refine oZ hK5 ?_; refine cF ?_; refine c_exit ?_; refine x_then_exit (x_then_exit (x_block_exit (xZ hK2 (cR fun _ hK9 => ?_)))); refine oA (oZ hK9 (c_ret ?_)); refine ?_; exact xR rfl rfl (congrArg (fun n : Nat => Value.int .u8 n) (leastR_none hno).symm)
theorem goes_fn (d : Df) (aa : Option Addr) (ac : Nat) (na : Option Addr) (nc : Nat) (rows : List (Sl Int)) (ea : Option Addr) (ec : Nat) (hx : d.next = rows.map Sl.xs) (hK : ∀ s ∈ rows, s.xs.length = d.atoms.length) (q : Int) (hq : q < rows.length) (u : Nat) (hu : u < 256) : HL.Fn Tryz.prog 74 [.agg [.slice aa d.atoms.length ac, .slice na rows.length nc, .slice ea d.ends.length ec].toArray, .int .i64 q, .int .u8 u] (fun w => RdD d aa ac na nc rows ea ec w) [] (fun v _ => v = .int .i64 (goesR d q u)) := by
  refine fn_of Tryz.func74 rfl rfl rfl fun w0 hw => ?_
  have hsa := hw.at_.sl
  have hsn := hw.nx.sl
  have hba := hsa.le
  refine cR fun _ hK1 => ?_; refine o_box rfl rfl rfl fun b3 => ?_; refine oA (oZ hK1 (c_seq fun _ hK2 => ?_)); refine cR fun _ hK3 => ?_; refine oA (oZ hK3 (c_block ?_))
  -- not carried: 6
  refine c_loopB (fun (k : Nat) => k ≤ d.atoms.length ∧ ∀ j c, j < k → d.atoms[j]? = some c → c.getLsbD u = false) (fun (k : Nat) => [(7, .int .i64 k)]) [(1, _), (2, _), (3, _)] (fun (k : Nat) => [(b3, .cells [.slice aa d.atoms.length ac, .slice na rows.length nc, .slice ea d.ends.length ec].toArray 30 (0, 0))]) (fun (k : Nat) => d.atoms.length - k) 0 ⟨Nat.zero_le _, fun j c hj _ => by omega⟩ sbA sbA hzB ?_
  rintro k ⟨hk, hno⟩
  refine c_seq fun _ hK4 => ?_; refine cR fun _ hK5 => ?_; refine oM ?_; refine oS sF ?_; refine oS sL ?_; refine oS sC ?_
  by_cases hlt : k < d.atoms.length
  ·obtain ⟨a, hak⟩ : ∃ a, d.atoms[k]? = some a := gE
   refine oS (step_cast (v' := .bool true) (s_lss rfl rfl) (congrArg Value.bool (decide_eq_true (by omega)))) ?_; refine oM ?_; refine oY (oM ?_); refine oY ?_
   by_cases hpos : q ≥ 0
   ·obtain ⟨q, rfl⟩ := Int.eq_ofNat_of_zero_le hpos
    obtain ⟨s, hs⟩ : ∃ s, rows[q]? = some s := gE
    have hsm := List.mem_of_getElem? hs
    have hsx := (hw.rw_ s hsm).sl
    have hsk := hK s hsm
    have hrow : d.next[q]? = some s.xs := by rw [hx, List.getElem?_map, hs]; rfl
    obtain ⟨v, hv⟩ : ∃ v, s.xs[k]? = some v := gE
    refine oS (step_cast (v' := .bool true) (s_geq rfl rfl) (congrArg Value.bool (decide_eq_true hpos))) ?_; refine oS sT (oZ hK5 ?_); refine cTZ hK4 (c_seq fun _ hK6 => ?_); refine c_block (cR fun _ hK7 => ?_); refine oS sF ?_; refine oS sL (oM ?_); refine oS (s_idx rfl rfl hsa (by omega)) ?_; refine oS (s_ldB rfl ((RdK.old0 hw.at_).lds k hak (by omega)) lnA) ?_; refine oM ?_; refine o_callP (rHas_fn a u hu) rfl rfl rfl (fun _ _ => trivial) (fun v25 hv25 => ?_)
    cases hh : BitVec.getLsbD a u
    ·rw [hh] at hv25
     subst hv25; refine oZ hK7 ?_; refine cF (c_skip (x_block (xZ hK6 (c_region (oM ?_))))); refine oS sD (oA (o_nil ?_)); exact xI (k + 1) ⟨by omega, fun j c hj hc => by rcases Nat.lt_or_ge j k with h | h; (· exact hno j c h hc); (· rw [show j = k by omega, hak] at hc; rw [← Option.some.inj hc]; exact hh)⟩
    ·rw [hh] at hv25
     subst hv25; refine oZ hK7 ?_; refine cT (cR fun _ hK8 => ?_); refine oS sF ?_; refine oS sL (oM ?_); refine oS (s_idx rfl rfl hsn (by omega)) ?_; refine oS (s_ld rfl ((RdK.old0 hw.nx).ld q 0 hs rfl (by decide) (by omega))) ?_; refine oM ?_; refine oS (s_idx rfl rfl hsx (by omega)) ?_; refine oS (s_ld rfl ((RdK.old0 (hw.rw_ s hsm)).ld k 0 hv rfl (by decide) (by simp only [Sl.v]; omega))) ?_; refine oA (oZ hK8 (c_ret ?_)); refine x_block_ret (x_then_ret (x_then_ret (x_block_ret (x_then_ret (?_)))))
     exact xR rfl rfl (congrArg (Value.int .i64) (goesR_at hak hh hno hrow hv).symm)
   ·refine oS (step_cast (v' := .bool false) (s_geq rfl rfl) (congrArg Value.bool (decide_eq_false hpos))) ?_; refine oS sT (oZ hK5 ?_); refine cF ?_; refine c_exit ?_; refine x_then_exit (x_then_exit (x_block_exit (xZ hK2 (cR fun _ hK9 => ?_)))); refine oA (oZ hK9 (c_ret ?_)); refine ?_; exact xR rfl rfl (congrArg (Value.int .i64) (goesR_neg (by omega)).symm)
  ·obtain rfl : k = d.atoms.length := by omega
   refine oS (step_cast (v' := .bool false) (s_lss rfl rfl) (congrArg Value.bool (decide_eq_false (by omega)))) ?_; refine oM ?_; refine oN ?_; refine oN ?_; refine oS sP (oZ hK5 ?_); refine cF ?_; refine c_exit ?_; refine x_then_exit (x_then_exit (x_block_exit (xZ hK2 (cR fun _ hK10 => ?_)))); refine oA (oZ hK10 (c_ret ?_)); refine ?_; exact xR rfl rfl (congrArg (Value.int .i64) (goesR_none hno).symm)
theorem ends_fn (d : Df) (aa : Option Addr) (ac : Nat) (na : Option Addr) (nc : Nat) (rows : List (Sl Int)) (ea : Option Addr) (ec : Nat) (hx : d.next = rows.map Sl.xs) (q : Int) (hq : q < d.ends.length) : HL.Fn Tryz.prog 73 [.agg [.slice aa d.atoms.length ac, .slice na rows.length nc, .slice ea d.ends.length ec].toArray, .int .i64 q] (fun w => RdD d aa ac na nc rows ea ec w) [] (fun v _ => v = .bool (endsR d q)) := by
  refine fn_of Tryz.func73 rfl rfl rfl fun w0 hw => ?_
  have hse := hw.en.sl
  refine cR fun _ hK1 => ?_; refine o_box rfl rfl rfl fun b2 => ?_; refine oA (oZ hK1 (cR fun _ hK2 => ?_)); refine oM ?_
  by_cases hpos : q ≥ 0
  ·obtain ⟨q, rfl⟩ := Int.eq_ofNat_of_zero_le hpos
   obtain ⟨e, he⟩ : ∃ e, d.ends[q]? = some e := gE
   refine oS (step_cast (v' := .bool true) (s_geq rfl rfl) (congrArg Value.bool (decide_eq_true hpos))) ?_; refine oM ?_; refine oY ?_; refine oS sF ?_; refine oY ?_; refine oS sL ?_; refine oY (oM ?_); refine oY ?_; refine oS (s_idx rfl rfl hse (by omega)) ?_; refine oY ?_; refine oS (s_ld rfl ((RdK.old0 hw.en).ld q 0 he rfl (by decide) (by omega))) ?_; refine oS sT (oA (oZ hK2 (c_ret ?_))); refine ?_; exact xR rfl rfl (congrArg Value.bool (by simp [endsR, he]))
  ·refine oS (step_cast (v' := .bool false) (s_geq rfl rfl) (congrArg Value.bool (decide_eq_false hpos))) ?_; refine oM ?_; refine oN ?_; refine oN ?_; refine oN ?_; refine oN ?_; refine oN ?_; refine oS sP (oA (oZ hK2 (c_ret ?_))); refine ?_; exact xR rfl rfl (congrArg Value.bool (by unfold endsR; rw [decide_eq_false (by omega)]; rfl))
set_option maxHeartbeats 2000000 in
theorem rShaped2_fn (d : Df) (aa : Option Addr) (ac : Nat) (na : Option Addr) (nc : Nat) (rows : List (Sl Int)) (ea : Option Addr) (ec : Nat) (hx : d.next = rows.map Sl.xs) : HL.Fn Tryz.prog 72 [.agg [.slice aa d.atoms.length ac, .slice na rows.length nc, .slice ea d.ends.length ec].toArray] (fun w => RdD d aa ac na nc rows ea ec w) [] (fun v _ => v = .bool (shR d)) := by
  refine fn_of Tryz.func72 rfl rfl rfl fun w0 hw => ?_
  have hsa := hw.at_.sl
  have hsn := hw.nx.sl
  have hse := hw.en.sl
  have hba := hsa.le
  have hbn := hsn.le
  have hnl : d.next.length = rows.length := by rw [hx, List.length_map]
  refine cR fun _ hK1 => ?_; refine o_box rfl rfl rfl fun b1 => ?_; refine oA (oZ hK1 (cR fun _ hK2 => ?_)); refine oS sF ?_; refine oS sL ?_; refine oS sC (oA (oZ hK2 (c_seq fun _ hK3 => ?_))); refine cR fun _ hK4 => ?_; refine oM ?_
  by_cases g1 : d.ends.length < 1
  ·refine oS (step_cast (v' := .bool true) (s_lss rfl rfl) (congrArg Value.bool (decide_eq_true (by omega)))) ?_; refine oM ?_; refine oN ?_; refine oN ?_; refine oS sT (oM ?_); refine oN ?_; refine oN ?_; refine oN ?_; refine oN ?_; refine oN ?_; refine oS sT (oM ?_); refine oN ?_; refine oN ?_; refine oN ?_; refine oN ?_; refine oS sT (oM ?_); refine oN ?_; refine oN ?_; refine oN ?_; refine oN ?_; refine oS sT (oZ hK4 ?_); refine cT (cR fun _ hK5 => ?_); refine oA (oZ hK5 (c_ret ?_)); refine x_then_ret (?_); exact xR rfl rfl ((congrArg Value.bool (shR_size (fun h => by obtain ⟨q1, q2, q3, q4, q5⟩ := h; omega)).symm))
  ·refine oS (step_cast (v' := .bool false) (s_lss rfl rfl) (congrArg Value.bool (decide_eq_false (by omega)))) ?_; refine oM ?_; refine oY (oM ?_); refine oY ?_
   by_cases g2 : 256 < d.ends.length
   ·refine oS (step_cast (v' := .bool true) (s_gtr rfl rfl) (congrArg Value.bool (decide_eq_true (by omega)))) ?_; refine oS sP (oM ?_); refine oN ?_; refine oN ?_; refine oN ?_; refine oN ?_; refine oN ?_; refine oS sT (oM ?_); refine oN ?_; refine oN ?_; refine oN ?_; refine oN ?_; refine oS sT (oM ?_); refine oN ?_; refine oN ?_; refine oN ?_; refine oN ?_; refine oS sT (oZ hK4 ?_); refine cT (cR fun _ hK6 => ?_); refine oA (oZ hK6 (c_ret ?_)); refine x_then_ret (?_); exact xR rfl rfl ((congrArg Value.bool (shR_size (fun h => by obtain ⟨q1, q2, q3, q4, q5⟩ := h; omega)).symm))
   ·refine oS (step_cast (v' := .bool false) (s_gtr rfl rfl) (congrArg Value.bool (decide_eq_false (by omega)))) ?_; refine oS sP (oM ?_); refine oY ?_; refine oS sF ?_; refine oY ?_; refine oS sL ?_; refine oY ?_; refine oS sC ?_; refine oY (oM ?_); refine oY ?_
    by_cases g3 : rows.length ≠ d.ends.length
    ·refine oS (step_cast (v' := .bool true) (s_neq rfl rfl) (congrArg Value.bool (decide_eq_true (by omega)))) ?_; refine oS sP (oM ?_); refine oN ?_; refine oN ?_; refine oN ?_; refine oN ?_; refine oS sT (oM ?_); refine oN ?_; refine oN ?_; refine oN ?_; refine oN ?_; refine oS sT (oZ hK4 ?_); refine cT (cR fun _ hK7 => ?_); refine oA (oZ hK7 (c_ret ?_)); refine x_then_ret (?_); exact xR rfl rfl ((congrArg Value.bool (shR_size (fun h => by obtain ⟨q1, q2, q3, q4, q5⟩ := h; omega)).symm))
    ·refine oS (step_cast (v' := .bool false) (s_neq rfl rfl) (congrArg Value.bool (decide_eq_false (by omega)))) ?_; refine oS sP (oM ?_); refine oY ?_; refine oS sF ?_; refine oY ?_; refine oS sL ?_; refine oY ?_; refine oS sC ?_; refine oY ?_
     by_cases g4 : d.atoms.length < 1
     ·refine oS (step_cast (v' := .bool true) (s_lss rfl rfl) (congrArg Value.bool (decide_eq_true (by omega)))) ?_; refine oS sP (oM ?_); refine oN ?_; refine oN ?_; refine oN ?_; refine oN ?_; refine oS sT (oZ hK4 ?_); refine cT (cR fun _ hK8 => ?_); refine oA (oZ hK8 (c_ret ?_)); refine x_then_ret (?_); exact xR rfl rfl ((congrArg Value.bool (shR_size (fun h => by obtain ⟨q1, q2, q3, q4, q5⟩ := h; omega)).symm))
     ·refine oS (step_cast (v' := .bool false) (s_lss rfl rfl) (congrArg Value.bool (decide_eq_false (by omega)))) ?_; refine oS sP (oM ?_); refine oY ?_; refine oS sF ?_; refine oY ?_; refine oS sL ?_; refine oY ?_; refine oS sC ?_; refine oY ?_
      by_cases g5 : 256 < d.atoms.length
      ·refine oS (step_cast (v' := .bool true) (s_gtr rfl rfl) (congrArg Value.bool (decide_eq_true (by omega)))) ?_; refine oS sP (oZ hK4 ?_); refine cT (cR fun _ hK9 => ?_); refine oA (oZ hK9 (c_ret ?_)); refine x_then_ret (?_); exact xR rfl rfl ((congrArg Value.bool (shR_size (fun h => by obtain ⟨q1, q2, q3, q4, q5⟩ := h; omega)).symm))
      ·have hsz : sizeOk d := ⟨by omega, by omega, by omega, by omega, by omega⟩
       refine oS (step_cast (v' := .bool false) (s_gtr rfl rfl) (congrArg Value.bool (decide_eq_false (by omega)))) ?_; refine oS sP (oZ hK4 ?_); refine cFZ hK3 (c_seq fun _ hK10 => ?_); refine cR fun _ hK11 => ?_; refine oA (oZ hK11 (c_block ?_))
       -- not carried: 2
       refine c_loopB (fun (b : Nat) => b ≤ 256 ∧ ∀ i, i < b → hasN d.atoms i = 1) (fun (b : Nat) => [(4, .int .i64 b)]) [(1, _), (3, _)] (fun (b : Nat) => [(b1, .cells [.slice aa d.atoms.length ac, .slice na rows.length nc, .slice ea d.ends.length ec].toArray 30 (0, 0))]) (fun (b : Nat) => 256 - b) 0 ⟨by omega, fun i hi => by omega⟩ sbA sbA hzB ?_
       rintro b ⟨hb, hone⟩
       refine c_seq fun _ hK12 => ?_; refine cR fun _ hK13 => ?_; refine oM ?_
       by_cases hlt : b < 256
       ·refine oS (step_cast (v' := .bool true) (s_lss rfl rfl) (congrArg Value.bool (decide_eq_true (by omega)))) ?_; refine oZ hK13 ?_; refine cTZ hK12 (c_seq fun _ hK14 => ?_); refine c_block (cR fun _ hK15 => ?_); refine oA (oZ hK15 (c_seq fun _ hK16 => ?_)); refine cR fun _ hK17 => ?_; refine oA (oZ hK17 (c_block ?_)); refine c_loopB (fun (k : Nat) => k ≤ d.atoms.length) (fun (k : Nat) => [(6, .int .i64 k), (5, .int .i64 (hasN (d.atoms.take k) b : Nat))]) [(1, _), (3, _), (4, _), (38, _), (39, _)] (fun (k : Nat) => [(b1, .cells [.slice aa d.atoms.length ac, .slice na rows.length nc, .slice ea d.ends.length ec].toArray 30 (0, 0))]) (fun (k : Nat) => d.atoms.length - k) 0 (Nat.zero_le _) sbA sbA hzB ?_
        rintro k hk
        have hnk := hasN_le (d.atoms.take k) b
        rw [take_len hk] at hnk
        refine c_seq fun _ hK18 => ?_; refine cR fun _ hK19 => ?_; refine oM ?_; refine oS sF ?_; refine oS sL ?_; refine oS sC ?_
        by_cases hlt : k < d.atoms.length
        ·obtain ⟨a, hak⟩ : ∃ a, d.atoms[k]? = some a := gE
         refine oS (step_cast (v' := .bool true) (s_lss rfl rfl) (congrArg Value.bool (decide_eq_true (by omega)))) ?_; refine oZ hK19 ?_; refine cTZ hK18 (c_seq fun _ hK20 => ?_); refine c_block (cR fun _ hK21 => ?_); refine oS sF ?_; refine oS sL (oM ?_); refine oS (s_idx rfl rfl hsa (by omega)) ?_; refine oS (s_ldB rfl ((RdK.old0 hw.at_).lds k hak (by omega)) lnA) ?_; refine oM ?_; refine oS (step_cast (v' := .int .u8 ((b : Nat) : Int)) (s_conv rfl) (congrArg _ (conv8 (by omega)))) ?_; refine o_callP (rHas_fn a b (by omega)) rfl rfl rfl (fun _ _ => trivial) (fun v56 hv56 => ?_)
         cases hh : BitVec.getLsbD a b
         ·rw [hh] at hv56
          subst hv56; refine oZ hK21 ?_; refine cF (c_skip (x_block (xZ hK20 (c_region (oM ?_))))); refine oS sD (oA (o_nil ?_)); exact x_then (x_inv (k + 1) (by omega) (by first | omega | (dsimp only; omega)) (by first | (rw [hasN_no hak hh]; exact sbA) | (rw [hasN_yes hak hh]; exact sbA)) hzB)
         ·rw [hh] at hv56
          subst hv56; refine oZ hK21 ?_; refine cT (c_region (oM ?_)); refine oS sD (oA (o_nil (x_block (xZ hK20 (c_region (oM ?_)))))); refine oS sD (oA (o_nil ?_)); exact x_then (x_inv (k + 1) (by omega) (by first | omega | (dsimp only; omega)) (by first | (rw [hasN_no hak hh]; exact sbA) | (rw [hasN_yes hak hh]; exact sbA)) hzB)
        ·obtain rfl : k = d.atoms.length := by omega
         refine oS (step_cast (v' := .bool false) (s_lss rfl rfl) (congrArg Value.bool (decide_eq_false (by omega)))) ?_; refine oZ hK19 ?_; refine cF ?_; refine c_exit ?_; refine x_then_exit (x_then_exit (x_block_exit (xZ hK16 (cR fun _ hK22 => ?_)))); refine oM ?_
         by_cases hn1 : hasN (d.atoms.take d.atoms.length) b ≠ 1
         ·refine oS (step_cast (v' := .bool true) (s_neq rfl rfl) (congrArg Value.bool (decide_eq_true (by omega)))) ?_; refine oZ hK22 ?_; refine cT (cR fun _ hK23 => ?_); refine oA (oZ hK23 (c_ret ?_)); refine x_block_ret (x_then_ret (x_then_ret (x_block_ret (x_then_ret (?_)))))
          exact xR rfl rfl ((congrArg Value.bool (shR_has (b := b) (by omega) (by rw [List.take_length] at hn1; exact hn1)).symm))
         ·refine oS (step_cast (v' := .bool false) (s_neq rfl rfl) (congrArg Value.bool (decide_eq_false (by omega)))) ?_; refine oZ hK22 ?_; refine cF (c_skip (x_block (xZ hK14 (c_region (oM ?_))))); refine oS sD (oA (o_nil ?_)); exact xI (b + 1) ⟨by omega, fun i hi => by rcases Nat.lt_or_ge i b with h | h; (· exact hone i h); (· rw [show i = b by omega]; rw [List.take_length] at hn1; omega)⟩
       ·obtain rfl : b = 256 := by omega
        refine oS (step_cast (v' := .bool false) (s_lss rfl rfl) (congrArg Value.bool (decide_eq_false (by omega)))) ?_; refine oZ hK13 ?_; refine cF ?_; refine c_exit ?_; refine x_then_exit (x_then_exit (x_block_exit (xZ hK10 (c_seq fun _ hK24 => ?_)))); refine cR fun _ hK25 => ?_; refine oA (oZ hK25 (c_block ?_)); refine c_loopB (fun (k : Nat) => k ≤ d.atoms.length ∧ ∀ i, i < k → riseAt d.atoms i = true) (fun (k : Nat) => [(7, .int .i64 k)]) [(1, _), (3, _)] (fun (k : Nat) => [(b1, .cells [.slice aa d.atoms.length ac, .slice na rows.length nc, .slice ea d.ends.length ec].toArray 30 (0, 0))]) (fun (k : Nat) => d.atoms.length - k) 0 ⟨by omega, fun i hi => by omega⟩ sbA sbA hzB ?_
        rintro k ⟨hk, hri⟩
        refine c_seq fun _ hK26 => ?_; refine cR fun _ hK27 => ?_; refine oM ?_; refine oS sF ?_; refine oS sL ?_; refine oS sC ?_
        by_cases hlt : k < d.atoms.length
        ·obtain ⟨a, hak⟩ : ∃ a, d.atoms[k]? = some a := gE
         refine oS (step_cast (v' := .bool true) (s_lss rfl rfl) (congrArg Value.bool (decide_eq_true (by omega)))) ?_; refine oZ hK27 ?_; refine cTZ hK26 (c_seq fun _ hK28 => ?_); refine c_block (c_seq fun _ hK29 => ?_); refine c_drawE ([(b1, .cells [.slice aa d.atoms.length ac, .slice na rows.length nc, .slice ea d.ends.length ec].toArray 30 (0, 0))]) (fun i => false) ?_; refine eP 0 rfl sF ?_; refine eK 1 rfl sL ?_; refine eP 2 rfl sM ?_; refine eP 3 rfl (s_idx rfl rfl hsa (by omega)) ?_; refine eK 4 rfl (s_ldB rfl ((RdK.old0 hw.at_).lds k hak (by omega)) lnA) ?_; refine eO 5 rfl ?_; refine o_callP (rSize_fn a) rfl rfl rfl (fun _ _ => trivial) (fun v73 hv73 => ?_); subst hv73
         refine oX ?_
         by_cases hs0 : size a = 0
         ·refine eP 6 rfl (step_cast (v' := .bool true) (s_eql rfl rfl) (congrArg Value.bool (decide_eq_true (by omega)))) ?_; refine eP 7 rfl sM ?_; refine eS 8 rfl (eS 9 rfl (eS 10 rfl (eU 11 rfl (eU 12 rfl (eU 13 rfl (eU 14 rfl (eU 15 rfl (eU 16 rfl (eU 18 rfl (eU 19 rfl (eU 20 rfl (eU 21 rfl (eU 22 rfl (eO 17 rfl ?_)))))))))))))); refine oU (oX (eO 23 rfl ?_)); refine oU (oX ?_); refine eU 24 rfl (eS 25 rfl ?_); refine eP 26 rfl sT (eZ hK29 ?_); refine cT (cR fun _ hK30 => ?_); refine oA (oZ hK30 (c_ret ?_)); refine x_block_ret (x_then_ret (x_then_ret (x_block_ret (x_then_ret (?_)))))
          exact xR rfl rfl ((congrArg Value.bool (shR_rise (k := k) (by omega) (riseAt_size hak hs0)).symm))
         ·refine eP 6 rfl (step_cast (v' := .bool false) (s_eql rfl rfl) (congrArg Value.bool (decide_eq_false (by omega)))) ?_; refine eP 7 rfl sM ?_; refine eG 8 rfl sM ?_
          by_cases hk0 : k > 0
          ·obtain ⟨c, hck⟩ : ∃ c, d.atoms[k - 1]? = some c := gE
           refine eG 9 rfl (step_cast (v' := .bool true) (s_gtr rfl rfl) (congrArg Value.bool (decide_eq_true (by omega)))) ?_; refine eG 10 rfl sM ?_; refine eG 11 rfl sF ?_; refine eG 12 rfl sL ?_; refine eG 13 rfl sM ?_; refine eG 14 rfl sU ?_; refine eG 15 rfl (s_idx rfl rfl hsa (by omega)) ?_; refine eG 16 rfl (s_ldB rfl ((RdK.old0 hw.at_).lds (k - 1) hck (by omega)) lnA) ?_; refine eG 18 rfl sF ?_; refine eG 19 rfl sL ?_; refine eG 20 rfl sM ?_; refine eG 21 rfl (s_idx rfl rfl hsa (by omega)) ?_; refine eG 22 rfl (s_ldB rfl ((RdK.old0 hw.at_).lds k hak (by omega)) lnA) ?_; refine eO 17 rfl ?_; refine oY ?_; refine o_callP (rLeast_fn c) rfl rfl rfl (fun _ _ => trivial) (fun v85 hv85 => ?_)
           subst hv85; refine oX (eO 23 rfl ?_); refine oY ?_; refine o_callP (rLeast_fn a) rfl rfl rfl (fun _ _ => trivial) (fun v91 hv91 => ?_); subst hv91
           refine oX ?_
           by_cases hgt : leastR c > leastR a
           ·refine eG 24 rfl (step_cast (v' := .bool true) (s_gtr rfl rfl) (congrArg Value.bool (decide_eq_true (by omega)))) ?_; refine eG 25 rfl sT ?_; refine eP 26 rfl sP (eZ hK29 ?_); refine cT (cR fun _ hK31 => ?_); refine oA (oZ hK31 (c_ret ?_)); refine x_block_ret (x_then_ret (x_then_ret (x_block_ret (x_then_ret (?_)))))
            exact xR rfl rfl ((congrArg Value.bool (shR_rise (k := k) (by omega) (riseAt_less hak hk0 hck hgt)).symm))
           ·refine eG 24 rfl (step_cast (v' := .bool false) (s_gtr rfl rfl) (congrArg Value.bool (decide_eq_false (by omega)))) ?_; refine eG 25 rfl sT ?_; refine eP 26 rfl sP (eZ hK29 ?_); refine cF (c_skip (x_block (xZ hK28 (c_region (oM ?_))))); refine oS sD (oA (o_nil ?_)); exact xI (k + 1) ⟨by omega, fun i hi => by rcases Nat.lt_or_ge i k with h | h; (· exact hri i h); (· rw [show i = k by omega]; exact riseAt_yes hak hs0 (.inr (by rw [hck, Option.getD_some]; omega)))⟩
          ·refine eG 9 rfl (step_cast (v' := .bool false) (s_gtr rfl rfl) (congrArg Value.bool (decide_eq_false (by omega)))) ?_; refine eG 10 rfl sM ?_; refine eS 11 rfl (eS 12 rfl (eS 13 rfl (eS 14 rfl (eS 15 rfl (eS 16 rfl (eS 18 rfl (eS 19 rfl (eS 20 rfl (eS 21 rfl (eS 22 rfl (eO 17 rfl ?_))))))))))); refine oN (oX (eO 23 rfl ?_)); refine oN (oX ?_); refine eS 24 rfl ?_; refine eG 25 rfl sP ?_; refine eP 26 rfl sP (eZ hK29 ?_); refine cF (c_skip (x_block (xZ hK28 ?_)))
           refine c_region (oM ?_); refine oS sD (oA (o_nil ?_)); exact xI (k + 1) ⟨by omega, fun i hi => by rcases Nat.lt_or_ge i k with h | h; (· exact hri i h); (· rw [show i = k by omega]; exact riseAt_yes hak hs0 (.inl (by omega)))⟩
        ·obtain rfl : k = d.atoms.length := by omega
         refine oS (step_cast (v' := .bool false) (s_lss rfl rfl) (congrArg Value.bool (decide_eq_false (by omega)))) ?_; refine oZ hK27 ?_; refine cF ?_; refine c_exit ?_; refine x_then_exit (x_then_exit (x_block_exit (xZ hK24 (c_seq fun _ hK32 => ?_)))); refine cR fun _ hK33 => ?_; refine oA (oZ hK33 (c_block ?_)); refine c_loopB (fun (q : Nat) => q ≤ d.ends.length ∧ ∀ i s, i < q → rows[i]? = some s → rowOk d.ends.length d.atoms.length s.xs) (fun (q : Nat) => [(8, .int .i64 q)]) [(1, _), (3, _)] (fun (q : Nat) => [(b1, .cells [.slice aa d.atoms.length ac, .slice na rows.length nc, .slice ea d.ends.length ec].toArray 30 (0, 0))]) (fun (q : Nat) => d.ends.length - q) 0 ⟨Nat.zero_le _, fun i s hi _ => by omega⟩ sbA sbA hzB ?_
         rintro q ⟨hq, hro⟩
         refine c_seq fun _ hK34 => ?_; refine cR fun _ hK35 => ?_; refine oM (oM ?_)
         by_cases hlt : q < d.ends.length
         ·obtain ⟨s, hs⟩ : ∃ s, rows[q]? = some s := gE
          have hsm := List.mem_of_getElem? hs
          have hsx := (hw.rw_ s hsm).sl
          have hbx := hsx.le
          refine oS (step_cast (v' := .bool true) (s_lss rfl rfl) (congrArg Value.bool (decide_eq_true (by omega)))) ?_; refine oZ hK35 ?_; refine cTZ hK34 (c_seq fun _ hK36 => ?_); refine c_block (c_seq fun _ hK37 => ?_); refine c_seq fun _ hK38 => ?_; refine c_drawE ([(b1, .cells [.slice aa d.atoms.length ac, .slice na rows.length nc, .slice ea d.ends.length ec].toArray 30 (0, 0))]) (fun i => false) ?_; refine eP 0 rfl sF ?_; refine eK 1 rfl sL ?_; refine eP 2 rfl sM ?_; refine eP 3 rfl (s_idx rfl rfl hsn (by omega)) ?_; refine eK 4 rfl (s_ld rfl ((RdK.old0 hw.nx).ld q 0 hs rfl (by decide) (by omega))) ?_; refine eP 5 rfl sC ?_; refine eP 6 rfl sF ?_; refine eK 7 rfl sL ?_; refine eP 8 rfl sC ?_
          by_cases hln : s.xs.length ≠ d.atoms.length
          ·have hbad : shR d = false := shR_row (r := s.xs) (by rw [hx]; exact List.mem_map.2 ⟨s, hsm, rfl⟩) (fun h => hln h.1)
           refine eP 9 rfl (step_cast (v' := .bool true) (s_neq rfl rfl) (congrArg Value.bool (decide_eq_true (by omega)))) ?_; refine eZ hK38 ?_; refine cT (cR fun _ hK39 => ?_); refine oA (oZ hK39 (c_ret ?_)); refine x_then_ret (x_block_ret (x_then_ret (x_then_ret (x_block_ret (x_then_ret (?_))))))
           exact xR rfl rfl ((congrArg Value.bool hbad.symm))
          ·refine eP 9 rfl (step_cast (v' := .bool false) (s_neq rfl rfl) (congrArg Value.bool (decide_eq_false (by omega)))) ?_; refine eZ hK38 ?_; refine cFZ hK37 (cR fun _ hK40 => ?_); refine oA (oZ hK40 (c_block ?_)); refine c_loopB (fun (j : Nat) => j ≤ s.xs.length ∧ ∀ i x, i < j → s.xs[i]? = some x → -1 ≤ x ∧ x < d.ends.length) (fun (j : Nat) => [(9, .int .i64 j)]) [(1, _), (3, _), (8, _), (95, _), (96, _), (97, _), (100, _), (101, _), (102, _), (103, _), (104, _), (105, _), (106, _), (107, _), (108, _), (109, _)] (fun (j : Nat) => [(b1, .cells [.slice aa d.atoms.length ac, .slice na rows.length nc, .slice ea d.ends.length ec].toArray 30 (0, 0))]) (fun (j : Nat) => s.xs.length - j) 0 ⟨Nat.zero_le _, fun i s hi _ => by omega⟩ sbA sbA hzB ?_
           rintro j ⟨hj, hel⟩
           refine c_seq fun _ hK41 => ?_; refine cR fun _ hK42 => ?_; refine oM ?_; refine oS sF ?_; refine oS sL (oM ?_); refine oS (s_idx rfl rfl hsn (by omega)) ?_; refine oS (s_ld rfl ((RdK.old0 hw.nx).ld q 0 hs rfl (by decide) (by omega))) ?_; refine oS sC ?_
           by_cases hlt : j < s.xs.length
           ·obtain ⟨v, hv⟩ : ∃ v, s.xs[j]? = some v := gE
            refine oS (step_cast (v' := .bool true) (s_lss rfl rfl) (congrArg Value.bool (decide_eq_true (by omega)))) ?_; refine oZ hK42 ?_; refine cTZ hK41 (c_seq fun _ hK43 => ?_); refine c_block (cR fun _ hK44 => ?_); refine oS sF ?_; refine oS sL (oM ?_); refine oS (s_idx rfl rfl hsn (by omega)) ?_; refine oS (s_ld rfl ((RdK.old0 hw.nx).ld q 0 hs rfl (by decide) (by omega))) ?_; refine oM ?_; refine oS (s_idx rfl rfl hsx (by omega)) ?_; refine oS (s_ld rfl ((RdK.old0 (hw.rw_ s hsm)).ld j 0 hv rfl (by decide) (by simp only [Sl.v]; omega))) ?_
            by_cases hv1 : v < -1
            ·have hbad : shR d = false := shR_row (r := s.xs) (by rw [hx]; exact List.mem_map.2 ⟨s, hsm, rfl⟩) (fun h => by have := (h.2 v (List.mem_of_getElem? hv)).1; omega)
             refine oS (step_cast (v' := .bool true) (s_lss rfl rfl) (congrArg Value.bool (decide_eq_true (by omega)))) ?_; refine oM ?_; refine oN ?_; refine oN ?_; refine oN ?_; refine oN ?_; refine oN ?_; refine oN ?_; refine oN ?_; refine oN ?_; refine oN ?_; refine oN ?_; refine oS sT (oZ hK44 ?_); refine cT (cR fun _ hK45 => ?_); refine oA (oZ hK45 (c_ret ?_)); refine x_block_ret (x_then_ret (x_then_ret (x_block_ret (x_block_ret (x_then_ret (x_then_ret (x_block_ret (x_then_ret (?_)))))))))
             exact xR rfl rfl ((congrArg Value.bool hbad.symm))
            ·refine oS (step_cast (v' := .bool false) (s_lss rfl rfl) (congrArg Value.bool (decide_eq_false (by omega)))) ?_; refine oM ?_; refine oY ?_; refine oS sF ?_; refine oY ?_; refine oS sL ?_; refine oY (oM ?_); refine oY ?_; refine oS (s_idx rfl rfl hsn (by omega)) ?_; refine oY ?_; refine oS (s_ld rfl ((RdK.old0 hw.nx).ld q 0 hs rfl (by decide) (by omega))) ?_; refine oY (oM ?_); refine oY ?_; refine oS (s_idx rfl rfl hsx (by omega)) ?_; refine oY ?_; refine oS (s_ld rfl ((RdK.old0 (hw.rw_ s hsm)).ld j 0 hv rfl (by decide) (by simp only [Sl.v]; omega))) ?_; refine oY (oM ?_); refine oY ?_
             by_cases hv2 : v ≥ (d.ends.length : Int)
             ·have hbad : shR d = false := shR_row (r := s.xs) (by rw [hx]; exact List.mem_map.2 ⟨s, hsm, rfl⟩) (fun h => by have := (h.2 v (List.mem_of_getElem? hv)).2; omega)
              refine oS (step_cast (v' := .bool true) (s_geq rfl rfl) (congrArg Value.bool (decide_eq_true (by omega)))) ?_; refine oS sP (oZ hK44 ?_); refine cT (cR fun _ hK46 => ?_); refine oA (oZ hK46 (c_ret ?_)); refine x_block_ret (x_then_ret (x_then_ret (x_block_ret (x_block_ret (x_then_ret (x_then_ret (x_block_ret (x_then_ret (?_)))))))))
              exact xR rfl rfl ((congrArg Value.bool hbad.symm))
             ·refine oS (step_cast (v' := .bool false) (s_geq rfl rfl) (congrArg Value.bool (decide_eq_false (by omega)))) ?_; refine oS sP (oZ hK44 ?_); refine cF (c_skip (x_block (xZ hK43 (c_region (oM ?_))))); refine oS sD (oA (o_nil ?_)); exact xI (j + 1) ⟨by omega, fun i x hi hx => by rcases Nat.lt_or_ge i j with h | h; (· exact hel i x h hx); (· rw [show i = j by omega, hv] at hx; obtain rfl := Option.some.inj hx; exact ⟨by omega, by omega⟩)⟩
           ·obtain rfl : j = s.xs.length := by omega
            refine oS (step_cast (v' := .bool false) (s_lss rfl rfl) (congrArg Value.bool (decide_eq_false (by omega)))) ?_; refine oZ hK42 ?_; refine cF ?_; refine c_exit ?_; refine x_then_exit (x_then_exit (x_block_exit (x_block (xZ hK36 (c_region (oM ?_)))))); refine oS sD (oA (o_nil ?_)); exact xI (q + 1) ⟨by omega, fun i s' hi hs' => by rcases Nat.lt_or_ge i q with h | h; (· exact hro i s' h hs'); (· rw [show i = q by omega, hs] at hs'; obtain rfl := Option.some.inj hs'; exact ⟨by omega, fun x hx => by obtain ⟨i, hi⟩ := List.getElem?_of_mem hx; exact hel i x (List.getElem?_eq_some_iff.1 hi).1 hi⟩)⟩
         ·obtain rfl : q = d.ends.length := by omega
          refine oS (step_cast (v' := .bool false) (s_lss rfl rfl) (congrArg Value.bool (decide_eq_false (by omega)))) ?_; refine oZ hK35 ?_; refine cF ?_; refine c_exit ?_; refine x_then_exit (x_then_exit (x_block_exit (xZ hK32 (cR fun _ hK47 => ?_)))); refine oA (oZ hK47 (c_ret ?_)); refine ?_; exact xR rfl rfl ((congrArg Value.bool (shR_true hsz hone hri (fun r hr => by rw [hx] at hr; obtain ⟨s, hs, rfl⟩ := List.mem_map.1 hr; obtain ⟨i, hi⟩ := List.getElem?_of_mem hs; exact hro i s (by have := (List.getElem?_eq_some_iff.1 hi).1; omega) hi)).symm))
end Go.Proofs.YtmompllplidphaaGreatDoor
namespace Go.HL.Sts
open Go Go.HL Go.HL.Kl Go.HL.Kl.Mc
structure Bo where
  p : Int
  q : Int
  frm : Int
  by_ : Nat
def EBo (x : Bo) : List Value := [.int .i64 x.p, .int .i64 x.q, .int .i64 x.frm, .int .u8 x.by_]
instance : Enc EBo 4 := ⟨fun _ => rfl, fun _ _ h => by simp [EBo] at h; rcases h with rfl | rfl | rfl | rfl <;> rfl⟩
def Bo.pq (x : Bo) : Int × Int := (x.p, x.q)
def gP (d : Df) (q : Int) (c : Nat) : Int := if q < 0 then -1 else nxt d q (lst d.atoms c d.atoms.length)
def unRow (a b : Df) (i : Nat) (x : Bo) : Nat → List Bo → List Bo
  | 0, l => l
  | c + 1, l => if (gP a x.p c, gP b x.q c) ∈ (unRow a b i x c l).map Bo.pq then unRow a b i x c l else unRow a b i x c l ++ [⟨gP a x.p c, gP b x.q c, i, c⟩]
def backT (l : List Bo) : Nat → Bo → List UInt8
  | 0, _ => []
  | f + 1, x => if x.frm < 0 then [] else UInt8.ofNat x.by_ :: backT l f (l[x.frm.toNat]?.getD ⟨0, 0, -1, 0⟩)
def back (l : List Bo) (x : Bo) : List UInt8 := backT l (x.frm + 1).toNat x
def unRun (a b : Df) : Nat → Nat → List Bo → Option (List UInt8)
  | 0, _, _ => none
  | f + 1, i, l => match l[i]? with
    | none => none
    | some x => if endsR a x.p = endsR b x.q then unRun a b f (i + 1) (unRow a b i x 256 l) else some (back l x).reverse
def unM (a b : Df) : Option (List UInt8) := if shP a && shP b then unRun a b 66051 0 [⟨0, 0, -1, 0⟩] else none
structure UnI (a b : Df) (l : List Bo) : Prop where
  nd : (l.map Bo.pq).Nodup
  bp : ∀ x ∈ l, -1 ≤ x.p ∧ x.p < a.ends.length
  bq : ∀ x ∈ l, -1 ≤ x.q ∧ x.q < b.ends.length
  fr : ∀ (k : Nat) (x : Bo), l[k]? = some x → -1 ≤ x.frm ∧ x.frm < k
  by_ : ∀ x ∈ l, x.by_ < 256
theorem UnI.one {a b : Df} (ha : 1 ≤ a.ends.length) (hb : 1 ≤ b.ends.length) : UnI a b [⟨0, 0, -1, 0⟩] := by
  refine ⟨by simp, ?_, ?_, ?_, ?_⟩
  · intro x hx; rw [List.mem_singleton.1 hx]; exact ⟨by decide, by show (0 : Int) < _; omega⟩
  · intro x hx; rw [List.mem_singleton.1 hx]; exact ⟨by decide, by show (0 : Int) < _; omega⟩
  · intro k x hx
    cases k with
    | zero => simp at hx; subst hx; exact ⟨by decide, by decide⟩
    | succ k => simp at hx
  · intro x hx; rw [List.mem_singleton.1 hx]; decide
theorem UnI.push {a b : Df} {l : List Bo} (h : UnI a b l) {p q : Int} {i c : Nat} (hn : (p, q) ∉ l.map Bo.pq) (hp : -1 ≤ p ∧ p < a.ends.length) (hq : -1 ≤ q ∧ q < b.ends.length) (hi : i < l.length) (hc : c < 256) : UnI a b (l ++ [⟨p, q, i, c⟩]) := by
  refine ⟨?_, ?_, ?_, ?_, ?_⟩
  · rw [List.map_append, List.nodup_append]
    refine ⟨h.nd, by simp, fun x hx y hy => ?_⟩
    simp only [List.map_cons, List.map_nil, List.mem_singleton] at hy
    subst hy
    rintro rfl
    exact hn hx
  · intro x hx
    rcases List.mem_append.1 hx with hx | hx
    · exact h.bp x hx
    · rw [List.mem_singleton.1 hx]; exact hp
  · intro x hx
    rcases List.mem_append.1 hx with hx | hx
    · exact h.bq x hx
    · rw [List.mem_singleton.1 hx]; exact hq
  · intro k x hx
    rcases Nat.lt_or_ge k l.length with hk | hk
    · rw [List.getElem?_append_left hk] at hx
      exact h.fr k x hx
    · rw [List.getElem?_append_right hk] at hx
      have := List.mem_singleton.1 (List.mem_of_getElem? hx)
      subst this
      exact ⟨by show (-1 : Int) ≤ (i : Int); omega, by show (i : Int) < (k : Int); omega⟩
  · intro x hx
    rcases List.mem_append.1 hx with hx | hx
    · exact h.by_ x hx
    · rw [List.mem_singleton.1 hx]; exact hc
theorem UnI.len {a b : Df} {l : List Bo} (h : UnI a b l) (ha : a.ends.length ≤ 256) (hb : b.ends.length ≤ 256) : l.length ≤ 66049 := by
  have hn : (l.map fun x => (x.p + 1).toNat * 257 + (x.q + 1).toNat).Nodup := by
    have h1 := h.nd
    rw [List.nodup_iff_pairwise_ne, List.pairwise_map] at h1 ⊢
    refine h1.imp_of_mem ?_
    intro x y hx hy hxy he
    have p1 := h.bp x hx
    have p2 := h.bp y hy
    have q1 := h.bq x hx
    have q2 := h.bq y hy
    apply hxy
    have e1 : (x.p + 1).toNat = (y.p + 1).toNat := by omega
    have e2 : (x.q + 1).toNat = (y.q + 1).toNat := by omega
    exact Prod.ext (by show x.p = y.p; omega) (by show x.q = y.q; omega)
  have := Sts.nodup_lt hn (n := 66049) (fun z hz => by
    obtain ⟨x, hx, rfl⟩ := List.mem_map.1 hz
    have p1 := h.bp x hx
    have q1 := h.bq x hx
    omega)
  simpa using this
theorem gP_bnd {d : Df} (h : Shp d) {q : Int} (hq : q < d.ends.length) (c : Nat) : -1 ≤ gP d q c ∧ gP d q c < d.ends.length := by
  unfold gP
  have := h.sz.1
  split
  · omega
  · exact h.nxt_ok (by omega) hq (lst_lt _ _ h.sz.2.2.2.1)
theorem unRow_old {a b : Df} {i : Nat} {x : Bo} {c : Nat} {l : List Bo} (h : (gP a x.p c, gP b x.q c) ∈ (unRow a b i x c l).map Bo.pq) : unRow a b i x (c + 1) l = unRow a b i x c l := by
  conv => lhs; unfold unRow
  rw [if_pos h]
theorem unRow_new {a b : Df} {i : Nat} {x : Bo} {c : Nat} {l : List Bo} (h : (gP a x.p c, gP b x.q c) ∉ (unRow a b i x c l).map Bo.pq) : unRow a b i x (c + 1) l = unRow a b i x c l ++ [⟨gP a x.p c, gP b x.q c, i, c⟩] := by
  conv => lhs; unfold unRow
  rw [if_neg h]
theorem backT_fuel {a b : Df} {l : List Bo} (h : UnI a b l) : ∀ (N f : Nat), f ≤ N → ∀ (k : Nat) (x : Bo), l[k]? = some x → (x.frm + 1).toNat ≤ f → backT l f x = back l x
  | N, 0, _, k, x, hx, hf => by
    unfold back
    rw [show (x.frm + 1).toNat = 0 by omega]
  | 0, f + 1, hN, _, _, _, _ => by omega
  | N + 1, f + 1, hN, k, x, hx, hf => by
    unfold back
    have h1 := h.fr k x hx
    by_cases hn : x.frm < 0
    · rw [show (x.frm + 1).toNat = 0 by omega]
      simp [backT, hn]
    · rw [show (x.frm + 1).toNat = x.frm.toNat + 1 by omega]
      have hk := (List.getElem?_eq_some_iff.1 hx).1
      obtain ⟨y, hy⟩ : ∃ y, l[x.frm.toNat]? = some y := ⟨_, List.getElem?_eq_getElem (by omega)⟩
      have h2 := h.fr _ y hy
      simp only [backT, if_neg hn, hy, Option.getD_some]
      rw [backT_fuel h N f (by omega) _ y hy (by omega), backT_fuel h N x.frm.toNat (by omega) _ y hy (by omega)]
theorem back_end {l : List Bo} {x : Bo} (h : x.frm < 0) : back l x = [] := by
  unfold back
  cases e : (x.frm + 1).toNat with
  | zero => rfl
  | succ n => simp [backT, h]
theorem back_step {a b : Df} {l : List Bo} (h : UnI a b l) {k : Nat} {x y : Bo} (hx : l[k]? = some x) (hn : ¬ x.frm < 0) (hy : l[x.frm.toNat]? = some y) : back l x = UInt8.ofNat x.by_ :: back l y := by
  have h2 := h.fr _ y hy
  conv => lhs; unfold back
  rw [show (x.frm + 1).toNat = x.frm.toNat + 1 by omega]
  simp only [backT, if_neg hn, hy, Option.getD_some]
  rw [backT_fuel h _ x.frm.toNat (Nat.le_refl _) _ y hy (by omega)]
theorem unRun_step {a b : Df} {f i : Nat} {l : List Bo} {x : Bo} (hf : 0 < f) (hx : l[i]? = some x) (he : endsR a x.p = endsR b x.q) : unRun a b f i l = unRun a b (f - 1) (i + 1) (unRow a b i x 256 l) := by
  obtain ⟨g, rfl⟩ : ∃ g, f = g + 1 := ⟨f - 1, by omega⟩
  simp only [unRun, hx, if_pos he, Nat.add_sub_cancel]
theorem unRun_hit {a b : Df} {f i : Nat} {l : List Bo} {x : Bo} (hf : 0 < f) (hx : l[i]? = some x) (he : endsR a x.p ≠ endsR b x.q) : unRun a b f i l = some (back l x).reverse := by
  obtain ⟨g, rfl⟩ : ∃ g, f = g + 1 := ⟨f - 1, by omega⟩
  simp only [unRun, hx, if_neg he]
theorem unRun_end {a b : Df} {f i : Nat} {l : List Bo} (hx : l.length ≤ i) : unRun a b f i l = none := by
  cases f with
  | zero => rfl
  | succ g => simp only [unRun, List.getElem?_eq_none hx]
/-! a map that bears a set -/
def memM {α : Type} [DecidableEq α] (l : List α) (s : α) : Option Value := if s ∈ l then some (.int .i64 1) else none
theorem memM_in {α : Type} [DecidableEq α] {l : List α} {s : α} (h : s ∈ l) : memM l s = some (.int .i64 1) := by simp [memM, h]
theorem memM_out {α : Type} [DecidableEq α] {l : List α} {s : α} (h : s ∉ l) : memM l s = none := by simp [memM, h]
theorem memM_add {α : Type} [DecidableEq α] {l : List α} {s : α} {g g' : α → Option Value} (h : ∀ j, g j = memM l j) (h' : ∀ j, g' j = if j = s then some (.int .i64 1) else g j) : ∀ j, g' j = memM (l ++ [s]) j := by
  intro j
  rw [h']
  by_cases e : j = s
  · subst e; rw [if_pos rfl, memM_in (by simp)]
  · rw [if_neg e, h]
    by_cases hm : j ∈ l
    · rw [memM_in hm, memM_in (by simp [hm])]
    · rw [memM_out hm, memM_out (by simp [hm, e])]
/-! a list turned round, step by step -/
structure RvI {α : Type} (xs l : List α) (i : Nat) : Prop where
  len : l.length = xs.length
  at_ : ∀ k, k < xs.length → l[k]? = if k < i ∨ xs.length - 1 - k < i then xs[xs.length - 1 - k]? else xs[k]?
theorem RvI.zero {α : Type} (xs : List α) : RvI xs xs 0 := ⟨rfl, fun k hk => by rw [if_neg (by omega)]⟩
theorem RvI.done {α : Type} {xs l : List α} {i : Nat} (h : RvI xs l i) (hi : xs.length ≤ 2 * i + 1) : l = xs.reverse := by
  apply List.ext_getElem?
  intro k
  rcases Nat.lt_or_ge k xs.length with hk | hk
  · rw [h.at_ k hk, List.getElem?_reverse hk]
    by_cases e : k < i ∨ xs.length - 1 - k < i
    · rw [if_pos e]
    · rw [if_neg e, show xs.length - 1 - k = k by omega]
  · rw [List.getElem?_eq_none (by rw [h.len]; exact hk), List.getElem?_eq_none (by simp; exact hk)]
theorem RvI.step {α : Type} {xs l : List α} {i : Nat} {x y : α} (h : RvI xs l i) (hi : 2 * i + 1 < xs.length) (hx : l[i]? = some x) (hy : l[xs.length - 1 - i]? = some y) : RvI xs ((l.set i y).set (xs.length - 1 - i) x) (i + 1) := by
  refine ⟨by simp [h.len], fun k hk => ?_⟩
  have hl := h.len
  have hi' := h.at_ i (by omega)
  have hj' := h.at_ (xs.length - 1 - i) (by omega)
  rw [if_neg (by omega), hx] at hi'
  rw [if_neg (by omega), hy] at hj'
  rw [List.getElem?_set, List.length_set]
  by_cases e1 : xs.length - 1 - i = k
  · rw [if_pos e1, if_pos (by omega), if_pos (by omega), hi']
    congr 1; omega
  · rw [if_neg e1, List.getElem?_set]
    by_cases e2 : i = k
    · subst e2
      rw [if_pos rfl, if_pos (by omega), if_pos (by omega), hj']
    · rw [if_neg e2, h.at_ k hk]
      by_cases e3 : k < i ∨ xs.length - 1 - k < i
      · rw [if_pos e3, if_pos (by omega)]
      · rw [if_neg e3, if_neg (by omega)]
end Go.HL.Sts
namespace Go.HL.Kl.Mc
open Go Go.HL Go.HL.Kl
def succs (t : In) (n p i : Nat) : List Nat :=
  if t.op = 2 then (if p = 0 then [i + 1] else []) else if t.op = 3 then (if p = n then [i + 1] else [])
  else if t.op = 4 then [t.x.toNat] else if t.op = 5 then [t.x.toNat, t.y.toNat] else []
structure Srch (m : List In) (n p from_ : Nat) (s0 sn : List Bool) (todo : List Nat) : Prop where
  len : sn.length = m.length
  a : ∀ i : Nat, s0[i]? = some true → sn[i]? = some true
  b : ∀ i : Nat, sn[i]? = some true → s0[i]? = some true ∨ EpsS m n p from_ i
  c : ∀ t ∈ todo, EpsS m n p from_ t ∧ t < m.length
  d : ∀ i j : Nat, sn[i]? = some true → Eps m n p i j → sn[j]? = some true ∨ j ∈ todo
  e : sn[from_]? = some true ∨ from_ ∈ todo
def unseen (l : List Bool) : Nat := l.countP (!·)
def Begn (m : List In) (w : List UInt8) (f p j : Nat) : Prop := (p = f ∧ j = 0) ∨ (f < p ∧ ∃ i, j = i + 1 ∧ Run m w (0, f) (i, p - 1) ∧ Eat m w i (p - 1))
def EndsP (m : List In) (w : List UInt8) (f : Int) (out : List Bool) : Prop := out.length = w.length + 1 ∧ ∀ t : Nat, out[t]? = some true ↔ MOk m ∧ ∃ g : Nat, f = g ∧ g ≤ w.length ∧ Hit m w g t
def SeenP (m : List In) (w : List UInt8) (p : Nat) (q : List Nat) (k : Nat) (sn : List Bool) : Prop :=
  sn.length = m.length ∧ (∀ i : Nat, sn[i]? = some true ↔ ∃ t j : Nat, t < k ∧ q[t]? = some j ∧ EpsS m w.length p j i) ∧ ∀ i j : Nat, sn[i]? = some true → Eps m w.length p i j → sn[j]? = some true
structure PassP (m : List In) (w : List UInt8) (p : Nat) (sn out : List Bool) (k : Nat) (o2 : List Bool) (q2 : List Nat) : Prop where
  len : o2.length = out.length
  st : ∀ j, j ∈ q2 ↔ ∃ i, i < k ∧ j = i + 1 ∧ sn[i]? = some true ∧ Eat m w i p
  out : ∀ t : Nat, o2[t]? = some true ↔ out[t]? = some true ∨ (t = p ∧ ∃ i u, i < k ∧ sn[i]? = some true ∧ m[i]? = some u ∧ u.op = 6)
  le : q2.length ≤ k
def EndsC (m : List In) (w : List UInt8) (f : Int) (v : Value) (S : Hp) : Prop := ∃ (a : Option Addr) (c : Nat) (out : List Bool), v = .slice a (w.length + 1) c ∧ OwnS Ebo 1 4 v out S ∧ EndsP m w f out
end Go.HL.Kl.Mc
namespace Go.HL
open Go Go.Tab
section
variable {α : Type}
def wdlF (d : Nat → α) (xs : List α) (i : Nat) : α := (xs[i]?).getD (d i)
def wdl (d : Nat → α) (xs : List α) : List α := (List.range (xs.length + 64)).map (wdlF d xs)
theorem wdl_len (d : Nat → α) (xs : List α) : (wdl d xs).length = xs.length + 64 := by simp [wdl]
theorem wdl_at {d : Nat → α} {xs : List α} {i : Nat} (h : i < xs.length + 64) : (wdl d xs)[i]? = some (wdlF d xs i) := by
  unfold wdl
  rw [List.getElem?_map, List.getElem?_range h]; rfl
theorem wdl_in {d : Nat → α} {xs : List α} {i : Nat} {x : α} (h : xs[i]? = some x) : x = wdlF d xs i := by rw [wdlF, h]; rfl
theorem wdl_out {d : Nat → α} {xs : List α} {i : Nat} (h : ¬ i < xs.length) : d i = wdlF d xs i := by rw [wdlF, List.getElem?_eq_none (by omega)]; rfl
theorem wdl_spare {d : Nat → α} {xs : List α} {i : Nat} (h1 : ¬ i < xs.length) (h2 : i < xs.length + 64) : (wdl d xs)[i]? = some (d i) := by rw [wdl_at h2, wdl_out (d := d) h1]
theorem wdl_take (d : Nat → α) (xs : List α) : (wdl d xs).take xs.length = xs := by
  apply List.ext_getElem?
  intro i
  by_cases hi : i < xs.length
  · rw [List.getElem?_take, if_pos hi, wdl_at (by omega), ← wdl_in (List.getElem?_eq_getElem hi), List.getElem?_eq_getElem hi]
  · rw [List.getElem?_eq_none (by rw [List.length_take]; omega), List.getElem?_eq_none (by omega)]
theorem fill_wdl {d : Nat → α} {xs : List α} {j : Nat} {l : List α} (h : Fill (wdlF d xs) (xs.length + 64) j l) (hj : xs.length + 64 ≤ j) : l = wdl d xs := h.done hj
theorem ext_upto {a b : List α} (hl : a.length = b.length) (h : ∀ i, i < a.length → a[i]? = b[i]?) : a = b := by
  apply List.ext_getElem?
  intro i
  by_cases hi : i < a.length
  · exact h i hi
  · rw [List.getElem?_eq_none (by omega), List.getElem?_eq_none (by omega)]
theorem Rd.pref {α : Type} {E : α → List Value} {k : Nat} [he : Enc E k] {w : World} {a : Option Addr} {c : Nat} {xs : List α} (h : Rd E w (.slice a xs.length c) xs) (m : Nat) : Rd E w (.slice a (xs.take m).length c) (xs.take m) := by
  obtain ⟨⟨a', c', hv, hn, h0, hsp⟩, hle⟩ := h.sl
  simp only [Value.slice.injEq] at hv
  obtain ⟨rfl, _, rfl⟩ := hv
  have hlen : (xs.take m).length ≤ xs.length := by simp; omega
  refine ⟨⟨⟨_, _, rfl, by omega, h0, fun A hA hz => hsp A hA (by omega)⟩, by omega⟩, fun j u hu => ?_⟩
  refine h.get j u ?_
  rw [← List.take_append_drop m xs, flat_append, List.getElem?_append_left (List.getElem?_eq_some_iff.1 hu).1]
  exact hu
attribute [irreducible] wdl wdlF
end
end Go.HL
namespace Go.HL.Kl.Mc
open Go Go.HL Go.HL.Kl
def spI (i : Nat) : In := ⟨0, 0, ((1048576 * 9 + i + 1 : Nat) : Int), -7⟩
def letN (b : UInt8) : Nd := ⟨1, bit b.toNat, 0, 0, 0, 0⟩
def starN : Nd := ⟨6, 0, 0, 0, -1, 1⟩
def reW : List Nd := [starN, letN 97]
def ksW : F := .nd (letN 97) .nil .nil
def mW : List In := mach (.nd starN ksW .nil)
theorem Shp.uniq {re : List Nd} {x y : Nd} {ks js : F} (h : Shp re x ks) (h' : Shp re y js) : x = y ∧ ks = js := by
  have := flat_inj (.nd x ks .nil) (.nd y js .nil) [] [] h.wf h'.wf rfl (by simp only [F.flat, List.append_nil]; rw [← h.flat, ← h'.flat])
  simpa using this.1
def wW : List UInt8 := [97, 97, 98]
attribute [irreducible] mW
end Go.HL.Kl.Mc
namespace Go.HL.Sts
open Go Go.HL Go.HL.Kl Go.HL.Kl.Mc
/-! which states are alive, by steps -/
def liveStep (next : List (List Nat)) (n : Nat) (l : List Bool) : List Bool := (List.range n).map fun q => l[q]?.getD false || (next[q]?.getD []).any fun to => l[to]?.getD false
def liveIt (next : List (List Nat)) (ends : List Bool) : Nat → List Bool
  | 0 => ends
  | k + 1 => liveStep next next.length (liveIt next ends k)
theorem liveIt_live {next : List (List Nat)} {ends : List Bool} : ∀ (k q : Nat), (liveIt next ends k)[q]? = some true → Live next ends q
  | 0, q, h => .ends h
  | k + 1, q, h => by
    unfold liveIt liveStep at h
    rw [List.getElem?_map] at h
    have hq : q < next.length := by
      rcases Nat.lt_or_ge q next.length with h1 | h1
      · exact h1
      · rw [List.getElem?_eq_none (by simpa using h1)] at h; cases h
    rw [List.getElem?_range hq] at h
    simp only [Option.map_some, Option.some.injEq, Bool.or_eq_true, List.any_eq_true] at h
    have get : ∀ x : Nat, (liveIt next ends k)[x]?.getD false = true → (liveIt next ends k)[x]? = some true := by
      intro x hx
      cases e : (liveIt next ends k)[x]? with
      | none => rw [e] at hx; cases hx
      | some b => rw [e] at hx; rw [show b = true from hx]
    rcases h with h | ⟨to, hto, h⟩
    · exact liveIt_live k q (get q h)
    · rw [List.getElem?_eq_getElem hq, Option.getD_some] at hto
      exact .step (List.getElem?_eq_getElem hq) hto (liveIt_live k to (get to h))
theorem lv_calc {next : List (List Nat)} {ends lv : List Bool} (k : Nat) (h : LvOk next ends lv) (hlen : ends.length = next.length) (h0 : ∀ q : Nat, ends[q]? = some true → (liveIt next ends k)[q]? = some true) (hfix : liveStep next next.length (liveIt next ends k) = liveIt next ends k) : lv = liveIt next ends k := by
  have hl : (liveIt next ends k).length = next.length := by rw [← hfix]; simp [liveStep]
  have hcl : ∀ q, Live next ends q → (liveIt next ends k)[q]? = some true := by
    intro q hL
    induction hL with
    | ends hq => exact h0 _ hq
    | @step q to row hr hm _ ih =>
      have hq := (List.getElem?_eq_some_iff.1 hr).1
      rw [← hfix]
      unfold liveStep
      rw [List.getElem?_map, List.getElem?_range hq]
      simp only [Option.map_some, Option.some.injEq, Bool.or_eq_true, List.any_eq_true]
      exact .inr ⟨to, by rw [hr]; exact hm, by rw [ih]; rfl⟩
  apply List.ext_getElem?
  intro q
  rcases Nat.lt_or_ge q next.length with hq | hq
  · have h1 := h.2 q
    have h2 : (liveIt next ends k)[q]? = some true ↔ Live next ends q := ⟨liveIt_live k q, hcl q⟩
    obtain ⟨x, hx⟩ : ∃ x, lv[q]? = some x := ⟨_, List.getElem?_eq_getElem (by rw [h.1]; exact hq)⟩
    obtain ⟨y, hy⟩ : ∃ y, (liveIt next ends k)[q]? = some y := ⟨_, List.getElem?_eq_getElem (by rw [hl]; exact hq)⟩
    rw [hx] at h1 ⊢
    rw [hy] at h2 ⊢
    have h3 := h1.trans h2.symm
    congr 1
    cases x <;> cases y <;> simp_all
  · rw [List.getElem?_eq_none (by rw [h.1]; exact hq), List.getElem?_eq_none (by rw [hl]; exact hq)]
/-! the two regexes -/
def ltN (c : Nat) : Nd := ⟨1, bit c, 0, 0, 0, 0⟩
def stN : Nd := ⟨6, 0, 0, 0, -1, 1⟩
def ctN : Nd := ⟨4, 0, 0, 0, 0, 2⟩
def reA : List Nd := [ctN, stN, ltN 97, ltN 98]
def ksA : F := .nd stN (.nd (ltN 97) .nil .nil) (.nd (ltN 98) .nil .nil)
def reB : List Nd := [ltN 97]
theorem shpA : Mc.Shp reA ctN ksA := ⟨⟨by decide +kernel, rfl, ⟨by decide +kernel, rfl, ⟨by decide +kernel, rfl, trivial, trivial⟩, ⟨by decide +kernel, rfl, trivial, trivial⟩⟩, trivial⟩, rfl, by decide, by decide +kernel⟩
theorem shpB : Mc.Shp reB (ltN 97) .nil := ⟨⟨by decide +kernel, rfl, trivial, trivial⟩, rfl, by decide, by decide +kernel⟩
theorem shapedA : shapedB reA = true := shapedB_iff.2 ⟨⟨[], by decide +kernel⟩, _, _, shpA⟩
theorem shapedB1 : shapedB reB = true := shapedB_iff.2 ⟨⟨[], by decide +kernel⟩, _, _, shpB⟩
theorem rngA : ∀ x ∈ reA, -128 ≤ x.op ∧ x.op < 128 := by simp [reA, ctN, stN, ltN]
theorem rngB : ∀ x ∈ reB, -128 ≤ x.op ∧ x.op < 128 := by simp [reB, ltN]
def wA : Wd := wdM reA ctN ksA
def wB : Wd := wdM reB (ltN 97) .nil
theorem lvA : liveIt wA.next wA.ends 3 = [true, false, true, true] := by decide +kernel
theorem lvB : liveIt wB.next wB.ends 3 = [true, false, true] := by decide +kernel
theorem fixA : liveStep wA.next wA.next.length (liveIt wA.next wA.ends 3) = liveIt wA.next wA.ends 3 := by decide +kernel
theorem fixB : liveStep wB.next wB.next.length (liveIt wB.next wB.ends 3) = liveIt wB.next wB.ends 3 := by decide +kernel
theorem endA : wA.ends = [false, false, false, true] := by decide +kernel
theorem endB : wB.ends = [false, false, true] := by decide +kernel
theorem lnA' : wA.ends.length = wA.next.length := by decide +kernel
theorem lnB' : wB.ends.length = wB.next.length := by decide +kernel
def mA : Lm := ⟨[0, 3], [[-1, 0, 1], [-1, -1, -1]], [false, true]⟩
def mB : Lm := ⟨[0, 2], [[-1, 1], [-1, -1]], [false, true]⟩
deriving instance DecidableEq for Lm
theorem lmA : lmOf reA ctN ksA [true, false, true, true] = some mA := by decide +kernel
theorem lmB : lmOf reB (ltN 97) .nil [true, false, true] = some mB := by decide +kernel
def dA : Df := ⟨[[-1, 0, 1], [-1, -1, -1]], [false, true], atoms (setsOf reA)⟩
def dB : Df := ⟨[[-1, 1], [-1, -1]], [false, true], atoms (setsOf reB)⟩
theorem lv_A {lv : List Bool} (h : LvOk (wdM reA ctN ksA).next (wdM reA ctN ksA).ends lv) : lv = [true, false, true, true] := by
  rw [show wdM reA ctN ksA = wA from by unfold wA; exact Eq.refl _] at h
  rw [← lvA]
  refine lv_calc 3 h lnA' (fun q hq => ?_) fixA
  rw [endA] at hq
  rw [lvA]
  match q, hq with
  | 3, _ => rfl
  | 0, hq => simp at hq
  | 1, hq => simp at hq
  | 2, hq => simp at hq
  | n + 4, hq => simp at hq
theorem lv_B {lv : List Bool} (h : LvOk (wdM reB (ltN 97) .nil).next (wdM reB (ltN 97) .nil).ends lv) : lv = [true, false, true] := by
  rw [show wdM reB (ltN 97) .nil = wB from by unfold wB; exact Eq.refl _] at h
  rw [← lvB]
  refine lv_calc 3 h lnB' (fun q hq => ?_) fixB
  rw [endB] at hq
  rw [lvB]
  match q, hq with
  | 2, _ => rfl
  | 0, hq => simp at hq
  | 1, hq => simp at hq
  | n + 3, hq => simp at hq
theorem refsA : refsB reA = false := by
  rw [refsB, show (reA.any fun x => x.op == 8) = false by decide +kernel, Bool.and_false]
theorem refsB1 : refsB reB = false := by
  rw [refsB, show (reB.any fun x => x.op == 8) = false by decide +kernel, Bool.and_false]
theorem wgtA : (F.nd ctN ksA .nil).weight ≤ 20 := by decide +kernel
theorem wgtB : (F.nd (ltN 97) .nil .nil).weight ≤ 20 := by decide +kernel
theorem ok_A {d : Df} (h : mkOk reA d) : d = dA := by
  obtain ⟨_, n, ks, lv, m, hS, _, _, hl, hm, h1, h2, h3⟩ := h
  obtain ⟨rfl, rfl⟩ := hS.uniq shpA
  have e := lv_A hl
  subst e
  have hm' := hm.symm.trans lmA
  obtain rfl := Option.some.inj hm'
  obtain ⟨nx, en, at_⟩ := d
  exact congr (congr (congrArg Df.mk h1) h2) h3
theorem ok_B {d : Df} (h : mkOk reB d) : d = dB := by
  obtain ⟨_, n, ks, lv, m, hS, _, _, hl, hm, h1, h2, h3⟩ := h
  obtain ⟨rfl, rfl⟩ := hS.uniq shpB
  have e := lv_B hl
  subst e
  have hm' := hm.symm.trans lmB
  obtain rfl := Option.some.inj hm'
  obtain ⟨nx, en, at_⟩ := d
  exact congr (congr (congrArg Df.mk h1) h2) h3
theorem err_A {e : Int} : ¬ mkErr reA e := by
  rintro (⟨h, _⟩ | ⟨_, h, _⟩ | ⟨n, ks, hS, _, hw, _⟩ | ⟨n, ks, lv, hS, _, _, hl, hm, _⟩)
  · rw [shapedA] at h; cases h
  · rw [refsA] at h; cases h
  · obtain ⟨rfl, rfl⟩ := hS.uniq shpA
    have := wgtA; omega
  · obtain ⟨rfl, rfl⟩ := hS.uniq shpA
    have e := lv_A hl
    subst e
    have hm' := hm.symm.trans lmA
    cases hm'
theorem err_B {e : Int} : ¬ mkErr reB e := by
  rintro (⟨h, _⟩ | ⟨_, h, _⟩ | ⟨n, ks, hS, _, hw, _⟩ | ⟨n, ks, lv, hS, _, _, hl, hm, _⟩)
  · rw [shapedB1] at h; cases h
  · rw [refsB1] at h; cases h
  · obtain ⟨rfl, rfl⟩ := hS.uniq shpB
    have := wgtB; omega
  · obtain ⟨rfl, rfl⟩ := hS.uniq shpB
    have e := lv_B hl
    subst e
    have hm' := hm.symm.trans lmB
    cases hm'
theorem tkA1 : takesP dA [97, 97, 98] = true := by decide +kernel
theorem tkA2 : takesP dA [97, 97] = false := by decide +kernel
theorem unAB : unM dA dB = some [97] := by decide +kernel
def nx (next : List (List Nat)) (q k : Nat) : Nat := ((next[q]?.getD [])[k]?).getD 0
def runW (next : List (List Nat)) : Nat → List Nat → Nat
  | q, [] => q
  | q, k :: t => runW next (nx next q k) t
def accW (next : List (List Nat)) (ends : List Bool) (q : Nat) (t : List Nat) : Bool := ends[runW next q t]?.getD false
structure WOk (next : List (List Nat)) (ends : List Bool) (K : Nat) : Prop where
  len : ends.length = next.length
  pos : 0 < next.length
  K0 : 0 < K
  rows : ∀ r ∈ next, r.length = K
  bnd : ∀ r ∈ next, ∀ v ∈ r, v < next.length
structure Sep (next : List (List Nat)) (ends : List Bool) (K : Nat) (part : List Nat) : Prop where
  len : part.length = next.length
  res : ∀ i j, i < next.length → j < next.length → pt part i = pt part j → ends[i]? = ends[j]?
  sep : ∀ i j, i < next.length → j < next.length → pt part i ≠ pt part j → ∃ t, (∀ k ∈ t, k < K) ∧ accW next ends i t ≠ accW next ends j t
def Stb (next : List (List Nat)) (K : Nat) (part : List Nat) : Prop := ∀ i j, i < next.length → j < next.length → pt part i = pt part j → ∀ k, k < K → pt part (nx next i k) = pt part (nx next j k)
def NumOk (P : List Nat) (lv : List Bool) (met : List Nat) (to : Nat) (v : Int) : Prop := (lv[to]? = some false → v = -1) ∧ (lv[to]? = some true → ∃ j : Nat, v = j ∧ (met.map (pt P))[j]? = some (pt P to))
structure LmI (w : Wd) (P : List Nat) (lv : List Bool) (K i : Nat) (m : Lm) : Prop where
  ln : m.next.length = i
  le : m.ends.length = i
  im : i ≤ m.met.length
  i6 : i ≤ 256
  z : m.met[0]? = some 0
  bnd : ∀ x ∈ m.met, x < w.next.length
  nd : (m.met.map (pt P)).Nodup
  liv : ∀ x ∈ m.met, x ≠ 0 → lv[x]? = some true
  rows : ∀ q s, q < i → m.met[q]? = some s → m.ends[q]? = w.ends[s]? ∧ ∃ row, m.next[q]? = some row ∧ row.length = K ∧ ∀ k v, k < K → row[k]? = some v → NumOk P lv m.met (nx w.next s k) v
def gD (d : Df) (q : Int) (k : Nat) : Int := if q < 0 then -1 else nxt d q k
def runD (d : Df) (q : Int) (t : List Nat) : Int := t.foldl (gD d) q
def accD (d : Df) (q : Int) (t : List Nat) : Bool := endsR d (runD d q t)
structure MkOk (w : Wd) (lv : List Bool) (K : Nat) (m : Lm) (d : Df) : Prop where
  hw : WOk w.next w.ends K
  hl : LvOk w.next w.ends lv
  I : LmI w (partsM w.next w.ends K) lv K m.met.length m
  nx : d.next = m.next
  en : d.ends = m.ends
def ltrs (atoms : List Kl.Cl) (w : List UInt8) : List Nat := w.map fun b => fstK atoms b.toNat
end Go.HL.Sts
