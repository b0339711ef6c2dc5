/- Part of the proofs over this seat: see the text that holds the theorem. Conditions: each theorem bears its own. -/
import Derived.Test.YtmompllplidphaaGreatDoorHTZ
import Derived.Test.YtmompllplidphaaGreatDoorMC9Z
import Derived.Test.YtmompllplidphaaGreatDoorMT3Z
import Derived.Test.YtmompllplidphaaGreatDoorGSW1Z
namespace Go.HL.Kl.Mc
open Go Go.HL Go.HL.Kl
def zN : Nd := ⟨0, 0, 0, 0, 0, 0⟩
theorem En_zero : En zN = [.int .i8 0, .int .u64 0, .int .u64 0, .int .u64 0, .int .u64 0, .int .i64 0, .int .i64 0, .int .i64 0, .int .i64 0] := by
  show _ :: (Ec 0#256 ++ _) = _
  rw [Ec_zero]; rfl
def zr (x : Nd) : Nd := ⟨0, if x.op = 1 then 0 else x.set, if x.op = 7 ∨ x.op = 8 then 0 else x.n, if x.op = 6 then 0 else x.mn, if x.op = 6 then 0 else x.mx, 0⟩
theorem zr_iff {x : Nd} : zr x = zN ↔ (x.op = 1 ∨ x.set = 0) ∧ (x.op = 7 ∨ x.op = 8 ∨ x.n = 0) ∧ (x.op = 6 ∨ x.mn = 0 ∧ x.mx = 0) := by
  simp only [zr, zN, Nd.mk.injEq, true_and, and_true]
  by_cases h1 : x.op = 1
  · simp [h1]
  by_cases h6 : x.op = 6
  · simp [h6]
  by_cases h7 : x.op = 7
  · simp [h7]
  by_cases h8 : x.op = 8
  · simp [h8]
  · simp [h1, h6, h7, h8]
theorem ndOk_zr {x : Nd} (h : zr x ≠ zN) : ndOk x = false := by
  cases hb : ndOk x
  · rfl
  exfalso
  apply h
  rw [zr_iff]
  simp only [ndOk, flds, Bool.and_eq_true, Bool.or_eq_true, decide_eq_true_eq] at hb
  obtain ⟨⟨⟨⟨_, h1⟩, h2⟩, h3⟩, _⟩ := hb
  refine ⟨h1, by rcases h2 with h2 | h2 <;> omega, ?_⟩
  by_cases h6 : x.op = 6
  · exact .inl h6
  · rw [if_neg h6] at h3; simp at h3; exact .inr h3
theorem ndOk_kidsOk {x : Nd} (h1 : 1 ≤ x.op ∧ x.op ≤ 8) (h2 : x.op = 6 → 0 ≤ x.mn ∧ x.mn ≤ 255 ∧ (x.mx = -1 ∨ x.mn ≤ x.mx ∧ x.mx ≤ 255)) (hz : zr x = zN) : ndOk x = kidsOk x := by
  rw [zr_iff] at hz
  obtain ⟨a, b, c⟩ := hz
  have : flds x = true := by
    simp only [flds, Bool.and_eq_true, Bool.or_eq_true, decide_eq_true_eq]
    refine ⟨⟨⟨h1, a⟩, by omega⟩, ?_⟩
    by_cases h6 : x.op = 6
    · rw [if_pos h6]; simpa using h2 h6
    · rw [if_neg h6]; simp; omega
  rw [ndOk, this, Bool.true_and]
theorem ndOk_rep {x : Nd} (h6 : x.op = 6) (h : ¬ (0 ≤ x.mn ∧ x.mn ≤ 255 ∧ (x.mx = -1 ∨ x.mn ≤ x.mx ∧ x.mx ≤ 255))) : ndOk x = false := by
  cases hb : ndOk x
  · rfl
  · exact absurd (rep_flds hb h6) h
theorem ndOk_op {x : Nd} (h : ¬ (1 ≤ x.op ∧ x.op ≤ 8)) : ndOk x = false := by
  rw [ndOk, flds, decide_eq_false h]; simp
end Go.HL.Kl.Mc
namespace Go.Proofs.YtmompllplidphaaGreatDoor
open Go Go.HL Go.Proofs Go.HL.Kl Go.HL.Kl.Mc
set_option maxHeartbeats 1000000 in
theorem ndOk_fn (x : Nd) : HL.Fn Tryz.prog 133 [.agg (En x).toArray] (fun _ => True) [] (fun v _ => v = .bool (ndOk x)) := by
  refine fn_of Tryz.func133 rfl rfl rfl fun w0 hw => ?_; refine cR fun _ hK1 => ?_; refine o_box rfl rfl rfl fun b1 => ?_; refine oA (oZ hK1 (cR fun _ hK2 => ?_)); refine oS (s_ldB rfl (RdPK.cels (.own meA)) lnA) ?_; refine o_alloc (l := En zN) (by rw [En_zero]; rfl) rfl fun b3 => ?_; refine o_stW rfl rfl upA lnA lnA onA ?_; refine oZ hK2 (cR fun _ hK3 => ?_); refine oS sF ?_; refine o_store rfl rfl rfl upA ltA rfl ?_
  rw [show (En x).set 0 (.int .i8 0) = En (⟨0, x.set, x.n, x.mn, x.mx, x.kids⟩ : Nd) from rfl]
  refine oS sF ?_; refine o_store rfl rfl rfl upA ltA rfl ?_
  rw [show (En (⟨0, x.set, x.n, x.mn, x.mx, x.kids⟩ : Nd)).set 8 (.int .i64 0) = En (⟨0, x.set, x.n, x.mn, x.mx, 0⟩ : Nd) from rfl]
  refine oZ hK3 ?_; refine c_seqJ (ι := Unit) (fun g => (1 ≤ x.op ∧ x.op ≤ 8) ∧ (x.op = 6 → 0 ≤ x.mn ∧ x.mn ≤ 255 ∧ (x.mx = -1 ∨ x.mn ≤ x.mx ∧ x.mx ≤ 255))) (fun g => []) [(1, _), (3, _)] (fun g => [(b3, .cells (En (zr x)).toArray 42 (0, 0)), (b1, .cells (En x).toArray 42 (0, 0))]) sbA ?_ ?_
  ·rintro g hI
   refine c_seq fun _ hK5 => ?_; refine cR fun _ hK6 => ?_; refine oS (s_ldB rfl (RdPK.cels (.own meA)) lnA) ?_; refine oS (step_cast (v' := .agg (En zN).toArray) (s_build (cs := [_, _, _, _, _, _, _, _, _]) (vs := []) rfl rfl .nil) (by rw [En_zero])) ?_
   by_cases hz : zr x ≠ zN
   ·refine oS (step_cast (v' := .bool true) (s_neq_nd rfl rfl) (by rw [decide_eq_false hz]; rfl)) ?_; refine oZ hK6 ?_; refine cT (cR fun _ hK7 => ?_); refine oA (oZ hK7 (c_ret ?_)); refine x_then_ret (?_); exact xR rfl rfl ((congrArg Value.bool (ndOk_zr hz).symm))
   ·have hk := ndOk_kidsOk hI.1 hI.2 (Decidable.not_not.1 hz)
    unfold kidsOk at hk
    refine oS (step_cast (v' := .bool false) (s_neq_nd rfl rfl) (by rw [decide_eq_true (Decidable.not_not.1 hz)]; rfl)) ?_; refine oZ hK6 ?_; refine cFZ hK5 (c_seq fun _ hK8 => ?_); refine cR fun _ hK9 => ?_; refine oS sF ?_; refine oS sL (oZ hK9 (c_block (c_seq fun _ hK10 => ?_))); refine cR fun _ hK11 => ?_
    by_cases k6 : x.op = 6
    ·refine oS (eqT (h := k6)) ?_; refine oA (oZ hK11 ?_); refine cTZ hK10 ?_; refine cT (cR fun _ hK12 => ?_); refine oS sF ?_; refine oS sL ?_; refine oS (s_eql rfl rfl) ?_; refine oA (oZ hK12 (c_ret ?_)); refine x_block_ret (x_then_ret (?_))
     exact xR rfl rfl ((congrArg Value.bool (by rw [hk, if_pos (.inl k6)])))
    ·refine oS (eqF (h := k6)) ?_; refine oA (oZ hK11 ?_); refine cF (c_region ?_)
     by_cases k7 : x.op = 7
     ·refine oS (eqT (h := k7)) ?_; refine oA (oZ hK10 ?_); refine cT (cR fun _ hK13 => ?_); refine oS sF ?_; refine oS sL ?_; refine oS (s_eql rfl rfl) ?_; refine oA (oZ hK13 (c_ret ?_)); refine x_block_ret (x_then_ret (?_))
      exact xR rfl rfl ((congrArg Value.bool (by rw [hk, if_pos (.inr k7)])))
     ·refine oS (eqF (h := k7)) ?_; refine oA (oZ hK10 ?_); refine cF (cR fun _ hK14 => ?_)
      by_cases k5 : x.op = 5
      ·refine oS (eqT (h := k5)) ?_; refine oA (oZ hK14 ?_); refine cT (cR fun _ hK15 => ?_); refine oS sF ?_; refine oS sL ?_; refine oS (s_geq rfl rfl) ?_; refine oA (oZ hK15 (c_ret ?_)); refine x_block_ret (x_then_ret (?_))
       exact xR rfl rfl ((congrArg Value.bool (by rw [hk, if_neg (by omega), if_neg (by omega), if_pos k5])))
      ·refine oS (eqF (h := k5)) ?_; refine oA (oZ hK14 ?_); refine cF (cR fun _ hK16 => ?_)
       by_cases k4 : x.op = 4
       ·refine oS (eqT (h := k4)) ?_; refine oA (oZ hK16 ?_); refine cT (cR fun _ hK17 => ?_); refine oS sF ?_; refine oS sL ?_
        by_cases k0 : x.kids = 0
        ·refine oS eqT (oM ?_); refine oN ?_; refine oN ?_; refine oN ?_; refine oS sT (oA (oZ hK17 (c_ret ?_))); refine x_block_ret (x_then_ret (?_))
         exact xR rfl rfl ((congrArg Value.bool (by rw [hk, if_neg (by omega), if_pos k4, decide_eq_true (by omega)])))
        ·refine oS eqF (oM ?_); refine oY ?_; refine oS sF ?_; refine oY ?_; refine oS sL ?_; refine oY ?_; refine oS (s_geq rfl rfl) ?_; refine oS sP (oA (oZ hK17 (c_ret ?_))); refine x_block_ret (x_then_ret (?_))
         exact xR rfl rfl ((congrArg Value.bool (by rw [hk, if_neg (by omega), if_pos k4]; exact decide_eq_decide.2 (by omega))))
       ·refine oS (eqF (h := k4)) ?_; refine oA (oZ hK16 ?_); refine cF (c_skip (x_block (xZ hK8 (cR fun _ hK18 => ?_)))); refine oS sF ?_; refine oS sL ?_; refine oS (s_eql rfl rfl) ?_; refine oA (oZ hK18 (c_ret ?_)); refine ?_; exact xR rfl rfl ((congrArg Value.bool (by rw [hk, if_neg (by omega), if_neg (by omega), if_neg (by omega)])))
  ·intro _ hJ4
   refine cR fun _ hK19 => ?_; refine oS sF ?_; refine oS sL (oZ hK19 (c_block (cR fun _ hK20 => ?_)))
   by_cases h1 : x.op = 1
   ·refine oS (eqT (h := h1)) ?_; refine oA (oZ hK20 ?_); refine cT (c_region ?_); refine oS (step_cast (v' := .agg (Ec 0#256).toArray) (s_build0 rfl) (by rw [Ec_zero]; rfl)) ?_; refine oS sF ?_; refine o_storeA (l := En (⟨0, x.set, x.n, x.mn, x.mx, 0⟩ : Nd)) (cs := Ec 0#256) rfl rfl rfl (Enc.one _) upA (Nat.le_of_ble_eq_true rfl) (fun _ _ => frz0) ?_
    rw [show splice (En (⟨0, x.set, x.n, x.mn, x.mx, 0⟩ : Nd)) 1 (Ec 0#256) = En (⟨0, 0, x.n, x.mn, x.mx, 0⟩ : Nd) from rfl]
    refine o_nil (x_block ?_)
    rw [show (⟨0, 0, x.n, x.mn, x.mx, 0⟩ : Nd) = zr x by rw [zr, if_pos h1, if_neg (by omega), if_neg (by omega), if_neg (by omega)]]
    exact x_then (hJ4 () _ _ ⟨by omega, fun h => absurd h (by omega)⟩ sbA sbA hzB)
   ·refine oS (eqF (h := h1)) ?_; refine oA (oZ hK20 ?_); refine cF (c_seq fun _ hK21 => ?_); refine cR fun _ hK22 => ?_
    by_cases h7 : x.op = 7
    ·refine oS (eqT (h := h7)) ?_; refine oA (oZ hK22 ?_); refine cTZ hK21 ?_; refine cT (c_region ?_); refine oS sF ?_; refine o_store rfl rfl rfl upA ltA rfl ?_
     rw [show (En (⟨0, x.set, x.n, x.mn, x.mx, 0⟩ : Nd)).set 5 (.int .i64 0) = En (⟨0, x.set, 0, x.mn, x.mx, 0⟩ : Nd) from rfl]
     refine o_nil (x_block ?_)
     rw [show (⟨0, x.set, 0, x.mn, x.mx, 0⟩ : Nd) = zr x by rw [zr, if_neg (by omega), if_pos (.inl h7), if_neg (by omega), if_neg (by omega)]]
     exact x_then (hJ4 () _ _ ⟨by omega, fun h => absurd h (by omega)⟩ sbA sbA hzB)
    ·refine oS (eqF (h := h7)) ?_; refine oA (oZ hK22 ?_); refine cF (c_region ?_)
     by_cases h8 : x.op = 8
     ·refine oS (eqT (h := h8)) ?_; refine oA (oZ hK21 ?_); refine cT (c_region ?_); refine oS sF ?_; refine o_store rfl rfl rfl upA ltA rfl ?_
      rw [show (En (⟨0, x.set, x.n, x.mn, x.mx, 0⟩ : Nd)).set 5 (.int .i64 0) = En (⟨0, x.set, 0, x.mn, x.mx, 0⟩ : Nd) from rfl]
      refine o_nil (x_block ?_)
      rw [show (⟨0, x.set, 0, x.mn, x.mx, 0⟩ : Nd) = zr x by rw [zr, if_neg (by omega), if_pos (.inr h8), if_neg (by omega), if_neg (by omega)]]
      exact x_then (hJ4 () _ _ ⟨by omega, fun h => absurd h (by omega)⟩ sbA sbA hzB)
     ·refine oS (eqF (h := h8)) ?_; refine oA (oZ hK21 ?_); refine cF (cR fun _ hK23 => ?_)
      by_cases h6 : x.op = 6
      ·refine oS (eqT (h := h6)) ?_; refine oA (oZ hK23 ?_); refine cT (c_seq fun _ hK24 => ?_); refine cR fun _ hK25 => ?_; refine oS sF ?_; refine oS sL ?_
       by_cases hm1 : x.mn < 0
       ·refine oS lsT (oM ?_); refine oN ?_; refine oN ?_; refine oN ?_; refine oS sT (oM ?_); refine oN ?_; refine oN ?_; refine oN ?_; refine oN ?_; refine oU ?_; refine oU ?_; refine oU ?_; refine oU ?_; refine oU ?_; refine oU ?_; refine oU ?_; refine oU ?_; refine oU ?_; refine oU ?_; refine oN ?_; refine oS sT (oZ hK25 ?_); refine cT (cR fun _ hK26 => ?_); refine oA (oZ hK26 (c_ret ?_)); refine x_then_ret (x_block_ret (x_then_ret (?_)))
        exact xR rfl rfl ((congrArg Value.bool (ndOk_rep h6 (by omega)).symm))
       ·refine oS lsF (oM ?_); refine oY ?_; refine oS sF ?_; refine oY ?_; refine oS sL ?_; refine oY ?_
        by_cases hm2 : x.mn > 255
        ·refine oS gtT ?_; refine oS sP (oM ?_); refine oN ?_; refine oN ?_; refine oN ?_; refine oN ?_; refine oU ?_; refine oU ?_; refine oU ?_; refine oU ?_; refine oU ?_; refine oU ?_; refine oU ?_; refine oU ?_; refine oU ?_; refine oU ?_; refine oN ?_; refine oS sT (oZ hK25 ?_); refine cT (cR fun _ hK27 => ?_); refine oA (oZ hK27 (c_ret ?_)); refine x_then_ret (x_block_ret (x_then_ret (?_)))
         exact xR rfl rfl ((congrArg Value.bool (ndOk_rep h6 (by omega)).symm))
        ·refine oS gtF ?_; refine oS sP (oM ?_); refine oY ?_; refine oS sF ?_; refine oY ?_; refine oS sL ?_; refine oY ?_
         by_cases hm3 : x.mx ≠ -1
         ·refine oS nqT ?_; refine oY (oM ?_); refine oY ?_; refine oS sF ?_; refine oY ?_; refine oS sL ?_; refine oY ?_; refine oS sF ?_; refine oY ?_; refine oS sL ?_; refine oY ?_
          by_cases hm4 : x.mx < x.mn
          ·refine oS lsT ?_; refine oY (oM ?_); refine oN ?_; refine oN ?_; refine oN ?_; refine oY ?_; refine oS sT ?_; refine oY ?_; refine oS sT ?_; refine oS sP (oZ hK25 ?_); refine cT (cR fun _ hK28 => ?_); refine oA (oZ hK28 (c_ret ?_)); refine x_then_ret (x_block_ret (x_then_ret (?_)))
           exact xR rfl rfl ((congrArg Value.bool (ndOk_rep h6 (by omega)).symm))
          ·refine oS lsF ?_; refine oY (oM ?_); refine oY ?_; refine oS sF ?_; refine oY ?_; refine oS sL ?_; refine oY ?_
           by_cases hm5 : x.mx > 255
           ·refine oS gtT ?_; refine oY ?_; refine oS sP ?_; refine oY ?_; refine oS sT ?_; refine oS sP (oZ hK25 ?_); refine cT (cR fun _ hK29 => ?_); refine oA (oZ hK29 (c_ret ?_)); refine x_then_ret (x_block_ret (x_then_ret (?_)))
            exact xR rfl rfl ((congrArg Value.bool (ndOk_rep h6 (by omega)).symm))
           ·refine oS gtF ?_; refine oY ?_; refine oS sP ?_; refine oY ?_; refine oS sT ?_; refine oS sP (oZ hK25 ?_); refine cFZ hK24 (c_region ?_); refine oS sF ?_; refine o_store rfl rfl rfl upA ltA rfl ?_
            rw [show (En (⟨0, x.set, x.n, x.mn, x.mx, 0⟩ : Nd)).set 6 (.int .i64 0) = En (⟨0, x.set, x.n, 0, x.mx, 0⟩ : Nd) from rfl]
            refine oS sF ?_; refine o_store rfl rfl rfl upA ltA rfl ?_
            rw [show (En (⟨0, x.set, x.n, 0, x.mx, 0⟩ : Nd)).set 7 (.int .i64 0) = En (⟨0, x.set, x.n, 0, 0, 0⟩ : Nd) from rfl]
            refine o_nil (x_block ?_)
            rw [show (⟨0, x.set, x.n, 0, 0, 0⟩ : Nd) = zr x by rw [zr, if_neg (by omega), if_neg (by omega), if_pos h6, if_pos h6]]
            exact x_then (hJ4 () _ _ ⟨by omega, fun h => by omega⟩ sbA sbA hzB)
         ·refine oS nqF ?_; refine oY (oM ?_); refine oN ?_; refine oN ?_; refine oN ?_; refine oN ?_; refine oN ?_; refine oN ?_; refine oU ?_; refine oU ?_; refine oU ?_; refine oN ?_; refine oY ?_; refine oS sP ?_; refine oS sP (oZ hK25 ?_); refine cFZ hK24 (c_region ?_); refine oS sF ?_; refine o_store rfl rfl rfl upA ltA rfl ?_
          rw [show (En (⟨0, x.set, x.n, x.mn, x.mx, 0⟩ : Nd)).set 6 (.int .i64 0) = En (⟨0, x.set, x.n, 0, x.mx, 0⟩ : Nd) from rfl]
          refine oS sF ?_; refine o_store rfl rfl rfl upA ltA rfl ?_
          rw [show (En (⟨0, x.set, x.n, 0, x.mx, 0⟩ : Nd)).set 7 (.int .i64 0) = En (⟨0, x.set, x.n, 0, 0, 0⟩ : Nd) from rfl]
          refine o_nil (x_block ?_)
          rw [show (⟨0, x.set, x.n, 0, 0, 0⟩ : Nd) = zr x by rw [zr, if_neg (by omega), if_neg (by omega), if_pos h6, if_pos h6]]
          exact x_then (hJ4 () _ _ ⟨by omega, fun h => by omega⟩ sbA sbA hzB)
      ·refine oS (eqF (h := h6)) ?_; refine oA (oZ hK23 ?_); refine cF (c_seq fun _ hK30 => ?_); refine cR fun _ hK31 => ?_
       by_cases h2 : x.op = 2
       ·refine oS (eqT (h := h2)) ?_; refine oA (oZ hK31 ?_); refine cTZ hK30 ?_; refine cT (c_skip (x_block ?_))
        rw [show (⟨0, x.set, x.n, x.mn, x.mx, 0⟩ : Nd) = zr x by rw [zr, if_neg (by omega), if_neg (by omega), if_neg (by omega), if_neg (by omega)]]
        exact x_then (hJ4 () _ _ ⟨by omega, fun h => absurd h (by omega)⟩ sbA sbA hzB)
       ·refine oS (eqF (h := h2)) ?_; refine oA (oZ hK31 ?_); refine cF (cR fun _ hK32 => ?_)
        by_cases h3 : x.op = 3
        ·refine oS (eqT (h := h3)) ?_; refine oA (oZ hK32 ?_); refine cTZ hK30 ?_; refine cT (c_skip (x_block ?_))
         rw [show (⟨0, x.set, x.n, x.mn, x.mx, 0⟩ : Nd) = zr x by rw [zr, if_neg (by omega), if_neg (by omega), if_neg (by omega), if_neg (by omega)]]
         exact x_then (hJ4 () _ _ ⟨by omega, fun h => absurd h (by omega)⟩ sbA sbA hzB)
        ·refine oS (eqF (h := h3)) ?_; refine oA (oZ hK32 ?_); refine cF (cR fun _ hK33 => ?_)
         by_cases h4 : x.op = 4
         ·refine oS (eqT (h := h4)) ?_; refine oA (oZ hK33 ?_); refine cTZ hK30 ?_; refine cT (c_skip (x_block ?_))
          rw [show (⟨0, x.set, x.n, x.mn, x.mx, 0⟩ : Nd) = zr x by rw [zr, if_neg (by omega), if_neg (by omega), if_neg (by omega), if_neg (by omega)]]
          exact x_then (hJ4 () _ _ ⟨by omega, fun h => absurd h (by omega)⟩ sbA sbA hzB)
         ·refine oS (eqF (h := h4)) ?_; refine oA (oZ hK33 ?_); refine cF (c_region ?_)
          by_cases h5 : x.op = 5
          ·refine oS (eqT (h := h5)) ?_; refine oA (oZ hK30 ?_); refine cT (c_skip (x_block ?_))
           rw [show (⟨0, x.set, x.n, x.mn, x.mx, 0⟩ : Nd) = zr x by rw [zr, if_neg (by omega), if_neg (by omega), if_neg (by omega), if_neg (by omega)]]
           exact x_then (hJ4 () _ _ ⟨by omega, fun h => absurd h (by omega)⟩ sbA sbA hzB)
          ·refine oS (eqF (h := h5)) ?_; refine oA (oZ hK30 ?_); refine cF (cR fun _ hK34 => ?_); refine oA (oZ hK34 (c_ret ?_)); refine x_block_ret (x_then_ret (?_))
           exact xR rfl rfl ((congrArg Value.bool (ndOk_op (by omega)).symm))
set_option maxHeartbeats 2000000 in
theorem node_step (f : Nat) (ih : ∀ f1, f = f1 + 1 → NodeC Tryz.prog 94 149 f1) (bx : Nat) (ra : Option Addr) (rc : Nat) (re : List Nd) (i wi gr : Nat) (ea : Option Addr) (ec : Nat) (en : List Bool) (Se : Hp) (hre : ∀ x ∈ re, -128 ≤ x.op ∧ x.op < 128) (hwi : wi + f = 260) (hi : i ≤ re.length) (hel : en.length ≤ 255) (hg : gr ≤ 64) (hO : OwnS Ebo 1 4 (.slice ea en.length ec) en Se) : HL.Fn Tryz.prog 94 [.pointer (some ⟨bx, 0, none⟩), .int .i64 wi, .int .i64 gr] (fun w => Rd En w (.slice ra re.length rc) re ∧ Apart (keys ((bx, .cells [.slice ra re.length rc, .int .i64 i, .slice ea en.length ec].toArray 149 (0, 0)) :: Se)) (.slice ra re.length rc)) ((bx, .cells [.slice ra re.length rc, .int .i64 i, .slice ea en.length ec].toArray 149 (0, 0)) :: Se) (NodeP 149 bx ra rc re (shN re f i en gr)) := by
  refine fn_of Tryz.func94 rfl rfl rfl fun w0 hw => ?_
  have hsl := hw.1.sl
  have hbl := hsl.le
  have hOs := hO.sl
  refine cR fun _ hK1 => ?_; refine oA (oZ hK1 (c_seq fun _ hK2 => ?_)); refine c_seq fun _ hK3 => ?_; refine c_drawE ((bx, .cells [.slice ra re.length rc, .int .i64 i, .slice ea en.length ec].toArray 149 (0, 0)) :: Se) (fun i => false) ?_; refine eK 0 rfl sM ?_; refine eK 1 rfl sN ?_; refine eK 2 rfl sF ?_; refine eK 3 rfl sL ?_; refine eK 4 rfl sM ?_; refine eK 5 rfl sN ?_; refine eK 6 rfl sF ?_; refine eK 7 rfl sL ?_; refine eK 8 rfl sC ?_
  by_cases hend : i = re.length
  ·have hN : shN re f i en gr = none := shN_end (by omega)
   refine eK 9 rfl eqT ?_; refine eK 10 rfl sM ?_; refine eS 11 rfl (eS 12 rfl ?_); refine eK 13 rfl sT ?_; refine eK 14 rfl sM ?_; refine eS 15 rfl (eS 16 rfl (eS 17 rfl (eS 18 rfl (eS 19 rfl (eS 20 rfl (eS 21 rfl (eS 22 rfl (eS 23 rfl (eS 24 rfl (eO 25 rfl ?_)))))))))); refine oN (oX ?_); refine eS 26 rfl ?_; refine eK 27 rfl sT (eZ hK3 ?_); refine cT (cR fun _ hK4 => ?_); refine oA (oZ hK4 ?_)
   refine c_ret ?_; refine x_then_ret (?_); exact xR rfl rfl ((by rw [hN]; rfl))
  ·refine eK 9 rfl eqF ?_; refine eK 10 rfl sM ?_; refine eG 11 rfl sM ?_
   by_cases hf : (wi : Int) > 259
   ·obtain rfl : f = 0 := by omega
    have hN : shN re 0 i en gr = none := rfl
    refine eG 12 rfl gtT ?_; refine eK 13 rfl sP ?_; refine eK 14 rfl sM ?_; refine eS 15 rfl (eS 16 rfl (eS 17 rfl (eS 18 rfl (eS 19 rfl (eS 20 rfl (eS 21 rfl (eS 22 rfl (eS 23 rfl (eS 24 rfl (eO 25 rfl ?_)))))))))); refine oN (oX ?_); refine eS 26 rfl ?_; refine eK 27 rfl sT (eZ hK3 ?_); refine cT (cR fun _ hK5 => ?_); refine oA (oZ hK5 (c_ret ?_)); refine x_then_ret (?_); exact xR rfl rfl ((by rw [hN]; rfl))
   ·obtain ⟨f1, rfl⟩ : ∃ f1, f = f1 + 1 := ⟨f - 1, by omega⟩
    obtain ⟨x, hx⟩ : ∃ x, re[i]? = some x := ⟨_, List.getElem?_eq_getElem (show i < re.length by omega)⟩
    refine eG 12 rfl gtF ?_; refine eK 13 rfl sP ?_; refine eK 14 rfl sM ?_; refine eG 15 rfl sM ?_; refine eG 16 rfl sN ?_; refine eG 17 rfl sF ?_; refine eG 18 rfl sL ?_; refine eG 19 rfl sM ?_; refine eG 20 rfl sN ?_; refine eG 21 rfl sF ?_; refine eG 22 rfl sL ?_; refine eG 23 rfl (s_idx rfl rfl hsl (by omega)) ?_; refine eG 24 rfl (s_ldB rfl ((RdK.old hw.1 hw.2).lds i hx rfl) (by rfl)) ?_; refine eO 25 rfl ?_; refine oY ?_; refine o_callP (ndOk_fn x) rfl rfl rfl (fun _ _ => trivial) (fun v33 hv33 => ?_); subst hv33
    cases hok : ndOk x
    ·have hN : shN re (f1 + 1) i en gr = none := shN_bad hx hok
     refine oX ?_; refine eG 26 rfl (s_not rfl) ?_; refine eK 27 rfl sP (eZ hK3 ?_); refine cT (cR fun _ hK6 => ?_); refine oA (oZ hK6 (c_ret ?_)); refine x_then_ret (?_); exact xR rfl rfl ((by rw [hN]; rfl))
    ·have hk0 := ndOk_kids hok
     refine oX ?_; refine eG 26 rfl (s_not rfl) ?_; refine eK 27 rfl sP (eZ hK3 ?_); refine cFZ hK2 (c_seq fun _ hK7 => ?_); refine c_drawE ((bx, .cells [.slice ra re.length rc, .int .i64 i, .slice ea en.length ec].toArray 149 (0, 0)) :: Se) (fun i => Nat.beq i 11) ?_; refine eK 0 rfl sM ?_; refine eK 1 rfl sN ?_; refine eK 2 rfl sF ?_; refine eK 3 rfl sL ?_; refine eK 4 rfl sM ?_; refine eK 5 rfl sN ?_; refine eK 6 rfl sF ?_; refine eK 7 rfl sL ?_; refine eK 8 rfl (s_idx rfl rfl hsl (by omega)) ?_; refine eK 9 rfl (s_ldB rfl ((RdK.old hw.1 hw.2).lds i hx rfl) (by rfl)) ?_; refine eO 10 rfl ?_; refine o_alloc (l := En zN) (by rw [En_zero]; rfl) rfl fun b7 => ?_; refine oX (eO 11 rfl ?_); refine o_stW rfl rfl upA lnA lnA onA ?_; refine o_nil ?_; refine x_oneL rfl ?_; refine eZ hK7 (cR fun _ hK8 => ?_); refine oM ?_; refine oS sN ?_; refine oS sF ?_; refine oS sL ?_; refine oS sD ?_; refine oS sN ?_; refine oS sF ?_; refine o_store rfl rfl rfl upA ltA rfl ?_
     dsimp only [List.set]
     refine oZ hK8 ?_; refine c_seqJ (ι := (List Bool × Nat × Option Addr × Nat × Hp)) (fun g => gate x en gr = some (g.1, g.2.1) ∧ OwnS Ebo 1 4 (.slice g.2.2.1 g.1.length g.2.2.2.1) g.1 g.2.2.2.2) (fun g => [(2, .int .i64 g.2.1)]) [(0, _), (1, _), (7, _)] (fun g => (bx, .cells [.slice ra re.length rc, .int .i64 (i + 1 : Nat), .slice g.2.2.1 g.1.length g.2.2.2.1].toArray 149 (0, 0)) :: (b7, .cells (En x).toArray 42 (0, 0)) :: g.2.2.2.2) sbA ?_ ?_
     ·rintro ⟨en1, g1, ea1, ec1, Se1⟩ ⟨hgt, hO1⟩
      dsimp only at hgt hO1
      dsimp only
      have hgl := gate_len hgt hel hg
      refine c_seq fun _ hK10 => ?_; refine cR fun _ hK11 => ?_; refine oS sF ?_; refine oS sL (oM (oZ hK11 (c_block ?_))); refine c_loop6 (fun (k : Nat) (i2 : Nat) (en2 : List Bool) (ea2 : Option Addr) (ec2 : Nat) (Se2 : Hp) => (k : Int) ≤ x.kids ∧ kidsN (fun i en => shN re f1 i en g1) k (i + 1) en1 = some (i2, en2) ∧ i + 1 + k ≤ i2 ∧ i2 ≤ re.length ∧ en2.length ≤ 255 ∧ en1.length ≤ en2.length ∧ OwnS Ebo 1 4 (.slice ea2 en2.length ec2) en2 Se2) (fun (k : Nat) (i2 : Nat) (en2 : List Bool) (ea2 : Option Addr) (ec2 : Nat) (Se2 : Hp) => [(114, .int .i64 k)]) [(0, _), (1, _), (2, _), (7, _), (113, _)] (fun (k : Nat) (i2 : Nat) (en2 : List Bool) (ea2 : Option Addr) (ec2 : Nat) (Se2 : Hp) => (bx, .cells [.slice ra re.length rc, .int .i64 i2, .slice ea2 en2.length ec2].toArray 149 (0, 0)) :: (b7, .cells (En x).toArray 42 (0, 0)) :: Se2) (fun (k : Nat) (i2 : Nat) (en2 : List Bool) (ea2 : Option Addr) (ec2 : Nat) (Se2 : Hp) => x.kids.toNat - k) 0 (i + 1) en1 ea1 ec1 Se1 ⟨by omega, rfl, by omega, by omega, hgl.2.1, Nat.le_refl _, hO1⟩ sbA sbA hzB ?_
      rintro k i2 en2 ea2 ec2 Se2 ⟨hk, hkn, hki, hi2, hel2, hel3, hO2⟩
      refine cR fun _ hK12 => ?_
      by_cases hkl : (k : Int) < x.kids
      ·refine oS lsT (oZ hK12 (c_seq fun _ hK13 => ?_)); refine cTZ hK13 (c_seq fun _ hK14 => ?_); refine c_block (cR fun _ hK15 => ?_); refine oM (oM ?_); refine oS sD (oM ?_); refine o_call (ih f1 rfl bx ra rc re i2 (wi + 1) g1 ea2 ec2 en2 Se2 hre (by omega) hi2 hel2 hgl.2.2.1 hO2) rfl rfl rfl ((Pick.takeC pkA pkA)) (fun w st => ⟨(RdK.old hw.1 hw.2).out w st, St.apart_M st (by exact hin_node) hw.1 hw.2 (by decide)⟩) (fun v120 S120 hv120 => ?_)
       rcases hst : shN re f1 i2 en2 g1 with _ | ⟨i3, en3⟩
       ·obtain rfl : v120 = .bool false := by rw [hst] at hv120; exact hv120
        have hN : shN re (f1 + 1) i en gr = none := shN_kids hx hgt (kidsN_none (kidsN_snoc hkn hst) (by omega))
        refine oS (s_not rfl) ?_; refine oZ hK15 ?_; refine cT (cR fun _ hK16 => ?_); refine oA (oZ hK16 (c_ret ?_)); refine x_block_ret (x_then_ret (x_then_ret (x_block_ret (x_then_ret (?_)))))
        exact xR rfl rfl ((by rw [hN]; rfl))
       ·obtain ⟨hu120, ea3, ec3, Se3, rfl, hO3⟩ : v120 = .bool true ∧ ∃ ea3 ec3 Se3, S120 = LookB 149 bx ra rc re i3 ea3 ec3 en3 :: Se3 ∧ OwnS Ebo 1 4 (.slice ea3 en3.length ec3) en3 Se3 := by rw [hst] at hv120; exact hv120
        subst hu120
        unfold LookB
        refine oS (s_not rfl) ?_; refine oZ hK15 ?_; refine cF (c_skip (x_block (xZ hK14 (c_region ?_)))); refine oS sD (oM (o_nil ?_)); exact xI (k + 1, i3, en3, ea3, ec3, Se3) ⟨by omega, kidsN_snoc hkn hst, by have := shN_lt hst; dsimp only; omega, shN_le hst, (shN_len hel2 hgl.2.2.1 hst).2, by have := (shN_len hel2 hgl.2.2.1 hst).1; dsimp only; omega, hO3⟩
      ·obtain rfl : k = x.kids.toNat := by omega
       have hN := shN_some hx hok hgt hkn
       have hO2s := hO2.sl
       refine oS lsF (oZ hK12 (c_seq fun _ hK17 => ?_)); refine cF ?_; refine c_exit ?_; refine x_then_exit (x_then_exit (x_block_exit (xZ hK10 (c_seq fun _ hK18 => ?_)))); refine cR fun _ hK19 => ?_; refine oS sF ?_; refine oS sL ?_
       by_cases k7 : x.op = 7
       ·have hg7 := hgl.2.2.2 k7
        refine oS (eqT (h := k7)) ?_; refine oZ hK19 ?_; refine cT ?_; refine c_drawE ((bx, .cells [.slice ra re.length rc, .int .i64 i2, .slice ea2 en2.length ec2].toArray 149 (0, 0)) :: (b7, .cells (En x).toArray 42 (0, 0)) :: Se2) (fun i => Nat.beq i 8) ?_; refine eK 0 rfl sM ?_; refine eK 1 rfl sN ?_; refine eK 2 rfl sF ?_; refine eK 3 rfl sL ?_; refine eK 4 rfl sF ?_; refine eK 5 rfl sL ?_; refine eK 6 rfl sU ?_; refine eK 7 rfl (s_idx rfl rfl hO2s (by omega)) ?_; refine eO 8 rfl ?_; refine o_stS1 (x.n.toNat - 1) true hO2 pkA rfl rfl rfl (by omega) (by omega) fun S' hS' => ?_; refine o_nil ?_; refine x_oneL rfl ?_; refine eZ hK18 (cR fun _ hK20 => ?_); refine oA (oZ hK20 (c_ret ?_)); refine ?_; refine x_sub (Sub.refl _) (H' := (bx, .cells [.slice ra re.length rc, .int .i64 i2, .slice ea2 en2.length ec2].toArray 149 (0, 0)) :: S') hzB ?_; exact xR rfl rfl ((by rw [hN, if_pos k7]; exact ⟨rfl, ea2, ec2, S', by unfold LookB; rw [List.length_set], by rw [List.length_set]; exact hS'⟩))
       ·refine oS (eqF (h := k7)) ?_; refine oZ hK19 ?_; refine cFZ hK18 (cR fun _ hK21 => ?_); refine oA (oZ hK21 (c_ret ?_)); refine ?_; refine x_sub (Sub.refl _) (H' := (bx, .cells [.slice ra re.length rc, .int .i64 i2, .slice ea2 en2.length ec2].toArray 149 (0, 0)) :: Se2) hzB ?_; exact xR rfl rfl ((by rw [hN, if_neg k7]; exact ⟨rfl, _, _, _, rfl, hO2⟩))
     ·intro _ hJ9
      refine cR fun _ hK22 => ?_; refine oS sF ?_; refine oS sL (oZ hK22 (c_block (cR fun _ hK23 => ?_)))
      by_cases h8 : x.op = 8
      ·refine oS (eqT (h := h8)) ?_; refine oA (oZ hK23 ?_); refine cT (c_seq fun _ hK24 => ?_); refine c_drawE ((bx, .cells [.slice ra re.length rc, .int .i64 (i + 1 : Nat), .slice ea en.length ec].toArray 149 (0, 0)) :: (b7, .cells (En x).toArray 42 (0, 0)) :: Se) (fun i => false) ?_; refine eK 0 rfl sF ?_; refine eK 1 rfl sL ?_
       by_cases hn1 : x.n < 1
       ·have hN : shN re (f1 + 1) i en gr = none := shN_gate hx (gate_no8 h8 (by omega))
        refine eK 2 rfl lsT ?_; refine eK 3 rfl sM ?_; refine eS 4 rfl (eS 5 rfl (eS 6 rfl (eS 7 rfl (eS 8 rfl (eS 9 rfl (eS 10 rfl (eS 11 rfl ?_))))))); refine eK 12 rfl sT ?_; refine eK 13 rfl sM ?_; refine eS 14 rfl (eS 15 rfl (eS 16 rfl (eS 17 rfl (eS 18 rfl (eS 19 rfl (eS 20 rfl (eS 21 rfl (eS 22 rfl (eS 23 rfl ?_))))))))); refine eK 24 rfl sT (eZ hK24 ?_); refine cT (cR fun _ hK25 => ?_); refine oA (oZ hK25 ?_)
        refine c_ret ?_; refine x_block_ret (x_then_ret (?_))
        exact xR rfl rfl ((by rw [hN]; rfl))
       ·refine eK 2 rfl lsF ?_; refine eK 3 rfl sM ?_; refine eG 4 rfl sF ?_; refine eG 5 rfl sL ?_; refine eG 6 rfl sM ?_; refine eG 7 rfl sN ?_; refine eG 8 rfl sF ?_; refine eG 9 rfl sL ?_; refine eG 10 rfl sC ?_
        by_cases hn2 : x.n > en.length
        ·have hN : shN re (f1 + 1) i en gr = none := shN_gate hx (gate_no8 h8 (by omega))
         refine eG 11 rfl gtT ?_; refine eK 12 rfl sP ?_; refine eK 13 rfl sM ?_; refine eS 14 rfl (eS 15 rfl (eS 16 rfl (eS 17 rfl (eS 18 rfl (eS 19 rfl (eS 20 rfl (eS 21 rfl (eS 22 rfl (eS 23 rfl ?_))))))))); refine eK 24 rfl sT (eZ hK24 ?_); refine cT (cR fun _ hK26 => ?_); refine oA (oZ hK26 (c_ret ?_)); refine x_block_ret (x_then_ret (?_))
         exact xR rfl rfl ((by rw [hN]; rfl))
        ·refine eG 11 rfl gtF ?_; refine eK 12 rfl sP ?_; refine eK 13 rfl sM ?_; refine eG 14 rfl sM ?_; refine eG 15 rfl sN ?_; refine eG 16 rfl sF ?_; refine eG 17 rfl sL ?_; refine eG 18 rfl sF ?_; refine eG 19 rfl sL ?_; refine eG 20 rfl sU ?_; refine eG 21 rfl (s_idx rfl rfl hOs (by omega)) ?_
         by_cases hb : en[x.n.toNat - 1]? = some true
         ·refine eG 22 rfl (s_ld rfl ((hO.rdk hiA).ld (x.n.toNat - 1) 0 hb rfl (by decide) (by omega))) ?_; refine eG 23 rfl (s_not rfl) ?_; refine eK 24 rfl sP (eZ hK24 ?_); refine cF (c_skip (x_block ?_)); exact x_then (hJ9 (en, gr, ea, ec, Se) _ _ ⟨gate_ref h8 (by omega) (by omega) hb, hO⟩ sbA sbA hzB)
         ·have hN : shN re (f1 + 1) i en gr = none := shN_gate hx (gate_no8 h8 (fun h => hb h.2.2))
          have hb2 := get_false hb (by omega)
          refine eG 22 rfl (s_ld rfl ((hO.rdk hiA).ld (x.n.toNat - 1) 0 hb2 rfl (by decide) (by omega))) ?_; refine eG 23 rfl (s_not rfl) ?_; refine eK 24 rfl sP (eZ hK24 ?_); refine cT (cR fun _ hK27 => ?_); refine oA (oZ hK27 (c_ret ?_)); refine x_block_ret (x_then_ret (?_))
          exact xR rfl rfl ((by rw [hN]; rfl))
      ·refine oS (eqF (h := h8)) ?_; refine oA (oZ hK23 ?_); refine cF (cR fun _ hK28 => ?_)
       by_cases h7 : x.op = 7
       ·refine oS (eqT (h := h7)) ?_; refine oA (oZ hK28 ?_); refine cT (cR fun _ hK29 => ?_); refine oM (oM ?_); refine oS sN ?_; refine oS sF ?_; refine oS sL ?_; refine o_bs (E := Ebo) (xs := [false]) (vs := [_]) rfl rfl rfl rfl rfl (by decide) (by decide) fun b89 S89 hS89 => ?_; refine o_app hO (hS89.rdk hiA) rfl rfl rfl rfl (by simp only [List.length_singleton]; omega) (by simp only [List.length_singleton]; omega) rfl pkA fun a90 c90 S90 hS90 => ?_; refine oS sN ?_; refine oS sF ?_; refine o_store rfl rfl rfl upA ltA rfl ?_
        dsimp only [List.set]
        refine oZ hK29 (c_seq fun _ hK30 => ?_); refine c_seq fun _ hK31 => ?_; refine c_drawE ((bx, .cells [.slice ra re.length rc, .int .i64 (i + 1 : Nat), .slice a90 (en ++ [false]).length c90].toArray 149 (0, 0)) :: (b7, .cells (En x).toArray 42 (0, 0)) :: S90) (fun i => false) ?_; refine eK 0 rfl sF ?_; refine eK 1 rfl sL ?_; refine eK 2 rfl sM ?_; refine eK 3 rfl sN ?_; refine eK 4 rfl sF ?_; refine eK 5 rfl sL ?_; refine eK 6 rfl sC ?_
        by_cases hn1 : x.n ≠ en.length + 1
        ·have hN : shN re (f1 + 1) i en gr = none := shN_gate hx (gate_no7 h7 (by omega))
         refine eK 7 rfl (step_cast (v' := .bool true) (s_neq rfl rfl) (by rw [decide_eq_true (by simp; omega)])) ?_; refine eK 8 rfl sM ?_; refine eS 9 rfl (eS 10 rfl (eS 11 rfl ?_)); refine eK 12 rfl sT ?_; refine eK 13 rfl sM ?_; refine eS 14 rfl (eS 15 rfl ?_); refine eK 16 rfl sT (eZ hK31 ?_); refine cT (cR fun _ hK32 => ?_); refine oA (oZ hK32 (c_ret ?_)); refine x_then_ret (x_block_ret (x_then_ret (?_)))
         exact xR rfl rfl ((by rw [hN]; rfl))
        ·refine eK 7 rfl (step_cast (v' := .bool false) (s_neq rfl rfl) (by rw [decide_eq_false (by simp; omega)])) ?_; refine eK 8 rfl sM ?_; refine eG 9 rfl sF ?_; refine eG 10 rfl sL ?_
         by_cases hn2 : x.n > 255
         ·have hN : shN re (f1 + 1) i en gr = none := shN_gate hx (gate_no7 h7 (by omega))
          refine eG 11 rfl gtT ?_; refine eK 12 rfl sP ?_; refine eK 13 rfl sM ?_; refine eS 14 rfl (eS 15 rfl ?_); refine eK 16 rfl sT (eZ hK31 ?_); refine cT (cR fun _ hK33 => ?_); refine oA (oZ hK33 (c_ret ?_)); refine x_then_ret (x_block_ret (x_then_ret (?_)))
          exact xR rfl rfl ((by rw [hN]; rfl))
         ·refine eG 11 rfl gtF ?_; refine eK 12 rfl sP ?_; refine eK 13 rfl sM ?_; refine eG 14 rfl sM ?_
          by_cases hn3 : gr = 64
          ·have hN : shN re (f1 + 1) i en gr = none := shN_gate hx (gate_no7 h7 (by omega))
           refine eG 15 rfl eqT ?_; refine eK 16 rfl sP (eZ hK31 ?_); refine cT (cR fun _ hK34 => ?_); refine oA (oZ hK34 (c_ret ?_)); refine x_then_ret (x_block_ret (x_then_ret (?_)))
           exact xR rfl rfl ((by rw [hN]; rfl))
          ·refine eG 15 rfl eqF ?_; refine eK 16 rfl sP (eZ hK31 ?_); refine cFZ hK30 (c_region (oM ?_)); refine oS sD (oA (o_nil (x_block ?_))); exact x_then (hJ9 (en ++ [false], gr + 1, a90, c90, S90) _ _ ⟨gate_grp h7 ⟨by omega, by omega, by omega⟩, hS90⟩ sbA sbA hzB)
       ·refine oS (eqF (h := h7)) ?_; refine oA (oZ hK28 ?_); refine cF (c_skip (x_block ?_)); exact x_then (hJ9 (en, gr, ea, ec, Se) _ _ ⟨gate_other h8 h7, hO⟩ sbA sbA hzB)
theorem node_fn : ∀ f, NodeC Tryz.prog 94 149 f := by
  intro f
  induction f with
  | zero => exact fun bx ra rc re i wi g ea ec en Se h1 h2 h3 h4 h5 h6 => node_step 0 (fun f1 h => by omega) bx ra rc re i wi g ea ec en Se h1 h2 h3 h4 h5 h6
  | succ f ih => exact fun bx ra rc re i wi g ea ec en Se h1 h2 h3 h4 h5 h6 => node_step (f + 1) (fun f1 h => (Nat.succ.inj h) ▸ ih) bx ra rc re i wi g ea ec en Se h1 h2 h3 h4 h5 h6
set_option maxHeartbeats 1000000 in
theorem weigh_step (x : Nd) (ks : F) (ih : ∀ y ks1, ks1.size < ks.size → WeighC Tryz.prog 95 y ks1) (ra : Option Addr) (rc : Nat) (re : List Nd) (i i1 : Nat) (hre : ∀ x ∈ re, -128 ≤ x.op ∧ x.op < 128) (hp : Part re (.nd x ks .nil) i i1) : HL.Fn Tryz.prog 95 [.slice ra re.length rc, .int .i64 i] (fun w => Rd En w (.slice ra re.length rc) re) [] (fun v _ => v = .tuple #[.int .i64 (cut (F.nd x ks .nil).weight), .int .i64 i1]) := by
  refine fn_of Tryz.func95 rfl rfl rfl fun w0 hw => ?_
  have hsl := hw.sl
  have hbl := hsl.le
  obtain ⟨hx, hpk, hpn⟩ := hp.head
  have hii : i1 = i + 1 + ks.size := by simpa [F.size] using hpn.len
  have hile := hp.le
  have hok : ndOk x = true := hp.wf.1
  have hk0 := ndOk_kids hok
  have hkn : (ks.num : Int) = x.kids := hp.wf.2.1
  have hop := hre x (List.mem_of_getElem? hx)
  have hilt : i < re.length := (List.getElem?_eq_some_iff.1 hx).1
  have htl := times_le hok
  have htp := times_pos x
  have hns := F.num_le ks
  have hpkl := hpk.le
  rw [← hii] at hpk
  refine cR fun _ hK1 => ?_; refine oA (oA (oZ hK1 (cR fun _ hK2 => ?_))); refine oM (oM ?_); refine oS (s_idx rfl rfl hsl (by omega)) ?_; refine oS (s_ldB rfl ((RdK.old0 hw).lds i hx rfl) (by rfl)) ?_; refine o_alloc (l := En zN) (by rw [En_zero]; rfl) rfl fun b6 => ?_; refine o_stW rfl rfl upA lnA lnA onA ?_; refine oZ hK2 (cR fun _ hK3 => ?_); refine oM ?_; refine oS sD (oA (oA (oZ hK3 (c_seq fun _ hK4 => ?_)))); refine cR fun _ hK5 => ?_; refine oS sF ?_; refine oS sL (oM (oZ hK5 (c_block ?_))); refine c_loop4 (fun (k : Nat) (to : Nat) (dw : Nat) (r : F) => k + r.num = ks.num ∧ Part re r to i1 ∧ dw + r.weight = ks.weight ∧ r.size ≤ ks.size) (fun (k : Nat) (to : Nat) (dw : Nat) (r : F) => [(19, .int .i64 k), (7, .int .i64 (cut dw)), (8, .int .i64 to)]) [(0, _), (4, _), (5, _), (6, _), (18, _)] (fun (k : Nat) (to : Nat) (dw : Nat) (r : F) => [(b6, .cells (En x).toArray 42 (0, 0))]) (fun (k : Nat) (to : Nat) (dw : Nat) (r : F) => ks.num - k) 0 (i + 1) 0 ks ⟨by omega, hpk, by omega, Nat.le_refl _⟩ sbA sbA hzB ?_
  rintro k to dw r ⟨hkr, hpr, hdw, hrs⟩
  have hcl := cut_le dw
  refine cR fun _ hK6 => ?_
  by_cases hkl : (k : Int) < x.kids
  ·obtain ⟨y, ks1, r1, rfl⟩ : ∃ y ks1 r1, r = F.nd y ks1 r1 := by cases r with | nil => simp [F.num] at hkr; omega | nd y a b => exact ⟨y, a, b, rfl⟩
   obtain ⟨hy, hpy, hpt⟩ := hpr.head
   have hpy1 : Part re (.nd y ks1 .nil) to (to + 1 + ks1.size) := hpr.one
   have hrs2 : ks1.size < ks.size := by simp only [F.size] at hrs; omega
   have hcy := cut_le (F.nd y ks1 .nil).weight
   have hpyl := hpy1.le
   refine oS lsT (oZ hK6 (c_seq fun _ hK7 => ?_)); refine cTZ hK7 (c_seq fun _ hK8 => ?_); refine c_block (cR fun _ hK9 => ?_); refine oM (oM ?_); refine o_callP (ih y ks1 hrs2 ra rc re to (to + 1 + ks1.size) hre hpy1) rfl rfl rfl (fun w st => (RdK.old0 hw).out w st) (fun v24 hv24 => ?_); subst hv24
   refine oM ?_; refine oS sE ?_; refine oS sE (oA (oA (oZ hK9 (c_region (oM (oM ?_)))))); refine oS sD ?_; refine oS (step_cast (v' := .int .i64 (cut (dw + (F.nd y ks1 .nil).weight))) (s_min rfl rfl) (by rw [← cut_add]; unfold cut; congr 1; omega)) ?_; refine oM (oA (oA (o_nil (x_block (xZ hK8 (c_region ?_)))))); refine oS sD (oM (o_nil ?_)); exact xI (k + 1, to + 1 + ks1.size, dw + (F.nd y ks1 .nil).weight, r1) ⟨by simp only [F.num] at hkr; dsimp only; omega, hpt, by simp only [F.weight] at hdw ⊢; omega, by simp only [F.size] at hrs; dsimp only; omega⟩
  ·obtain rfl : r = F.nil := by cases r with | nil => rfl | nd y a b => simp only [F.num] at hkr; omega
   have hto : to = i1 := by have := hpr.len; simp [F.size] at this; omega
   obtain rfl : dw = ks.weight := by simpa [F.weight] using hdw
   subst hto; refine oS lsF (oZ hK6 (c_seq fun _ hK10 => ?_)); refine cF ?_; refine c_exit ?_; refine x_then_exit (x_then_exit (x_block_exit (xZ hK4 (c_seq fun _ hK11 => ?_)))); refine cR fun _ hK12 => ?_; refine oS sF ?_; refine oS sL ?_
   by_cases h6 : x.op = 6
   ·have hrf := rep_flds hok h6
    refine oS (eqT (h := h6)) ?_; refine oZ hK12 ?_; refine cT (cR fun _ hK13 => ?_); refine oS sF ?_; refine oS sL ?_
    by_cases hmx : x.mx < 0
    ·have ht1 : (times x : Int) = x.mn + 1 := by rw [times, if_pos h6, if_pos hmx]; omega
     have hclw := cut_le ks.weight
     have hm1 : (cut ks.weight : Int) * times x ≤ 4194560 := mul_leZ hclw htl
     have hm0 : 0 ≤ (cut ks.weight : Int) * times x := mul_0Z _ _
     have hfin := cut_fin (t := times x) (a := ks.weight) htp
     rw [ht1] at hfin hm1 hm0
     refine oS lsT (oZ hK13 ?_); refine cT (c_region (oM ?_)); refine oS sF ?_; refine oS sL ?_; refine oS sD ?_; refine oS (s_mul rfl rfl (by omega)) ?_; refine oA (oZ hK11 (cR fun _ hK14 => ?_)); refine oM ?_; refine oS sD ?_; refine oS (step_cast (v' := .int .i64 (cut (1 + times x * ks.weight) : Nat)) (s_min rfl rfl) (congrArg (Value.int .i64) hfin)) ?_; refine oM (oA (oA (oZ hK14 (c_ret ?_)))); refine ?_; exact x_ret rfl (.tmp rfl (.tmp rfl (.nil))) ((by rw [weight_one]; rfl))
    ·have ht1 : (times x : Int) = max x.mx 1 := by rw [times, if_pos h6, if_neg hmx]; omega
     have hclw := cut_le ks.weight
     have hm1 : (cut ks.weight : Int) * times x ≤ 4194560 := mul_leZ hclw htl
     have hm0 : 0 ≤ (cut ks.weight : Int) * times x := mul_0Z _ _
     have hfin := cut_fin (t := times x) (a := ks.weight) htp
     rw [ht1] at hfin hm1 hm0
     refine oS lsF (oZ hK13 ?_); refine cF (c_region (oM ?_)); refine oS sF ?_; refine oS sL ?_; refine oS (s_max rfl rfl) ?_; refine oS (s_mul rfl rfl (by omega)) ?_; refine oA (oZ hK11 (cR fun _ hK15 => ?_)); refine oM ?_; refine oS sD ?_; refine oS (step_cast (v' := .int .i64 (cut (1 + times x * ks.weight) : Nat)) (s_min rfl rfl) (congrArg (Value.int .i64) hfin)) ?_; refine oM (oA (oA (oZ hK15 (c_ret ?_)))); refine ?_; exact x_ret rfl (.tmp rfl (.tmp rfl (.nil))) ((by rw [weight_one]; rfl))
   ·have ht1 : (times x : Int) = 1 := by rw [times, if_neg h6]; rfl
    have hclw := cut_le ks.weight
    have hm1 : (cut ks.weight : Int) * times x ≤ 4194560 := mul_leZ hclw htl
    have hm0 : 0 ≤ (cut ks.weight : Int) * times x := mul_0Z _ _
    have hfin := cut_fin (t := times x) (a := ks.weight) htp
    rw [ht1] at hfin hm1 hm0
    rw [Int.mul_one] at hfin
    refine oS (eqF (h := h6)) ?_; refine oZ hK12 ?_; refine cFZ hK11 (cR fun _ hK16 => ?_); refine oM ?_; refine oS sD ?_; refine oS (step_cast (v' := .int .i64 (cut (1 + times x * ks.weight) : Nat)) (s_min rfl rfl) (congrArg (Value.int .i64) hfin)) ?_; refine oM (oA (oA (oZ hK16 (c_ret ?_)))); refine ?_; exact x_ret rfl (.tmp rfl (.tmp rfl (.nil))) ((by rw [weight_one]; rfl))
theorem weigh_fn : ∀ (n : Nat) (x : Nd) (ks : F), ks.size < n → WeighC Tryz.prog 95 x ks := by
  intro n
  induction n with
  | zero => intro x ks h; omega
  | succ n ih => exact fun x ks h ra rc re i i1 h1 h2 => weigh_step x ks (fun y ks1 hs => ih y ks1 (by omega)) ra rc re i i1 h1 h2
theorem shaped_fn (ra : Option Addr) (rc : Nat) (re : List Nd) (hre : ∀ x ∈ re, -128 ≤ x.op ∧ x.op < 128) : HL.Fn Tryz.prog 36 [.slice ra re.length rc] (fun w => Rd En w (.slice ra re.length rc) re) [] (fun v _ => v = .bool (shapedB re)) := by
  refine fn_of Tryz.func36 rfl rfl rfl fun w0 hw => ?_
  have hsl := hw.sl
  have hbl := hsl.le
  refine cR fun _ hK1 => ?_; refine oA (oZ hK1 (cR fun _ hK2 => ?_)); refine oM ?_; refine oS (s_build (cs := [_, _, _]) (vs := [_]) rfl rfl (.cons rfl rfl rfl rfl rfl (.nil))) ?_; refine o_box rfl rfl rfl fun b8 => ?_; refine oA (oZ hK2 (c_seq fun _ hK3 => ?_)); refine cR fun _ hK4 => ?_; refine oM ?_; refine o_call (node_fn 260 b8 ra rc re 0 0 0 none 0 [] [] hre rfl (Nat.zero_le _) (by decide) (by decide) .nil) rfl rfl rfl (by exact .one) (fun w st => ⟨(RdK.old0 hw).out w st, St.apart_M st (by exact HIn.one) hw (Apart.nil) (by decide)⟩) (fun v10 S10 hv10 => ?_)
  rcases hst : shN re 260 0 [] 0 with _ | ⟨j, enx⟩
  ·obtain rfl : v10 = .bool false := by rw [hst] at hv10; exact hv10
   have hN := shp_none hst
   refine oS (s_not rfl) ?_; refine oM ?_; refine oN ?_; refine oN ?_; refine oN ?_; refine oN ?_; refine oN ?_; refine oN ?_; refine oN ?_; refine oS sT (oZ hK4 ?_); refine cT (cR fun _ hK5 => ?_); refine oA (oZ hK5 (c_ret ?_)); refine x_then_ret (?_); exact xR rfl rfl ((congrArg Value.bool hN.symm))
  ·obtain ⟨hu10, ea3, ec3, Se3, rfl, hO3⟩ : v10 = .bool true ∧ ∃ ea3 ec3 Se3, S10 = LookB 149 b8 ra rc re j ea3 ec3 enx :: Se3 ∧ OwnS Ebo 1 4 (.slice ea3 enx.length ec3) enx Se3 := by rw [hst] at hv10; exact hv10
   subst hu10
   unfold LookB
   refine oS (s_not rfl) ?_; refine oM ?_; refine oY (oM ?_); refine oY ?_; refine oS sN ?_; refine oY ?_; refine oS sF ?_; refine oY ?_; refine oS sL ?_; refine oY (oM ?_); refine oY ?_; refine oS sC ?_; refine oY ?_
   by_cases hj : j ≠ re.length
   ·have hN := shp_end hst hj
    refine oS nqT ?_; refine oS sP (oZ hK4 ?_); refine cT (cR fun _ hK6 => ?_); refine oA (oZ hK6 (c_ret ?_)); refine x_then_ret (?_); exact xR rfl rfl ((congrArg Value.bool hN.symm))
   ·obtain rfl : j = re.length := Decidable.not_not.1 hj
    obtain ⟨x, ks, hpt, hdp, hshp⟩ := shp_tree hst
    refine oS nqF ?_; refine oS sP (oZ hK4 ?_); refine cFZ hK3 (cR fun _ hK7 => ?_); refine oM ?_; refine o_callP (weigh_fn (ks.size + 1) x ks (by omega) ra rc re 0 re.length hre hpt) rfl rfl rfl (fun w st => (RdK.old0 hw).out w st) (fun v23 hv23 => ?_); subst hv23
    refine oM ?_; refine oS sE ?_; refine oS sE (oA (oA (oZ hK7 (cR fun _ hK8 => ?_)))); refine oM ?_; refine oS (s_leq rfl rfl) ?_; refine oA (oZ hK8 (c_ret ?_)); refine ?_; exact xR rfl rfl ((congrArg Value.bool (by rw [hshp]; exact decide_eq_decide.2 (by omega))))
theorem refs_fn (ra : Option Addr) (rc : Nat) (re : List Nd) (hre : ∀ x ∈ re, -128 ≤ x.op ∧ x.op < 128) : HL.Fn Tryz.prog 37 [.slice ra re.length rc] (fun w => Rd En w (.slice ra re.length rc) re) [] (fun v _ => v = .bool (refsB re)) := by
  refine fn_of Tryz.func37 rfl rfl rfl fun w0 hw => ?_
  have hsl := hw.sl
  have hbl := hsl.le
  refine cR fun _ hK1 => ?_; refine oA (oZ hK1 (c_seq fun _ hK2 => ?_)); refine cR fun _ hK3 => ?_; refine oM ?_; refine o_callP (shaped_fn ra rc re hre) rfl rfl rfl (fun w st => (RdK.old0 hw).out w st) (fun v6 hv6 => ?_); subst hv6
  cases hs : shapedB re
  ·refine oZ hK3 ?_; refine cFZ hK2 (cR fun _ hK4 => ?_); refine oA (oZ hK4 (c_ret ?_)); refine ?_; exact xR rfl rfl ((congrArg Value.bool (refs_shp hs).symm))
  ·refine oZ hK3 ?_; refine cT (cR fun _ hK5 => ?_); refine oM ?_; refine oS sC (oM (oZ hK5 (c_block ?_)))
   -- not carried: 2
   refine c_loopB (fun (j : Nat) => j ≤ re.length ∧ ∀ q (x : Nd), q < j → re[q]? = some x → ¬ x.op = 8) (fun (j : Nat) => [(9, .int .i64 j)]) [(7, _), (8, _)] (fun (j : Nat) => []) (fun (j : Nat) => re.length - j) 0 ⟨by omega, fun q x h => by omega⟩ sbA sbA hzB ?_
   rintro j ⟨hj, hjn⟩
   refine cR fun _ hK6 => ?_
   by_cases hjl : j < re.length
   ·obtain ⟨x, hx⟩ : ∃ x, re[j]? = some x := ⟨_, List.getElem?_eq_getElem hjl⟩
    refine oS lsT (oZ hK6 (c_seq fun _ hK7 => ?_)); refine cTZ hK7 (c_seq fun _ hK8 => ?_); refine c_block (cR fun _ hK9 => ?_); refine oS (s_idx rfl rfl hsl (by omega)) ?_; refine oS (s_ldB rfl ((RdK.old0 hw).lds j hx rfl) (by rfl)) ?_; refine o_alloc (l := En zN) (by rw [En_zero]; rfl) rfl fun b4 => ?_; refine o_stW rfl rfl upA lnA lnA onA ?_; refine oZ hK9 (cR fun _ hK10 => ?_); refine oS sF ?_; refine oS sL ?_
    by_cases h8 : x.op = 8
    ·refine oS (eqT (h := h8)) ?_; refine oZ hK10 ?_; refine cT (cR fun _ hK11 => ?_); refine oA (oZ hK11 (c_ret ?_)); refine x_block_ret (x_then_ret (x_then_ret (x_block_ret (x_then_ret (?_)))))
     exact xR rfl rfl ((congrArg Value.bool (refs_yes hs (List.mem_of_getElem? hx) h8).symm))
    ·refine oS (eqF (h := h8)) ?_; refine oZ hK10 ?_; refine cF (c_skip (x_block (xZ hK8 (c_region ?_)))); refine oS sD (oM (o_nil ?_)); exact xI (j + 1) ⟨by omega, refs_step hjn hx h8⟩
   ·obtain rfl : j = re.length := by omega
    refine oS lsF (oZ hK6 (c_seq fun _ hK12 => ?_)); refine cF ?_; refine c_exit ?_; refine x_then_exit (x_then_exit (x_block_exit (xZ hK2 (cR fun _ hK13 => ?_)))); refine oA (oZ hK13 (c_ret ?_)); refine ?_; exact xR rfl rfl ((congrArg Value.bool (refs_no hjn).symm))
end Go.Proofs.YtmompllplidphaaGreatDoor
