/- Part of the proofs over this seat: see the text that holds the theorem. Conditions: each theorem bears its own. -/
import Derived.Test.YtopmnmigpbdddaaGreatDoorHTZ
import Derived.Test.YtopmnmigpbdddaaGreatDoorMT3Z
import Derived.Test.YtopmnmigpbdddaaGreatDoorBS7Z
import Derived.Test.YtopmnmigpbdddaaGreatDoorHlB
import Derived.Test.YtopmnmigpbdddaaGreatDoorMK6Z
namespace Go.HL.Kl.Mc
open Go Go.HL Go.HL.Kl
def zN : Nd := ⟨0, 0, 0, 0, 0, 0⟩
theorem En_zero : En zN = [.int .i8 0, .int .u64 0, .int .u64 0, .int .u64 0, .int .u64 0, .int .i64 0, .int .i64 0, .int .i64 0, .int .i64 0] := by
  show _ :: (Ec 0#256 ++ _) = _
  rw [Ec_zero]; rfl
def zr (x : Nd) : Nd := ⟨0, if x.op = 1 then 0 else x.set, if x.op = 7 ∨ x.op = 8 then 0 else x.n, if x.op = 6 then 0 else x.mn, if x.op = 6 then 0 else x.mx, 0⟩
theorem zr_iff {x : Nd} : zr x = zN ↔ (x.op = 1 ∨ x.set = 0) ∧ (x.op = 7 ∨ x.op = 8 ∨ x.n = 0) ∧ (x.op = 6 ∨ x.mn = 0 ∧ x.mx = 0) := by
  simp only [zr, zN, Nd.mk.injEq, true_and, and_true]
  by_cases h1 : x.op = 1
  · simp [h1]
  by_cases h6 : x.op = 6
  · simp [h6]
  by_cases h7 : x.op = 7
  · simp [h7]
  by_cases h8 : x.op = 8
  · simp [h8]
  · simp [h1, h6, h7, h8]
theorem ndOk_zr {x : Nd} (h : zr x ≠ zN) : ndOk x = false := by
  cases hb : ndOk x
  · rfl
  exfalso
  apply h
  rw [zr_iff]
  simp only [ndOk, flds, Bool.and_eq_true, Bool.or_eq_true, decide_eq_true_eq] at hb
  obtain ⟨⟨⟨⟨_, h1⟩, h2⟩, h3⟩, _⟩ := hb
  refine ⟨h1, by rcases h2 with h2 | h2 <;> omega, ?_⟩
  by_cases h6 : x.op = 6
  · exact .inl h6
  · rw [if_neg h6] at h3; simp at h3; exact .inr h3
theorem ndOk_kidsOk {x : Nd} (h1 : 1 ≤ x.op ∧ x.op ≤ 8) (h2 : x.op = 6 → 0 ≤ x.mn ∧ x.mn ≤ 255 ∧ (x.mx = -1 ∨ x.mn ≤ x.mx ∧ x.mx ≤ 255)) (hz : zr x = zN) : ndOk x = kidsOk x := by
  rw [zr_iff] at hz
  obtain ⟨a, b, c⟩ := hz
  have : flds x = true := by
    simp only [flds, Bool.and_eq_true, Bool.or_eq_true, decide_eq_true_eq]
    refine ⟨⟨⟨h1, a⟩, by omega⟩, ?_⟩
    by_cases h6 : x.op = 6
    · rw [if_pos h6]; simpa using h2 h6
    · rw [if_neg h6]; simp; omega
  rw [ndOk, this, Bool.true_and]
theorem ndOk_rep {x : Nd} (h6 : x.op = 6) (h : ¬ (0 ≤ x.mn ∧ x.mn ≤ 255 ∧ (x.mx = -1 ∨ x.mn ≤ x.mx ∧ x.mx ≤ 255))) : ndOk x = false := by
  cases hb : ndOk x
  · rfl
  · exact absurd (rep_flds hb h6) h
theorem ndOk_op {x : Nd} (h : ¬ (1 ≤ x.op ∧ x.op ≤ 8)) : ndOk x = false := by
  rw [ndOk, flds, decide_eq_false h]; simp
end Go.HL.Kl.Mc
namespace Go.Proofs.YtopmnmigpbdddaaGreatDoor
open Go Go.HL Go.Proofs Go.HL.Kl Go.HL.Kl.Mc
set_option maxHeartbeats 1000000 in
theorem ndOk_fn (x : Nd) : HL.Fn Tryz.prog 139 [.agg (En x).toArray] (fun _ => True) [] (fun v _ => v = .bool (ndOk x)) := by
  refine fn_of Tryz.func139 rfl rfl rfl fun w0 hw => ?_; refine cR fun _ hK1 => ?_; refine o_box rfl rfl rfl fun b1 => ?_; refine oA (oZ hK1 (cR fun _ hK2 => ?_)); refine oS (s_ldB rfl (RdPK.cels (.own meA)) lnA) ?_; refine o_alloc (l := En zN) (by rw [En_zero]; rfl) rfl fun b3 => ?_; refine o_stW rfl rfl upA lnA lnA onA ?_; refine oZ hK2 (cR fun _ hK3 => ?_); refine oS sF ?_; refine o_store rfl rfl rfl upA ltA rfl ?_
  rw [show (En x).set 0 (.int .i8 0) = En (⟨0, x.set, x.n, x.mn, x.mx, x.kids⟩ : Nd) from rfl]
  refine oS sF ?_; refine o_store rfl rfl rfl upA ltA rfl ?_
  rw [show (En (⟨0, x.set, x.n, x.mn, x.mx, x.kids⟩ : Nd)).set 8 (.int .i64 0) = En (⟨0, x.set, x.n, x.mn, x.mx, 0⟩ : Nd) from rfl]
  refine oZ hK3 ?_; refine c_seqJ (ι := Unit) (fun g => (1 ≤ x.op ∧ x.op ≤ 8) ∧ (x.op = 6 → 0 ≤ x.mn ∧ x.mn ≤ 255 ∧ (x.mx = -1 ∨ x.mn ≤ x.mx ∧ x.mx ≤ 255))) (fun g => []) [(1, _), (3, _)] (fun g => [(b3, .cells (En (zr x)).toArray 108 (0, 0)), (b1, .cells (En x).toArray 108 (0, 0))]) sbA ?_ ?_
  ·rintro g hI
   refine c_seq fun _ hK5 => ?_; refine cR fun _ hK6 => ?_; refine oS (s_ldB rfl (RdPK.cels (.own meA)) lnA) ?_; refine oS (step_cast (v' := .agg (En zN).toArray) (s_build (cs := [_, _, _, _, _, _, _, _, _]) (vs := []) rfl rfl .nil) (by rw [En_zero])) ?_
   by_cases hz : zr x ≠ zN
   ·refine oS (step_cast (v' := .bool true) (s_neq_nd rfl rfl) (by rw [decide_eq_false hz]; rfl)) ?_; refine oZ hK6 ?_; refine cT (cR fun _ hK7 => ?_); refine oA (oZ hK7 (c_ret ?_)); refine x_then_ret (?_); exact xR rfl rfl ((congrArg Value.bool (ndOk_zr hz).symm))
   ·have hk := ndOk_kidsOk hI.1 hI.2 (Decidable.not_not.1 hz)
    unfold kidsOk at hk
    refine oS (step_cast (v' := .bool false) (s_neq_nd rfl rfl) (by rw [decide_eq_true (Decidable.not_not.1 hz)]; rfl)) ?_; refine oZ hK6 ?_; refine cFZ hK5 (c_seq fun _ hK8 => ?_); refine cR fun _ hK9 => ?_; refine oS sF ?_; refine oS sL (oZ hK9 (c_block (c_seq fun _ hK10 => ?_))); refine cR fun _ hK11 => ?_
    by_cases k6 : x.op = 6
    ·refine oS (eqT (h := k6)) ?_; refine oA (oZ hK11 ?_); refine cTZ hK10 ?_; refine cT (cR fun _ hK12 => ?_); refine oS sF ?_; refine oS sL ?_; refine oS (s_eql rfl rfl) ?_; refine oA (oZ hK12 (c_ret ?_)); refine x_block_ret (x_then_ret (?_))
     exact xR rfl rfl ((congrArg Value.bool (by rw [hk, if_pos (.inl k6)])))
    ·refine oS (eqF (h := k6)) ?_; refine oA (oZ hK11 ?_); refine cF (c_region ?_)
     by_cases k7 : x.op = 7
     ·refine oS (eqT (h := k7)) ?_; refine oA (oZ hK10 ?_); refine cT (cR fun _ hK13 => ?_); refine oS sF ?_; refine oS sL ?_; refine oS (s_eql rfl rfl) ?_; refine oA (oZ hK13 (c_ret ?_)); refine x_block_ret (x_then_ret (?_))
      exact xR rfl rfl ((congrArg Value.bool (by rw [hk, if_pos (.inr k7)])))
     ·refine oS (eqF (h := k7)) ?_; refine oA (oZ hK10 ?_); refine cF (cR fun _ hK14 => ?_)
      by_cases k5 : x.op = 5
      ·refine oS (eqT (h := k5)) ?_; refine oA (oZ hK14 ?_); refine cT (cR fun _ hK15 => ?_); refine oS sF ?_; refine oS sL ?_; refine oS (s_geq rfl rfl) ?_; refine oA (oZ hK15 (c_ret ?_)); refine x_block_ret (x_then_ret (?_))
       exact xR rfl rfl ((congrArg Value.bool (by rw [hk, if_neg (by omega), if_neg (by omega), if_pos k5])))
      ·refine oS (eqF (h := k5)) ?_; refine oA (oZ hK14 ?_); refine cF (cR fun _ hK16 => ?_)
       by_cases k4 : x.op = 4
       ·refine oS (eqT (h := k4)) ?_; refine oA (oZ hK16 ?_); refine cT (cR fun _ hK17 => ?_); refine oS sF ?_; refine oS sL ?_
        by_cases k0 : x.kids = 0
        ·refine oS eqT (oM ?_); refine oN ?_; refine oN ?_; refine oN ?_; refine oS sT (oA (oZ hK17 (c_ret ?_))); refine x_block_ret (x_then_ret (?_))
         exact xR rfl rfl ((congrArg Value.bool (by rw [hk, if_neg (by omega), if_pos k4, decide_eq_true (by omega)])))
        ·refine oS eqF (oM ?_); refine oY ?_; refine oS sF ?_; refine oY ?_; refine oS sL ?_; refine oY ?_; refine oS (s_geq rfl rfl) ?_; refine oS sP (oA (oZ hK17 (c_ret ?_))); refine x_block_ret (x_then_ret (?_))
         exact xR rfl rfl ((congrArg Value.bool (by rw [hk, if_neg (by omega), if_pos k4]; exact decide_eq_decide.2 (by omega))))
       ·refine oS (eqF (h := k4)) ?_; refine oA (oZ hK16 ?_); refine cF (c_skip (x_block (xZ hK8 (cR fun _ hK18 => ?_)))); refine oS sF ?_; refine oS sL ?_; refine oS (s_eql rfl rfl) ?_; refine oA (oZ hK18 (c_ret ?_)); refine ?_; exact xR rfl rfl ((congrArg Value.bool (by rw [hk, if_neg (by omega), if_neg (by omega), if_neg (by omega)])))
  ·intro _ hJ4
   refine cR fun _ hK19 => ?_; refine oS sF ?_; refine oS sL (oZ hK19 (c_block (cR fun _ hK20 => ?_)))
   by_cases h1 : x.op = 1
   ·refine oS (eqT (h := h1)) ?_; refine oA (oZ hK20 ?_); refine cT (c_region ?_); refine oS (step_cast (v' := .agg (Ec 0#256).toArray) (s_build0 rfl) (by rw [Ec_zero]; rfl)) ?_; refine oS sF ?_; refine o_storeA (l := En (⟨0, x.set, x.n, x.mn, x.mx, 0⟩ : Nd)) (cs := Ec 0#256) rfl rfl rfl (Enc.one _) upA (Nat.le_of_ble_eq_true rfl) (fun _ _ => frz0) ?_
    rw [show splice (En (⟨0, x.set, x.n, x.mn, x.mx, 0⟩ : Nd)) 1 (Ec 0#256) = En (⟨0, 0, x.n, x.mn, x.mx, 0⟩ : Nd) from rfl]
    refine o_nil (x_block ?_)
    rw [show (⟨0, 0, x.n, x.mn, x.mx, 0⟩ : Nd) = zr x by rw [zr, if_pos h1, if_neg (by omega), if_neg (by omega), if_neg (by omega)]]
    exact x_then (hJ4 () _ _ ⟨by omega, fun h => absurd h (by omega)⟩ sbA sbA hzB)
   ·refine oS (eqF (h := h1)) ?_; refine oA (oZ hK20 ?_); refine cF (c_seq fun _ hK21 => ?_); refine cR fun _ hK22 => ?_
    by_cases h7 : x.op = 7
    ·refine oS (eqT (h := h7)) ?_; refine oA (oZ hK22 ?_); refine cTZ hK21 ?_; refine cT (c_region ?_); refine oS sF ?_; refine o_store rfl rfl rfl upA ltA rfl ?_
     rw [show (En (⟨0, x.set, x.n, x.mn, x.mx, 0⟩ : Nd)).set 5 (.int .i64 0) = En (⟨0, x.set, 0, x.mn, x.mx, 0⟩ : Nd) from rfl]
     refine o_nil (x_block ?_)
     rw [show (⟨0, x.set, 0, x.mn, x.mx, 0⟩ : Nd) = zr x by rw [zr, if_neg (by omega), if_pos (.inl h7), if_neg (by omega), if_neg (by omega)]]
     exact x_then (hJ4 () _ _ ⟨by omega, fun h => absurd h (by omega)⟩ sbA sbA hzB)
    ·refine oS (eqF (h := h7)) ?_; refine oA (oZ hK22 ?_); refine cF (c_region ?_)
     by_cases h8 : x.op = 8
     ·refine oS (eqT (h := h8)) ?_; refine oA (oZ hK21 ?_); refine cT (c_region ?_); refine oS sF ?_; refine o_store rfl rfl rfl upA ltA rfl ?_
      rw [show (En (⟨0, x.set, x.n, x.mn, x.mx, 0⟩ : Nd)).set 5 (.int .i64 0) = En (⟨0, x.set, 0, x.mn, x.mx, 0⟩ : Nd) from rfl]
      refine o_nil (x_block ?_)
      rw [show (⟨0, x.set, 0, x.mn, x.mx, 0⟩ : Nd) = zr x by rw [zr, if_neg (by omega), if_pos (.inr h8), if_neg (by omega), if_neg (by omega)]]
      exact x_then (hJ4 () _ _ ⟨by omega, fun h => absurd h (by omega)⟩ sbA sbA hzB)
     ·refine oS (eqF (h := h8)) ?_; refine oA (oZ hK21 ?_); refine cF (cR fun _ hK23 => ?_)
      by_cases h6 : x.op = 6
      ·refine oS (eqT (h := h6)) ?_; refine oA (oZ hK23 ?_); refine cT (c_seq fun _ hK24 => ?_); refine cR fun _ hK25 => ?_; refine oS sF ?_; refine oS sL ?_
       by_cases hm1 : x.mn < 0
       ·refine oS lsT (oM ?_); refine oN ?_; refine oN ?_; refine oN ?_; refine oS sT (oM ?_); refine oN ?_; refine oN ?_; refine oN ?_; refine oN ?_; refine oU ?_; refine oU ?_; refine oU ?_; refine oU ?_; refine oU ?_; refine oU ?_; refine oU ?_; refine oU ?_; refine oU ?_; refine oU ?_; refine oN ?_; refine oS sT (oZ hK25 ?_); refine cT (cR fun _ hK26 => ?_); refine oA (oZ hK26 (c_ret ?_)); refine x_then_ret (x_block_ret (x_then_ret (?_)))
        exact xR rfl rfl ((congrArg Value.bool (ndOk_rep h6 (by omega)).symm))
       ·refine oS lsF (oM ?_); refine oY ?_; refine oS sF ?_; refine oY ?_; refine oS sL ?_; refine oY ?_
        by_cases hm2 : x.mn > 255
        ·refine oS gtT ?_; refine oS sP (oM ?_); refine oN ?_; refine oN ?_; refine oN ?_; refine oN ?_; refine oU ?_; refine oU ?_; refine oU ?_; refine oU ?_; refine oU ?_; refine oU ?_; refine oU ?_; refine oU ?_; refine oU ?_; refine oU ?_; refine oN ?_; refine oS sT (oZ hK25 ?_); refine cT (cR fun _ hK27 => ?_); refine oA (oZ hK27 (c_ret ?_)); refine x_then_ret (x_block_ret (x_then_ret (?_)))
         exact xR rfl rfl ((congrArg Value.bool (ndOk_rep h6 (by omega)).symm))
        ·refine oS gtF ?_; refine oS sP (oM ?_); refine oY ?_; refine oS sF ?_; refine oY ?_; refine oS sL ?_; refine oY ?_
         by_cases hm3 : x.mx ≠ -1
         ·refine oS nqT ?_; refine oY (oM ?_); refine oY ?_; refine oS sF ?_; refine oY ?_; refine oS sL ?_; refine oY ?_; refine oS sF ?_; refine oY ?_; refine oS sL ?_; refine oY ?_
          by_cases hm4 : x.mx < x.mn
          ·refine oS lsT ?_; refine oY (oM ?_); refine oN ?_; refine oN ?_; refine oN ?_; refine oY ?_; refine oS sT ?_; refine oY ?_; refine oS sT ?_; refine oS sP (oZ hK25 ?_); refine cT (cR fun _ hK28 => ?_); refine oA (oZ hK28 (c_ret ?_)); refine x_then_ret (x_block_ret (x_then_ret (?_)))
           exact xR rfl rfl ((congrArg Value.bool (ndOk_rep h6 (by omega)).symm))
          ·refine oS lsF ?_; refine oY (oM ?_); refine oY ?_; refine oS sF ?_; refine oY ?_; refine oS sL ?_; refine oY ?_
           by_cases hm5 : x.mx > 255
           ·refine oS gtT ?_; refine oY ?_; refine oS sP ?_; refine oY ?_; refine oS sT ?_; refine oS sP (oZ hK25 ?_); refine cT (cR fun _ hK29 => ?_); refine oA (oZ hK29 (c_ret ?_)); refine x_then_ret (x_block_ret (x_then_ret (?_)))
            exact xR rfl rfl ((congrArg Value.bool (ndOk_rep h6 (by omega)).symm))
           ·refine oS gtF ?_; refine oY ?_; refine oS sP ?_; refine oY ?_; refine oS sT ?_; refine oS sP (oZ hK25 ?_); refine cFZ hK24 (c_region ?_); refine oS sF ?_; refine o_store rfl rfl rfl upA ltA rfl ?_
            rw [show (En (⟨0, x.set, x.n, x.mn, x.mx, 0⟩ : Nd)).set 6 (.int .i64 0) = En (⟨0, x.set, x.n, 0, x.mx, 0⟩ : Nd) from rfl]
            refine oS sF ?_; refine o_store rfl rfl rfl upA ltA rfl ?_
            rw [show (En (⟨0, x.set, x.n, 0, x.mx, 0⟩ : Nd)).set 7 (.int .i64 0) = En (⟨0, x.set, x.n, 0, 0, 0⟩ : Nd) from rfl]
            refine o_nil (x_block ?_)
            rw [show (⟨0, x.set, x.n, 0, 0, 0⟩ : Nd) = zr x by rw [zr, if_neg (by omega), if_neg (by omega), if_pos h6, if_pos h6]]
            exact x_then (hJ4 () _ _ ⟨by omega, fun h => by omega⟩ sbA sbA hzB)
         ·refine oS nqF ?_; refine oY (oM ?_); refine oN ?_; refine oN ?_; refine oN ?_; refine oN ?_; refine oN ?_; refine oN ?_; refine oU ?_; refine oU ?_; refine oU ?_; refine oN ?_; refine oY ?_; refine oS sP ?_; refine oS sP (oZ hK25 ?_); refine cFZ hK24 (c_region ?_); refine oS sF ?_; refine o_store rfl rfl rfl upA ltA rfl ?_
          rw [show (En (⟨0, x.set, x.n, x.mn, x.mx, 0⟩ : Nd)).set 6 (.int .i64 0) = En (⟨0, x.set, x.n, 0, x.mx, 0⟩ : Nd) from rfl]
          refine oS sF ?_; refine o_store rfl rfl rfl upA ltA rfl ?_
          rw [show (En (⟨0, x.set, x.n, 0, x.mx, 0⟩ : Nd)).set 7 (.int .i64 0) = En (⟨0, x.set, x.n, 0, 0, 0⟩ : Nd) from rfl]
          refine o_nil (x_block ?_)
          rw [show (⟨0, x.set, x.n, 0, 0, 0⟩ : Nd) = zr x by rw [zr, if_neg (by omega), if_neg (by omega), if_pos h6, if_pos h6]]
          exact x_then (hJ4 () _ _ ⟨by omega, fun h => by omega⟩ sbA sbA hzB)
      ·refine oS (eqF (h := h6)) ?_; refine oA (oZ hK23 ?_); refine cF (c_seq fun _ hK30 => ?_); refine cR fun _ hK31 => ?_
       by_cases h2 : x.op = 2
       ·refine oS (eqT (h := h2)) ?_; refine oA (oZ hK31 ?_); refine cTZ hK30 ?_; refine cT (c_skip (x_block ?_))
        rw [show (⟨0, x.set, x.n, x.mn, x.mx, 0⟩ : Nd) = zr x by rw [zr, if_neg (by omega), if_neg (by omega), if_neg (by omega), if_neg (by omega)]]
        exact x_then (hJ4 () _ _ ⟨by omega, fun h => absurd h (by omega)⟩ sbA sbA hzB)
       ·refine oS (eqF (h := h2)) ?_; refine oA (oZ hK31 ?_); refine cF (cR fun _ hK32 => ?_)
        by_cases h3 : x.op = 3
        ·refine oS (eqT (h := h3)) ?_; refine oA (oZ hK32 ?_); refine cTZ hK30 ?_; refine cT (c_skip (x_block ?_))
         rw [show (⟨0, x.set, x.n, x.mn, x.mx, 0⟩ : Nd) = zr x by rw [zr, if_neg (by omega), if_neg (by omega), if_neg (by omega), if_neg (by omega)]]
         exact x_then (hJ4 () _ _ ⟨by omega, fun h => absurd h (by omega)⟩ sbA sbA hzB)
        ·refine oS (eqF (h := h3)) ?_; refine oA (oZ hK32 ?_); refine cF (cR fun _ hK33 => ?_)
         by_cases h4 : x.op = 4
         ·refine oS (eqT (h := h4)) ?_; refine oA (oZ hK33 ?_); refine cTZ hK30 ?_; refine cT (c_skip (x_block ?_))
          rw [show (⟨0, x.set, x.n, x.mn, x.mx, 0⟩ : Nd) = zr x by rw [zr, if_neg (by omega), if_neg (by omega), if_neg (by omega), if_neg (by omega)]]
          exact x_then (hJ4 () _ _ ⟨by omega, fun h => absurd h (by omega)⟩ sbA sbA hzB)
         ·refine oS (eqF (h := h4)) ?_; refine oA (oZ hK33 ?_); refine cF (c_region ?_)
          by_cases h5 : x.op = 5
          ·refine oS (eqT (h := h5)) ?_; refine oA (oZ hK30 ?_); refine cT (c_skip (x_block ?_))
           rw [show (⟨0, x.set, x.n, x.mn, x.mx, 0⟩ : Nd) = zr x by rw [zr, if_neg (by omega), if_neg (by omega), if_neg (by omega), if_neg (by omega)]]
           exact x_then (hJ4 () _ _ ⟨by omega, fun h => absurd h (by omega)⟩ sbA sbA hzB)
          ·refine oS (eqF (h := h5)) ?_; refine oA (oZ hK30 ?_); refine cF (cR fun _ hK34 => ?_); refine oA (oZ hK34 (c_ret ?_)); refine x_block_ret (x_then_ret (?_))
           exact xR rfl rfl ((congrArg Value.bool (ndOk_op (by omega)).symm))
end Go.Proofs.YtopmnmigpbdddaaGreatDoor
namespace Go.Proofs.YtopmnmigpbdddaaGreatDoor
open Go Go.HL Go.Proofs Go.HL.Kl Go.HL.Kl.Mc Go.HL.Kl.Mc.AskE
set_option maxHeartbeats 2000000 in
theorem emptiedB_fn (K : BkE) (s : BkS) (hrl : K.re.length ≤ 1000000) (hO : OwnS Esp 2 40 (.slice K.sa (K.N + 1) K.sc) s.S.cs s.Ss) (hcl : s.S.cs.length = K.N + 1) (hN : K.N ≤ 1000000) (hg7 : ∀ x ∈ K.re, x.op = 7 → 0 ≤ x.n ∧ x.n ≤ K.N) (a b : Nat) (hab : a ≤ b) (hb : b ≤ K.re.length) : HL.Fn Tryz.prog 119 [pt K.b, .int .i64 a, .int .i64 b] (fun W => K.Env W (keys (K.obj s :: s.Ss))) (K.obj s :: s.Ss) (fun v S' => ∃ la lc Sl Ss', v = .slice la (emW (K.sr.inn a b) s.S.cs).length lc ∧ S' = Sl ++ (K.obj s :: Ss') ∧ OwnS Esp 2 40 (.slice la (emW (K.sr.inn a b) s.S.cs).length lc) (emW (K.sr.inn a b) s.S.cs) Sl ∧ OwnS Esp 2 40 (.slice K.sa (K.N + 1) K.sc) (fgt (K.sr.inn a b) s.S.cs) Ss') := by
  refine fn_of Tryz.func119 rfl rfl rfl fun w0 hw => ?_
  have hsl := hw.d1.sl
  have hrc := hsl.cap
  have hsp := hO.sl
  rw [hcl] at hsp
  have hil : (K.sr.inn a b).length = b - a := K.sr.inn_len hb
  have hisl : IsSl (.slice (midA K.ra K.rc a 9) (K.sr.inn a b).length (K.rc - a)) (K.sr.inn a b).length := by rw [hil]; exact hsl.mid a (b - a) (by omega)
  have hrle := hsl.le
  refine cR fun _ hK1 => ?_; refine oA (oZ hK1 (cR fun _ hK2 => ?_)); refine oA (oZ hK2 (c_seq fun _ hK3 => ?_)); refine cR fun _ hK4 => ?_; refine oM ?_; refine oS sN ?_; refine oS sF ?_; refine oS sL (oM (oM ?_)); refine oS (step_cast (v' := .slice (midA K.ra K.rc a 9) (K.sr.inn a b).length (K.rc - a)) (s_slice_mid rfl rfl rfl (by omega)) (by rw [hil]; simp only [Int.toNat_natCast])) ?_; refine oS sC (oM (oZ hK4 (c_block ?_))); refine c_loop7 (fun (k : Nat) (la : Option Addr) (lc : Nat) (l : List Sp) (SL : Hp) (cs : List Sp) (SS : Hp) => k ≤ (K.sr.inn a b).length ∧ OwnS Esp 2 40 (.slice la l.length lc) l SL ∧ OwnS Esp 2 40 (.slice K.sa (K.N + 1) K.sc) cs SS ∧ cs.length = K.N + 1 ∧ l ++ emW ((K.sr.inn a b).drop k) cs = emW (K.sr.inn a b) s.S.cs ∧ fgt ((K.sr.inn a b).drop k) cs = fgt (K.sr.inn a b) s.S.cs ∧ l.length ≤ k) (fun (k : Nat) (la : Option Addr) (lc : Nat) (l : List Sp) (SL : Hp) (cs : List Sp) (SS : Hp) => [(7, .slice la l.length lc), (18, .int .i64 k)]) [(0, _), (6, _), (16, _), (17, _)] (fun (k : Nat) (la : Option Addr) (lc : Nat) (l : List Sp) (SL : Hp) (cs : List Sp) (SS : Hp) => SL ++ (K.obj s :: SS)) (fun (k : Nat) (la : Option Addr) (lc : Nat) (l : List Sp) (SL : Hp) (cs : List Sp) (SS : Hp) => (K.sr.inn a b).length - k) 0 none 0 [] [] s.S.cs s.Ss ⟨Nat.zero_le _, .nil, hO, hcl, rfl, rfl, Nat.le_refl _⟩ sbA sbA hzB ?_
  rintro k la lc l SL cs SS ⟨hkl, hL, hC, hcl2, hem, hfg, hlk⟩
  have hsp2 := hC.sl
  rw [hcl2] at hsp2
  refine cR fun _ hK5 => ?_
  by_cases hk : (k : Int) < (K.sr.inn a b).length
  ·obtain ⟨x, hx⟩ : ∃ x, (K.sr.inn a b)[k]? = some x := gE
   have hxm := K.sr.inn_mem (List.mem_of_getElem? hx)
   have hdk := drop_get hx
   refine oS lsT (oZ hK5 (c_seq fun _ hK6 => ?_)); refine cTZ hK6 (c_seq fun _ hK7 => ?_); refine c_block (cR fun _ hK8 => ?_); refine oS (s_idx rfl rfl hisl (by omega)) ?_; refine oS (s_ldB rfl (((RdK.old hw.d1 hw.a1).mid a b hab hb).lds k hx rfl) (by rfl)) ?_; refine o_alloc (l := En zN) (by rw [En_zero]; rfl) rfl fun b9 => ?_; refine o_stW rfl rfl upA lnA lnA onA ?_; refine oZ hK8 (cR fun _ hK9 => ?_); refine oS sF ?_; refine oS sL ?_
   by_cases h7 : x.op = 7
   ·obtain ⟨hn1, hn2⟩ := hg7 x hxm h7
    obtain ⟨y, hy⟩ : ∃ y, cs[x.n.toNat]? = some y := gE
    refine oS (eqT (h := h7)) ?_; refine oZ hK9 ?_; refine cT (c_seq fun _ hK10 => ?_); refine c_drawE ((b9, .cells (En x).toArray 108 (0, 0)) :: (K.obj s :: SS)) (fun i => false) ?_; refine eP 0 rfl sM ?_; refine eP 1 rfl sM ?_; refine eP 2 rfl sN ?_; refine eP 3 rfl sF ?_; refine eK 4 rfl sL ?_; refine eP 5 rfl sF ?_; refine eK 6 rfl sL ?_; refine eK 7 rfl (s_idx rfl rfl hsp2 (by omega)) ?_; refine eK 8 rfl (s_ldB rfl ((hC.rdk hiA).cels hy) lnA) ?_; refine eO 9 rfl ?_; refine o_bs (E := Esp) (xs := [y]) (vs := [_]) rfl rfl rfl rfl rfl (by decide) (by decide) fun b34 S34 hS34 => ?_; refine oX (eO 10 rfl ?_); refine o_app hL (hS34.rdk hiA) rfl rfl rfl rfl (by simp only [List.length_singleton]; omega) (by simp only [List.length_singleton]; omega) rfl pkA fun a35 c35 S35 hS35 => ?_; refine oX (eO 11 rfl (oA (oX (eZ hK10 ?_)))); refine c_drawE ((b9, .cells (En x).toArray 108 (0, 0)) :: (K.obj s :: SS)) (fun i => Nat.beq i 8) ?_
    refine eP 0 rfl sM ?_; refine eP 1 rfl sN ?_; refine eP 2 rfl sF ?_; refine eK 3 rfl sL ?_; refine eP 4 rfl sF ?_; refine eK 5 rfl sL ?_; refine eK 6 rfl (s_ldB (cs := Esp noS) rfl ((RdPK.old hw.g hw.ga).cels) rfl) ?_; refine eO 7 rfl ?_; refine oS (s_idx rfl rfl hsp2 (by omega)) ?_; refine oX (eO 8 rfl ?_); refine o_stSE x.n.toNat noS hC pkA rfl rfl (by omega) (by rfl) fun S' hS' => ?_; refine o_nil ?_; refine x_oneL rfl ?_; refine e_done (by kernel_rfl) ?_; refine x_block (xZ hK7 (c_region ?_)); refine oS sD (oM (o_nil ?_)); exact xI (k + 1, a35, c35, l ++ [y], S35, cs.set x.n.toNat noS, S') ⟨by dsimp only; omega, hS35, hS', by dsimp only; rw [List.length_set]; exact hcl2, by dsimp only; rw [← hem, hdk, emW_7 h7, List.getD_eq_getElem?_getD, hy, List.append_assoc]; rfl, by dsimp only; rw [← hfg, hdk, fgt_7 h7], by dsimp only; rw [List.length_append, List.length_singleton]; omega⟩
   ·refine oS (eqF (h := h7)) ?_; refine oZ hK9 ?_; refine cF (c_skip (x_block (xZ hK7 (c_region ?_)))); refine oS sD (oM (o_nil ?_)); exact xI (k + 1, la, lc, l, SL, cs, SS) ⟨by dsimp only; omega, hL, hC, hcl2, by dsimp only; rw [← hem, hdk, emW_n h7], by dsimp only; rw [← hfg, hdk, fgt_n h7], by dsimp only; omega⟩
  ·obtain rfl : k = (K.sr.inn a b).length := by omega
   refine oS lsF (oZ hK5 (c_seq fun _ hK11 => ?_)); refine cF ?_; refine c_exit ?_; refine x_then_exit (x_then_exit (x_block_exit (xZ hK3 (cR fun _ hK12 => ?_)))); refine oM (oA (oZ hK12 (c_ret ?_))); refine ?_; refine x_sub (Sub.refl _) (H' := SL ++ (K.obj s :: SS)) hzB ?_
   have hdn : (K.sr.inn a b).drop (K.sr.inn a b).length = [] := List.drop_length
   rw [hdn] at hem hfg
   have hem : l = emW (K.sr.inn a b) s.S.cs := by rw [← hem]; exact (List.append_nil _).symm
   have hfg : cs = fgt (K.sr.inn a b) s.S.cs := hfg
   subst hem; subst hfg
   exact xR rfl rfl (⟨la, lc, SL, SS, rfl, rfl, hL, hC⟩)
set_option maxHeartbeats 2000000 in
theorem restoreB_fn (K : BkE) (s : BkS) (hrl : K.re.length ≤ 1000000) (hO : OwnS Esp 2 40 (.slice K.sa (K.N + 1) K.sc) s.S.cs s.Ss) (hcl : s.S.cs.length = K.N + 1) (hN : K.N ≤ 1000000) (hg7 : ∀ x ∈ K.re, x.op = 7 → 0 ≤ x.n ∧ x.n ≤ K.N) (a b : Nat) (hab : a ≤ b) (hb : b ≤ K.re.length) (la : Option Addr) (lc : Nat) (l : List Sp) (SL : Hp) (hL : OwnS Esp 2 40 (.slice la l.length lc) l SL) (hl7 : l.length = nG7 (K.sr.inn a b)) : HL.Fn Tryz.prog 120 [pt K.b, .int .i64 a, .int .i64 b, .slice la l.length lc] (fun W => K.Env W (keys (SL ++ (K.obj s :: s.Ss)))) (SL ++ (K.obj s :: s.Ss)) (fun v S' => ∃ Ss', S' = (K.obj s :: Ss') ∧ OwnS Esp 2 40 (.slice K.sa (K.N + 1) K.sc) (rst (K.sr.inn a b) l s.S.cs) Ss') := by
  refine fn_of Tryz.func120 rfl rfl rfl fun w0 hw => ?_
  have hsl := hw.d1.sl
  have hrc := hsl.cap
  have hsp := hO.sl
  rw [hcl] at hsp
  have hil : (K.sr.inn a b).length = b - a := K.sr.inn_len hb
  have hisl : IsSl (.slice (midA K.ra K.rc a 9) (K.sr.inn a b).length (K.rc - a)) (K.sr.inn a b).length := by rw [hil]; exact hsl.mid a (b - a) (by omega)
  have hrle := hsl.le
  have hls := hL.sl
  refine cR fun _ hK1 => ?_; refine oM ?_; refine oS sN ?_; refine oS sF ?_; refine oS sL (oM (oM ?_)); refine oS (step_cast (v' := .slice (midA K.ra K.rc a 9) (K.sr.inn a b).length (K.rc - a)) (s_slice_mid rfl rfl rfl (by omega)) (by rw [hil]; simp only [Int.toNat_natCast])) ?_; refine oS sC (oM (oZ hK1 (c_block ?_))); refine c_loop6 (fun (k : Nat) (wa : Option Addr) (wc : Nat) (m : List Sp) (cs : List Sp) (SS : Hp) => k ≤ (K.sr.inn a b).length ∧ RdS Esp (.slice wa m.length wc) m SL ∧ IsSl (.slice wa m.length wc) m.length ∧ m.length = nG7 ((K.sr.inn a b).drop k) ∧ OwnS Esp 2 40 (.slice K.sa (K.N + 1) K.sc) cs SS ∧ cs.length = K.N + 1 ∧ rst ((K.sr.inn a b).drop k) m cs = rst (K.sr.inn a b) l s.S.cs) (fun (k : Nat) (wa : Option Addr) (wc : Nat) (m : List Sp) (cs : List Sp) (SS : Hp) => [(3, .slice wa m.length wc), (18, .int .i64 k)]) [(0, _), (16, _), (17, _)] (fun (k : Nat) (wa : Option Addr) (wc : Nat) (m : List Sp) (cs : List Sp) (SS : Hp) => SL ++ (K.obj s :: SS)) (fun (k : Nat) (wa : Option Addr) (wc : Nat) (m : List Sp) (cs : List Sp) (SS : Hp) => (K.sr.inn a b).length - k) 0 la lc l s.S.cs s.Ss ⟨Nat.zero_le _, hL.rds, hls, hl7, hO, hcl, rfl⟩ sbA sbA hzB ?_
  rintro k wa wc m cs SS ⟨hkl, hM, hms, hmg, hC, hcl2, hrs⟩
  have hsp2 := hC.sl
  rw [hcl2] at hsp2
  refine cR fun _ hK2 => ?_
  by_cases hk : (k : Int) < (K.sr.inn a b).length
  ·obtain ⟨x, hx⟩ : ∃ x, (K.sr.inn a b)[k]? = some x := gE
   have hxm := K.sr.inn_mem (List.mem_of_getElem? hx)
   have hdk := drop_get hx
   refine oS lsT (oZ hK2 (c_seq fun _ hK3 => ?_)); refine cTZ hK3 (c_seq fun _ hK4 => ?_); refine c_block (cR fun _ hK5 => ?_); refine oS (s_idx rfl rfl hisl (by omega)) ?_; refine oS (s_ldB rfl (((RdK.old hw.d1 hw.a1).mid a b hab hb).lds k hx rfl) (by rfl)) ?_; refine o_alloc (l := En zN) (by rw [En_zero]; rfl) rfl fun b9 => ?_; refine o_stW rfl rfl upA lnA lnA onA ?_; refine oZ hK5 (cR fun _ hK6 => ?_); refine oS sF ?_; refine oS sL ?_
   by_cases h7 : x.op = 7
   ·obtain ⟨hn1, hn2⟩ := hg7 x hxm h7
    obtain ⟨y, m, rfl⟩ : ∃ y m2, m = y :: m2 := by cases m with | nil => rw [hdk, nG7_7 h7] at hmg; simp at hmg | cons y m2 => exact ⟨y, m2, rfl⟩
    refine oS (eqT (h := h7)) ?_; refine oZ hK6 ?_; refine cT (c_seq fun _ hK7 => ?_); refine c_drawE ((b9, .cells (En x).toArray 108 (0, 0)) :: (SL ++ (K.obj s :: SS))) (fun i => Nat.beq i 10) ?_; refine eP 0 rfl sM ?_; refine eP 1 rfl sN ?_; refine eP 2 rfl sF ?_; refine eK 3 rfl sL ?_; refine eP 4 rfl sF ?_; refine eK 5 rfl sL ?_; refine eP 6 rfl sM ?_; refine eK 7 rfl (s_idx rfl rfl hms (by rw [List.length_cons]; omega)) ?_; refine eK 8 rfl (s_ldB rfl ((hM.rdk hiA).cels (i := 0) rfl) lnA) ?_; refine eO 9 rfl ?_; refine oS (s_idx rfl rfl hsp2 (by omega)) ?_; refine oX (eO 10 rfl ?_); refine o_stSE x.n.toNat y hC pkA rfl rfl (by omega) (by rfl) fun S' hS' => ?_; refine o_nil ?_; refine x_oneL rfl ?_; refine eZ hK7 (c_region (oM ?_)); refine oS (step_cast (v' := .slice (midA wa wc 1 2) m.length (wc - 1)) (s_slice_lo rfl rfl (by have := hms.cap; rw [List.length_cons] at this ⊢; omega)) (by rw [List.length_cons]; rfl)) ?_; refine oA (o_nil (x_block (xZ hK4 (c_region ?_)))); refine oS sD ?_
    refine oM (o_nil ?_); exact xI (k + 1, midA wa wc 1 2, wc - 1, m, cs.set x.n.toNat y, S') ⟨by dsimp only; omega, hM.tail, (by have := hms.mid (k := 2) 1 m.length (by rw [List.length_cons]; omega); exact this), by dsimp only; rw [hdk, nG7_7 h7, List.length_cons] at hmg; omega, hS', by dsimp only; rw [List.length_set]; exact hcl2, by dsimp only; rw [← hrs, hdk, rst_7 h7]⟩
   ·refine oS (eqF (h := h7)) ?_; refine oZ hK6 ?_; refine cF (c_skip (x_block (xZ hK4 (c_region ?_)))); refine oS sD (oM (o_nil ?_)); exact xI (k + 1, wa, wc, m, cs, SS) ⟨by dsimp only; omega, hM, hms, by dsimp only; rw [hdk, nG7_n h7] at hmg; exact hmg, hC, hcl2, by dsimp only; rw [← hrs, hdk, rst_n h7]⟩
  ·obtain rfl : k = (K.sr.inn a b).length := by omega
   refine oS lsF (oZ hK2 (c_seq fun _ hK8 => ?_)); refine cF ?_; refine c_exit ?_; refine x_then_exit (x_then_exit (x_block_exit ?_)); refine x_sub (Sub.refl _) (H' := (K.obj s :: SS)) hzB ?_
   have hdn : (K.sr.inn a b).drop (K.sr.inn a b).length = [] := List.drop_length
   rw [hdn] at hrs
   have hrs : cs = rst (K.sr.inn a b) l s.S.cs := hrs
   subst hrs; exact x_end rfl (.nil) (⟨SS, rfl, hC⟩)
end Go.Proofs.YtopmnmigpbdddaaGreatDoor
namespace Go.HL.Kl.Mc
open Go Go.HL Go.HL.Kl AskE
def SpOk (K : SrE) (s : Sp) : Prop := s = noS ∨ (0 ≤ s.fr ∧ s.fr ≤ s.to ∧ s.to ≤ K.w.length)
def FrOk (K : SrE) (f : Frm) : Prop := ∃ x ks e, Part K.re (.nd x ks .nil) f.node e ∧ f.to ≤ K.w.length ∧ ((x.op = 4 ∧ ∃ g e2, Part K.re g f.kid e2 ∧ g.num = f.left) ∨ (x.op = 6 ∧ f.kid ≤ 255) ∨ (x.op = 7 ∧ f.fr ≤ f.to))
structure Fin (K : SrE) (S : SS) : Prop where
  fr : ∀ f ∈ S.fs, FrOk K f
  ch : Chn S.fs
  sp : ∀ s ∈ S.cs, SpOk K s
structure Gr (S S' : SS) : Prop where
  fs : S.fs.length ≤ S'.fs.length
  ts : S.ts.length ≤ S'.ts.length
  fuel : S'.fuel ≤ S.fuel
  cs : S'.cs.length = S.cs.length
theorem Gr.refl {S : SS} : Gr S S := ⟨Nat.le_refl _, Nat.le_refl _, Nat.le_refl _, rfl⟩
theorem Gr.trans {S S1 S2 : SS} (h : Gr S S1) (h' : Gr S1 S2) : Gr S S2 := ⟨Nat.le_trans h.fs h'.fs, Nat.le_trans h.ts h'.ts, Nat.le_trans h'.fuel h.fuel, h'.cs.trans h.cs⟩
theorem push_gr {S S1 : SS} {f : Frm} {u : Nat} (h : S.push f = (u, S1)) : Gr S S1 := by
  cases hf : fnd f S.fs with
  | some k => rw [push_some hf] at h; cases h; exact .refl
  | none => rw [push_none hf] at h; cases h; exact ⟨by simp, Nat.le_refl _, Nat.le_refl _, rfl⟩
theorem code_gr {K : SrE} {S : SS} : Gr S (K.code S).2 := by
  refine ⟨Nat.le_refl _, ?_, Nat.le_refl _, rfl⟩
  have : ∀ (hs : List (List Sp)) (ts : List Tk) (n : Nat), ts.length ≤ (stG ts n hs).2.length := by
    intro hs
    induction hs with
    | nil => intro ts n; exact Nat.le_refl _
    | cons h r ih =>
      intro ts n
      unfold stG
      split
      · exact ih _ _
      · have := ih (ts ++ [⟨n, h⟩]) (ts.length + 1)
        rw [List.length_append] at this
        exact Nat.le_trans (Nat.le_add_right _ _) this
  exact this _ _ _
theorem rst_len : ∀ (l : List Nd) (was cs : List Sp), (rst l was cs).length = cs.length
  | [], _, _ => rfl
  | x :: l, was, cs => by
    unfold rst
    split
    · rw [rst_len l, List.length_set]
    · exact rst_len l _ _
theorem fail_gr {S : SS} {b : Bool} {p : Pt} : Gr S (S.fail b p) := by
  cases b
  · exact ⟨Nat.le_refl _, Nat.le_refl _, Nat.le_refl _, rfl⟩
  · exact .refl
theorem tick_gr {S : SS} : Gr S S.tick := ⟨Nat.le_refl _, Nat.le_refl _, Nat.sub_le _ _, rfl⟩
theorem cs_gr {S : SS} {c : List Sp} (h : c.length = S.cs.length) : Gr S { S with cs := c } := ⟨Nat.le_refl _, Nat.le_refl _, Nat.le_refl _, h⟩
theorem Ev.mono {K : SrE} {S S' : SS} {q : SQ} {b : Bool} (h : Ev K S q b S') : Gr S S' := by
  induction h with
  | takeNo hx hf ho hg => exact tick_gr
  | takeYes hx hf ho hg h ih => exact tick_gr.trans ih
  | takeAlt hx hf ho h ih => exact tick_gr.trans ih
  | takeCat hx hf ho hp h ih => exact tick_gr.trans ((push_gr hp).trans ih)
  | takeRep hx hf ho hp h ih => exact tick_gr.trans ((push_gr hp).trans ih)
  | takeGrpY hx hf ho hp h ih => exact tick_gr.trans ((cs_gr (fgt_len _ _)).trans ((push_gr hp).trans ih))
  | takeGrpN hx hf ho hp h ih => exact tick_gr.trans ((cs_gr (fgt_len _ _)).trans ((push_gr hp).trans (ih.trans (cs_gr (rst_len _ _ _)))))
  | altNil => exact .refl
  | altYes h ih => exact ih
  | altNo h h' ih ih' => exact ih.trans ih'
  | nextZero => exact .refl
  | nextMemo h => exact code_gr
  | @nextGo S S2 k at_ f b hn hf h ih =>
    have g := ih.trans (fail_gr (b := b) (p := ⟨k + 1, at_, (K.code S).1⟩))
    exact (code_gr (K := K) (S := S)).trans ⟨g.fs, g.ts, g.fuel, g.cs⟩
  | bodyCat hx ho h ih => exact ih
  | bodyRep hx ho h ih => exact ih
  | bodyGrpY hx h4 h6 h ih => exact (cs_gr (List.length_set ..)).trans ih
  | bodyGrpN hx h4 h6 h ih => exact (cs_gr (List.length_set ..)).trans (ih.trans (cs_gr (List.length_set ..)))
  | rowZN hl he => exact .refl
  | rowZ hl he h ih => exact ih
  | rowS hl hp h ih => exact (push_gr hp).trans ih
  | rowLNil => exact .refl
  | rowLYes h ih => exact ih
  | rowLLast hl h ih => exact ih
  | rowLNo hl h h' ih ih' => exact ih.trans ih'
  | rndYes hx hm hp h ih => exact (push_gr hp).trans ih
  | rndEnd hx hm hp h he h' ih ih' => exact (push_gr hp).trans (ih.trans ih')
  | rndNo hx hm hp h he ih => exact (push_gr hp).trans ih
  | rnd0End hx hm he h' ih' => exact ih'
  | rnd0No hx hm he => exact .refl
  | rndLNil => exact .refl
  | rndLBrk hx hb => exact .refl
  | rndLYes hx hb h ih => exact (cs_gr (fgt_len _ _)).trans ih
  | rndLNo hx hb h h' ih ih' => exact (cs_gr (fgt_len _ _)).trans (ih.trans ((cs_gr (rst_len _ _ _)).trans ih'))
/-! the runs, turned round -/
section
variable {K : SrE} {S S' : SS} {b : Bool}
theorem Ev.iNext0 {at_ : Nat} (h : Ev K S (.next 0 at_) b S') : b = true ∧ S' = S := by cases h; exact ⟨rfl, rfl⟩
theorem Ev.iNext {k at_ : Nat} (h : Ev K S (.next (k + 1) at_) b S') : ((⟨k + 1, at_, (K.code S).1⟩ : Pt) ∈ S.F ∧ b = false ∧ S' = (K.code S).2) ∨ ((⟨k + 1, at_, (K.code S).1⟩ : Pt) ∉ S.F ∧ ∃ f S2, S.fs[k]? = some f ∧ Ev K { (K.code S).2 with wk := S.wk + 1 } (.body f at_) b S2 ∧ S' = S2.fail b ⟨k + 1, at_, (K.code S).1⟩) := by
  cases h with
  | nextMemo h => exact .inl ⟨h, rfl, rfl⟩
  | nextGo hn hf h => exact .inr ⟨hn, _, _, hf, h, rfl⟩
theorem Ev.iBody4 {f : Frm} {at_ : Nat} {x : Nd} (hx : K.re[f.node]? = some x) (ho : x.op = 4) (h : Ev K S (.body f at_) b S') : Ev K S (.row f at_) b S' := by
  cases h with
  | bodyCat _ _ h => exact h
  | bodyRep hx' ho' _ => rw [hx] at hx'; cases hx'; omega
  | bodyGrpY hx' h4 _ _ => rw [hx] at hx'; cases hx'; exact absurd ho h4
  | bodyGrpN hx' h4 _ _ => rw [hx] at hx'; cases hx'; exact absurd ho h4
theorem Ev.iBody6 {f : Frm} {at_ : Nat} {x : Nd} (hx : K.re[f.node]? = some x) (ho : x.op = 6) (h : Ev K S (.body f at_) b S') : Ev K S (.rnd f at_) b S' := by
  cases h with
  | bodyRep _ _ h => exact h
  | bodyCat hx' ho' _ => rw [hx] at hx'; cases hx'; omega
  | bodyGrpY hx' _ h6 _ => rw [hx] at hx'; cases hx'; exact absurd ho h6
  | bodyGrpN hx' _ h6 _ => rw [hx] at hx'; cases hx'; exact absurd ho h6
theorem Ev.iBody7 {f : Frm} {at_ : Nat} {x : Nd} (hx : K.re[f.node]? = some x) (ho : x.op = 7) (h : Ev K S (.body f at_) b S') : ∃ S2, Ev K { S with cs := S.cs.set x.n.toNat ⟨f.fr, f.to⟩ } (.next f.up at_) b S2 ∧ S' = if b = true then S2 else { S2 with cs := S2.cs.set x.n.toNat (S.cs.getD x.n.toNat noS) } := by
  cases h with
  | bodyCat hx' ho' _ => rw [hx] at hx'; cases hx'; omega
  | bodyRep hx' ho' _ => rw [hx] at hx'; cases hx'; omega
  | bodyGrpY hx' _ _ h => rw [hx] at hx'; cases hx'; exact ⟨_, h, rfl⟩
  | bodyGrpN hx' _ _ h => rw [hx] at hx'; cases hx'; exact ⟨_, h, rfl⟩
theorem Ev.iRow0 {f : Frm} {at_ : Nat} (hl : f.left = 0) (h : Ev K S (.row f at_) b S') : (at_ ≠ f.to ∧ b = false ∧ S' = S) ∨ (at_ = f.to ∧ Ev K S (.next f.up at_) b S') := by
  cases h with
  | rowZN _ he => exact .inl ⟨he, rfl, rfl⟩
  | rowZ _ he h => exact .inr ⟨he, h⟩
  | rowS hl' _ _ => omega
theorem Ev.iRowS {f : Frm} {at_ : Nat} (hl : ¬ f.left = 0) (h : Ev K S (.row f at_) b S') : ∃ u S1, S.push { f with kid := K.bh f.kid, left := f.left - 1, fr := 0 } = (u, S1) ∧ Ev K S1 (.rowL f u at_ (ends at_ f.to)) b S' := by
  cases h with
  | rowZN hl' _ => exact absurd hl' hl
  | rowZ hl' _ _ => exact absurd hl' hl
  | @rowS _ _ _ _ _ u l _ hl' hp h =>
    have e : f.left - 1 = l := by omega
    rw [e]; exact ⟨_, _, hp, h⟩
theorem Ev.iRowL0 {f : Frm} {u at_ : Nat} (h : Ev K S (.rowL f u at_ []) b S') : b = false ∧ S' = S := by cases h; exact ⟨rfl, rfl⟩
theorem Ev.iRowL {f : Frm} {u at_ e : Nat} {es : List Nat} (h : Ev K S (.rowL f u at_ (e :: es)) b S') : ∃ b1 S1, Ev K S (.take f.kid at_ e u) b1 S1 ∧ ((b1 = true ∧ b = true ∧ S' = S1) ∨ (b1 = false ∧ f.left = 1 ∧ b = false ∧ S' = S1) ∨ (b1 = false ∧ f.left ≠ 1 ∧ Ev K S1 (.rowL f u at_ es) b S')) := by
  cases h with
  | rowLYes h => exact ⟨_, _, h, .inl ⟨rfl, rfl, rfl⟩⟩
  | rowLLast hl h => exact ⟨_, _, h, .inr (.inl ⟨rfl, hl, rfl, rfl⟩)⟩
  | rowLNo hl h h' => exact ⟨_, _, h, .inr (.inr ⟨rfl, hl, h'⟩)⟩
theorem Ev.iRnd {f : Frm} {at_ : Nat} {x : Nd} (hx : K.re[f.node]? = some x) (hm : x.mx < 0 ∨ (f.kid : Int) < x.mx) (h : Ev K S (.rnd f at_) b S') :
    ∃ u S1 b1 S2, S.push { f with kid := satK x f.kid } = (u, S1) ∧ Ev K S1 (.rndL f u at_ (ends at_ f.to)) b1 S2 ∧ ((b1 = true ∧ b = true ∧ S' = S2) ∨ (b1 = false ∧ (at_ = f.to ∧ x.mn ≤ (f.kid : Int)) ∧ Ev K S2 (.next f.up at_) b S') ∨ (b1 = false ∧ ¬ (at_ = f.to ∧ x.mn ≤ (f.kid : Int)) ∧ b = false ∧ S' = S2)) := by
  cases h with
  | rndYes hx' hm' hp h => rw [hx] at hx'; cases hx'; exact ⟨_, _, _, _, hp, h, .inl ⟨rfl, rfl, rfl⟩⟩
  | rndEnd hx' hm' hp h he h' => rw [hx] at hx'; cases hx'; exact ⟨_, _, _, _, hp, h, .inr (.inl ⟨rfl, he, h'⟩)⟩
  | rndNo hx' hm' hp h he => rw [hx] at hx'; cases hx'; exact ⟨_, _, _, _, hp, h, .inr (.inr ⟨rfl, he, rfl, rfl⟩)⟩
  | rnd0End hx' hm' => rw [hx] at hx'; cases hx'; exact absurd hm hm'
  | rnd0No hx' hm' => rw [hx] at hx'; cases hx'; exact absurd hm hm'
theorem Ev.iRnd0 {f : Frm} {at_ : Nat} {x : Nd} (hx : K.re[f.node]? = some x) (hm : ¬ (x.mx < 0 ∨ (f.kid : Int) < x.mx)) (h : Ev K S (.rnd f at_) b S') :
    ((at_ = f.to ∧ x.mn ≤ (f.kid : Int)) ∧ Ev K S (.next f.up at_) b S') ∨ (¬ (at_ = f.to ∧ x.mn ≤ (f.kid : Int)) ∧ b = false ∧ S' = S) := by
  cases h with
  | rndYes hx' hm' => rw [hx] at hx'; cases hx'; exact absurd hm' hm
  | rndEnd hx' hm' => rw [hx] at hx'; cases hx'; exact absurd hm' hm
  | rndNo hx' hm' => rw [hx] at hx'; cases hx'; exact absurd hm' hm
  | rnd0End hx' _ he h => rw [hx] at hx'; cases hx'; exact .inl ⟨he, h⟩
  | rnd0No hx' _ he => rw [hx] at hx'; cases hx'; exact .inr ⟨he, rfl, rfl⟩
theorem Ev.iRndL0 {f : Frm} {u at_ : Nat} (h : Ev K S (.rndL f u at_ []) b S') : b = false ∧ S' = S := by cases h; exact ⟨rfl, rfl⟩
theorem Ev.iRndL {f : Frm} {u at_ e : Nat} {es : List Nat} {x : Nd} (hx : K.re[f.node]? = some x) (h : Ev K S (.rndL f u at_ (e :: es)) b S') : (brk x f at_ e ∧ b = false ∧ S' = S) ∨ (¬ brk x f at_ e ∧ ∃ b1 S1, Ev K { S with cs := fgt (K.inn (f.node + 1) (K.bh f.node)) S.cs } (.take (f.node + 1) at_ e u) b1 S1 ∧
    ((b1 = true ∧ b = true ∧ S' = S1) ∨ (b1 = false ∧ Ev K { S1 with cs := rst (K.inn (f.node + 1) (K.bh f.node)) (emW (K.inn (f.node + 1) (K.bh f.node)) S.cs) S1.cs } (.rndL f u at_ es) b S'))) := by
  cases h with
  | rndLBrk hx' hb => rw [hx] at hx'; cases hx'; exact .inl ⟨hb, rfl, rfl⟩
  | rndLYes hx' hb h => rw [hx] at hx'; cases hx'; exact .inr ⟨hb, _, _, h, .inl ⟨rfl, rfl, rfl⟩⟩
  | rndLNo hx' hb h h' => rw [hx] at hx'; cases hx'; exact .inr ⟨hb, _, _, h, .inr ⟨rfl, h'⟩⟩
theorem Ev.iFuel {at_ i j up : Nat} (h : Ev K S (.take at_ i j up) b S') : 0 < S.fuel := by cases h <;> assumption
theorem Ev.iLeaf {at_ i j up : Nat} {x : Nd} (hx : K.re[at_]? = some x) (ho : x.op = 1 ∨ x.op = 2 ∨ x.op = 3 ∨ x.op = 8) (h : Ev K S (.take at_ i j up) b S') : (¬ K.good x S.cs i j ∧ b = false ∧ S' = S.tick) ∨ (K.good x S.cs i j ∧ Ev K S.tick (.next up j) b S') := by
  cases h with
  | takeNo hx' _ _ hg => rw [hx] at hx'; cases hx'; exact .inl ⟨hg, rfl, rfl⟩
  | takeYes hx' _ _ hg h => rw [hx] at hx'; cases hx'; exact .inr ⟨hg, h⟩
  | takeAlt hx' _ ho' => rw [hx] at hx'; cases hx'; omega
  | takeCat hx' _ ho' => rw [hx] at hx'; cases hx'; omega
  | takeRep hx' _ ho' => rw [hx] at hx'; cases hx'; omega
  | takeGrpY hx' _ ho' => rw [hx] at hx'; cases hx'; omega
  | takeGrpN hx' _ ho' => rw [hx] at hx'; cases hx'; omega
theorem Ev.iAltT {at_ i j up : Nat} {x : Nd} (hx : K.re[at_]? = some x) (ho : x.op = 5) (h : Ev K S (.take at_ i j up) b S') : Ev K S.tick (.alt (at_ + 1) x.kids.toNat i j up) b S' := by
  cases h with
  | takeNo hx' _ ho' => rw [hx] at hx'; cases hx'; omega
  | takeYes hx' _ ho' => rw [hx] at hx'; cases hx'; omega
  | takeAlt hx' _ ho' h => rw [hx] at hx'; cases hx'; exact h
  | takeCat hx' _ ho' => rw [hx] at hx'; cases hx'; omega
  | takeRep hx' _ ho' => rw [hx] at hx'; cases hx'; omega
  | takeGrpY hx' _ ho' => rw [hx] at hx'; cases hx'; omega
  | takeGrpN hx' _ ho' => rw [hx] at hx'; cases hx'; omega
theorem Ev.iCat {at_ i j up : Nat} {x : Nd} (hx : K.re[at_]? = some x) (ho : x.op = 4) (h : Ev K S (.take at_ i j up) b S') : ∃ u S2, S.tick.push ⟨up, at_, at_ + 1, x.kids.toNat, i, j⟩ = (u, S2) ∧ Ev K S2 (.next u i) b S' := by
  cases h with
  | takeNo hx' _ ho' => rw [hx] at hx'; cases hx'; omega
  | takeYes hx' _ ho' => rw [hx] at hx'; cases hx'; omega
  | takeAlt hx' _ ho' => rw [hx] at hx'; cases hx'; omega
  | takeCat hx' _ ho' hp h => rw [hx] at hx'; cases hx'; exact ⟨_, _, hp, h⟩
  | takeRep hx' _ ho' => rw [hx] at hx'; cases hx'; omega
  | takeGrpY hx' _ ho' => rw [hx] at hx'; cases hx'; omega
  | takeGrpN hx' _ ho' => rw [hx] at hx'; cases hx'; omega
theorem Ev.iRep {at_ i j up : Nat} {x : Nd} (hx : K.re[at_]? = some x) (ho : x.op = 6) (h : Ev K S (.take at_ i j up) b S') : ∃ u S2, S.tick.push ⟨up, at_, 0, 0, 0, j⟩ = (u, S2) ∧ Ev K S2 (.next u i) b S' := by
  cases h with
  | takeNo hx' _ ho' => rw [hx] at hx'; cases hx'; omega
  | takeYes hx' _ ho' => rw [hx] at hx'; cases hx'; omega
  | takeAlt hx' _ ho' => rw [hx] at hx'; cases hx'; omega
  | takeCat hx' _ ho' => rw [hx] at hx'; cases hx'; omega
  | takeRep hx' _ ho' hp h => rw [hx] at hx'; cases hx'; exact ⟨_, _, hp, h⟩
  | takeGrpY hx' _ ho' => rw [hx] at hx'; cases hx'; omega
  | takeGrpN hx' _ ho' => rw [hx] at hx'; cases hx'; omega
theorem Ev.iGrp {at_ i j up : Nat} {x : Nd} (hx : K.re[at_]? = some x) (ho : x.op = 7) (h : Ev K S (.take at_ i j up) b S') : ∃ u S2 S3, ({ S.tick with cs := fgt (K.inn (at_ + 1) (K.bh at_)) S.cs } : SS).push ⟨up, at_, 0, 0, i, j⟩ = (u, S2) ∧ Ev K S2 (.take (at_ + 1) i j u) b S3 ∧
    S' = if b = true then S3 else { S3 with cs := rst (K.inn (at_ + 1) (K.bh at_)) (emW (K.inn (at_ + 1) (K.bh at_)) S.cs) S3.cs } := by
  cases h with
  | takeNo hx' _ ho' => rw [hx] at hx'; cases hx'; omega
  | takeYes hx' _ ho' => rw [hx] at hx'; cases hx'; omega
  | takeAlt hx' _ ho' => rw [hx] at hx'; cases hx'; omega
  | takeCat hx' _ ho' => rw [hx] at hx'; cases hx'; omega
  | takeRep hx' _ ho' => rw [hx] at hx'; cases hx'; omega
  | takeGrpY hx' _ ho' hp h => rw [hx] at hx'; cases hx'; exact ⟨_, _, _, hp, h, rfl⟩
  | takeGrpN hx' _ ho' hp h => rw [hx] at hx'; cases hx'; exact ⟨_, _, _, hp, h, rfl⟩
theorem Ev.iAlt0 {kid i j up : Nat} (h : Ev K S (.alt kid 0 i j up) b S') : b = false ∧ S' = S := by cases h; exact ⟨rfl, rfl⟩
theorem Ev.iAlt {kid l i j up : Nat} (h : Ev K S (.alt kid (l + 1) i j up) b S') : ∃ b1 S1, Ev K S (.take kid i j up) b1 S1 ∧ ((b1 = true ∧ b = true ∧ S' = S1) ∨ (b1 = false ∧ Ev K S1 (.alt (K.bh kid) l i j up) b S')) := by
  cases h with
  | altYes h => exact ⟨_, _, h, .inl ⟨rfl, rfl, rfl⟩⟩
  | altNo h h' => exact ⟨_, _, h, .inr ⟨rfl, h'⟩⟩
end
/-! what is well keeps well -/
theorem Fin.push {K : SrE} {S S1 : SS} {f : Frm} {u : Nat} (h : Fin K S) (hf : FrOk K f) (hu : f.up ≤ S.fs.length) (hp : S.push f = (u, S1)) : Fin K S1 ∧ 1 ≤ u ∧ u ≤ S1.fs.length := by
  cases hq : fnd f S.fs with
  | some k =>
    rw [push_some hq] at hp
    cases hp
    exact ⟨h, by omega, (List.getElem?_eq_some_iff.1 (fnd_some hq)).1⟩
  | none =>
    rw [push_none hq] at hp
    cases hp
    exact ⟨⟨fun g hg => (List.mem_append.1 hg).elim (h.fr g) fun e => by rw [List.mem_singleton.1 e]; exact hf, h.ch.snoc hu, h.sp⟩, by omega, by simp⟩
theorem emW_ok {P : Sp → Prop} (h0 : P noS) : ∀ (l : List Nd) (cs : List Sp), (∀ s ∈ cs, P s) → ∀ s ∈ emW l cs, P s
  | [], _, _, _, h => by cases h
  | x :: l, cs, hc, s, h => by
    by_cases h7 : x.op = 7
    · rw [emW_7 h7] at h
      rcases List.mem_cons.1 h with rfl | h
      · rw [List.getD_eq_getElem?_getD]
        cases e : cs[x.n.toNat]? with
        | none => exact h0
        | some y => exact hc y (List.mem_of_getElem? e)
      · exact emW_ok h0 l _ (fun y hy => (List.mem_or_eq_of_mem_set hy).elim (hc y) fun e => by rw [e]; exact h0) s h
    · rw [emW_n h7] at h; exact emW_ok h0 l cs hc s h
theorem fgt_ok {P : Sp → Prop} (h0 : P noS) : ∀ (l : List Nd) (cs : List Sp), (∀ s ∈ cs, P s) → ∀ s ∈ fgt l cs, P s
  | [], _, hc, s, h => hc s h
  | x :: l, cs, hc, s, h => by
    by_cases h7 : x.op = 7
    · rw [fgt_7 h7] at h
      exact fgt_ok h0 l _ (fun y hy => (List.mem_or_eq_of_mem_set hy).elim (hc y) fun e => by rw [e]; exact h0) s h
    · rw [fgt_n h7] at h; exact fgt_ok h0 l cs hc s h
theorem rst_ok {P : Sp → Prop} (h0 : P noS) : ∀ (l : List Nd) (was cs : List Sp), (∀ s ∈ was, P s) → (∀ s ∈ cs, P s) → ∀ s ∈ rst l was cs, P s
  | [], _, _, _, hc, s, h => hc s h
  | x :: l, was, cs, hw, hc, s, h => by
    unfold rst at h
    split at h
    · refine rst_ok h0 l _ _ (fun y hy => hw y (List.mem_of_mem_tail hy)) (fun y hy => (List.mem_or_eq_of_mem_set hy).elim (hc y) fun e => ?_) s h
      rw [e]
      cases was with
      | nil => exact h0
      | cons a l => exact hw a List.mem_cons_self
    · exact rst_ok h0 l _ _ hw hc s h
theorem Fin.fgt {K : SrE} {S : SS} (h : Fin K S) (l : List Nd) : Fin K { S with cs := Mc.fgt l S.cs } := ⟨h.fr, h.ch, fgt_ok (.inl rfl) l _ h.sp⟩
theorem Fin.rst {K : SrE} {S : SS} (h : Fin K S) (l : List Nd) {was : List Sp} (hw : ∀ s ∈ was, SpOk K s) : Fin K { S with cs := Mc.rst l was S.cs } := ⟨h.fr, h.ch, rst_ok (.inl rfl) l _ _ hw h.sp⟩
theorem Fin.set {K : SrE} {S : SS} (h : Fin K S) (n : Nat) {x : Sp} (hx : SpOk K x) : Fin K { S with cs := S.cs.set n x } := ⟨h.fr, h.ch, fun s hs => (List.mem_or_eq_of_mem_set hs).elim (h.sp s) fun e => by rw [e]; exact hx⟩
def dwn (p : Nat) (e : Int) : List Nat := down p (e + 1 - p).toNat
theorem dwn_ends {p q : Nat} : dwn p q = ends p q := by unfold dwn ends; congr 1; omega
theorem dwn_nil {p : Nat} {e : Int} (h : ¬ e ≥ p) : dwn p e = [] := by unfold dwn; rw [show (e + 1 - (p : Int)).toNat = 0 by omega]; rfl
theorem dwn_cons {p : Nat} {e : Nat} (h : p ≤ e) : dwn p e = e :: dwn p ((e : Int) - 1) := by
  unfold dwn
  rw [show ((e : Int) + 1 - (p : Int)).toNat = (e - p) + 1 by omega, down, show ((e : Int) - 1 + 1 - (p : Int)).toNat = e - p by omega]
  congr 1; omega
end Go.HL.Kl.Mc
