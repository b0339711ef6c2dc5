/- Part of the proofs over this seat: see the text that holds the theorem. Conditions: each theorem bears its own. -/
import Derived.Test.YtiggliigookieaaKF1Z
import Derived.Test.YtiggliigookieaaHlB
namespace Go.HL.Kl.Mc
open Go Go.HL Go.HL.Kl
def zN : Nd := ⟨0, 0, 0, 0, 0, 0⟩
theorem En_zero : En zN = [.int .i8 0, .int .u64 0, .int .u64 0, .int .u64 0, .int .u64 0, .int .i64 0, .int .i64 0, .int .i64 0, .int .i64 0] := by
  show _ :: (Ec 0#256 ++ _) = _
  rw [Ec_zero]; rfl
/-- a node without what its kind names -/
def zr (x : Nd) : Nd := ⟨0, if x.op = 1 then 0 else x.set, if x.op = 7 ∨ x.op = 8 then 0 else x.n, if x.op = 6 then 0 else x.mn, if x.op = 6 then 0 else x.mx, 0⟩
theorem zr_iff {x : Nd} : zr x = zN ↔ (x.op = 1 ∨ x.set = 0) ∧ (x.op = 7 ∨ x.op = 8 ∨ x.n = 0) ∧ (x.op = 6 ∨ x.mn = 0 ∧ x.mx = 0) := by
  simp only [zr, zN, Nd.mk.injEq, true_and, and_true]
  by_cases h1 : x.op = 1
  · simp [h1]
  by_cases h6 : x.op = 6
  · simp [h6]
  by_cases h7 : x.op = 7
  · simp [h7]
  by_cases h8 : x.op = 8
  · simp [h8]
  · simp [h1, h6, h7, h8]
theorem ndOk_zr {x : Nd} (h : zr x ≠ zN) : ndOk x = false := by
  cases hb : ndOk x
  · rfl
  exfalso
  apply h
  rw [zr_iff]
  simp only [ndOk, flds, Bool.and_eq_true, Bool.or_eq_true, decide_eq_true_eq] at hb
  obtain ⟨⟨⟨⟨_, h1⟩, h2⟩, h3⟩, _⟩ := hb
  refine ⟨h1, by rcases h2 with h2 | h2 <;> omega, ?_⟩
  by_cases h6 : x.op = 6
  · exact .inl h6
  · rw [if_neg h6] at h3; simp at h3; exact .inr h3
theorem ndOk_kidsOk {x : Nd} (h1 : 1 ≤ x.op ∧ x.op ≤ 8) (h2 : x.op = 6 → 0 ≤ x.mn ∧ x.mn ≤ 255 ∧ (x.mx = -1 ∨ x.mn ≤ x.mx ∧ x.mx ≤ 255)) (hz : zr x = zN) : ndOk x = kidsOk x := by
  rw [zr_iff] at hz
  obtain ⟨a, b, c⟩ := hz
  have : flds x = true := by
    simp only [flds, Bool.and_eq_true, Bool.or_eq_true, decide_eq_true_eq]
    refine ⟨⟨⟨h1, a⟩, by omega⟩, ?_⟩
    by_cases h6 : x.op = 6
    · rw [if_pos h6]; simpa using h2 h6
    · rw [if_neg h6]; simp; omega
  rw [ndOk, this, Bool.true_and]
theorem ndOk_rep {x : Nd} (h6 : x.op = 6) (h : ¬ (0 ≤ x.mn ∧ x.mn ≤ 255 ∧ (x.mx = -1 ∨ x.mn ≤ x.mx ∧ x.mx ≤ 255))) : ndOk x = false := by
  cases hb : ndOk x
  · rfl
  · exact absurd (rep_flds hb h6) h
theorem ndOk_op {x : Nd} (h : ¬ (1 ≤ x.op ∧ x.op ≤ 8)) : ndOk x = false := by
  rw [ndOk, flds, decide_eq_false h]; simp
end Go.HL.Kl.Mc
namespace Go.Proofs.Ytiggliigookieaa
open Go Go.HL Go.Proofs Go.HL.Kl Go.HL.Kl.Mc
set_option maxHeartbeats 1000000 in
theorem ndOk_fn (x : Nd) : HL.Fn Try.prog 52 [.agg (En x).toArray] (fun _ => True) [] (fun v _ => v = .bool (ndOk x)) := by
  refine fn_of Try.func52 rfl rfl rfl fun w0 hw => ?_
  refine c_seq fun _ hK1 => ?_
  refine c_region ?_
  refine o_box rfl rfl rfl fun b1 => ?_
  refine o_step rfl (s_assign rfl) ?_
  refine o_nil ?_
  refine x_then (hK1 _ _ ?_)
  refine c_seq fun _ hK2 => ?_
  refine c_region ?_
  refine o_step rfl (s_ldB rfl (RdPK.cels (.own meA)) lnA) ?_
  refine o_alloc (l := En zN) (by rw [En_zero]; rfl) rfl fun b3 => ?_
  refine o_stW rfl rfl upA lnA lnA onA ?_
  refine o_nil ?_
  refine x_then (hK2 _ _ ?_)
  refine c_seq fun _ hK3 => ?_
  refine c_region ?_
  refine o_step rfl (s_field rfl rfl (by decide)) ?_
  refine o_store rfl rfl rfl upA ltA rfl ?_
  rw [show (En x).set 0 (.int .i8 0) = En (⟨0, x.set, x.n, x.mn, x.mx, x.kids⟩ : Nd) from rfl]
  refine o_step rfl (s_field rfl rfl (by decide)) ?_
  refine o_store rfl rfl rfl upA ltA rfl ?_
  rw [show (En (⟨0, x.set, x.n, x.mn, x.mx, x.kids⟩ : Nd)).set 8 (.int .i64 0) = En (⟨0, x.set, x.n, x.mn, x.mx, 0⟩ : Nd) from rfl]
  refine o_nil ?_
  refine x_then (hK3 _ _ ?_)
  refine c_seqJ (ι := Unit) (fun g => (1 ≤ x.op ∧ x.op ≤ 8) ∧ (x.op = 6 → 0 ≤ x.mn ∧ x.mn ≤ 255 ∧ (x.mx = -1 ∨ x.mn ≤ x.mx ∧ x.mx ≤ 255))) (fun g => []) [(1, _), (3, _)] (fun g => [(b3, .cells (En (zr x)).toArray 51 (0, 0)), (b1, .cells (En x).toArray 51 (0, 0))]) sbA ?_ ?_
  ·
   rintro g hI
   refine c_seq fun _ hK5 => ?_
   refine c_seq fun _ hK6 => ?_
   refine c_region ?_
   refine o_step rfl (s_ldB rfl (RdPK.cels (.own meA)) lnA) ?_
   refine o_step rfl (step_cast (v' := .agg (En zN).toArray) (s_build (cs := [_, _, _, _, _, _, _, _, _]) (vs := []) rfl rfl .nil) (by rw [En_zero])) ?_
   by_cases hz : zr x ≠ zN
   ·
    refine o_step rfl (step_cast (v' := .bool true) (s_neq_nd rfl rfl) (by rw [decide_eq_false hz]; rfl)) ?_
    refine o_nil ?_
    refine x_then (hK6 _ _ ?_)
    refine c_true rfl ?_
    refine c_seq fun _ hK7 => ?_
    refine c_region ?_
    refine o_step rfl (s_assign rfl) ?_
    refine o_nil ?_
    refine x_then (hK7 _ _ ?_)
    refine c_ret ?_
    refine x_then_ret (?_)
    exact x_ret rfl (.tmp rfl (.nil)) ((congrArg Value.bool (ndOk_zr hz).symm))
   ·
    have hk := ndOk_kidsOk hI.1 hI.2 (Decidable.not_not.1 hz)
    unfold kidsOk at hk
    refine o_step rfl (step_cast (v' := .bool false) (s_neq_nd rfl rfl) (by rw [decide_eq_true (Decidable.not_not.1 hz)]; rfl)) ?_
    refine o_nil ?_
    refine x_then (hK6 _ _ ?_)
    refine c_false rfl ?_
    refine c_skip ?_
    refine x_then (hK5 _ _ ?_)
    refine c_seq fun _ hK8 => ?_
    refine c_seq fun _ hK9 => ?_
    refine c_region ?_
    refine o_step rfl (s_field rfl rfl (by decide)) ?_
    refine o_step rfl (s_ld rfl (.own meA rfl)) ?_
    refine o_nil ?_
    refine x_then (hK9 _ _ ?_)
    refine c_block ?_
    refine c_seq fun _ hK10 => ?_
    refine c_seq fun _ hK11 => ?_
    refine c_region ?_
    by_cases k6 : x.op = 6
    ·
     refine o_step rfl (step_cast (v' := .bool true) (s_eql rfl rfl) (by rw [decide_eq_true k6])) ?_
     refine o_step rfl (s_assign rfl) ?_
     refine o_nil ?_
     refine x_then (hK11 _ _ ?_)
     refine c_true rfl ?_
     refine c_skip ?_
     refine x_then (hK10 _ _ ?_)
     refine c_true rfl ?_
     refine c_seq fun _ hK12 => ?_
     refine c_region ?_
     refine o_step rfl (s_field rfl rfl (by decide)) ?_
     refine o_step rfl (s_ld rfl (.own meA rfl)) ?_
     refine o_step rfl (s_eql rfl rfl) ?_
     refine o_step rfl (s_assign rfl) ?_
     refine o_nil ?_
     refine x_then (hK12 _ _ ?_)
     refine c_ret ?_
     refine x_block_ret (x_then_ret (?_))
     exact x_ret rfl (.tmp rfl (.nil)) ((congrArg Value.bool (by rw [hk, if_pos (.inl k6)])))
    ·
     refine o_step rfl (step_cast (v' := .bool false) (s_eql rfl rfl) (by rw [decide_eq_false k6])) ?_
     refine o_step rfl (s_assign rfl) ?_
     refine o_nil ?_
     refine x_then (hK11 _ _ ?_)
     refine c_false rfl ?_
     refine c_region ?_
     by_cases k7 : x.op = 7
     ·
      refine o_step rfl (step_cast (v' := .bool true) (s_eql rfl rfl) (by rw [decide_eq_true k7])) ?_
      refine o_step rfl (s_assign rfl) ?_
      refine o_nil ?_
      refine x_then (hK10 _ _ ?_)
      refine c_true rfl ?_
      refine c_seq fun _ hK13 => ?_
      refine c_region ?_
      refine o_step rfl (s_field rfl rfl (by decide)) ?_
      refine o_step rfl (s_ld rfl (.own meA rfl)) ?_
      refine o_step rfl (s_eql rfl rfl) ?_
      refine o_step rfl (s_assign rfl) ?_
      refine o_nil ?_
      refine x_then (hK13 _ _ ?_)
      refine c_ret ?_
      refine x_block_ret (x_then_ret (?_))
      exact x_ret rfl (.tmp rfl (.nil)) ((congrArg Value.bool (by rw [hk, if_pos (.inr k7)])))
     ·
      refine o_step rfl (step_cast (v' := .bool false) (s_eql rfl rfl) (by rw [decide_eq_false k7])) ?_
      refine o_step rfl (s_assign rfl) ?_
      refine o_nil ?_
      refine x_then (hK10 _ _ ?_)
      refine c_false rfl ?_
      refine c_seq fun _ hK14 => ?_
      refine c_region ?_
      by_cases k5 : x.op = 5
      ·
       refine o_step rfl (step_cast (v' := .bool true) (s_eql rfl rfl) (by rw [decide_eq_true k5])) ?_
       refine o_step rfl (s_assign rfl) ?_
       refine o_nil ?_
       refine x_then (hK14 _ _ ?_)
       refine c_true rfl ?_
       refine c_seq fun _ hK15 => ?_
       refine c_region ?_
       refine o_step rfl (s_field rfl rfl (by decide)) ?_
       refine o_step rfl (s_ld rfl (.own meA rfl)) ?_
       refine o_step rfl (s_geq rfl rfl) ?_
       refine o_step rfl (s_assign rfl) ?_
       refine o_nil ?_
       refine x_then (hK15 _ _ ?_)
       refine c_ret ?_
       refine x_block_ret (x_then_ret (?_))
       exact x_ret rfl (.tmp rfl (.nil)) ((congrArg Value.bool (by rw [hk, if_neg (by omega), if_neg (by omega), if_pos k5])))
      ·
       refine o_step rfl (step_cast (v' := .bool false) (s_eql rfl rfl) (by rw [decide_eq_false k5])) ?_
       refine o_step rfl (s_assign rfl) ?_
       refine o_nil ?_
       refine x_then (hK14 _ _ ?_)
       refine c_false rfl ?_
       refine c_seq fun _ hK16 => ?_
       refine c_region ?_
       by_cases k4 : x.op = 4
       ·
        refine o_step rfl (step_cast (v' := .bool true) (s_eql rfl rfl) (by rw [decide_eq_true k4])) ?_
        refine o_step rfl (s_assign rfl) ?_
        refine o_nil ?_
        refine x_then (hK16 _ _ ?_)
        refine c_true rfl ?_
        refine c_seq fun _ hK17 => ?_
        refine c_region ?_
        refine o_step rfl (s_field rfl rfl (by decide)) ?_
        refine o_step rfl (s_ld rfl (.own meA rfl)) ?_
        by_cases k0 : x.kids = 0
        ·
         refine o_step rfl (step_cast (v' := .bool true) (s_eql rfl rfl) (by rw [decide_eq_true (by omega)])) ?_
         refine o_step rfl (s_move rfl) ?_
         refine o_no rfl rfl rfl rfl ?_
         refine o_no rfl rfl rfl rfl ?_
         refine o_no rfl rfl rfl rfl ?_
         refine o_step rfl (s_pick_t rfl rfl) ?_
         refine o_step rfl (s_assign rfl) ?_
         refine o_nil ?_
         refine x_then (hK17 _ _ ?_)
         refine c_ret ?_
         refine x_block_ret (x_then_ret (?_))
         exact x_ret rfl (.tmp rfl (.nil)) ((congrArg Value.bool (by rw [hk, if_neg (by omega), if_pos k4, decide_eq_true (by omega)])))
        ·
         refine o_step rfl (step_cast (v' := .bool false) (s_eql rfl rfl) (by rw [decide_eq_false (by omega)])) ?_
         refine o_step rfl (s_move rfl) ?_
         refine o_yes rfl rfl ?_
         refine o_step rfl (s_field rfl rfl (by decide)) ?_
         refine o_yes rfl rfl ?_
         refine o_step rfl (s_ld rfl (.own meA rfl)) ?_
         refine o_yes rfl rfl ?_
         refine o_step rfl (s_geq rfl rfl) ?_
         refine o_step rfl (s_pick_f rfl rfl) ?_
         refine o_step rfl (s_assign rfl) ?_
         refine o_nil ?_
         refine x_then (hK17 _ _ ?_)
         refine c_ret ?_
         refine x_block_ret (x_then_ret (?_))
         exact x_ret rfl (.tmp rfl (.nil)) ((congrArg Value.bool (by rw [hk, if_neg (by omega), if_pos k4]; exact decide_eq_decide.2 (by omega))))
       ·
        refine o_step rfl (step_cast (v' := .bool false) (s_eql rfl rfl) (by rw [decide_eq_false k4])) ?_
        refine o_step rfl (s_assign rfl) ?_
        refine o_nil ?_
        refine x_then (hK16 _ _ ?_)
        refine c_false rfl ?_
        refine c_skip ?_
        refine x_block ?_
        refine x_then (hK8 _ _ ?_)
        refine c_seq fun _ hK18 => ?_
        refine c_region ?_
        refine o_step rfl (s_field rfl rfl (by decide)) ?_
        refine o_step rfl (s_ld rfl (.own meA rfl)) ?_
        refine o_step rfl (s_eql rfl rfl) ?_
        refine o_step rfl (s_assign rfl) ?_
        refine o_nil ?_
        refine x_then (hK18 _ _ ?_)
        refine c_ret ?_
        refine ?_
        exact x_ret rfl (.tmp rfl (.nil)) ((congrArg Value.bool (by rw [hk, if_neg (by omega), if_neg (by omega), if_neg (by omega)])))
  ·
   intro _ hJ4
   refine c_seq fun _ hK19 => ?_
   refine c_region ?_
   refine o_step rfl (s_field rfl rfl (by decide)) ?_
   refine o_step rfl (s_ld rfl (.own meA rfl)) ?_
   refine o_nil ?_
   refine x_then (hK19 _ _ ?_)
   refine c_block ?_
   refine c_seq fun _ hK20 => ?_
   refine c_region ?_
   by_cases h1 : x.op = 1
   ·
    refine o_step rfl (step_cast (v' := .bool true) (s_eql rfl rfl) (by rw [decide_eq_true h1])) ?_
    refine o_step rfl (s_assign rfl) ?_
    refine o_nil ?_
    refine x_then (hK20 _ _ ?_)
    refine c_true rfl ?_
    refine c_region ?_
    refine o_step rfl (step_cast (v' := .agg (Ec 0#256).toArray) (s_build0 rfl) (by rw [Ec_zero]; rfl)) ?_
    refine o_step rfl (s_field rfl rfl (by decide)) ?_
    refine o_storeA (l := En (⟨0, x.set, x.n, x.mn, x.mx, 0⟩ : Nd)) (cs := Ec 0#256) rfl rfl rfl (Enc.one _) upA (Nat.le_of_ble_eq_true rfl) (fun _ _ => frz0) ?_
    rw [show splice (En (⟨0, x.set, x.n, x.mn, x.mx, 0⟩ : Nd)) 1 (Ec 0#256) = En (⟨0, 0, x.n, x.mn, x.mx, 0⟩ : Nd) from rfl]
    refine o_nil ?_
    refine x_block ?_
    rw [show (⟨0, 0, x.n, x.mn, x.mx, 0⟩ : Nd) = zr x by rw [zr, if_pos h1, if_neg (by omega), if_neg (by omega), if_neg (by omega)]]
    exact x_then (hJ4 () _ _ ⟨by omega, fun h => absurd h (by omega)⟩ sbA sbA hzB)
   ·
    refine o_step rfl (step_cast (v' := .bool false) (s_eql rfl rfl) (by rw [decide_eq_false h1])) ?_
    refine o_step rfl (s_assign rfl) ?_
    refine o_nil ?_
    refine x_then (hK20 _ _ ?_)
    refine c_false rfl ?_
    refine c_seq fun _ hK21 => ?_
    refine c_seq fun _ hK22 => ?_
    refine c_region ?_
    by_cases h7 : x.op = 7
    ·
     refine o_step rfl (step_cast (v' := .bool true) (s_eql rfl rfl) (by rw [decide_eq_true h7])) ?_
     refine o_step rfl (s_assign rfl) ?_
     refine o_nil ?_
     refine x_then (hK22 _ _ ?_)
     refine c_true rfl ?_
     refine c_skip ?_
     refine x_then (hK21 _ _ ?_)
     refine c_true rfl ?_
     refine c_region ?_
     refine o_step rfl (s_field rfl rfl (by decide)) ?_
     refine o_store rfl rfl rfl upA ltA rfl ?_
     rw [show (En (⟨0, x.set, x.n, x.mn, x.mx, 0⟩ : Nd)).set 5 (.int .i64 0) = En (⟨0, x.set, 0, x.mn, x.mx, 0⟩ : Nd) from rfl]
     refine o_nil ?_
     refine x_block ?_
     rw [show (⟨0, x.set, 0, x.mn, x.mx, 0⟩ : Nd) = zr x by rw [zr, if_neg (by omega), if_pos (.inl h7), if_neg (by omega), if_neg (by omega)]]
     exact x_then (hJ4 () _ _ ⟨by omega, fun h => absurd h (by omega)⟩ sbA sbA hzB)
    ·
     refine o_step rfl (step_cast (v' := .bool false) (s_eql rfl rfl) (by rw [decide_eq_false h7])) ?_
     refine o_step rfl (s_assign rfl) ?_
     refine o_nil ?_
     refine x_then (hK22 _ _ ?_)
     refine c_false rfl ?_
     refine c_region ?_
     by_cases h8 : x.op = 8
     ·
      refine o_step rfl (step_cast (v' := .bool true) (s_eql rfl rfl) (by rw [decide_eq_true h8])) ?_
      refine o_step rfl (s_assign rfl) ?_
      refine o_nil ?_
      refine x_then (hK21 _ _ ?_)
      refine c_true rfl ?_
      refine c_region ?_
      refine o_step rfl (s_field rfl rfl (by decide)) ?_
      refine o_store rfl rfl rfl upA ltA rfl ?_
      rw [show (En (⟨0, x.set, x.n, x.mn, x.mx, 0⟩ : Nd)).set 5 (.int .i64 0) = En (⟨0, x.set, 0, x.mn, x.mx, 0⟩ : Nd) from rfl]
      refine o_nil ?_
      refine x_block ?_
      rw [show (⟨0, x.set, 0, x.mn, x.mx, 0⟩ : Nd) = zr x by rw [zr, if_neg (by omega), if_pos (.inr h8), if_neg (by omega), if_neg (by omega)]]
      exact x_then (hJ4 () _ _ ⟨by omega, fun h => absurd h (by omega)⟩ sbA sbA hzB)
     ·
      refine o_step rfl (step_cast (v' := .bool false) (s_eql rfl rfl) (by rw [decide_eq_false h8])) ?_
      refine o_step rfl (s_assign rfl) ?_
      refine o_nil ?_
      refine x_then (hK21 _ _ ?_)
      refine c_false rfl ?_
      refine c_seq fun _ hK23 => ?_
      refine c_region ?_
      by_cases h6 : x.op = 6
      ·
       refine o_step rfl (step_cast (v' := .bool true) (s_eql rfl rfl) (by rw [decide_eq_true h6])) ?_
       refine o_step rfl (s_assign rfl) ?_
       refine o_nil ?_
       refine x_then (hK23 _ _ ?_)
       refine c_true rfl ?_
       refine c_seq fun _ hK24 => ?_
       refine c_seq fun _ hK25 => ?_
       refine c_region ?_
       refine o_step rfl (s_field rfl rfl (by decide)) ?_
       refine o_step rfl (s_ld rfl (.own meA rfl)) ?_
       by_cases hm1 : x.mn < 0
       ·
        refine o_step rfl (step_cast (v' := .bool true) (s_lss rfl rfl) (by rw [decide_eq_true (by omega)])) ?_
        refine o_step rfl (s_move rfl) ?_
        refine o_no rfl rfl rfl rfl ?_
        refine o_no rfl rfl rfl rfl ?_
        refine o_no rfl rfl rfl rfl ?_
        refine o_step rfl (s_pick_t rfl rfl) ?_
        refine o_step rfl (s_move rfl) ?_
        refine o_no rfl rfl rfl rfl ?_
        refine o_no rfl rfl rfl rfl ?_
        refine o_no rfl rfl rfl rfl ?_
        refine o_no rfl rfl rfl rfl ?_
        refine o_noU rfl rfl rfl ?_
        refine o_noU rfl rfl rfl ?_
        refine o_noU rfl rfl rfl ?_
        refine o_noU rfl rfl rfl ?_
        refine o_noU rfl rfl rfl ?_
        refine o_noU rfl rfl rfl ?_
        refine o_noU rfl rfl rfl ?_
        refine o_noU rfl rfl rfl ?_
        refine o_noU rfl rfl rfl ?_
        refine o_noU rfl rfl rfl ?_
        refine o_no rfl rfl rfl rfl ?_
        refine o_step rfl (s_pick_t rfl rfl) ?_
        refine o_nil ?_
        refine x_then (hK25 _ _ ?_)
        refine c_true rfl ?_
        refine c_seq fun _ hK26 => ?_
        refine c_region ?_
        refine o_step rfl (s_assign rfl) ?_
        refine o_nil ?_
        refine x_then (hK26 _ _ ?_)
        refine c_ret ?_
        refine x_then_ret (x_block_ret (x_then_ret (?_)))
        exact x_ret rfl (.tmp rfl (.nil)) ((congrArg Value.bool (ndOk_rep h6 (by omega)).symm))
       ·
        refine o_step rfl (step_cast (v' := .bool false) (s_lss rfl rfl) (by rw [decide_eq_false (by omega)])) ?_
        refine o_step rfl (s_move rfl) ?_
        refine o_yes rfl rfl ?_
        refine o_step rfl (s_field rfl rfl (by decide)) ?_
        refine o_yes rfl rfl ?_
        refine o_step rfl (s_ld rfl (.own meA rfl)) ?_
        refine o_yes rfl rfl ?_
        by_cases hm2 : x.mn > 255
        ·
         refine o_step rfl (step_cast (v' := .bool true) (s_gtr rfl rfl) (by rw [decide_eq_true (by omega)])) ?_
         refine o_step rfl (s_pick_f rfl rfl) ?_
         refine o_step rfl (s_move rfl) ?_
         refine o_no rfl rfl rfl rfl ?_
         refine o_no rfl rfl rfl rfl ?_
         refine o_no rfl rfl rfl rfl ?_
         refine o_no rfl rfl rfl rfl ?_
         refine o_noU rfl rfl rfl ?_
         refine o_noU rfl rfl rfl ?_
         refine o_noU rfl rfl rfl ?_
         refine o_noU rfl rfl rfl ?_
         refine o_noU rfl rfl rfl ?_
         refine o_noU rfl rfl rfl ?_
         refine o_noU rfl rfl rfl ?_
         refine o_noU rfl rfl rfl ?_
         refine o_noU rfl rfl rfl ?_
         refine o_noU rfl rfl rfl ?_
         refine o_no rfl rfl rfl rfl ?_
         refine o_step rfl (s_pick_t rfl rfl) ?_
         refine o_nil ?_
         refine x_then (hK25 _ _ ?_)
         refine c_true rfl ?_
         refine c_seq fun _ hK27 => ?_
         refine c_region ?_
         refine o_step rfl (s_assign rfl) ?_
         refine o_nil ?_
         refine x_then (hK27 _ _ ?_)
         refine c_ret ?_
         refine x_then_ret (x_block_ret (x_then_ret (?_)))
         exact x_ret rfl (.tmp rfl (.nil)) ((congrArg Value.bool (ndOk_rep h6 (by omega)).symm))
        ·
         refine o_step rfl (step_cast (v' := .bool false) (s_gtr rfl rfl) (by rw [decide_eq_false (by omega)])) ?_
         refine o_step rfl (s_pick_f rfl rfl) ?_
         refine o_step rfl (s_move rfl) ?_
         refine o_yes rfl rfl ?_
         refine o_step rfl (s_field rfl rfl (by decide)) ?_
         refine o_yes rfl rfl ?_
         refine o_step rfl (s_ld rfl (.own meA rfl)) ?_
         refine o_yes rfl rfl ?_
         by_cases hm3 : x.mx ≠ -1
         ·
          refine o_step rfl (step_cast (v' := .bool true) (s_neq rfl rfl) (by rw [decide_eq_true (by omega)])) ?_
          refine o_yes rfl rfl ?_
          refine o_step rfl (s_move rfl) ?_
          refine o_yes rfl rfl ?_
          refine o_step rfl (s_field rfl rfl (by decide)) ?_
          refine o_yes rfl rfl ?_
          refine o_step rfl (s_ld rfl (.own meA rfl)) ?_
          refine o_yes rfl rfl ?_
          refine o_step rfl (s_field rfl rfl (by decide)) ?_
          refine o_yes rfl rfl ?_
          refine o_step rfl (s_ld rfl (.own meA rfl)) ?_
          refine o_yes rfl rfl ?_
          by_cases hm4 : x.mx < x.mn
          ·
           refine o_step rfl (step_cast (v' := .bool true) (s_lss rfl rfl) (by rw [decide_eq_true (by omega)])) ?_
           refine o_yes rfl rfl ?_
           refine o_step rfl (s_move rfl) ?_
           refine o_no rfl rfl rfl rfl ?_
           refine o_no rfl rfl rfl rfl ?_
           refine o_no rfl rfl rfl rfl ?_
           refine o_yes rfl rfl ?_
           refine o_step rfl (s_pick_t rfl rfl) ?_
           refine o_yes rfl rfl ?_
           refine o_step rfl (s_pick_t rfl rfl) ?_
           refine o_step rfl (s_pick_f rfl rfl) ?_
           refine o_nil ?_
           refine x_then (hK25 _ _ ?_)
           refine c_true rfl ?_
           refine c_seq fun _ hK28 => ?_
           refine c_region ?_
           refine o_step rfl (s_assign rfl) ?_
           refine o_nil ?_
           refine x_then (hK28 _ _ ?_)
           refine c_ret ?_
           refine x_then_ret (x_block_ret (x_then_ret (?_)))
           exact x_ret rfl (.tmp rfl (.nil)) ((congrArg Value.bool (ndOk_rep h6 (by omega)).symm))
          ·
           refine o_step rfl (step_cast (v' := .bool false) (s_lss rfl rfl) (by rw [decide_eq_false (by omega)])) ?_
           refine o_yes rfl rfl ?_
           refine o_step rfl (s_move rfl) ?_
           refine o_yes rfl rfl ?_
           refine o_step rfl (s_field rfl rfl (by decide)) ?_
           refine o_yes rfl rfl ?_
           refine o_step rfl (s_ld rfl (.own meA rfl)) ?_
           refine o_yes rfl rfl ?_
           by_cases hm5 : x.mx > 255
           ·
            refine o_step rfl (step_cast (v' := .bool true) (s_gtr rfl rfl) (by rw [decide_eq_true (by omega)])) ?_
            refine o_yes rfl rfl ?_
            refine o_step rfl (s_pick_f rfl rfl) ?_
            refine o_yes rfl rfl ?_
            refine o_step rfl (s_pick_t rfl rfl) ?_
            refine o_step rfl (s_pick_f rfl rfl) ?_
            refine o_nil ?_
            refine x_then (hK25 _ _ ?_)
            refine c_true rfl ?_
            refine c_seq fun _ hK29 => ?_
            refine c_region ?_
            refine o_step rfl (s_assign rfl) ?_
            refine o_nil ?_
            refine x_then (hK29 _ _ ?_)
            refine c_ret ?_
            refine x_then_ret (x_block_ret (x_then_ret (?_)))
            exact x_ret rfl (.tmp rfl (.nil)) ((congrArg Value.bool (ndOk_rep h6 (by omega)).symm))
           ·
            refine o_step rfl (step_cast (v' := .bool false) (s_gtr rfl rfl) (by rw [decide_eq_false (by omega)])) ?_
            refine o_yes rfl rfl ?_
            refine o_step rfl (s_pick_f rfl rfl) ?_
            refine o_yes rfl rfl ?_
            refine o_step rfl (s_pick_t rfl rfl) ?_
            refine o_step rfl (s_pick_f rfl rfl) ?_
            refine o_nil ?_
            refine x_then (hK25 _ _ ?_)
            refine c_false rfl ?_
            refine c_skip ?_
            refine x_then (hK24 _ _ ?_)
            refine c_region ?_
            refine o_step rfl (s_field rfl rfl (by decide)) ?_
            refine o_store rfl rfl rfl upA ltA rfl ?_
            rw [show (En (⟨0, x.set, x.n, x.mn, x.mx, 0⟩ : Nd)).set 6 (.int .i64 0) = En (⟨0, x.set, x.n, 0, x.mx, 0⟩ : Nd) from rfl]
            refine o_step rfl (s_field rfl rfl (by decide)) ?_
            refine o_store rfl rfl rfl upA ltA rfl ?_
            rw [show (En (⟨0, x.set, x.n, 0, x.mx, 0⟩ : Nd)).set 7 (.int .i64 0) = En (⟨0, x.set, x.n, 0, 0, 0⟩ : Nd) from rfl]
            refine o_nil ?_
            refine x_block ?_
            rw [show (⟨0, x.set, x.n, 0, 0, 0⟩ : Nd) = zr x by rw [zr, if_neg (by omega), if_neg (by omega), if_pos h6, if_pos h6]]
            exact x_then (hJ4 () _ _ ⟨by omega, fun h => by omega⟩ sbA sbA hzB)
         ·
          refine o_step rfl (step_cast (v' := .bool false) (s_neq rfl rfl) (by rw [decide_eq_false (by omega)])) ?_
          refine o_yes rfl rfl ?_
          refine o_step rfl (s_move rfl) ?_
          refine o_no rfl rfl rfl rfl ?_
          refine o_no rfl rfl rfl rfl ?_
          refine o_no rfl rfl rfl rfl ?_
          refine o_no rfl rfl rfl rfl ?_
          refine o_no rfl rfl rfl rfl ?_
          refine o_no rfl rfl rfl rfl ?_
          refine o_noU rfl rfl rfl ?_
          refine o_noU rfl rfl rfl ?_
          refine o_noU rfl rfl rfl ?_
          refine o_no rfl rfl rfl rfl ?_
          refine o_yes rfl rfl ?_
          refine o_step rfl (s_pick_f rfl rfl) ?_
          refine o_step rfl (s_pick_f rfl rfl) ?_
          refine o_nil ?_
          refine x_then (hK25 _ _ ?_)
          refine c_false rfl ?_
          refine c_skip ?_
          refine x_then (hK24 _ _ ?_)
          refine c_region ?_
          refine o_step rfl (s_field rfl rfl (by decide)) ?_
          refine o_store rfl rfl rfl upA ltA rfl ?_
          rw [show (En (⟨0, x.set, x.n, x.mn, x.mx, 0⟩ : Nd)).set 6 (.int .i64 0) = En (⟨0, x.set, x.n, 0, x.mx, 0⟩ : Nd) from rfl]
          refine o_step rfl (s_field rfl rfl (by decide)) ?_
          refine o_store rfl rfl rfl upA ltA rfl ?_
          rw [show (En (⟨0, x.set, x.n, 0, x.mx, 0⟩ : Nd)).set 7 (.int .i64 0) = En (⟨0, x.set, x.n, 0, 0, 0⟩ : Nd) from rfl]
          refine o_nil ?_
          refine x_block ?_
          rw [show (⟨0, x.set, x.n, 0, 0, 0⟩ : Nd) = zr x by rw [zr, if_neg (by omega), if_neg (by omega), if_pos h6, if_pos h6]]
          exact x_then (hJ4 () _ _ ⟨by omega, fun h => by omega⟩ sbA sbA hzB)
      ·
       refine o_step rfl (step_cast (v' := .bool false) (s_eql rfl rfl) (by rw [decide_eq_false h6])) ?_
       refine o_step rfl (s_assign rfl) ?_
       refine o_nil ?_
       refine x_then (hK23 _ _ ?_)
       refine c_false rfl ?_
       refine c_seq fun _ hK30 => ?_
       refine c_seq fun _ hK31 => ?_
       refine c_region ?_
       by_cases h2 : x.op = 2
       ·
        refine o_step rfl (step_cast (v' := .bool true) (s_eql rfl rfl) (by rw [decide_eq_true h2])) ?_
        refine o_step rfl (s_assign rfl) ?_
        refine o_nil ?_
        refine x_then (hK31 _ _ ?_)
        refine c_true rfl ?_
        refine c_skip ?_
        refine x_then (hK30 _ _ ?_)
        refine c_true rfl ?_
        refine c_skip ?_
        refine x_block ?_
        rw [show (⟨0, x.set, x.n, x.mn, x.mx, 0⟩ : Nd) = zr x by rw [zr, if_neg (by omega), if_neg (by omega), if_neg (by omega), if_neg (by omega)]]
        exact x_then (hJ4 () _ _ ⟨by omega, fun h => absurd h (by omega)⟩ sbA sbA hzB)
       ·
        refine o_step rfl (step_cast (v' := .bool false) (s_eql rfl rfl) (by rw [decide_eq_false h2])) ?_
        refine o_step rfl (s_assign rfl) ?_
        refine o_nil ?_
        refine x_then (hK31 _ _ ?_)
        refine c_false rfl ?_
        refine c_seq fun _ hK32 => ?_
        refine c_region ?_
        by_cases h3 : x.op = 3
        ·
         refine o_step rfl (step_cast (v' := .bool true) (s_eql rfl rfl) (by rw [decide_eq_true h3])) ?_
         refine o_step rfl (s_assign rfl) ?_
         refine o_nil ?_
         refine x_then (hK32 _ _ ?_)
         refine c_true rfl ?_
         refine c_skip ?_
         refine x_then (hK30 _ _ ?_)
         refine c_true rfl ?_
         refine c_skip ?_
         refine x_block ?_
         rw [show (⟨0, x.set, x.n, x.mn, x.mx, 0⟩ : Nd) = zr x by rw [zr, if_neg (by omega), if_neg (by omega), if_neg (by omega), if_neg (by omega)]]
         exact x_then (hJ4 () _ _ ⟨by omega, fun h => absurd h (by omega)⟩ sbA sbA hzB)
        ·
         refine o_step rfl (step_cast (v' := .bool false) (s_eql rfl rfl) (by rw [decide_eq_false h3])) ?_
         refine o_step rfl (s_assign rfl) ?_
         refine o_nil ?_
         refine x_then (hK32 _ _ ?_)
         refine c_false rfl ?_
         refine c_seq fun _ hK33 => ?_
         refine c_region ?_
         by_cases h4 : x.op = 4
         ·
          refine o_step rfl (step_cast (v' := .bool true) (s_eql rfl rfl) (by rw [decide_eq_true h4])) ?_
          refine o_step rfl (s_assign rfl) ?_
          refine o_nil ?_
          refine x_then (hK33 _ _ ?_)
          refine c_true rfl ?_
          refine c_skip ?_
          refine x_then (hK30 _ _ ?_)
          refine c_true rfl ?_
          refine c_skip ?_
          refine x_block ?_
          rw [show (⟨0, x.set, x.n, x.mn, x.mx, 0⟩ : Nd) = zr x by rw [zr, if_neg (by omega), if_neg (by omega), if_neg (by omega), if_neg (by omega)]]
          exact x_then (hJ4 () _ _ ⟨by omega, fun h => absurd h (by omega)⟩ sbA sbA hzB)
         ·
          refine o_step rfl (step_cast (v' := .bool false) (s_eql rfl rfl) (by rw [decide_eq_false h4])) ?_
          refine o_step rfl (s_assign rfl) ?_
          refine o_nil ?_
          refine x_then (hK33 _ _ ?_)
          refine c_false rfl ?_
          refine c_region ?_
          by_cases h5 : x.op = 5
          ·
           refine o_step rfl (step_cast (v' := .bool true) (s_eql rfl rfl) (by rw [decide_eq_true h5])) ?_
           refine o_step rfl (s_assign rfl) ?_
           refine o_nil ?_
           refine x_then (hK30 _ _ ?_)
           refine c_true rfl ?_
           refine c_skip ?_
           refine x_block ?_
           rw [show (⟨0, x.set, x.n, x.mn, x.mx, 0⟩ : Nd) = zr x by rw [zr, if_neg (by omega), if_neg (by omega), if_neg (by omega), if_neg (by omega)]]
           exact x_then (hJ4 () _ _ ⟨by omega, fun h => absurd h (by omega)⟩ sbA sbA hzB)
          ·
           refine o_step rfl (step_cast (v' := .bool false) (s_eql rfl rfl) (by rw [decide_eq_false h5])) ?_
           refine o_step rfl (s_assign rfl) ?_
           refine o_nil ?_
           refine x_then (hK30 _ _ ?_)
           refine c_false rfl ?_
           refine c_seq fun _ hK34 => ?_
           refine c_region ?_
           refine o_step rfl (s_assign rfl) ?_
           refine o_nil ?_
           refine x_then (hK34 _ _ ?_)
           refine c_ret ?_
           refine x_block_ret (x_then_ret (?_))
           exact x_ret rfl (.tmp rfl (.nil)) ((congrArg Value.bool (ndOk_op (by omega)).symm))
end Go.Proofs.Ytiggliigookieaa

/- Part of the proofs over this seat: see the text that holds the theorem. Conditions: each theorem bears its own. -/
namespace Go.Proofs.Ytiggliigookieaa
open Go Go.HL Go.Proofs Go.HL.Kl
theorem has_fn (c : Cl) (x : Nat) (hx : x < 256) : HL.Fn Try.prog 40 [.agg (Ec c).toArray, .int .u8 x] (fun _ => True) [] (fun v _ => v = .bool (c.getLsbD x)) := by
  refine fn_of Try.func40 rfl rfl rfl fun w0 hw => ?_
  refine c_seq fun _ hK1 => ?_
  refine c_region ?_
  refine o_box rfl rfl rfl fun b2 => ?_
  refine o_step rfl (s_assign rfl) ?_
  refine o_nil ?_
  refine x_then (hK1 _ _ ?_)
  refine c_seq fun _ hK2 => ?_
  refine c_region ?_
  refine o_step rfl (s_move rfl) ?_
  refine o_step rfl (step_cast (v' := .int .u8 ((x / 64 : Nat) : Int)) (s_shr rfl rfl (by decide)) (congrArg _ (shr6_u8 hx))) ?_
  refine o_step rfl (s_idx1 rfl rfl (by omega)) ?_
  refine o_step rfl (s_ld rfl ((RdPK.own meA).cel (j := x / 64) (Ec_get _ (by omega)) (by omega))) ?_
  refine o_step rfl (s_move rfl) ?_
  refine o_step rfl (step_cast (v' := .int .u8 ((x % 64 : Nat) : Int)) (s_and rfl rfl) (congrArg _ (v_and63 hx))) ?_
  refine o_step rfl (s_shr rfl rfl (by omega)) ?_
  refine o_step rfl (s_and rfl rfl) ?_
  refine o_step rfl (step_cast (v' := .bool (c.getLsbD x)) (s_eql rfl rfl) (congrArg Value.bool (hasB c hx))) ?_
  refine o_step rfl (s_assign rfl) ?_
  refine o_nil ?_
  refine x_then (hK2 _ _ ?_)
  refine c_ret ?_
  refine ?_
  exact x_ret rfl (.tmp rfl (.nil)) (rfl)

end Go.Proofs.Ytiggliigookieaa

/- The contract of the functions that look whether a list of nodes is well shaped. Conditions: none. -/
namespace Go.HL
open Go
theorem St.apart_M {α : Type} {E : α → List Value} {k : Nat} [he : Enc E k] {a : Option Addr} {c : Nat} {xs : List α} {w0 w : World} {M : List Nat} {S H : Hp} (st : St w0 w M H) (hin : HIn S H) (hr : Rd E w0 (.slice a xs.length c) xs) (ha : Apart M (.slice a xs.length c)) (hk : 0 < k) : Apart (keys S) (.slice a xs.length c) := by
  intro A n c' hv hn hm
  have ha' := ha A n c' hv hn
  cases hv
  obtain ⟨⟨b', o⟩, hmS, hb⟩ := List.mem_map.1 hm
  have hb : b' = A.block := hb
  subst hb
  rcases st.own _ _ (hin _ hmS) with h1 | h1
  · exact ha' h1
  have hl : 0 < xs.length := by omega
  obtain ⟨u, hu⟩ : ∃ u, (flat E xs)[0]? = some u := by
    have : 0 < (flat E xs).length := by rw [flat_len]; exact Nat.mul_pos hl hk
    exact ⟨_, List.getElem?_eq_getElem this⟩
  have h2 := hr.get 0 u hu
  have h3 : A.block < w0.heap.size := by
    rcases Nat.lt_or_ge A.block w0.heap.size with h' | h'
    · exact h'
    · simp [World.cell?, ea, sblk, oblk, Array.getElem?_eq_none h'] at h2
  omega
end Go.HL
namespace Go.HL.Kl.Mc
open Go Go.HL Go.HL.Kl
/-- what is known of a list so far, as a block -/
def LookB (T bx : Nat) (ra : Option Addr) (rc : Nat) (re : List Nd) (i : Nat) (ea : Option Addr) (ec : Nat) (en : List Bool) : Nat × Obj := (bx, .cells [.slice ra re.length rc, .int .i64 i, .slice ea en.length ec].toArray T (0, 0))
def NodeP (T bx : Nat) (ra : Option Addr) (rc : Nat) (re : List Nd) (r : Option (Nat × List Bool)) (v : Value) (S' : Hp) : Prop :=
  match r with
  | none => v = .bool false
  | some (i', en') => v = .bool true ∧ ∃ ea' ec' Se', S' = LookB T bx ra rc re i' ea' ec' en' :: Se' ∧ OwnS Ebo 1 4 (.slice ea' en'.length ec') en' Se'
def NodeC (P : Program) (fn T : Nat) (f : Nat) : Prop := ∀ (bx : Nat) (ra : Option Addr) (rc : Nat) (re : List Nd) (i wi g : Nat) (ea : Option Addr) (ec : Nat) (en : List Bool) (Se : Hp), (∀ x ∈ re, -128 ≤ x.op ∧ x.op < 128) → wi + f = 260 → i ≤ re.length → en.length ≤ 255 → g ≤ 64 → OwnS Ebo 1 4 (.slice ea en.length ec) en Se →
  Fn P fn [.pointer (some ⟨bx, 0, none⟩), .int .i64 wi, .int .i64 g] (fun w => Rd En w (.slice ra re.length rc) re ∧ Apart (keys (LookB T bx ra rc re i ea ec en :: Se)) (.slice ra re.length rc)) (LookB T bx ra rc re i ea ec en :: Se) (NodeP T bx ra rc re (shN re f i en g))
theorem hin_node {p q : Nat × Obj} {S : Hp} : HIn (p :: S) (p :: q :: S) := fun r hr => by
  rcases List.mem_cons.1 hr with rfl | h
  · exact List.mem_cons_self
  · exact List.mem_cons_of_mem _ (List.mem_cons_of_mem _ h)
theorem shN_end {re : List Nd} {f i g : Nat} {en : List Bool} (h : re.length ≤ i) : shN re f i en g = none := by
  cases f with
  | zero => rfl
  | succ f => simp only [shN]; rw [List.getElem?_eq_none h]
theorem shN_bad {re : List Nd} {f i g : Nat} {en : List Bool} {x : Nd} (hx : re[i]? = some x) (h : ndOk x = false) : shN re (f + 1) i en g = none := by
  simp only [shN, hx]; rw [if_neg (by rw [h]; decide)]
theorem shN_gate {re : List Nd} {f i g : Nat} {en : List Bool} {x : Nd} (hx : re[i]? = some x) (h : gate x en g = none) : shN re (f + 1) i en g = none := by
  simp only [shN, hx, h]; split <;> rfl
theorem shN_kids {re : List Nd} {f i g g1 : Nat} {en en1 : List Bool} {x : Nd} (hx : re[i]? = some x) (hg : gate x en g = some (en1, g1)) (h : kidsN (fun i en => shN re f i en g1) x.kids.toNat (i + 1) en1 = none) : shN re (f + 1) i en g = none := by
  simp only [shN, hx, hg, h]; split <;> rfl
theorem shN_some {re : List Nd} {f i g g1 i2 : Nat} {en en1 en2 : List Bool} {x : Nd} (hx : re[i]? = some x) (hok : ndOk x = true) (hg : gate x en g = some (en1, g1)) (h : kidsN (fun i en => shN re f i en g1) x.kids.toNat (i + 1) en1 = some (i2, en2)) :
    shN re (f + 1) i en g = some (i2, if x.op = 7 then en2.set (x.n.toNat - 1) true else en2) := by
  simp only [shN, hx, hg, h]; rw [if_pos hok]
theorem kidsN_snoc {step : Nat → List Bool → Option (Nat × List Bool)} : ∀ {k i : Nat} {en : List Bool} {i2 : Nat} {en2 : List Bool} {r : Option (Nat × List Bool)}, kidsN step k i en = some (i2, en2) → step i2 en2 = r → kidsN step (k + 1) i en = r
  | 0, i, en, i2, en2, r, h, hs => by
    simp only [kidsN, Option.some.injEq, Prod.mk.injEq] at h
    obtain ⟨rfl, rfl⟩ := h
    simp only [kidsN, hs]
    cases r <;> rfl
  | k + 1, i, en, i2, en2, r, h, hs => by
    simp only [kidsN] at h
    split at h
    · cases h
    · rename_i i' en' hst
      have := kidsN_snoc h hs
      rw [kidsN, hst]
      exact this
theorem kidsN_none {step : Nat → List Bool → Option (Nat × List Bool)} : ∀ {n k i : Nat} {en : List Bool}, kidsN step k i en = none → k ≤ n → kidsN step n i en = none
  | n, 0, i, en, h, _ => by simp [kidsN] at h
  | 0, k + 1, i, en, h, hk => by omega
  | n + 1, k + 1, i, en, h, hk => by
    simp only [kidsN] at h ⊢
    split at h
    · rfl
    · exact kidsN_none h (by omega)
theorem gate_len {x : Nd} {en en1 : List Bool} {g g1 : Nat} (h : gate x en g = some (en1, g1)) (he : en.length ≤ 255) (hg : g ≤ 64) : en.length ≤ en1.length ∧ en1.length ≤ 255 ∧ g1 ≤ 64 ∧ (x.op = 7 → x.n = en.length + 1 ∧ en1.length = en.length + 1) := by
  unfold gate at h
  split at h
  · split at h
    · cases h; exact ⟨Nat.le_refl _, he, hg, fun h7 => by omega⟩
    · cases h
  · split at h
    · split at h
      · rename_i h8 h7 hh
        cases h
        simp only [List.length_append, List.length_singleton]
        exact ⟨by omega, by omega, by omega, fun _ => ⟨hh.1, trivial⟩⟩
      · cases h
    · cases h; exact ⟨Nat.le_refl _, he, hg, fun h7 => absurd h7 ‹_›⟩
theorem kidsN_len {step : Nat → List Bool → Option (Nat × List Bool)} (hs : ∀ i en i' en', en.length ≤ 255 → step i en = some (i', en') → en.length ≤ en'.length ∧ en'.length ≤ 255) : ∀ {k i : Nat} {en : List Bool} {i2 : Nat} {en2 : List Bool}, en.length ≤ 255 → kidsN step k i en = some (i2, en2) → en.length ≤ en2.length ∧ en2.length ≤ 255
  | 0, i, en, i2, en2, he, h => by
    simp only [kidsN, Option.some.injEq, Prod.mk.injEq] at h
    obtain ⟨_, rfl⟩ := h
    exact ⟨Nat.le_refl _, he⟩
  | k + 1, i, en, i2, en2, he, h => by
    simp only [kidsN] at h
    split at h
    · cases h
    · rename_i i' en' hst
      have h1 := hs _ _ _ _ he hst
      have h2 := kidsN_len hs h1.2 h
      omega
theorem shN_len {re : List Nd} : ∀ {f i g : Nat} {en : List Bool} {i' : Nat} {en' : List Bool}, en.length ≤ 255 → g ≤ 64 → shN re f i en g = some (i', en') → en.length ≤ en'.length ∧ en'.length ≤ 255
  | 0, i, g, en, i', en', _, _, h => by cases h
  | f + 1, i, g, en, i', en', he, hg, h => by
    simp only [shN] at h
    split at h
    · cases h
    · split at h
      · split at h
        · cases h
        · rename_i en1 g1 hgt
          split at h
          · cases h
          · rename_i i2 en2 hk
            simp only [Option.some.injEq, Prod.mk.injEq] at h
            obtain ⟨-, rfl⟩ := h
            obtain ⟨h1, h2, h3, _⟩ := gate_len hgt he hg
            have h4 := kidsN_len (fun i en i' en' he h => shN_len he h3 h) h2 hk
            split
            · simp only [List.length_set]; omega
            · omega
      · cases h
theorem shN_le {re : List Nd} {f i g : Nat} {en : List Bool} {i' : Nat} {en' : List Bool} (h : shN re f i en g = some (i', en')) : i' ≤ re.length := by
  obtain ⟨x, ks, ht⟩ := shN_tree _ _ _ _ _ _ h
  exact ht.le
theorem shN_lt {re : List Nd} {f i g : Nat} {en : List Bool} {i' : Nat} {en' : List Bool} (h : shN re f i en g = some (i', en')) : i < i' := by
  obtain ⟨x, ks, ht⟩ := shN_tree _ _ _ _ _ _ h
  have := ht.len
  omega
theorem get_false {en : List Bool} {j : Nat} (h : ¬ en[j]? = some true) (hj : j < en.length) : en[j]? = some false := by
  rw [List.getElem?_eq_getElem hj] at h ⊢
  cases hb : en[j]
  · rfl
  · rw [hb] at h; exact absurd rfl h
theorem gate_other {x : Nd} {en : List Bool} {g : Nat} (h8 : ¬ x.op = 8) (h7 : ¬ x.op = 7) : gate x en g = some (en, g) := by rw [gate, if_neg h8, if_neg h7]
theorem gate_ref {x : Nd} {en : List Bool} {g : Nat} (h8 : x.op = 8) (h1 : 1 ≤ x.n) (h2 : x.n ≤ en.length) (h3 : en[x.n.toNat - 1]? = some true) : gate x en g = some (en, g) := by rw [gate, if_pos h8, if_pos ⟨h1, h2, h3⟩]
theorem gate_no8 {x : Nd} {en : List Bool} {g : Nat} (h8 : x.op = 8) (h : ¬ (1 ≤ x.n ∧ x.n ≤ en.length ∧ en[x.n.toNat - 1]? = some true)) : gate x en g = none := by rw [gate, if_pos h8, if_neg h]
theorem gate_grp {x : Nd} {en : List Bool} {g : Nat} (h7 : x.op = 7) (h : x.n = en.length + 1 ∧ x.n ≤ 255 ∧ g < 64) : gate x en g = some (en ++ [false], g + 1) := by rw [gate, if_neg (by omega), if_pos h7, if_pos h]
theorem gate_no7 {x : Nd} {en : List Bool} {g : Nat} (h7 : x.op = 7) (h : ¬ (x.n = en.length + 1 ∧ x.n ≤ 255 ∧ g < 64)) : gate x en g = none := by rw [gate, if_neg (by omega), if_pos h7, if_neg h]
end Go.HL.Kl.Mc

/- Subtrees of a list of nodes; weights; numbers converted. Conditions: none. -/
namespace Go.HL.Kl.Mc
open Go Go.HL Go.HL.Kl
theorem wrap_i64z {x : Int} (h1 : -9223372036854775808 ≤ x) (h2 : x < 9223372036854775808) : IntKind.i64.wrap x = x := by
  simp [IntKind.wrap, IntKind.signed, IntKind.bits]; omega
section
variable {P : Program} {κ : Cx} {L : HL.Loc} {H : Hp} {ty t t' : TypeId} {x : Operand}
theorem s_convI {ds : TypeDesc} {k' : IntKind} {a : Int} [TU P t ds] [TU P t' (.int .i64)] (hx : ev L x = some (.int k' a)) (h : -9223372036854775808 ≤ a ∧ a < 9223372036854775808) : Step P κ (.convert t t' x) ty L H (.int .i64 a) :=
  step_cast (s_conv hx) (congrArg _ (wrap_i64z h.1 h.2))
end
theorem nd_set {x : Nd} : ∀ (j : Nat) u, (Ec x.set)[j]? = some u → (En x)[1 + j]? = some u := by
  intro j u h
  rw [show 1 + j = j + 1 by omega]
  simp only [En, List.getElem?_cons_succ]
  rw [List.getElem?_append_left (List.getElem?_eq_some_iff.1 h).1]; exact h
theorem F.num_le : ∀ f : F, f.num ≤ f.size
  | .nil => Nat.le_refl _
  | .nd x ks r => by have := F.num_le r; simp only [F.num, F.size]; omega
/-- a forest of a list, from a place to a place -/
structure Part (re : List Nd) (f : F) (i i' : Nat) : Prop where
  wf : f.wf
  flat : re.drop i = f.flat ++ re.drop i'
  len : i' = i + f.size
  le : i' ≤ re.length
theorem Part.head {re : List Nd} {x : Nd} {ks r : F} {i i' : Nat} (h : Part re (.nd x ks r) i i') : re[i]? = some x ∧ Part re ks (i + 1) (i + 1 + ks.size) ∧ Part re r (i + 1 + ks.size) i' := by
  have hl := h.len
  have hle := h.le
  simp only [F.size] at hl
  have hf := h.flat
  simp only [F.flat, List.cons_append, List.append_assoc] at hf
  have h0 : re[i]? = some x := by
    have := congrArg (fun l => l[0]?) hf
    simpa using this
  have h1 : re.drop (i + 1) = ks.flat ++ (r.flat ++ re.drop i') := by
    have := congrArg (List.drop 1) hf
    rw [List.drop_drop] at this
    simpa using this
  have h2 : re.drop (i + 1 + ks.size) = r.flat ++ re.drop i' := by
    have := congrArg (List.drop ks.size) h1
    rw [List.drop_drop, ← F.flat_size, List.drop_left] at this
    rw [← F.flat_size]; exact this
  exact ⟨h0, ⟨h.wf.2.2.1, by rw [h2]; exact h1, rfl, by omega⟩, ⟨h.wf.2.2.2, h2, by omega, hle⟩⟩
theorem Part.one {re : List Nd} {x : Nd} {ks r : F} {i i' : Nat} (h : Part re (.nd x ks r) i i') : Part re (.nd x ks .nil) i (i + 1 + ks.size) := by
  obtain ⟨h0, h1, h2⟩ := h.head
  have hlt : i < re.length := (List.getElem?_eq_some_iff.1 h0).1
  refine ⟨⟨h.wf.1, h.wf.2.1, h.wf.2.2.1, trivial⟩, ?_, by simp [F.size]; omega, h1.le⟩
  rw [List.drop_eq_getElem_cons hlt, h1.flat]
  rw [List.getElem?_eq_getElem hlt] at h0
  simp at h0
  simp [F.flat, h0]
theorem gate_not7 {x : Nd} {en : List Bool} {g : Nat} (h7 : ¬ x.op = 7) (h8 : x.op = 8 → 1 ≤ x.n ∧ x.n ≤ en.length ∧ en[x.n.toNat - 1]? = some true) : gate x en g = some (en, g) := by
  by_cases h : x.op = 8
  · obtain ⟨a, b, c⟩ := h8 h; exact gate_ref h a b c
  · exact gate_other h h7
theorem TreeAt.part {re : List Nd} {d i i' : Nat} {x : Nd} {ks : F} (h : TreeAt re d i i' x ks) : Part re (.nd x ks .nil) i i' :=
  ⟨h.wf, by rw [h.flat]; simp [F.flat], by rw [h.len]; simp [F.size]; omega, h.le⟩
/-- the contract of the weighing functions -/
def WeighC (P : Program) (fn : Nat) (x : Nd) (ks : F) : Prop := ∀ (ra : Option Addr) (rc : Nat) (re : List Nd) (i i' : Nat), (∀ x ∈ re, -128 ≤ x.op ∧ x.op < 128) → Part re (.nd x ks .nil) i i' →
  Fn P fn [.slice ra re.length rc, .int .i64 i] (fun w => Rd En w (.slice ra re.length rc) re) [] (fun v _ => v = .tuple #[.int .i64 (cut (F.nd x ks .nil).weight), .int .i64 i'])
theorem cut_le (n : Nat) : cut n ≤ 16385 := by unfold cut; omega
theorem weight_one (x : Nd) (ks : F) : (F.nd x ks .nil).weight = 1 + times x * ks.weight := by simp [F.weight]
theorem mul_le {a b : Nat} (ha : a ≤ 16385) (hb : b ≤ 256) : a * b ≤ 4194560 := Nat.mul_le_mul ha hb
theorem mul_leZ {a b : Nat} (ha : a ≤ 16385) (hb : b ≤ 256) : (a : Int) * b ≤ 4194560 := by
  rw [← Int.natCast_mul]; have := mul_le ha hb; omega
theorem mul_0Z (a b : Nat) : 0 ≤ (a : Int) * b := by
  rw [← Int.natCast_mul]; omega
theorem cut_fin {t a : Nat} (ht : 1 ≤ t) : min ((cut a : Int) * t + 1) 16385 = (cut (1 + t * a) : Nat) := by
  rw [← cut_mul ht]
  have : (cut a : Int) * t + 1 = ((1 + t * cut a : Nat) : Int) := by rw [Nat.mul_comm]; push_cast; omega
  rw [this]; unfold cut; omega
theorem flds_iff {x : Nd} : flds x = true ↔ (1 ≤ x.op ∧ x.op ≤ 8) ∧ (x.op = 1 ∨ x.set = 0) ∧ (x.op = 7 ∨ x.op = 8 ∨ x.n = 0) ∧ (x.op = 6 → 0 ≤ x.mn ∧ x.mn ≤ 255 ∧ (x.mx = -1 ∨ x.mn ≤ x.mx ∧ x.mx ≤ 255)) ∧ (x.op ≠ 6 → x.mn = 0 ∧ x.mx = 0) := by
  simp only [flds, Bool.and_eq_true, Bool.or_eq_true, decide_eq_true_eq]
  by_cases h6 : x.op = 6
  · rw [if_pos h6]
    simp only [decide_eq_true_eq]
    constructor
    · rintro ⟨⟨⟨a, b⟩, c⟩, d⟩; exact ⟨a, b, by omega, fun _ => d, fun h => absurd h6 h⟩
    · rintro ⟨a, b, c, d, _⟩; exact ⟨⟨⟨a, b⟩, by omega⟩, d h6⟩
  · rw [if_neg h6]
    simp only [decide_eq_true_eq]
    constructor
    · rintro ⟨⟨⟨a, b⟩, c⟩, d⟩; exact ⟨a, b, by omega, fun h => absurd h h6, fun _ => d⟩
    · rintro ⟨a, b, c, _, d⟩; exact ⟨⟨⟨a, b⟩, by omega⟩, d h6⟩
theorem Ec_lenM (c : Kl.Cl) : (Ec c).length = 4 := Enc.len (E := Ec) c
end Go.HL.Kl.Mc

/- Which lists are well shaped, as an answer. Conditions: none. -/
namespace Go.HL.Kl.Mc
open Go Go.HL Go.HL.Kl
theorem flat_inj : ∀ (f g : F) (r s : List Nd), f.wf → g.wf → f.num = g.num → f.flat ++ r = g.flat ++ s → f = g ∧ r = s
  | .nil, .nil, r, s, _, _, _, h => ⟨rfl, h⟩
  | .nil, .nd _ _ _, _, _, _, _, hn, _ => by simp [F.num] at hn
  | .nd _ _ _, .nil, _, _, _, _, hn, _ => by simp [F.num] at hn
  | .nd x ks f, .nd y js g, r, s, hf, hg, hn, h => by
    simp only [F.flat, List.cons_append, List.append_assoc, List.cons.injEq] at h
    obtain ⟨rfl, h⟩ := h
    have hk : ks.num = js.num := by have := hf.2.1; have := hg.2.1; omega
    obtain ⟨e1, h1⟩ := flat_inj ks js _ _ hf.2.2.1 hg.2.2.1 hk h
    obtain ⟨e2, h2⟩ := flat_inj f g _ _ hf.2.2.2 hg.2.2.2 (by simpa [F.num] using hn) h1
    exact ⟨by rw [e1, e2], h2⟩
def ShpP (re : List Nd) : Prop := (∃ en, shN re 260 0 [] 0 = some (re.length, en)) ∧ ∃ x ks, Shp re x ks
noncomputable def shapedB (re : List Nd) : Bool := @decide (ShpP re) (Classical.propDecidable _)
theorem shapedB_iff {re : List Nd} : shapedB re = true ↔ ShpP re := by
  unfold shapedB
  constructor
  · intro h; exact @of_decide_eq_true _ (Classical.propDecidable _) h
  · intro h; exact @decide_eq_true _ (Classical.propDecidable _) h
theorem shapedB_no {re : List Nd} (h : ¬ ShpP re) : shapedB re = false := Bool.eq_false_iff.2 fun h' => h (shapedB_iff.1 h')
theorem shp_none {re : List Nd} (h : shN re 260 0 [] 0 = none) : shapedB re = false := shapedB_no fun ⟨⟨en, h'⟩, _⟩ => by rw [h] at h'; cases h'
theorem shp_end {re : List Nd} {j : Nat} {en : List Bool} (h : shN re 260 0 [] 0 = some (j, en)) (hj : j ≠ re.length) : shapedB re = false := shapedB_no fun ⟨⟨en', h'⟩, _⟩ => by
  rw [h] at h'; cases h'; exact hj rfl
theorem shp_tree {re : List Nd} {en : List Bool} (h : shN re 260 0 [] 0 = some (re.length, en)) : ∃ x ks, Part re (.nd x ks .nil) 0 re.length ∧ ks.depth + 1 ≤ 260 ∧ shapedB re = decide (cut (F.nd x ks .nil).weight ≤ 16384) := by
  obtain ⟨x, ks, ht⟩ := shN_tree _ _ _ _ _ _ h
  have hp := ht.part
  have hflat : re = x :: ks.flat := by simpa using ht.flat
  refine ⟨x, ks, hp, ht.dep, ?_⟩
  by_cases hw : (F.nd x ks .nil).weight ≤ 16384
  · rw [decide_eq_true (by unfold cut; omega)]
    exact shapedB_iff.2 ⟨⟨en, h⟩, x, ks, ⟨ht.wf, hflat, ht.dep, hw⟩⟩
  · rw [decide_eq_false (by unfold cut; omega)]
    refine shapedB_no fun ⟨_, y, js, hs⟩ => hw ?_
    have := flat_inj (.nd x ks .nil) (.nd y js .nil) [] [] ht.wf hs.wf rfl (by simp only [F.flat, List.append_nil]; rw [← hflat, ← hs.flat])
    rw [this.1]; exact hs.weight
noncomputable def refsB (re : List Nd) : Bool := shapedB re && re.any fun x => x.op == 8
theorem refs_yes {re : List Nd} {x : Nd} (hs : shapedB re = true) (hx : x ∈ re) (h8 : x.op = 8) : refsB re = true := by
  rw [refsB, hs, Bool.true_and, List.any_eq_true]
  exact ⟨x, hx, by simp [h8]⟩
theorem refs_no {re : List Nd} (h : ∀ j (x : Nd), j < re.length → re[j]? = some x → ¬ x.op = 8) : refsB re = false := by
  have : (re.any fun x => x.op == 8) = false := by
    rw [Bool.eq_false_iff]
    intro h'
    obtain ⟨x, hx, h8⟩ := List.any_eq_true.1 h'
    obtain ⟨j, hj⟩ := List.getElem?_of_mem hx
    exact h j x (List.getElem?_eq_some_iff.1 hj).1 hj (by simpa using h8)
  rw [refsB, this, Bool.and_false]
theorem refs_step {re : List Nd} {j : Nat} {x : Nd} (h : ∀ q (x : Nd), q < j → re[q]? = some x → ¬ x.op = 8) (hx : re[j]? = some x) (h8 : ¬ x.op = 8) : ∀ q (x : Nd), q < j + 1 → re[q]? = some x → ¬ x.op = 8 := by
  intro q y hq hy
  by_cases e : q = j
  · subst e; rw [hx] at hy; cases hy; exact h8
  · exact h q y (by omega) hy
theorem refs_shp {re : List Nd} (h : shapedB re = false) : refsB re = false := by rw [refsB, h, Bool.false_and]
theorem cut_fin2 {t a : Nat} (ht : 1 ≤ t) : min (1 + (t : Int) * (cut a : Int)) 16385 = (cut (1 + t * a) : Nat) := by
  rw [← cut_fin ht, Int.mul_comm, Int.add_comm]
end Go.HL.Kl.Mc

/- Where nodes end; the code of a regex, made step by step. Conditions: none. -/
namespace Go.HL.Kl.Mc
open Go Go.HL Go.HL.Kl
def Eix (n : Nat) : List Value := [.int .i64 n]
instance : Enc Eix 1 := ⟨fun _ => rfl, fun _ _ h => by simp [Eix] at h; subst h; rfl⟩
/-- of each node the place behind it and all in it, from a place on -/
def EndsOk (re : List Nd) (a : Nat) (l : List Nat) : Prop := l.length = re.length ∧ ∀ (i : Nat) (x : Nd) (ks r : F) (i' : Nat), a ≤ i → Part re (.nd x ks r) i i' → l[i]? = some (i + 1 + ks.size)
theorem Part.at {re : List Nd} : ∀ (f : F) (i i' : Nat), Part re f i i' → ∀ j, i ≤ j → j < i' → ∃ x ks r j', Part re (.nd x ks r) j j'
  | .nil, i, i', h, j, h1, h2 => by have := h.len; simp [F.size] at this; omega
  | .nd x ks r, i, i', h, j, h1, h2 => by
    obtain ⟨_, hk, hr⟩ := h.head
    by_cases e : j = i
    · subst e; exact ⟨x, ks, r, i', h⟩
    by_cases e2 : j < i + 1 + ks.size
    · exact Part.at ks _ _ hk j (by omega) e2
    · exact Part.at r _ _ hr j (by omega) h2
theorem Part.uniq {re : List Nd} {x y : Nd} {ks js r s : F} {i i' i2 : Nat} (h : Part re (.nd x ks r) i i') (h' : Part re (.nd y js s) i i2) : ks = js := by
  have h1 := h.one; have h2 := h'.one
  have := flat_inj (.nd x ks .nil) (.nd y js .nil) _ _ h1.wf h2.wf rfl (h1.flat.symm.trans h2.flat)
  have := this.1
  simp at this
  exact this.2
theorem EndsOk.start {re : List Nd} {l : List Nat} (h : l.length = re.length) : EndsOk re re.length l := ⟨h, fun i x ks r i' hi hp => by
  have := (List.getElem?_eq_some_iff.1 hp.head.1).1; omega⟩
theorem EndsOk.step {re : List Nd} {a : Nat} {l : List Nat} {x : Nd} {ks r : F} {i' : Nat} (h : EndsOk re (a + 1) l) (hp : Part re (.nd x ks r) a i') : EndsOk re a (l.set a (a + 1 + ks.size)) := by
  have hlt : a < re.length := (List.getElem?_eq_some_iff.1 hp.head.1).1
  refine ⟨by rw [List.length_set]; exact h.1, fun i y js s i2 hi hq => ?_⟩
  by_cases e : a = i
  · subst e
    rw [List.getElem?_set_self (by rw [h.1]; exact hlt), hp.uniq hq]
  · rw [List.getElem?_set_ne e]; exact h.2 i y js s i2 (by omega) hq
theorem F.size_nil {f : F} (h : f.size = 0) : f = .nil := by
  cases f with
  | nil => rfl
  | nd x ks r => simp [F.size] at h
end Go.HL.Kl.Mc

/- The code of a regex, made step by step: appended to, patched. Conditions: none. -/
namespace Go.HL.Kl.Mc
open Go Go.HL Go.HL.Kl
/-- the code of one node with all in it -/
def codeOne (x : Nd) (ks : F) (b : Nat) : List In := oneC x (fun b => code ks false b 0) (fun b => code ks true b (b + lenM ks true)) (lenM ks false) b
def lenT (x : Nd) (ks : F) : Nat := lenOne x (lenM ks false) (lenM ks true)
/-- of alternatives: the places of the jumps -/
def jmps : F → Nat → List Nat
  | .nil, _ => []
  | .nd x ks r, b => match r with
    | .nil => []
    | _ => (b + 1 + lenT x ks) :: jmps r (b + lenT x ks + 2)
/-- the jumps patched, the first j of them -/
def patch (l : List In) (ps : List Nat) (e : Nat) : List In := ps.foldl (fun l p => l.set p ⟨4, 0, e, 0⟩) l
end Go.HL.Kl.Mc

/- The code of a node, by its kind; the jumps of alternatives. Conditions: none. -/
namespace Go.HL.Kl.Mc
open Go Go.HL Go.HL.Kl
section
variable {x : Nd} {ks : F} {b : Nat}
end
def IsJ (l : List In) (p : Nat) : Prop := ∃ v : Int, l[p]? = some ⟨4, 0, v, 0⟩
end Go.HL.Kl.Mc

/- What Compile answers. Conditions: none. -/
namespace Go.HL.Kl.Mc
open Go Go.HL Go.HL.Kl
theorem F.size_weight : ∀ f : F, f.size ≤ f.weight
  | .nil => Nat.le_refl _
  | .nd x ks r => by
    have h1 := F.size_weight ks
    have h2 := F.size_weight r
    have h3 : ks.weight ≤ times x * ks.weight := Nat.le_mul_of_pos_left _ (times_pos x)
    simp only [F.size, F.weight]; omega
theorem Shp.len {re : List Nd} {x : Nd} {ks : F} (h : Shp re x ks) : re.length ≤ 16384 := by
  have h1 := F.size_weight (.nd x ks .nil)
  have := h.weight
  rw [h.flat]
  simp only [F.size] at h1
  simp only [List.length_cons, F.flat_size]
  omega
theorem Shp.part {re : List Nd} {x : Nd} {ks : F} (h : Shp re x ks) : Part re (.nd x ks .nil) 0 re.length := by
  refine ⟨h.wf, by rw [List.drop_length, List.drop_zero, List.append_nil]; simp [F.flat, h.flat], ?_, Nat.le_refl _⟩
  rw [h.flat]; simp [F.size, F.flat_size]
/-- an answer of Compile: none for what is not well shaped or has references, else the machine -/
inductive CompP (re : List Nd) (v : Value) (S' : Hp) : Prop
  | shape (hs : shapedB re = false) (hv : v = .tuple #[.slice none 0 0, .int .i64 49])
  | ref (hs : shapedB re = true) (hr : refsB re = true) (hv : v = .tuple #[.slice none 0 0, .int .i64 44])
  | ok {x : Nd} {ks : F} {a : Option Addr} (hs : shapedB re = true) (hr : refsB re = false) (h : Shp re x ks) (hv : v = .tuple #[.slice a (mach (.nd x ks .nil)).length (mach (.nd x ks .nil)).length, .int .i64 0]) (hm : RdS Ein (.slice a (mach (.nd x ks .nil)).length (mach (.nd x ks .nil)).length) (mach (.nd x ks .nil)) S')
/-- likewise: the machine is memory of one's own -/
inductive CompO (T : Nat) (re : List Nd) (v : Value) (S' : Hp) : Prop
  | shape (hs : shapedB re = false) (hv : v = .tuple #[.slice none 0 0, .int .i64 49]) (hn : S' = [])
  | ref (hs : shapedB re = true) (hr : refsB re = true) (hv : v = .tuple #[.slice none 0 0, .int .i64 44]) (hn : S' = [])
  | ok {x : Nd} {ks : F} {a : Option Addr} (hs : shapedB re = true) (hr : refsB re = false) (h : Shp re x ks) (hv : v = .tuple #[.slice a (mach (.nd x ks .nil)).length (mach (.nd x ks .nil)).length, .int .i64 0]) (hm : OwnS Ein 7 T (.slice a (mach (.nd x ks .nil)).length (mach (.nd x ks .nil)).length) (mach (.nd x ks .nil)) S')
end Go.HL.Kl.Mc

/- Which machines are well shaped, as an answer. Conditions: none. -/
namespace Go.HL.Kl.Mc
open Go Go.HL Go.HL.Kl
noncomputable def mokB (m : List In) : Bool := @decide (MOk m) (Classical.propDecidable _)
/-- the first so many instructions are right -/
def MUp (m : List In) (q : Nat) : Prop := ∀ i t, i < q → m[i]? = some t → InOk (m.length - 1) t ∧ (t.op ≤ 3 → i + 1 < m.length)
/-- what an instruction of its kind should be -/
def wantI (t : In) : In := ⟨t.op, if t.op = 1 then t.set else 0, if t.op = 4 ∨ t.op = 5 then t.x else 0, if t.op = 5 then t.y else 0⟩
end Go.HL.Kl.Mc

/- Where runs lead at a place: the search. Conditions: none. -/
namespace Go.HL.Kl.Mc
open Go Go.HL Go.HL.Kl
/-- where one step without a byte leads -/
def succs (t : In) (n p i : Nat) : List Nat :=
  if t.op = 2 then (if p = 0 then [i + 1] else []) else if t.op = 3 then (if p = n then [i + 1] else [])
  else if t.op = 4 then [t.x.toNat] else if t.op = 5 then [t.x.toNat, t.y.toNat] else []
/-- the search so far -/
structure Srch (m : List In) (n p from_ : Nat) (s0 sn : List Bool) (todo : List Nat) : Prop where
  len : sn.length = m.length
  a : ∀ i : Nat, s0[i]? = some true → sn[i]? = some true
  b : ∀ i : Nat, sn[i]? = some true → s0[i]? = some true ∨ EpsS m n p from_ i
  c : ∀ t ∈ todo, EpsS m n p from_ t ∧ t < m.length
  d : ∀ i j : Nat, sn[i]? = some true → Eps m n p i j → sn[j]? = some true ∨ j ∈ todo
  e : sn[from_]? = some true ∨ from_ ∈ todo
/-- how many are not yet seen -/
def unseen (l : List Bool) : Nat := l.countP (!·)
end Go.HL.Kl.Mc

/- Where runs lead, place by place. Conditions: none. -/
namespace Go.HL.Kl.Mc
open Go Go.HL Go.HL.Kl
/-- the steps of the machine at which a place is begun -/
def Begn (m : List In) (w : List UInt8) (f p j : Nat) : Prop := (p = f ∧ j = 0) ∨ (f < p ∧ ∃ i, j = i + 1 ∧ Run m w (0, f) (i, p - 1) ∧ Eat m w i (p - 1))
end Go.HL.Kl.Mc

/- What Ends answers. Conditions: none. -/
namespace Go.HL.Kl.Mc
open Go Go.HL Go.HL.Kl
/-- the answer -/
def EndsP (m : List In) (w : List UInt8) (f : Int) (out : List Bool) : Prop := out.length = w.length + 1 ∧ ∀ t : Nat, out[t]? = some true ↔ MOk m ∧ ∃ g : Nat, f = g ∧ g ≤ w.length ∧ Hit m w g t
/-- what reach has seen of the first k begun steps -/
def SeenP (m : List In) (w : List UInt8) (p : Nat) (q : List Nat) (k : Nat) (sn : List Bool) : Prop :=
  sn.length = m.length ∧ (∀ i : Nat, sn[i]? = some true ↔ ∃ t j : Nat, t < k ∧ q[t]? = some j ∧ EpsS m w.length p j i) ∧ ∀ i j : Nat, sn[i]? = some true → Eps m w.length p i j → sn[j]? = some true
/-- the second pass over the first k steps -/
structure PassP (m : List In) (w : List UInt8) (p : Nat) (sn out : List Bool) (k : Nat) (o2 : List Bool) (q2 : List Nat) : Prop where
  len : o2.length = out.length
  st : ∀ j, j ∈ q2 ↔ ∃ i, i < k ∧ j = i + 1 ∧ sn[i]? = some true ∧ Eat m w i p
  out : ∀ t : Nat, o2[t]? = some true ↔ out[t]? = some true ∨ (t = p ∧ ∃ i u, i < k ∧ sn[i]? = some true ∧ m[i]? = some u ∧ u.op = 6)
  le : q2.length ≤ k
/-- the answer of Ends: memory of its own -/
def EndsC (m : List In) (w : List UInt8) (f : Int) (v : Value) (S : Hp) : Prop := ∃ (a : Option Addr) (c : Nat) (out : List Bool), v = .slice a (w.length + 1) c ∧ OwnS Ebo 1 4 v out S ∧ EndsP m w f out
end Go.HL.Kl.Mc
