/- Part of the proofs over this seat: see the text that holds the theorem. Conditions: each theorem bears its own. -/
import Derived.Test.YtmpeokbongnniaaHTZ
import Derived.Test.YtmpeokbongnniaaMT3Z
namespace Go.HL.Kl.Mc
open Go Go.HL Go.HL.Kl
def zN : Nd := ⟨0, 0, 0, 0, 0, 0⟩
theorem En_zero : En zN = [.int .i8 0, .int .u64 0, .int .u64 0, .int .u64 0, .int .u64 0, .int .i64 0, .int .i64 0, .int .i64 0, .int .i64 0] := by
  show _ :: (Ec 0#256 ++ _) = _
  rw [Ec_zero]; rfl
def zr (x : Nd) : Nd := ⟨0, if x.op = 1 then 0 else x.set, if x.op = 7 ∨ x.op = 8 then 0 else x.n, if x.op = 6 then 0 else x.mn, if x.op = 6 then 0 else x.mx, 0⟩
theorem zr_iff {x : Nd} : zr x = zN ↔ (x.op = 1 ∨ x.set = 0) ∧ (x.op = 7 ∨ x.op = 8 ∨ x.n = 0) ∧ (x.op = 6 ∨ x.mn = 0 ∧ x.mx = 0) := by
  simp only [zr, zN, Nd.mk.injEq, true_and, and_true]
  by_cases h1 : x.op = 1
  · simp [h1]
  by_cases h6 : x.op = 6
  · simp [h6]
  by_cases h7 : x.op = 7
  · simp [h7]
  by_cases h8 : x.op = 8
  · simp [h8]
  · simp [h1, h6, h7, h8]
theorem ndOk_zr {x : Nd} (h : zr x ≠ zN) : ndOk x = false := by
  cases hb : ndOk x
  · rfl
  exfalso
  apply h
  rw [zr_iff]
  simp only [ndOk, flds, Bool.and_eq_true, Bool.or_eq_true, decide_eq_true_eq] at hb
  obtain ⟨⟨⟨⟨_, h1⟩, h2⟩, h3⟩, _⟩ := hb
  refine ⟨h1, by rcases h2 with h2 | h2 <;> omega, ?_⟩
  by_cases h6 : x.op = 6
  · exact .inl h6
  · rw [if_neg h6] at h3; simp at h3; exact .inr h3
theorem ndOk_kidsOk {x : Nd} (h1 : 1 ≤ x.op ∧ x.op ≤ 8) (h2 : x.op = 6 → 0 ≤ x.mn ∧ x.mn ≤ 255 ∧ (x.mx = -1 ∨ x.mn ≤ x.mx ∧ x.mx ≤ 255)) (hz : zr x = zN) : ndOk x = kidsOk x := by
  rw [zr_iff] at hz
  obtain ⟨a, b, c⟩ := hz
  have : flds x = true := by
    simp only [flds, Bool.and_eq_true, Bool.or_eq_true, decide_eq_true_eq]
    refine ⟨⟨⟨h1, a⟩, by omega⟩, ?_⟩
    by_cases h6 : x.op = 6
    · rw [if_pos h6]; simpa using h2 h6
    · rw [if_neg h6]; simp; omega
  rw [ndOk, this, Bool.true_and]
theorem ndOk_rep {x : Nd} (h6 : x.op = 6) (h : ¬ (0 ≤ x.mn ∧ x.mn ≤ 255 ∧ (x.mx = -1 ∨ x.mn ≤ x.mx ∧ x.mx ≤ 255))) : ndOk x = false := by
  cases hb : ndOk x
  · rfl
  · exact absurd (rep_flds hb h6) h
theorem ndOk_op {x : Nd} (h : ¬ (1 ≤ x.op ∧ x.op ≤ 8)) : ndOk x = false := by
  rw [ndOk, flds, decide_eq_false h]; simp
end Go.HL.Kl.Mc
namespace Go.Proofs.Ytmpeokbongnniaa
open Go Go.HL Go.Proofs Go.HL.Kl Go.HL.Kl.Mc
set_option maxHeartbeats 1000000 in
theorem ndOk_fn (x : Nd) : HL.Fn Try.prog 56 [.agg (En x).toArray] (fun _ => True) [] (fun v _ => v = .bool (ndOk x)) := by
  refine fn_of Try.func56 rfl rfl rfl fun w0 hw => ?_; refine c_seq fun _ hK1 => ?_; refine c_region ?_; refine o_box rfl rfl rfl fun b1 => ?_; refine o_step rfl (s_assign rfl) ?_; refine o_nil ?_; refine x_then (hK1 _ _ ?_); refine c_seq fun _ hK2 => ?_; refine c_region ?_; refine o_step rfl (s_ldB rfl (RdPK.cels (.own meA)) lnA) ?_; refine o_alloc (l := En zN) (by rw [En_zero]; rfl) rfl fun b3 => ?_; refine o_stW rfl rfl upA lnA lnA onA ?_; refine o_nil ?_; refine x_then (hK2 _ _ ?_); refine c_seq fun _ hK3 => ?_; refine c_region ?_; refine o_step rfl (s_field rfl rfl (by decide)) ?_; refine o_store rfl rfl rfl upA ltA rfl ?_
  rw [show (En x).set 0 (.int .i8 0) = En (⟨0, x.set, x.n, x.mn, x.mx, x.kids⟩ : Nd) from rfl]
  refine o_step rfl (s_field rfl rfl (by decide)) ?_; refine o_store rfl rfl rfl upA ltA rfl ?_
  rw [show (En (⟨0, x.set, x.n, x.mn, x.mx, x.kids⟩ : Nd)).set 8 (.int .i64 0) = En (⟨0, x.set, x.n, x.mn, x.mx, 0⟩ : Nd) from rfl]
  refine o_nil ?_; refine x_then (hK3 _ _ ?_); refine c_seqJ (ι := Unit) (fun g => (1 ≤ x.op ∧ x.op ≤ 8) ∧ (x.op = 6 → 0 ≤ x.mn ∧ x.mn ≤ 255 ∧ (x.mx = -1 ∨ x.mn ≤ x.mx ∧ x.mx ≤ 255))) (fun g => []) [(1, _), (3, _)] (fun g => [(b3, .cells (En (zr x)).toArray 85 (0, 0)), (b1, .cells (En x).toArray 85 (0, 0))]) sbA ?_ ?_
  ·
   rintro g hI
   refine c_seq fun _ hK5 => ?_; refine c_seq fun _ hK6 => ?_; refine c_region ?_; refine o_step rfl (s_ldB rfl (RdPK.cels (.own meA)) lnA) ?_; refine o_step rfl (step_cast (v' := .agg (En zN).toArray) (s_build (cs := [_, _, _, _, _, _, _, _, _]) (vs := []) rfl rfl .nil) (by rw [En_zero])) ?_
   by_cases hz : zr x ≠ zN
   ·
    refine o_step rfl (step_cast (v' := .bool true) (s_neq_nd rfl rfl) (by rw [decide_eq_false hz]; rfl)) ?_; refine o_nil ?_; refine x_then (hK6 _ _ ?_); refine c_true rfl ?_; refine c_seq fun _ hK7 => ?_; refine c_region ?_; refine o_step rfl (s_assign rfl) ?_; refine o_nil ?_; refine x_then (hK7 _ _ ?_); refine c_ret ?_; refine x_then_ret (?_); exact x_ret rfl (.tmp rfl (.nil)) ((congrArg Value.bool (ndOk_zr hz).symm))
   ·
    have hk := ndOk_kidsOk hI.1 hI.2 (Decidable.not_not.1 hz)
    unfold kidsOk at hk
    refine o_step rfl (step_cast (v' := .bool false) (s_neq_nd rfl rfl) (by rw [decide_eq_true (Decidable.not_not.1 hz)]; rfl)) ?_; refine o_nil ?_; refine x_then (hK6 _ _ ?_); refine c_false rfl ?_; refine c_skip ?_; refine x_then (hK5 _ _ ?_); refine c_seq fun _ hK8 => ?_; refine c_seq fun _ hK9 => ?_; refine c_region ?_; refine o_step rfl (s_field rfl rfl (by decide)) ?_; refine o_step rfl (s_ld rfl (.own meA rfl)) ?_; refine o_nil ?_; refine x_then (hK9 _ _ ?_); refine c_block ?_; refine c_seq fun _ hK10 => ?_; refine c_seq fun _ hK11 => ?_; refine c_region ?_
    by_cases k6 : x.op = 6
    ·
     refine o_step rfl (step_cast (v' := .bool true) (s_eql rfl rfl) (by rw [decide_eq_true k6])) ?_; refine o_step rfl (s_assign rfl) ?_; refine o_nil ?_; refine x_then (hK11 _ _ ?_); refine c_true rfl ?_; refine c_skip ?_; refine x_then (hK10 _ _ ?_); refine c_true rfl ?_; refine c_seq fun _ hK12 => ?_; refine c_region ?_; refine o_step rfl (s_field rfl rfl (by decide)) ?_; refine o_step rfl (s_ld rfl (.own meA rfl)) ?_; refine o_step rfl (s_eql rfl rfl) ?_; refine o_step rfl (s_assign rfl) ?_; refine o_nil ?_; refine x_then (hK12 _ _ ?_); refine c_ret ?_; refine x_block_ret (x_then_ret (?_))
     exact x_ret rfl (.tmp rfl (.nil)) ((congrArg Value.bool (by rw [hk, if_pos (.inl k6)])))
    ·
     refine o_step rfl (step_cast (v' := .bool false) (s_eql rfl rfl) (by rw [decide_eq_false k6])) ?_; refine o_step rfl (s_assign rfl) ?_; refine o_nil ?_; refine x_then (hK11 _ _ ?_); refine c_false rfl ?_; refine c_region ?_
     by_cases k7 : x.op = 7
     ·
      refine o_step rfl (step_cast (v' := .bool true) (s_eql rfl rfl) (by rw [decide_eq_true k7])) ?_; refine o_step rfl (s_assign rfl) ?_; refine o_nil ?_; refine x_then (hK10 _ _ ?_); refine c_true rfl ?_; refine c_seq fun _ hK13 => ?_; refine c_region ?_; refine o_step rfl (s_field rfl rfl (by decide)) ?_; refine o_step rfl (s_ld rfl (.own meA rfl)) ?_; refine o_step rfl (s_eql rfl rfl) ?_; refine o_step rfl (s_assign rfl) ?_; refine o_nil ?_; refine x_then (hK13 _ _ ?_); refine c_ret ?_; refine x_block_ret (x_then_ret (?_))
      exact x_ret rfl (.tmp rfl (.nil)) ((congrArg Value.bool (by rw [hk, if_pos (.inr k7)])))
     ·
      refine o_step rfl (step_cast (v' := .bool false) (s_eql rfl rfl) (by rw [decide_eq_false k7])) ?_; refine o_step rfl (s_assign rfl) ?_; refine o_nil ?_; refine x_then (hK10 _ _ ?_); refine c_false rfl ?_; refine c_seq fun _ hK14 => ?_; refine c_region ?_
      by_cases k5 : x.op = 5
      ·
       refine o_step rfl (step_cast (v' := .bool true) (s_eql rfl rfl) (by rw [decide_eq_true k5])) ?_; refine o_step rfl (s_assign rfl) ?_; refine o_nil ?_; refine x_then (hK14 _ _ ?_); refine c_true rfl ?_; refine c_seq fun _ hK15 => ?_; refine c_region ?_; refine o_step rfl (s_field rfl rfl (by decide)) ?_; refine o_step rfl (s_ld rfl (.own meA rfl)) ?_; refine o_step rfl (s_geq rfl rfl) ?_; refine o_step rfl (s_assign rfl) ?_; refine o_nil ?_; refine x_then (hK15 _ _ ?_); refine c_ret ?_; refine x_block_ret (x_then_ret (?_))
       exact x_ret rfl (.tmp rfl (.nil)) ((congrArg Value.bool (by rw [hk, if_neg (by omega), if_neg (by omega), if_pos k5])))
      ·
       refine o_step rfl (step_cast (v' := .bool false) (s_eql rfl rfl) (by rw [decide_eq_false k5])) ?_; refine o_step rfl (s_assign rfl) ?_; refine o_nil ?_; refine x_then (hK14 _ _ ?_); refine c_false rfl ?_; refine c_seq fun _ hK16 => ?_; refine c_region ?_
       by_cases k4 : x.op = 4
       ·
        refine o_step rfl (step_cast (v' := .bool true) (s_eql rfl rfl) (by rw [decide_eq_true k4])) ?_; refine o_step rfl (s_assign rfl) ?_; refine o_nil ?_; refine x_then (hK16 _ _ ?_); refine c_true rfl ?_; refine c_seq fun _ hK17 => ?_; refine c_region ?_; refine o_step rfl (s_field rfl rfl (by decide)) ?_; refine o_step rfl (s_ld rfl (.own meA rfl)) ?_
        by_cases k0 : x.kids = 0
        ·
         refine o_step rfl (step_cast (v' := .bool true) (s_eql rfl rfl) (by rw [decide_eq_true (by omega)])) ?_; refine o_step rfl (s_move rfl) ?_; refine o_no rfl rfl rfl rfl ?_; refine o_no rfl rfl rfl rfl ?_; refine o_no rfl rfl rfl rfl ?_; refine o_step rfl (s_pick_t rfl rfl) ?_; refine o_step rfl (s_assign rfl) ?_; refine o_nil ?_; refine x_then (hK17 _ _ ?_); refine c_ret ?_; refine x_block_ret (x_then_ret (?_))
         exact x_ret rfl (.tmp rfl (.nil)) ((congrArg Value.bool (by rw [hk, if_neg (by omega), if_pos k4, decide_eq_true (by omega)])))
        ·
         refine o_step rfl (step_cast (v' := .bool false) (s_eql rfl rfl) (by rw [decide_eq_false (by omega)])) ?_; refine o_step rfl (s_move rfl) ?_; refine o_yes rfl rfl ?_; refine o_step rfl (s_field rfl rfl (by decide)) ?_; refine o_yes rfl rfl ?_; refine o_step rfl (s_ld rfl (.own meA rfl)) ?_; refine o_yes rfl rfl ?_; refine o_step rfl (s_geq rfl rfl) ?_; refine o_step rfl (s_pick_f rfl rfl) ?_; refine o_step rfl (s_assign rfl) ?_; refine o_nil ?_; refine x_then (hK17 _ _ ?_); refine c_ret ?_; refine x_block_ret (x_then_ret (?_))
         exact x_ret rfl (.tmp rfl (.nil)) ((congrArg Value.bool (by rw [hk, if_neg (by omega), if_pos k4]; exact decide_eq_decide.2 (by omega))))
       ·
        refine o_step rfl (step_cast (v' := .bool false) (s_eql rfl rfl) (by rw [decide_eq_false k4])) ?_; refine o_step rfl (s_assign rfl) ?_; refine o_nil ?_; refine x_then (hK16 _ _ ?_); refine c_false rfl ?_; refine c_skip ?_; refine x_block ?_; refine x_then (hK8 _ _ ?_); refine c_seq fun _ hK18 => ?_; refine c_region ?_; refine o_step rfl (s_field rfl rfl (by decide)) ?_; refine o_step rfl (s_ld rfl (.own meA rfl)) ?_; refine o_step rfl (s_eql rfl rfl) ?_; refine o_step rfl (s_assign rfl) ?_; refine o_nil ?_; refine x_then (hK18 _ _ ?_); refine c_ret ?_; refine ?_; exact x_ret rfl (.tmp rfl (.nil)) ((congrArg Value.bool (by rw [hk, if_neg (by omega), if_neg (by omega), if_neg (by omega)])))
  ·
   intro _ hJ4
   refine c_seq fun _ hK19 => ?_; refine c_region ?_; refine o_step rfl (s_field rfl rfl (by decide)) ?_; refine o_step rfl (s_ld rfl (.own meA rfl)) ?_; refine o_nil ?_; refine x_then (hK19 _ _ ?_); refine c_block ?_; refine c_seq fun _ hK20 => ?_; refine c_region ?_
   by_cases h1 : x.op = 1
   ·
    refine o_step rfl (step_cast (v' := .bool true) (s_eql rfl rfl) (by rw [decide_eq_true h1])) ?_; refine o_step rfl (s_assign rfl) ?_; refine o_nil ?_; refine x_then (hK20 _ _ ?_); refine c_true rfl ?_; refine c_region ?_; refine o_step rfl (step_cast (v' := .agg (Ec 0#256).toArray) (s_build0 rfl) (by rw [Ec_zero]; rfl)) ?_; refine o_step rfl (s_field rfl rfl (by decide)) ?_; refine o_storeA (l := En (⟨0, x.set, x.n, x.mn, x.mx, 0⟩ : Nd)) (cs := Ec 0#256) rfl rfl rfl (Enc.one _) upA (Nat.le_of_ble_eq_true rfl) (fun _ _ => frz0) ?_
    rw [show splice (En (⟨0, x.set, x.n, x.mn, x.mx, 0⟩ : Nd)) 1 (Ec 0#256) = En (⟨0, 0, x.n, x.mn, x.mx, 0⟩ : Nd) from rfl]
    refine o_nil ?_; refine x_block ?_
    rw [show (⟨0, 0, x.n, x.mn, x.mx, 0⟩ : Nd) = zr x by rw [zr, if_pos h1, if_neg (by omega), if_neg (by omega), if_neg (by omega)]]
    exact x_then (hJ4 () _ _ ⟨by omega, fun h => absurd h (by omega)⟩ sbA sbA hzB)
   ·
    refine o_step rfl (step_cast (v' := .bool false) (s_eql rfl rfl) (by rw [decide_eq_false h1])) ?_; refine o_step rfl (s_assign rfl) ?_; refine o_nil ?_; refine x_then (hK20 _ _ ?_); refine c_false rfl ?_; refine c_seq fun _ hK21 => ?_; refine c_seq fun _ hK22 => ?_; refine c_region ?_
    by_cases h7 : x.op = 7
    ·
     refine o_step rfl (step_cast (v' := .bool true) (s_eql rfl rfl) (by rw [decide_eq_true h7])) ?_; refine o_step rfl (s_assign rfl) ?_; refine o_nil ?_; refine x_then (hK22 _ _ ?_); refine c_true rfl ?_; refine c_skip ?_; refine x_then (hK21 _ _ ?_); refine c_true rfl ?_; refine c_region ?_; refine o_step rfl (s_field rfl rfl (by decide)) ?_; refine o_store rfl rfl rfl upA ltA rfl ?_
     rw [show (En (⟨0, x.set, x.n, x.mn, x.mx, 0⟩ : Nd)).set 5 (.int .i64 0) = En (⟨0, x.set, 0, x.mn, x.mx, 0⟩ : Nd) from rfl]
     refine o_nil ?_; refine x_block ?_
     rw [show (⟨0, x.set, 0, x.mn, x.mx, 0⟩ : Nd) = zr x by rw [zr, if_neg (by omega), if_pos (.inl h7), if_neg (by omega), if_neg (by omega)]]
     exact x_then (hJ4 () _ _ ⟨by omega, fun h => absurd h (by omega)⟩ sbA sbA hzB)
    ·
     refine o_step rfl (step_cast (v' := .bool false) (s_eql rfl rfl) (by rw [decide_eq_false h7])) ?_; refine o_step rfl (s_assign rfl) ?_; refine o_nil ?_; refine x_then (hK22 _ _ ?_); refine c_false rfl ?_; refine c_region ?_
     by_cases h8 : x.op = 8
     ·
      refine o_step rfl (step_cast (v' := .bool true) (s_eql rfl rfl) (by rw [decide_eq_true h8])) ?_; refine o_step rfl (s_assign rfl) ?_; refine o_nil ?_; refine x_then (hK21 _ _ ?_); refine c_true rfl ?_; refine c_region ?_; refine o_step rfl (s_field rfl rfl (by decide)) ?_; refine o_store rfl rfl rfl upA ltA rfl ?_
      rw [show (En (⟨0, x.set, x.n, x.mn, x.mx, 0⟩ : Nd)).set 5 (.int .i64 0) = En (⟨0, x.set, 0, x.mn, x.mx, 0⟩ : Nd) from rfl]
      refine o_nil ?_; refine x_block ?_
      rw [show (⟨0, x.set, 0, x.mn, x.mx, 0⟩ : Nd) = zr x by rw [zr, if_neg (by omega), if_pos (.inr h8), if_neg (by omega), if_neg (by omega)]]
      exact x_then (hJ4 () _ _ ⟨by omega, fun h => absurd h (by omega)⟩ sbA sbA hzB)
     ·
      refine o_step rfl (step_cast (v' := .bool false) (s_eql rfl rfl) (by rw [decide_eq_false h8])) ?_; refine o_step rfl (s_assign rfl) ?_; refine o_nil ?_; refine x_then (hK21 _ _ ?_); refine c_false rfl ?_; refine c_seq fun _ hK23 => ?_; refine c_region ?_
      by_cases h6 : x.op = 6
      ·
       refine o_step rfl (step_cast (v' := .bool true) (s_eql rfl rfl) (by rw [decide_eq_true h6])) ?_; refine o_step rfl (s_assign rfl) ?_; refine o_nil ?_; refine x_then (hK23 _ _ ?_); refine c_true rfl ?_; refine c_seq fun _ hK24 => ?_; refine c_seq fun _ hK25 => ?_; refine c_region ?_; refine o_step rfl (s_field rfl rfl (by decide)) ?_; refine o_step rfl (s_ld rfl (.own meA rfl)) ?_
       by_cases hm1 : x.mn < 0
       ·
        refine o_step rfl (step_cast (v' := .bool true) (s_lss rfl rfl) (by rw [decide_eq_true (by omega)])) ?_; refine o_step rfl (s_move rfl) ?_; refine o_no rfl rfl rfl rfl ?_; refine o_no rfl rfl rfl rfl ?_; refine o_no rfl rfl rfl rfl ?_; refine o_step rfl (s_pick_t rfl rfl) ?_; refine o_step rfl (s_move rfl) ?_; refine o_no rfl rfl rfl rfl ?_; refine o_no rfl rfl rfl rfl ?_; refine o_no rfl rfl rfl rfl ?_; refine o_no rfl rfl rfl rfl ?_; refine o_noU rfl rfl rfl ?_; refine o_noU rfl rfl rfl ?_; refine o_noU rfl rfl rfl ?_; refine o_noU rfl rfl rfl ?_; refine o_noU rfl rfl rfl ?_; refine o_noU rfl rfl rfl ?_; refine o_noU rfl rfl rfl ?_; refine o_noU rfl rfl rfl ?_; refine o_noU rfl rfl rfl ?_; refine o_noU rfl rfl rfl ?_; refine o_no rfl rfl rfl rfl ?_; refine o_step rfl (s_pick_t rfl rfl) ?_; refine o_nil ?_; refine x_then (hK25 _ _ ?_); refine c_true rfl ?_; refine c_seq fun _ hK26 => ?_
        refine c_region ?_; refine o_step rfl (s_assign rfl) ?_; refine o_nil ?_; refine x_then (hK26 _ _ ?_); refine c_ret ?_; refine x_then_ret (x_block_ret (x_then_ret (?_)))
        exact x_ret rfl (.tmp rfl (.nil)) ((congrArg Value.bool (ndOk_rep h6 (by omega)).symm))
       ·
        refine o_step rfl (step_cast (v' := .bool false) (s_lss rfl rfl) (by rw [decide_eq_false (by omega)])) ?_; refine o_step rfl (s_move rfl) ?_; refine o_yes rfl rfl ?_; refine o_step rfl (s_field rfl rfl (by decide)) ?_; refine o_yes rfl rfl ?_; refine o_step rfl (s_ld rfl (.own meA rfl)) ?_; refine o_yes rfl rfl ?_
        by_cases hm2 : x.mn > 255
        ·
         refine o_step rfl (step_cast (v' := .bool true) (s_gtr rfl rfl) (by rw [decide_eq_true (by omega)])) ?_; refine o_step rfl (s_pick_f rfl rfl) ?_; refine o_step rfl (s_move rfl) ?_; refine o_no rfl rfl rfl rfl ?_; refine o_no rfl rfl rfl rfl ?_; refine o_no rfl rfl rfl rfl ?_; refine o_no rfl rfl rfl rfl ?_; refine o_noU rfl rfl rfl ?_; refine o_noU rfl rfl rfl ?_; refine o_noU rfl rfl rfl ?_; refine o_noU rfl rfl rfl ?_; refine o_noU rfl rfl rfl ?_; refine o_noU rfl rfl rfl ?_; refine o_noU rfl rfl rfl ?_; refine o_noU rfl rfl rfl ?_; refine o_noU rfl rfl rfl ?_; refine o_noU rfl rfl rfl ?_; refine o_no rfl rfl rfl rfl ?_; refine o_step rfl (s_pick_t rfl rfl) ?_; refine o_nil ?_; refine x_then (hK25 _ _ ?_); refine c_true rfl ?_; refine c_seq fun _ hK27 => ?_; refine c_region ?_; refine o_step rfl (s_assign rfl) ?_; refine o_nil ?_; refine x_then (hK27 _ _ ?_); refine c_ret ?_; refine x_then_ret (x_block_ret (x_then_ret (?_)))
         exact x_ret rfl (.tmp rfl (.nil)) ((congrArg Value.bool (ndOk_rep h6 (by omega)).symm))
        ·
         refine o_step rfl (step_cast (v' := .bool false) (s_gtr rfl rfl) (by rw [decide_eq_false (by omega)])) ?_; refine o_step rfl (s_pick_f rfl rfl) ?_; refine o_step rfl (s_move rfl) ?_; refine o_yes rfl rfl ?_; refine o_step rfl (s_field rfl rfl (by decide)) ?_; refine o_yes rfl rfl ?_; refine o_step rfl (s_ld rfl (.own meA rfl)) ?_; refine o_yes rfl rfl ?_
         by_cases hm3 : x.mx ≠ -1
         ·
          refine o_step rfl (step_cast (v' := .bool true) (s_neq rfl rfl) (by rw [decide_eq_true (by omega)])) ?_; refine o_yes rfl rfl ?_; refine o_step rfl (s_move rfl) ?_; refine o_yes rfl rfl ?_; refine o_step rfl (s_field rfl rfl (by decide)) ?_; refine o_yes rfl rfl ?_; refine o_step rfl (s_ld rfl (.own meA rfl)) ?_; refine o_yes rfl rfl ?_; refine o_step rfl (s_field rfl rfl (by decide)) ?_; refine o_yes rfl rfl ?_; refine o_step rfl (s_ld rfl (.own meA rfl)) ?_; refine o_yes rfl rfl ?_
          by_cases hm4 : x.mx < x.mn
          ·
           refine o_step rfl (step_cast (v' := .bool true) (s_lss rfl rfl) (by rw [decide_eq_true (by omega)])) ?_; refine o_yes rfl rfl ?_; refine o_step rfl (s_move rfl) ?_; refine o_no rfl rfl rfl rfl ?_; refine o_no rfl rfl rfl rfl ?_; refine o_no rfl rfl rfl rfl ?_; refine o_yes rfl rfl ?_; refine o_step rfl (s_pick_t rfl rfl) ?_; refine o_yes rfl rfl ?_; refine o_step rfl (s_pick_t rfl rfl) ?_; refine o_step rfl (s_pick_f rfl rfl) ?_; refine o_nil ?_; refine x_then (hK25 _ _ ?_); refine c_true rfl ?_; refine c_seq fun _ hK28 => ?_; refine c_region ?_; refine o_step rfl (s_assign rfl) ?_; refine o_nil ?_; refine x_then (hK28 _ _ ?_); refine c_ret ?_; refine x_then_ret (x_block_ret (x_then_ret (?_)))
           exact x_ret rfl (.tmp rfl (.nil)) ((congrArg Value.bool (ndOk_rep h6 (by omega)).symm))
          ·
           refine o_step rfl (step_cast (v' := .bool false) (s_lss rfl rfl) (by rw [decide_eq_false (by omega)])) ?_; refine o_yes rfl rfl ?_; refine o_step rfl (s_move rfl) ?_; refine o_yes rfl rfl ?_; refine o_step rfl (s_field rfl rfl (by decide)) ?_; refine o_yes rfl rfl ?_; refine o_step rfl (s_ld rfl (.own meA rfl)) ?_; refine o_yes rfl rfl ?_
           by_cases hm5 : x.mx > 255
           ·
            refine o_step rfl (step_cast (v' := .bool true) (s_gtr rfl rfl) (by rw [decide_eq_true (by omega)])) ?_; refine o_yes rfl rfl ?_; refine o_step rfl (s_pick_f rfl rfl) ?_; refine o_yes rfl rfl ?_; refine o_step rfl (s_pick_t rfl rfl) ?_; refine o_step rfl (s_pick_f rfl rfl) ?_; refine o_nil ?_; refine x_then (hK25 _ _ ?_); refine c_true rfl ?_; refine c_seq fun _ hK29 => ?_; refine c_region ?_; refine o_step rfl (s_assign rfl) ?_; refine o_nil ?_; refine x_then (hK29 _ _ ?_); refine c_ret ?_; refine x_then_ret (x_block_ret (x_then_ret (?_)))
            exact x_ret rfl (.tmp rfl (.nil)) ((congrArg Value.bool (ndOk_rep h6 (by omega)).symm))
           ·
            refine o_step rfl (step_cast (v' := .bool false) (s_gtr rfl rfl) (by rw [decide_eq_false (by omega)])) ?_; refine o_yes rfl rfl ?_; refine o_step rfl (s_pick_f rfl rfl) ?_; refine o_yes rfl rfl ?_; refine o_step rfl (s_pick_t rfl rfl) ?_; refine o_step rfl (s_pick_f rfl rfl) ?_; refine o_nil ?_; refine x_then (hK25 _ _ ?_); refine c_false rfl ?_; refine c_skip ?_; refine x_then (hK24 _ _ ?_); refine c_region ?_; refine o_step rfl (s_field rfl rfl (by decide)) ?_; refine o_store rfl rfl rfl upA ltA rfl ?_
            rw [show (En (⟨0, x.set, x.n, x.mn, x.mx, 0⟩ : Nd)).set 6 (.int .i64 0) = En (⟨0, x.set, x.n, 0, x.mx, 0⟩ : Nd) from rfl]
            refine o_step rfl (s_field rfl rfl (by decide)) ?_; refine o_store rfl rfl rfl upA ltA rfl ?_
            rw [show (En (⟨0, x.set, x.n, 0, x.mx, 0⟩ : Nd)).set 7 (.int .i64 0) = En (⟨0, x.set, x.n, 0, 0, 0⟩ : Nd) from rfl]
            refine o_nil ?_; refine x_block ?_
            rw [show (⟨0, x.set, x.n, 0, 0, 0⟩ : Nd) = zr x by rw [zr, if_neg (by omega), if_neg (by omega), if_pos h6, if_pos h6]]
            exact x_then (hJ4 () _ _ ⟨by omega, fun h => by omega⟩ sbA sbA hzB)
         ·
          refine o_step rfl (step_cast (v' := .bool false) (s_neq rfl rfl) (by rw [decide_eq_false (by omega)])) ?_; refine o_yes rfl rfl ?_; refine o_step rfl (s_move rfl) ?_; refine o_no rfl rfl rfl rfl ?_; refine o_no rfl rfl rfl rfl ?_; refine o_no rfl rfl rfl rfl ?_; refine o_no rfl rfl rfl rfl ?_; refine o_no rfl rfl rfl rfl ?_; refine o_no rfl rfl rfl rfl ?_; refine o_noU rfl rfl rfl ?_; refine o_noU rfl rfl rfl ?_; refine o_noU rfl rfl rfl ?_; refine o_no rfl rfl rfl rfl ?_; refine o_yes rfl rfl ?_; refine o_step rfl (s_pick_f rfl rfl) ?_; refine o_step rfl (s_pick_f rfl rfl) ?_; refine o_nil ?_; refine x_then (hK25 _ _ ?_); refine c_false rfl ?_; refine c_skip ?_; refine x_then (hK24 _ _ ?_); refine c_region ?_; refine o_step rfl (s_field rfl rfl (by decide)) ?_; refine o_store rfl rfl rfl upA ltA rfl ?_
          rw [show (En (⟨0, x.set, x.n, x.mn, x.mx, 0⟩ : Nd)).set 6 (.int .i64 0) = En (⟨0, x.set, x.n, 0, x.mx, 0⟩ : Nd) from rfl]
          refine o_step rfl (s_field rfl rfl (by decide)) ?_; refine o_store rfl rfl rfl upA ltA rfl ?_
          rw [show (En (⟨0, x.set, x.n, 0, x.mx, 0⟩ : Nd)).set 7 (.int .i64 0) = En (⟨0, x.set, x.n, 0, 0, 0⟩ : Nd) from rfl]
          refine o_nil ?_; refine x_block ?_
          rw [show (⟨0, x.set, x.n, 0, 0, 0⟩ : Nd) = zr x by rw [zr, if_neg (by omega), if_neg (by omega), if_pos h6, if_pos h6]]
          exact x_then (hJ4 () _ _ ⟨by omega, fun h => by omega⟩ sbA sbA hzB)
      ·
       refine o_step rfl (step_cast (v' := .bool false) (s_eql rfl rfl) (by rw [decide_eq_false h6])) ?_; refine o_step rfl (s_assign rfl) ?_; refine o_nil ?_; refine x_then (hK23 _ _ ?_); refine c_false rfl ?_; refine c_seq fun _ hK30 => ?_; refine c_seq fun _ hK31 => ?_; refine c_region ?_
       by_cases h2 : x.op = 2
       ·
        refine o_step rfl (step_cast (v' := .bool true) (s_eql rfl rfl) (by rw [decide_eq_true h2])) ?_; refine o_step rfl (s_assign rfl) ?_; refine o_nil ?_; refine x_then (hK31 _ _ ?_); refine c_true rfl ?_; refine c_skip ?_; refine x_then (hK30 _ _ ?_); refine c_true rfl ?_; refine c_skip ?_; refine x_block ?_
        rw [show (⟨0, x.set, x.n, x.mn, x.mx, 0⟩ : Nd) = zr x by rw [zr, if_neg (by omega), if_neg (by omega), if_neg (by omega), if_neg (by omega)]]
        exact x_then (hJ4 () _ _ ⟨by omega, fun h => absurd h (by omega)⟩ sbA sbA hzB)
       ·
        refine o_step rfl (step_cast (v' := .bool false) (s_eql rfl rfl) (by rw [decide_eq_false h2])) ?_; refine o_step rfl (s_assign rfl) ?_; refine o_nil ?_; refine x_then (hK31 _ _ ?_); refine c_false rfl ?_; refine c_seq fun _ hK32 => ?_; refine c_region ?_
        by_cases h3 : x.op = 3
        ·
         refine o_step rfl (step_cast (v' := .bool true) (s_eql rfl rfl) (by rw [decide_eq_true h3])) ?_; refine o_step rfl (s_assign rfl) ?_; refine o_nil ?_; refine x_then (hK32 _ _ ?_); refine c_true rfl ?_; refine c_skip ?_; refine x_then (hK30 _ _ ?_); refine c_true rfl ?_; refine c_skip ?_; refine x_block ?_
         rw [show (⟨0, x.set, x.n, x.mn, x.mx, 0⟩ : Nd) = zr x by rw [zr, if_neg (by omega), if_neg (by omega), if_neg (by omega), if_neg (by omega)]]
         exact x_then (hJ4 () _ _ ⟨by omega, fun h => absurd h (by omega)⟩ sbA sbA hzB)
        ·
         refine o_step rfl (step_cast (v' := .bool false) (s_eql rfl rfl) (by rw [decide_eq_false h3])) ?_; refine o_step rfl (s_assign rfl) ?_; refine o_nil ?_; refine x_then (hK32 _ _ ?_); refine c_false rfl ?_; refine c_seq fun _ hK33 => ?_; refine c_region ?_
         by_cases h4 : x.op = 4
         ·
          refine o_step rfl (step_cast (v' := .bool true) (s_eql rfl rfl) (by rw [decide_eq_true h4])) ?_; refine o_step rfl (s_assign rfl) ?_; refine o_nil ?_; refine x_then (hK33 _ _ ?_); refine c_true rfl ?_; refine c_skip ?_; refine x_then (hK30 _ _ ?_); refine c_true rfl ?_; refine c_skip ?_; refine x_block ?_
          rw [show (⟨0, x.set, x.n, x.mn, x.mx, 0⟩ : Nd) = zr x by rw [zr, if_neg (by omega), if_neg (by omega), if_neg (by omega), if_neg (by omega)]]
          exact x_then (hJ4 () _ _ ⟨by omega, fun h => absurd h (by omega)⟩ sbA sbA hzB)
         ·
          refine o_step rfl (step_cast (v' := .bool false) (s_eql rfl rfl) (by rw [decide_eq_false h4])) ?_; refine o_step rfl (s_assign rfl) ?_; refine o_nil ?_; refine x_then (hK33 _ _ ?_); refine c_false rfl ?_; refine c_region ?_
          by_cases h5 : x.op = 5
          ·
           refine o_step rfl (step_cast (v' := .bool true) (s_eql rfl rfl) (by rw [decide_eq_true h5])) ?_; refine o_step rfl (s_assign rfl) ?_; refine o_nil ?_; refine x_then (hK30 _ _ ?_); refine c_true rfl ?_; refine c_skip ?_; refine x_block ?_
           rw [show (⟨0, x.set, x.n, x.mn, x.mx, 0⟩ : Nd) = zr x by rw [zr, if_neg (by omega), if_neg (by omega), if_neg (by omega), if_neg (by omega)]]
           exact x_then (hJ4 () _ _ ⟨by omega, fun h => absurd h (by omega)⟩ sbA sbA hzB)
          ·
           refine o_step rfl (step_cast (v' := .bool false) (s_eql rfl rfl) (by rw [decide_eq_false h5])) ?_; refine o_step rfl (s_assign rfl) ?_; refine o_nil ?_; refine x_then (hK30 _ _ ?_); refine c_false rfl ?_; refine c_seq fun _ hK34 => ?_; refine c_region ?_; refine o_step rfl (s_assign rfl) ?_; refine o_nil ?_; refine x_then (hK34 _ _ ?_); refine c_ret ?_; refine x_block_ret (x_then_ret (?_))
           exact x_ret rfl (.tmp rfl (.nil)) ((congrArg Value.bool (ndOk_op (by omega)).symm))
end Go.Proofs.Ytmpeokbongnniaa

/- Part of the proofs over this seat: see the text that holds the theorem. Conditions: each theorem bears its own. -/
namespace Go.Proofs.Ytmpeokbongnniaa
open Go Go.HL Go.Proofs Go.HL.Kl Go.HL.Kl.Mc
set_option maxHeartbeats 2000000 in
theorem node_step (f : Nat) (ih : ∀ f1, f = f1 + 1 → NodeC Try.prog 45 100 f1) (bx : Nat) (ra : Option Addr) (rc : Nat) (re : List Nd) (i wi gr : Nat) (ea : Option Addr) (ec : Nat) (en : List Bool) (Se : Hp) (hre : ∀ x ∈ re, -128 ≤ x.op ∧ x.op < 128) (hwi : wi + f = 260) (hi : i ≤ re.length) (hel : en.length ≤ 255) (hg : gr ≤ 64) (hO : OwnS Ebo 1 4 (.slice ea en.length ec) en Se) : HL.Fn Try.prog 45 [.pointer (some ⟨bx, 0, none⟩), .int .i64 wi, .int .i64 gr] (fun w => Rd En w (.slice ra re.length rc) re ∧ Apart (keys ((bx, .cells [.slice ra re.length rc, .int .i64 i, .slice ea en.length ec].toArray 100 (0, 0)) :: Se)) (.slice ra re.length rc)) ((bx, .cells [.slice ra re.length rc, .int .i64 i, .slice ea en.length ec].toArray 100 (0, 0)) :: Se) (NodeP 100 bx ra rc re (shN re f i en gr)) := by
  refine fn_of Try.func45 rfl rfl rfl fun w0 hw => ?_
  have hsl := hw.1.sl
  have hbl := hsl.le
  have hOs := hO.sl
  refine c_seq fun _ hK1 => ?_; refine c_region ?_; refine o_step rfl (s_assign rfl) ?_; refine o_nil ?_; refine x_then (hK1 _ _ ?_); refine c_seq fun _ hK2 => ?_; refine c_seq fun _ hK3 => ?_; refine c_drawE ((bx, .cells [.slice ra re.length rc, .int .i64 i, .slice ea en.length ec].toArray 100 (0, 0)) :: Se) (fun i => false) ?_; refine e_tk 0 rfl hzB (s_move rfl) ?_; refine e_tk 1 rfl hzB (s_nil rfl) ?_; refine e_tk 2 rfl hzB (s_field rfl rfl (by decide)) ?_; refine e_tk 3 rfl hzB (s_ld rfl (.own meA rfl)) ?_; refine e_tk 4 rfl hzB (s_move rfl) ?_; refine e_tk 5 rfl hzB (s_nil rfl) ?_; refine e_tk 6 rfl hzB (s_field rfl rfl (by decide)) ?_; refine e_tk 7 rfl hzB (s_ld rfl (.own meA rfl)) ?_; refine e_tk 8 rfl hzB (s_len rfl) ?_
  by_cases hend : i = re.length
  ·
   have hN : shN re f i en gr = none := shN_end (by omega)
   refine e_tk 9 rfl hzB (step_cast (v' := .bool true) (s_eql rfl rfl) (by rw [decide_eq_true (by omega)])) ?_; refine e_tk 10 rfl hzB (s_move rfl) ?_; refine e_sk 11 rfl ?_; refine e_sk 12 rfl ?_; refine e_tk 13 rfl hzB (s_pick_t rfl rfl) ?_; refine e_tk 14 rfl hzB (s_move rfl) ?_; refine e_sk 15 rfl ?_; refine e_sk 16 rfl ?_; refine e_sk 17 rfl ?_; refine e_sk 18 rfl ?_; refine e_sk 19 rfl ?_; refine e_sk 20 rfl ?_; refine e_sk 21 rfl ?_; refine e_sk 22 rfl ?_; refine e_sk 23 rfl ?_; refine e_sk 24 rfl ?_; refine e_one 25 rfl (by kernel_rfl) ?_; refine o_no rfl rfl rfl rfl ?_; refine o_nil ?_; refine x_oneS hzB ?_; refine e_sk 26 rfl ?_; refine e_tk 27 rfl hzB (s_pick_t rfl rfl) ?_; refine e_done (by kernel_rfl) ?_; refine x_then (hK3 _ _ ?_); refine c_true rfl ?_; refine c_seq fun _ hK4 => ?_; refine c_region ?_; refine o_step rfl (s_assign rfl) ?_; refine o_nil ?_; refine x_then (hK4 _ _ ?_)
   refine c_ret ?_; refine x_then_ret (?_); exact x_ret rfl (.tmp rfl (.nil)) ((by rw [hN]; rfl))
  ·
   refine e_tk 9 rfl hzB (step_cast (v' := .bool false) (s_eql rfl rfl) (by rw [decide_eq_false (by omega)])) ?_; refine e_tk 10 rfl hzB (s_move rfl) ?_; refine e_tg 11 rfl hzB (s_move rfl) ?_
   by_cases hf : (wi : Int) > 259
   ·
    obtain rfl : f = 0 := by omega
    have hN : shN re 0 i en gr = none := rfl
    refine e_tg 12 rfl hzB (step_cast (v' := .bool true) (s_gtr rfl rfl) (by rw [decide_eq_true (by omega)])) ?_; refine e_tk 13 rfl hzB (s_pick_f rfl rfl) ?_; refine e_tk 14 rfl hzB (s_move rfl) ?_; refine e_sk 15 rfl ?_; refine e_sk 16 rfl ?_; refine e_sk 17 rfl ?_; refine e_sk 18 rfl ?_; refine e_sk 19 rfl ?_; refine e_sk 20 rfl ?_; refine e_sk 21 rfl ?_; refine e_sk 22 rfl ?_; refine e_sk 23 rfl ?_; refine e_sk 24 rfl ?_; refine e_one 25 rfl (by kernel_rfl) ?_; refine o_no rfl rfl rfl rfl ?_; refine o_nil ?_; refine x_oneS hzB ?_; refine e_sk 26 rfl ?_; refine e_tk 27 rfl hzB (s_pick_t rfl rfl) ?_; refine e_done (by kernel_rfl) ?_; refine x_then (hK3 _ _ ?_); refine c_true rfl ?_; refine c_seq fun _ hK5 => ?_; refine c_region ?_; refine o_step rfl (s_assign rfl) ?_; refine o_nil ?_; refine x_then (hK5 _ _ ?_); refine c_ret ?_; refine x_then_ret (?_); exact x_ret rfl (.tmp rfl (.nil)) ((by rw [hN]; rfl))
   ·
    obtain ⟨f1, rfl⟩ : ∃ f1, f = f1 + 1 := ⟨f - 1, by omega⟩
    obtain ⟨x, hx⟩ : ∃ x, re[i]? = some x := ⟨_, List.getElem?_eq_getElem (show i < re.length by omega)⟩
    refine e_tg 12 rfl hzB (step_cast (v' := .bool false) (s_gtr rfl rfl) (by rw [decide_eq_false (by omega)])) ?_; refine e_tk 13 rfl hzB (s_pick_f rfl rfl) ?_; refine e_tk 14 rfl hzB (s_move rfl) ?_; refine e_tg 15 rfl hzB (s_move rfl) ?_; refine e_tg 16 rfl hzB (s_nil rfl) ?_; refine e_tg 17 rfl hzB (s_field rfl rfl (by decide)) ?_; refine e_tg 18 rfl hzB (s_ld rfl (.own meA rfl)) ?_; refine e_tg 19 rfl hzB (s_move rfl) ?_; refine e_tg 20 rfl hzB (s_nil rfl) ?_; refine e_tg 21 rfl hzB (s_field rfl rfl (by decide)) ?_; refine e_tg 22 rfl hzB (s_ld rfl (.own meA rfl)) ?_; refine e_tg 23 rfl hzB (s_idx rfl rfl hsl (by omega)) ?_; refine e_tg 24 rfl hzB (s_ldB rfl ((RdK.old hw.1 hw.2).lds i hx rfl) (by rfl)) ?_; refine e_one 25 rfl (by kernel_rfl) ?_; refine o_yes rfl rfl ?_; refine o_callP (ndOk_fn x) rfl rfl rfl (fun _ _ => trivial) (fun v33 hv33 => ?_); subst hv33
    cases hok : ndOk x
    ·
     have hN : shN re (f1 + 1) i en gr = none := shN_bad hx hok
     refine o_nil ?_; refine x_oneS hzB ?_; refine e_tg 26 rfl hzB (s_not rfl) ?_; refine e_tk 27 rfl hzB (s_pick_f rfl rfl) ?_; refine e_done (by kernel_rfl) ?_; refine x_then (hK3 _ _ ?_); refine c_true rfl ?_; refine c_seq fun _ hK6 => ?_; refine c_region ?_; refine o_step rfl (s_assign rfl) ?_; refine o_nil ?_; refine x_then (hK6 _ _ ?_); refine c_ret ?_; refine x_then_ret (?_); exact x_ret rfl (.tmp rfl (.nil)) ((by rw [hN]; rfl))
    ·
     have hk0 := ndOk_kids hok
     refine o_nil ?_; refine x_oneS hzB ?_; refine e_tg 26 rfl hzB (s_not rfl) ?_; refine e_tk 27 rfl hzB (s_pick_f rfl rfl) ?_; refine e_done (by kernel_rfl) ?_; refine x_then (hK3 _ _ ?_); refine c_false rfl ?_; refine c_skip ?_; refine x_then (hK2 _ _ ?_); refine c_seq fun _ hK7 => ?_; refine c_drawE ((bx, .cells [.slice ra re.length rc, .int .i64 i, .slice ea en.length ec].toArray 100 (0, 0)) :: Se) (fun i => Nat.beq i 11) ?_; refine e_tk 0 rfl hzB (s_move rfl) ?_; refine e_tk 1 rfl hzB (s_nil rfl) ?_; refine e_tk 2 rfl hzB (s_field rfl rfl (by decide)) ?_; refine e_tk 3 rfl hzB (s_ld rfl (.own meA rfl)) ?_; refine e_tk 4 rfl hzB (s_move rfl) ?_; refine e_tk 5 rfl hzB (s_nil rfl) ?_; refine e_tk 6 rfl hzB (s_field rfl rfl (by decide)) ?_; refine e_tk 7 rfl hzB (s_ld rfl (.own meA rfl)) ?_; refine e_tk 8 rfl hzB (s_idx rfl rfl hsl (by omega)) ?_; refine e_tk 9 rfl hzB (s_ldB rfl ((RdK.old hw.1 hw.2).lds i hx rfl) (by rfl)) ?_
     refine e_one 10 rfl (by kernel_rfl) ?_; refine o_alloc (l := En zN) (by rw [En_zero]; rfl) rfl fun b7 => ?_; refine o_nil ?_; refine x_oneS hzB ?_; refine e_one 11 rfl (by kernel_rfl) ?_; refine o_stW rfl rfl upA lnA lnA onA ?_; refine o_nil ?_; refine x_oneL rfl ?_; refine e_done (by kernel_rfl) ?_; refine x_then (hK7 _ _ ?_); refine c_seq fun _ hK8 => ?_; refine c_region ?_; refine o_step rfl (s_move rfl) ?_; refine o_step rfl (s_nil rfl) ?_; refine o_step rfl (s_field rfl rfl (by decide)) ?_; refine o_step rfl (s_ld rfl (.own meA rfl)) ?_; refine o_step rfl (s_add rfl rfl (by omega)) ?_; refine o_step rfl (s_nil rfl) ?_; refine o_step rfl (s_field rfl rfl (by decide)) ?_; refine o_store rfl rfl rfl upA ltA rfl ?_
     dsimp only [List.set]
     refine o_nil ?_; refine x_then (hK8 _ _ ?_); refine c_seqJ (ι := (List Bool × Nat × Option Addr × Nat × Hp)) (fun g => gate x en gr = some (g.1, g.2.1) ∧ OwnS Ebo 1 4 (.slice g.2.2.1 g.1.length g.2.2.2.1) g.1 g.2.2.2.2) (fun g => [(2, .int .i64 g.2.1)]) [(0, _), (1, _), (7, _)] (fun g => (bx, .cells [.slice ra re.length rc, .int .i64 (i + 1 : Nat), .slice g.2.2.1 g.1.length g.2.2.2.1].toArray 100 (0, 0)) :: (b7, .cells (En x).toArray 85 (0, 0)) :: g.2.2.2.2) sbA ?_ ?_
     ·
      rintro ⟨en1, g1, ea1, ec1, Se1⟩ ⟨hgt, hO1⟩
      dsimp only at hgt hO1
      dsimp only
      have hgl := gate_len hgt hel hg
      refine c_seq fun _ hK10 => ?_; refine c_seq fun _ hK11 => ?_; refine c_region ?_; refine o_step rfl (s_field rfl rfl (by decide)) ?_; refine o_step rfl (s_ld rfl (.own meA rfl)) ?_; refine o_step rfl (s_move rfl) ?_; refine o_nil ?_; refine x_then (hK11 _ _ ?_); refine c_block ?_; refine c_loop6 (fun (k : Nat) (i2 : Nat) (en2 : List Bool) (ea2 : Option Addr) (ec2 : Nat) (Se2 : Hp) => (k : Int) ≤ x.kids ∧ kidsN (fun i en => shN re f1 i en g1) k (i + 1) en1 = some (i2, en2) ∧ i + 1 + k ≤ i2 ∧ i2 ≤ re.length ∧ en2.length ≤ 255 ∧ en1.length ≤ en2.length ∧ OwnS Ebo 1 4 (.slice ea2 en2.length ec2) en2 Se2) (fun (k : Nat) (i2 : Nat) (en2 : List Bool) (ea2 : Option Addr) (ec2 : Nat) (Se2 : Hp) => [(114, .int .i64 k)]) [(0, _), (1, _), (2, _), (7, _), (113, _)] (fun (k : Nat) (i2 : Nat) (en2 : List Bool) (ea2 : Option Addr) (ec2 : Nat) (Se2 : Hp) => (bx, .cells [.slice ra re.length rc, .int .i64 i2, .slice ea2 en2.length ec2].toArray 100 (0, 0)) :: (b7, .cells (En x).toArray 85 (0, 0)) :: Se2) (fun (k : Nat) (i2 : Nat) (en2 : List Bool) (ea2 : Option Addr) (ec2 : Nat) (Se2 : Hp) => x.kids.toNat - k) 0 (i + 1) en1 ea1 ec1 Se1 ⟨by omega, rfl, by omega, by omega, hgl.2.1, Nat.le_refl _, hO1⟩ sbA sbA hzB ?_
      rintro k i2 en2 ea2 ec2 Se2 ⟨hk, hkn, hki, hi2, hel2, hel3, hO2⟩
      refine c_seq fun _ hK12 => ?_; refine c_region ?_
      by_cases hkl : (k : Int) < x.kids
      ·
       refine o_step rfl (step_cast (v' := .bool true) (s_lss rfl rfl) (by rw [decide_eq_true (by omega)])) ?_; refine o_nil ?_; refine x_then (hK12 _ _ ?_); refine c_seq fun _ hK13 => ?_; refine c_true rfl ?_; refine c_skip ?_; refine x_then (hK13 _ _ ?_); refine c_seq fun _ hK14 => ?_; refine c_block ?_; refine c_seq fun _ hK15 => ?_; refine c_region ?_; refine o_step rfl (s_move rfl) ?_; refine o_step rfl (s_move rfl) ?_; refine o_step rfl (s_add rfl rfl (by omega)) ?_; refine o_step rfl (s_move rfl) ?_; refine o_call (ih f1 rfl bx ra rc re i2 (wi + 1) g1 ea2 ec2 en2 Se2 hre (by omega) hi2 hel2 hgl.2.2.1 hO2) rfl rfl rfl ((Pick.takeC pkA pkA)) (fun w st => ⟨(RdK.old hw.1 hw.2).out w st, St.apart_M st (by exact hin_node) hw.1 hw.2 (by decide)⟩) (fun v120 S120 hv120 => ?_)
       rcases hst : shN re f1 i2 en2 g1 with _ | ⟨i3, en3⟩
       ·
        obtain rfl : v120 = .bool false := by rw [hst] at hv120; exact hv120
        have hN : shN re (f1 + 1) i en gr = none := shN_kids hx hgt (kidsN_none (kidsN_snoc hkn hst) (by omega))
        refine o_step rfl (s_not rfl) ?_; refine o_nil ?_; refine x_then (hK15 _ _ ?_); refine c_true rfl ?_; refine c_seq fun _ hK16 => ?_; refine c_region ?_; refine o_step rfl (s_assign rfl) ?_; refine o_nil ?_; refine x_then (hK16 _ _ ?_); refine c_ret ?_; refine x_block_ret (x_then_ret (x_then_ret (x_block_ret (x_then_ret (?_)))))
        exact x_ret rfl (.tmp rfl (.nil)) ((by rw [hN]; rfl))
       ·
        obtain ⟨hu120, ea3, ec3, Se3, rfl, hO3⟩ : v120 = .bool true ∧ ∃ ea3 ec3 Se3, S120 = LookB 100 bx ra rc re i3 ea3 ec3 en3 :: Se3 ∧ OwnS Ebo 1 4 (.slice ea3 en3.length ec3) en3 Se3 := by rw [hst] at hv120; exact hv120
        subst hu120
        unfold LookB
        refine o_step rfl (s_not rfl) ?_; refine o_nil ?_; refine x_then (hK15 _ _ ?_); refine c_false rfl ?_; refine c_skip ?_; refine x_block ?_; refine x_then (hK14 _ _ ?_); refine c_region ?_; refine o_step rfl (s_add rfl rfl (by omega)) ?_; refine o_step rfl (s_move rfl) ?_; refine o_nil ?_; exact x_then (x_inv (k + 1, i3, en3, ea3, ec3, Se3) ⟨by omega, kidsN_snoc hkn hst, by have := shN_lt hst; dsimp only; omega, shN_le hst, (shN_len hel2 hgl.2.2.1 hst).2, by have := (shN_len hel2 hgl.2.2.1 hst).1; dsimp only; omega, hO3⟩ (by first | omega | (dsimp only; omega)) sbA hzB)
      ·
       obtain rfl : k = x.kids.toNat := by omega
       have hN := shN_some hx hok hgt hkn
       have hO2s := hO2.sl
       refine o_step rfl (step_cast (v' := .bool false) (s_lss rfl rfl) (by rw [decide_eq_false (by omega)])) ?_; refine o_nil ?_; refine x_then (hK12 _ _ ?_); refine c_seq fun _ hK17 => ?_; refine c_false rfl ?_; refine c_exit ?_; refine x_then_exit ?_; refine x_then_exit ?_; refine x_block_exit ?_; refine x_then (hK10 _ _ ?_); refine c_seq fun _ hK18 => ?_; refine c_seq fun _ hK19 => ?_; refine c_region ?_; refine o_step rfl (s_field rfl rfl (by decide)) ?_; refine o_step rfl (s_ld rfl (.own meA rfl)) ?_
       by_cases k7 : x.op = 7
       ·
        have hg7 := hgl.2.2.2 k7
        refine o_step rfl (step_cast (v' := .bool true) (s_eql rfl rfl) (by rw [decide_eq_true k7])) ?_; refine o_nil ?_; refine x_then (hK19 _ _ ?_); refine c_true rfl ?_; refine c_drawE ((bx, .cells [.slice ra re.length rc, .int .i64 i2, .slice ea2 en2.length ec2].toArray 100 (0, 0)) :: (b7, .cells (En x).toArray 85 (0, 0)) :: Se2) (fun i => Nat.beq i 8) ?_; refine e_tk 0 rfl hzB (s_move rfl) ?_; refine e_tk 1 rfl hzB (s_nil rfl) ?_; refine e_tk 2 rfl hzB (s_field rfl rfl (by decide)) ?_; refine e_tk 3 rfl hzB (s_ld rfl (.own meA rfl)) ?_; refine e_tk 4 rfl hzB (s_field rfl rfl (by decide)) ?_; refine e_tk 5 rfl hzB (s_ld rfl (.own meA rfl)) ?_; refine e_tk 6 rfl hzB (s_sub rfl rfl (by omega)) ?_; refine e_tk 7 rfl hzB (s_idx rfl rfl hO2s (by omega)) ?_; refine e_one 8 rfl (by kernel_rfl) ?_; refine o_stS1 (x.n.toNat - 1) true hO2 pkA rfl rfl rfl (by omega) (by omega) fun S' hS' => ?_; refine o_nil ?_
        refine x_oneL rfl ?_; refine e_done (by kernel_rfl) ?_; refine x_then (hK18 _ _ ?_); refine c_seq fun _ hK20 => ?_; refine c_region ?_; refine o_step rfl (s_assign rfl) ?_; refine o_nil ?_; refine x_then (hK20 _ _ ?_); refine c_ret ?_; refine ?_; refine x_sub (Sub.refl _) (H' := (bx, .cells [.slice ra re.length rc, .int .i64 i2, .slice ea2 en2.length ec2].toArray 100 (0, 0)) :: S') hzB ?_; exact x_ret rfl (.tmp rfl (.nil)) ((by rw [hN, if_pos k7]; exact ⟨rfl, ea2, ec2, S', by unfold LookB; rw [List.length_set], by rw [List.length_set]; exact hS'⟩))
       ·
        refine o_step rfl (step_cast (v' := .bool false) (s_eql rfl rfl) (by rw [decide_eq_false k7])) ?_; refine o_nil ?_; refine x_then (hK19 _ _ ?_); refine c_false rfl ?_; refine c_skip ?_; refine x_then (hK18 _ _ ?_); refine c_seq fun _ hK21 => ?_; refine c_region ?_; refine o_step rfl (s_assign rfl) ?_; refine o_nil ?_; refine x_then (hK21 _ _ ?_); refine c_ret ?_; refine ?_; refine x_sub (Sub.refl _) (H' := (bx, .cells [.slice ra re.length rc, .int .i64 i2, .slice ea2 en2.length ec2].toArray 100 (0, 0)) :: Se2) hzB ?_; exact x_ret rfl (.tmp rfl (.nil)) ((by rw [hN, if_neg k7]; exact ⟨rfl, _, _, _, rfl, hO2⟩))
     ·
      intro _ hJ9
      refine c_seq fun _ hK22 => ?_; refine c_region ?_; refine o_step rfl (s_field rfl rfl (by decide)) ?_; refine o_step rfl (s_ld rfl (.own meA rfl)) ?_; refine o_nil ?_; refine x_then (hK22 _ _ ?_); refine c_block ?_; refine c_seq fun _ hK23 => ?_; refine c_region ?_
      by_cases h8 : x.op = 8
      ·
       refine o_step rfl (step_cast (v' := .bool true) (s_eql rfl rfl) (by rw [decide_eq_true h8])) ?_; refine o_step rfl (s_assign rfl) ?_; refine o_nil ?_; refine x_then (hK23 _ _ ?_); refine c_true rfl ?_; refine c_seq fun _ hK24 => ?_; refine c_drawE ((bx, .cells [.slice ra re.length rc, .int .i64 (i + 1 : Nat), .slice ea en.length ec].toArray 100 (0, 0)) :: (b7, .cells (En x).toArray 85 (0, 0)) :: Se) (fun i => false) ?_; refine e_tk 0 rfl hzB (s_field rfl rfl (by decide)) ?_; refine e_tk 1 rfl hzB (s_ld rfl (.own meA rfl)) ?_
       by_cases hn1 : x.n < 1
       ·
        have hN : shN re (f1 + 1) i en gr = none := shN_gate hx (gate_no8 h8 (by omega))
        refine e_tk 2 rfl hzB (step_cast (v' := .bool true) (s_lss rfl rfl) (by rw [decide_eq_true (by omega)])) ?_; refine e_tk 3 rfl hzB (s_move rfl) ?_; refine e_sk 4 rfl ?_; refine e_sk 5 rfl ?_; refine e_sk 6 rfl ?_; refine e_sk 7 rfl ?_; refine e_sk 8 rfl ?_; refine e_sk 9 rfl ?_; refine e_sk 10 rfl ?_; refine e_sk 11 rfl ?_; refine e_tk 12 rfl hzB (s_pick_t rfl rfl) ?_; refine e_tk 13 rfl hzB (s_move rfl) ?_; refine e_sk 14 rfl ?_; refine e_sk 15 rfl ?_; refine e_sk 16 rfl ?_; refine e_sk 17 rfl ?_; refine e_sk 18 rfl ?_; refine e_sk 19 rfl ?_; refine e_sk 20 rfl ?_; refine e_sk 21 rfl ?_; refine e_sk 22 rfl ?_; refine e_sk 23 rfl ?_; refine e_tk 24 rfl hzB (s_pick_t rfl rfl) ?_; refine e_done (by kernel_rfl) ?_; refine x_then (hK24 _ _ ?_); refine c_true rfl ?_; refine c_seq fun _ hK25 => ?_; refine c_region ?_; refine o_step rfl (s_assign rfl) ?_; refine o_nil ?_; refine x_then (hK25 _ _ ?_)
        refine c_ret ?_; refine x_block_ret (x_then_ret (?_))
        exact x_ret rfl (.tmp rfl (.nil)) ((by rw [hN]; rfl))
       ·
        refine e_tk 2 rfl hzB (step_cast (v' := .bool false) (s_lss rfl rfl) (by rw [decide_eq_false (by omega)])) ?_; refine e_tk 3 rfl hzB (s_move rfl) ?_; refine e_tg 4 rfl hzB (s_field rfl rfl (by decide)) ?_; refine e_tg 5 rfl hzB (s_ld rfl (.own meA rfl)) ?_; refine e_tg 6 rfl hzB (s_move rfl) ?_; refine e_tg 7 rfl hzB (s_nil rfl) ?_; refine e_tg 8 rfl hzB (s_field rfl rfl (by decide)) ?_; refine e_tg 9 rfl hzB (s_ld rfl (.own meA rfl)) ?_; refine e_tg 10 rfl hzB (s_len rfl) ?_
        by_cases hn2 : x.n > en.length
        ·
         have hN : shN re (f1 + 1) i en gr = none := shN_gate hx (gate_no8 h8 (by omega))
         refine e_tg 11 rfl hzB (step_cast (v' := .bool true) (s_gtr rfl rfl) (by rw [decide_eq_true (by omega)])) ?_; refine e_tk 12 rfl hzB (s_pick_f rfl rfl) ?_; refine e_tk 13 rfl hzB (s_move rfl) ?_; refine e_sk 14 rfl ?_; refine e_sk 15 rfl ?_; refine e_sk 16 rfl ?_; refine e_sk 17 rfl ?_; refine e_sk 18 rfl ?_; refine e_sk 19 rfl ?_; refine e_sk 20 rfl ?_; refine e_sk 21 rfl ?_; refine e_sk 22 rfl ?_; refine e_sk 23 rfl ?_; refine e_tk 24 rfl hzB (s_pick_t rfl rfl) ?_; refine e_done (by kernel_rfl) ?_; refine x_then (hK24 _ _ ?_); refine c_true rfl ?_; refine c_seq fun _ hK26 => ?_; refine c_region ?_; refine o_step rfl (s_assign rfl) ?_; refine o_nil ?_; refine x_then (hK26 _ _ ?_); refine c_ret ?_; refine x_block_ret (x_then_ret (?_))
         exact x_ret rfl (.tmp rfl (.nil)) ((by rw [hN]; rfl))
        ·
         refine e_tg 11 rfl hzB (step_cast (v' := .bool false) (s_gtr rfl rfl) (by rw [decide_eq_false (by omega)])) ?_; refine e_tk 12 rfl hzB (s_pick_f rfl rfl) ?_; refine e_tk 13 rfl hzB (s_move rfl) ?_; refine e_tg 14 rfl hzB (s_move rfl) ?_; refine e_tg 15 rfl hzB (s_nil rfl) ?_; refine e_tg 16 rfl hzB (s_field rfl rfl (by decide)) ?_; refine e_tg 17 rfl hzB (s_ld rfl (.own meA rfl)) ?_; refine e_tg 18 rfl hzB (s_field rfl rfl (by decide)) ?_; refine e_tg 19 rfl hzB (s_ld rfl (.own meA rfl)) ?_; refine e_tg 20 rfl hzB (s_sub rfl rfl (by omega)) ?_; refine e_tg 21 rfl hzB (s_idx rfl rfl hOs (by omega)) ?_
         by_cases hb : en[x.n.toNat - 1]? = some true
         ·
          refine e_tg 22 rfl hzB (s_ld rfl ((hO.rdk hiA).ld (x.n.toNat - 1) 0 hb rfl (by decide) (by omega))) ?_; refine e_tg 23 rfl hzB (s_not rfl) ?_; refine e_tk 24 rfl hzB (s_pick_f rfl rfl) ?_; refine e_done (by kernel_rfl) ?_; refine x_then (hK24 _ _ ?_); refine c_false rfl ?_; refine c_skip ?_; refine x_block ?_; exact x_then (hJ9 (en, gr, ea, ec, Se) _ _ ⟨gate_ref h8 (by omega) (by omega) hb, hO⟩ sbA sbA hzB)
         ·
          have hN : shN re (f1 + 1) i en gr = none := shN_gate hx (gate_no8 h8 (fun h => hb h.2.2))
          have hb2 := get_false hb (by omega)
          refine e_tg 22 rfl hzB (s_ld rfl ((hO.rdk hiA).ld (x.n.toNat - 1) 0 hb2 rfl (by decide) (by omega))) ?_; refine e_tg 23 rfl hzB (s_not rfl) ?_; refine e_tk 24 rfl hzB (s_pick_f rfl rfl) ?_; refine e_done (by kernel_rfl) ?_; refine x_then (hK24 _ _ ?_); refine c_true rfl ?_; refine c_seq fun _ hK27 => ?_; refine c_region ?_; refine o_step rfl (s_assign rfl) ?_; refine o_nil ?_; refine x_then (hK27 _ _ ?_); refine c_ret ?_; refine x_block_ret (x_then_ret (?_))
          exact x_ret rfl (.tmp rfl (.nil)) ((by rw [hN]; rfl))
      ·
       refine o_step rfl (step_cast (v' := .bool false) (s_eql rfl rfl) (by rw [decide_eq_false h8])) ?_; refine o_step rfl (s_assign rfl) ?_; refine o_nil ?_; refine x_then (hK23 _ _ ?_); refine c_false rfl ?_; refine c_seq fun _ hK28 => ?_; refine c_region ?_
       by_cases h7 : x.op = 7
       ·
        refine o_step rfl (step_cast (v' := .bool true) (s_eql rfl rfl) (by rw [decide_eq_true h7])) ?_; refine o_step rfl (s_assign rfl) ?_; refine o_nil ?_; refine x_then (hK28 _ _ ?_); refine c_true rfl ?_; refine c_seq fun _ hK29 => ?_; refine c_region ?_; refine o_step rfl (s_move rfl) ?_; refine o_step rfl (s_move rfl) ?_; refine o_step rfl (s_nil rfl) ?_; refine o_step rfl (s_field rfl rfl (by decide)) ?_; refine o_step rfl (s_ld rfl (.own meA rfl)) ?_; refine o_bs (E := Ebo) (xs := [false]) (vs := [_]) rfl rfl rfl rfl rfl (by decide) (by decide) fun b89 S89 hS89 => ?_; refine o_app hO (hS89.rdk hiA) rfl rfl rfl rfl (by simp only [List.length_singleton]; omega) (by simp only [List.length_singleton]; omega) rfl pkA fun a90 c90 S90 hS90 => ?_; refine o_step rfl (s_nil rfl) ?_; refine o_step rfl (s_field rfl rfl (by decide)) ?_; refine o_store rfl rfl rfl upA ltA rfl ?_
        dsimp only [List.set]
        refine o_nil ?_; refine x_then (hK29 _ _ ?_); refine c_seq fun _ hK30 => ?_; refine c_seq fun _ hK31 => ?_; refine c_drawE ((bx, .cells [.slice ra re.length rc, .int .i64 (i + 1 : Nat), .slice a90 (en ++ [false]).length c90].toArray 100 (0, 0)) :: (b7, .cells (En x).toArray 85 (0, 0)) :: S90) (fun i => false) ?_; refine e_tk 0 rfl hzB (s_field rfl rfl (by decide)) ?_; refine e_tk 1 rfl hzB (s_ld rfl (.own meA rfl)) ?_; refine e_tk 2 rfl hzB (s_move rfl) ?_; refine e_tk 3 rfl hzB (s_nil rfl) ?_; refine e_tk 4 rfl hzB (s_field rfl rfl (by decide)) ?_; refine e_tk 5 rfl hzB (s_ld rfl (.own meA rfl)) ?_; refine e_tk 6 rfl hzB (s_len rfl) ?_
        by_cases hn1 : x.n ≠ en.length + 1
        ·
         have hN : shN re (f1 + 1) i en gr = none := shN_gate hx (gate_no7 h7 (by omega))
         refine e_tk 7 rfl hzB (step_cast (v' := .bool true) (s_neq rfl rfl) (by rw [decide_eq_true (by simp; omega)])) ?_; refine e_tk 8 rfl hzB (s_move rfl) ?_; refine e_sk 9 rfl ?_; refine e_sk 10 rfl ?_; refine e_sk 11 rfl ?_; refine e_tk 12 rfl hzB (s_pick_t rfl rfl) ?_; refine e_tk 13 rfl hzB (s_move rfl) ?_; refine e_sk 14 rfl ?_; refine e_sk 15 rfl ?_; refine e_tk 16 rfl hzB (s_pick_t rfl rfl) ?_; refine e_done (by kernel_rfl) ?_; refine x_then (hK31 _ _ ?_); refine c_true rfl ?_; refine c_seq fun _ hK32 => ?_; refine c_region ?_; refine o_step rfl (s_assign rfl) ?_; refine o_nil ?_; refine x_then (hK32 _ _ ?_); refine c_ret ?_; refine x_then_ret (x_block_ret (x_then_ret (?_)))
         exact x_ret rfl (.tmp rfl (.nil)) ((by rw [hN]; rfl))
        ·
         refine e_tk 7 rfl hzB (step_cast (v' := .bool false) (s_neq rfl rfl) (by rw [decide_eq_false (by simp; omega)])) ?_; refine e_tk 8 rfl hzB (s_move rfl) ?_; refine e_tg 9 rfl hzB (s_field rfl rfl (by decide)) ?_; refine e_tg 10 rfl hzB (s_ld rfl (.own meA rfl)) ?_
         by_cases hn2 : x.n > 255
         ·
          have hN : shN re (f1 + 1) i en gr = none := shN_gate hx (gate_no7 h7 (by omega))
          refine e_tg 11 rfl hzB (step_cast (v' := .bool true) (s_gtr rfl rfl) (by rw [decide_eq_true (by omega)])) ?_; refine e_tk 12 rfl hzB (s_pick_f rfl rfl) ?_; refine e_tk 13 rfl hzB (s_move rfl) ?_; refine e_sk 14 rfl ?_; refine e_sk 15 rfl ?_; refine e_tk 16 rfl hzB (s_pick_t rfl rfl) ?_; refine e_done (by kernel_rfl) ?_; refine x_then (hK31 _ _ ?_); refine c_true rfl ?_; refine c_seq fun _ hK33 => ?_; refine c_region ?_; refine o_step rfl (s_assign rfl) ?_; refine o_nil ?_; refine x_then (hK33 _ _ ?_); refine c_ret ?_; refine x_then_ret (x_block_ret (x_then_ret (?_)))
          exact x_ret rfl (.tmp rfl (.nil)) ((by rw [hN]; rfl))
         ·
          refine e_tg 11 rfl hzB (step_cast (v' := .bool false) (s_gtr rfl rfl) (by rw [decide_eq_false (by omega)])) ?_; refine e_tk 12 rfl hzB (s_pick_f rfl rfl) ?_; refine e_tk 13 rfl hzB (s_move rfl) ?_; refine e_tg 14 rfl hzB (s_move rfl) ?_
          by_cases hn3 : gr = 64
          ·
           have hN : shN re (f1 + 1) i en gr = none := shN_gate hx (gate_no7 h7 (by omega))
           refine e_tg 15 rfl hzB (step_cast (v' := .bool true) (s_eql rfl rfl) (by rw [decide_eq_true (by omega)])) ?_; refine e_tk 16 rfl hzB (s_pick_f rfl rfl) ?_; refine e_done (by kernel_rfl) ?_; refine x_then (hK31 _ _ ?_); refine c_true rfl ?_; refine c_seq fun _ hK34 => ?_; refine c_region ?_; refine o_step rfl (s_assign rfl) ?_; refine o_nil ?_; refine x_then (hK34 _ _ ?_); refine c_ret ?_; refine x_then_ret (x_block_ret (x_then_ret (?_)))
           exact x_ret rfl (.tmp rfl (.nil)) ((by rw [hN]; rfl))
          ·
           refine e_tg 15 rfl hzB (step_cast (v' := .bool false) (s_eql rfl rfl) (by rw [decide_eq_false (by omega)])) ?_; refine e_tk 16 rfl hzB (s_pick_f rfl rfl) ?_; refine e_done (by kernel_rfl) ?_; refine x_then (hK31 _ _ ?_); refine c_false rfl ?_; refine c_skip ?_; refine x_then (hK30 _ _ ?_); refine c_region ?_; refine o_step rfl (s_move rfl) ?_; refine o_step rfl (s_add rfl rfl (by omega)) ?_; refine o_step rfl (s_assign rfl) ?_; refine o_nil ?_; refine x_block ?_; exact x_then (hJ9 (en ++ [false], gr + 1, a90, c90, S90) _ _ ⟨gate_grp h7 ⟨by omega, by omega, by omega⟩, hS90⟩ sbA sbA hzB)
       ·
        refine o_step rfl (step_cast (v' := .bool false) (s_eql rfl rfl) (by rw [decide_eq_false h7])) ?_; refine o_step rfl (s_assign rfl) ?_; refine o_nil ?_; refine x_then (hK28 _ _ ?_); refine c_false rfl ?_; refine c_skip ?_; refine x_block ?_; exact x_then (hJ9 (en, gr, ea, ec, Se) _ _ ⟨gate_other h8 h7, hO⟩ sbA sbA hzB)
end Go.Proofs.Ytmpeokbongnniaa
