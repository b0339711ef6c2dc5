/- Part of the proofs over this seat: see the text that holds the theorem. Conditions: each theorem bears its own. -/
import Derived.Test.YtmompllplidphaaDoorSM4Z
import Derived.Test.YtmompllplidphaaDoorSM1Z
namespace Go.HL.Kl.Mc
open Go Go.HL Go.HL.Kl
def zN : Nd := ⟨0, 0, 0, 0, 0, 0⟩
theorem En_zero : En zN = [.int .i8 0, .int .u64 0, .int .u64 0, .int .u64 0, .int .u64 0, .int .i64 0, .int .i64 0, .int .i64 0, .int .i64 0] := by
  show _ :: (Ec 0#256 ++ _) = _
  rw [Ec_zero]; rfl
/-- a node without what its kind names -/
def zr (x : Nd) : Nd := ⟨0, if x.op = 1 then 0 else x.set, if x.op = 7 ∨ x.op = 8 then 0 else x.n, if x.op = 6 then 0 else x.mn, if x.op = 6 then 0 else x.mx, 0⟩
theorem zr_iff {x : Nd} : zr x = zN ↔ (x.op = 1 ∨ x.set = 0) ∧ (x.op = 7 ∨ x.op = 8 ∨ x.n = 0) ∧ (x.op = 6 ∨ x.mn = 0 ∧ x.mx = 0) := by
  simp only [zr, zN, Nd.mk.injEq, true_and, and_true]
  by_cases h1 : x.op = 1
  · simp [h1]
  by_cases h6 : x.op = 6
  · simp [h6]
  by_cases h7 : x.op = 7
  · simp [h7]
  by_cases h8 : x.op = 8
  · simp [h8]
  · simp [h1, h6, h7, h8]
theorem ndOk_zr {x : Nd} (h : zr x ≠ zN) : ndOk x = false := by
  cases hb : ndOk x
  · rfl
  exfalso
  apply h
  rw [zr_iff]
  simp only [ndOk, flds, Bool.and_eq_true, Bool.or_eq_true, decide_eq_true_eq] at hb
  obtain ⟨⟨⟨⟨_, h1⟩, h2⟩, h3⟩, _⟩ := hb
  refine ⟨h1, by rcases h2 with h2 | h2 <;> omega, ?_⟩
  by_cases h6 : x.op = 6
  · exact .inl h6
  · rw [if_neg h6] at h3; simp at h3; exact .inr h3
theorem ndOk_kidsOk {x : Nd} (h1 : 1 ≤ x.op ∧ x.op ≤ 8) (h2 : x.op = 6 → 0 ≤ x.mn ∧ x.mn ≤ 255 ∧ (x.mx = -1 ∨ x.mn ≤ x.mx ∧ x.mx ≤ 255)) (hz : zr x = zN) : ndOk x = kidsOk x := by
  rw [zr_iff] at hz
  obtain ⟨a, b, c⟩ := hz
  have : flds x = true := by
    simp only [flds, Bool.and_eq_true, Bool.or_eq_true, decide_eq_true_eq]
    refine ⟨⟨⟨h1, a⟩, by omega⟩, ?_⟩
    by_cases h6 : x.op = 6
    · rw [if_pos h6]; simpa using h2 h6
    · rw [if_neg h6]; simp; omega
  rw [ndOk, this, Bool.true_and]
theorem ndOk_rep {x : Nd} (h6 : x.op = 6) (h : ¬ (0 ≤ x.mn ∧ x.mn ≤ 255 ∧ (x.mx = -1 ∨ x.mn ≤ x.mx ∧ x.mx ≤ 255))) : ndOk x = false := by
  cases hb : ndOk x
  · rfl
  · exact absurd (rep_flds hb h6) h
theorem ndOk_op {x : Nd} (h : ¬ (1 ≤ x.op ∧ x.op ≤ 8)) : ndOk x = false := by
  rw [ndOk, flds, decide_eq_false h]; simp
end Go.HL.Kl.Mc
namespace Go.Proofs.YtmompllplidphaaDoor
open Go Go.HL Go.Proofs Go.HL.Kl Go.HL.Kl.Mc
set_option maxHeartbeats 1000000 in
theorem ndOk_fn (x : Nd) : HL.Fn Tryd.prog 102 [.agg (En x).toArray] (fun _ => True) [] (fun v _ => v = .bool (ndOk x)) := by
  refine fn_of Tryd.func102 rfl rfl rfl fun w0 hw => ?_
  refine c_seq fun _ hK1 => ?_
  refine c_region ?_
  refine o_box rfl rfl rfl fun b1 => ?_
  refine o_step rfl (s_assign rfl) ?_
  refine o_nil ?_
  refine x_then (hK1 _ _ ?_)
  refine c_seq fun _ hK2 => ?_
  refine c_region ?_
  refine o_step rfl (s_ldB rfl (RdPK.cels (.own meA)) lnA) ?_
  refine o_alloc (l := En zN) (by rw [En_zero]; rfl) rfl fun b3 => ?_
  refine o_stW rfl rfl upA lnA lnA onA ?_
  refine o_nil ?_
  refine x_then (hK2 _ _ ?_)
  refine c_seq fun _ hK3 => ?_
  refine c_region ?_
  refine o_step rfl (s_field rfl rfl (by decide)) ?_
  refine o_store rfl rfl rfl upA ltA rfl ?_
  rw [show (En x).set 0 (.int .i8 0) = En (⟨0, x.set, x.n, x.mn, x.mx, x.kids⟩ : Nd) from rfl]
  refine o_step rfl (s_field rfl rfl (by decide)) ?_
  refine o_store rfl rfl rfl upA ltA rfl ?_
  rw [show (En (⟨0, x.set, x.n, x.mn, x.mx, x.kids⟩ : Nd)).set 8 (.int .i64 0) = En (⟨0, x.set, x.n, x.mn, x.mx, 0⟩ : Nd) from rfl]
  refine o_nil ?_
  refine x_then (hK3 _ _ ?_)
  refine c_seqJ (ι := Unit) (fun g => (1 ≤ x.op ∧ x.op ≤ 8) ∧ (x.op = 6 → 0 ≤ x.mn ∧ x.mn ≤ 255 ∧ (x.mx = -1 ∨ x.mn ≤ x.mx ∧ x.mx ≤ 255))) (fun g => []) [(1, _), (3, _)] (fun g => [(b3, .cells (En (zr x)).toArray 57 (0, 0)), (b1, .cells (En x).toArray 57 (0, 0))]) sbA ?_ ?_
  ·
   rintro g hI
   refine c_seq fun _ hK5 => ?_
   refine c_seq fun _ hK6 => ?_
   refine c_region ?_
   refine o_step rfl (s_ldB rfl (RdPK.cels (.own meA)) lnA) ?_
   refine o_step rfl (step_cast (v' := .agg (En zN).toArray) (s_build (cs := [_, _, _, _, _, _, _, _, _]) (vs := []) rfl rfl .nil) (by rw [En_zero])) ?_
   by_cases hz : zr x ≠ zN
   ·
    refine o_step rfl (step_cast (v' := .bool true) (s_neq_nd rfl rfl) (by rw [decide_eq_false hz]; rfl)) ?_
    refine o_nil ?_
    refine x_then (hK6 _ _ ?_)
    refine c_true rfl ?_
    refine c_seq fun _ hK7 => ?_
    refine c_region ?_
    refine o_step rfl (s_assign rfl) ?_
    refine o_nil ?_
    refine x_then (hK7 _ _ ?_)
    refine c_ret ?_
    refine x_then_ret (?_)
    exact x_ret rfl (.tmp rfl (.nil)) ((congrArg Value.bool (ndOk_zr hz).symm))
   ·
    have hk := ndOk_kidsOk hI.1 hI.2 (Decidable.not_not.1 hz)
    unfold kidsOk at hk
    refine o_step rfl (step_cast (v' := .bool false) (s_neq_nd rfl rfl) (by rw [decide_eq_true (Decidable.not_not.1 hz)]; rfl)) ?_
    refine o_nil ?_
    refine x_then (hK6 _ _ ?_)
    refine c_false rfl ?_
    refine c_skip ?_
    refine x_then (hK5 _ _ ?_)
    refine c_seq fun _ hK8 => ?_
    refine c_seq fun _ hK9 => ?_
    refine c_region ?_
    refine o_step rfl (s_field rfl rfl (by decide)) ?_
    refine o_step rfl (s_ld rfl (.own meA rfl)) ?_
    refine o_nil ?_
    refine x_then (hK9 _ _ ?_)
    refine c_block ?_
    refine c_seq fun _ hK10 => ?_
    refine c_seq fun _ hK11 => ?_
    refine c_region ?_
    by_cases k6 : x.op = 6
    ·
     refine o_step rfl (step_cast (v' := .bool true) (s_eql rfl rfl) (by rw [decide_eq_true k6])) ?_
     refine o_step rfl (s_assign rfl) ?_
     refine o_nil ?_
     refine x_then (hK11 _ _ ?_)
     refine c_true rfl ?_
     refine c_skip ?_
     refine x_then (hK10 _ _ ?_)
     refine c_true rfl ?_
     refine c_seq fun _ hK12 => ?_
     refine c_region ?_
     refine o_step rfl (s_field rfl rfl (by decide)) ?_
     refine o_step rfl (s_ld rfl (.own meA rfl)) ?_
     refine o_step rfl (s_eql rfl rfl) ?_
     refine o_step rfl (s_assign rfl) ?_
     refine o_nil ?_
     refine x_then (hK12 _ _ ?_)
     refine c_ret ?_
     refine x_block_ret (x_then_ret (?_))
     exact x_ret rfl (.tmp rfl (.nil)) ((congrArg Value.bool (by rw [hk, if_pos (.inl k6)])))
    ·
     refine o_step rfl (step_cast (v' := .bool false) (s_eql rfl rfl) (by rw [decide_eq_false k6])) ?_
     refine o_step rfl (s_assign rfl) ?_
     refine o_nil ?_
     refine x_then (hK11 _ _ ?_)
     refine c_false rfl ?_
     refine c_region ?_
     by_cases k7 : x.op = 7
     ·
      refine o_step rfl (step_cast (v' := .bool true) (s_eql rfl rfl) (by rw [decide_eq_true k7])) ?_
      refine o_step rfl (s_assign rfl) ?_
      refine o_nil ?_
      refine x_then (hK10 _ _ ?_)
      refine c_true rfl ?_
      refine c_seq fun _ hK13 => ?_
      refine c_region ?_
      refine o_step rfl (s_field rfl rfl (by decide)) ?_
      refine o_step rfl (s_ld rfl (.own meA rfl)) ?_
      refine o_step rfl (s_eql rfl rfl) ?_
      refine o_step rfl (s_assign rfl) ?_
      refine o_nil ?_
      refine x_then (hK13 _ _ ?_)
      refine c_ret ?_
      refine x_block_ret (x_then_ret (?_))
      exact x_ret rfl (.tmp rfl (.nil)) ((congrArg Value.bool (by rw [hk, if_pos (.inr k7)])))
     ·
      refine o_step rfl (step_cast (v' := .bool false) (s_eql rfl rfl) (by rw [decide_eq_false k7])) ?_
      refine o_step rfl (s_assign rfl) ?_
      refine o_nil ?_
      refine x_then (hK10 _ _ ?_)
      refine c_false rfl ?_
      refine c_seq fun _ hK14 => ?_
      refine c_region ?_
      by_cases k5 : x.op = 5
      ·
       refine o_step rfl (step_cast (v' := .bool true) (s_eql rfl rfl) (by rw [decide_eq_true k5])) ?_
       refine o_step rfl (s_assign rfl) ?_
       refine o_nil ?_
       refine x_then (hK14 _ _ ?_)
       refine c_true rfl ?_
       refine c_seq fun _ hK15 => ?_
       refine c_region ?_
       refine o_step rfl (s_field rfl rfl (by decide)) ?_
       refine o_step rfl (s_ld rfl (.own meA rfl)) ?_
       refine o_step rfl (s_geq rfl rfl) ?_
       refine o_step rfl (s_assign rfl) ?_
       refine o_nil ?_
       refine x_then (hK15 _ _ ?_)
       refine c_ret ?_
       refine x_block_ret (x_then_ret (?_))
       exact x_ret rfl (.tmp rfl (.nil)) ((congrArg Value.bool (by rw [hk, if_neg (by omega), if_neg (by omega), if_pos k5])))
      ·
       refine o_step rfl (step_cast (v' := .bool false) (s_eql rfl rfl) (by rw [decide_eq_false k5])) ?_
       refine o_step rfl (s_assign rfl) ?_
       refine o_nil ?_
       refine x_then (hK14 _ _ ?_)
       refine c_false rfl ?_
       refine c_seq fun _ hK16 => ?_
       refine c_region ?_
       by_cases k4 : x.op = 4
       ·
        refine o_step rfl (step_cast (v' := .bool true) (s_eql rfl rfl) (by rw [decide_eq_true k4])) ?_
        refine o_step rfl (s_assign rfl) ?_
        refine o_nil ?_
        refine x_then (hK16 _ _ ?_)
        refine c_true rfl ?_
        refine c_seq fun _ hK17 => ?_
        refine c_region ?_
        refine o_step rfl (s_field rfl rfl (by decide)) ?_
        refine o_step rfl (s_ld rfl (.own meA rfl)) ?_
        by_cases k0 : x.kids = 0
        ·
         refine o_step rfl (step_cast (v' := .bool true) (s_eql rfl rfl) (by rw [decide_eq_true (by omega)])) ?_
         refine o_step rfl (s_move rfl) ?_
         refine o_no rfl rfl rfl rfl ?_
         refine o_no rfl rfl rfl rfl ?_
         refine o_no rfl rfl rfl rfl ?_
         refine o_step rfl (s_pick_t rfl rfl) ?_
         refine o_step rfl (s_assign rfl) ?_
         refine o_nil ?_
         refine x_then (hK17 _ _ ?_)
         refine c_ret ?_
         refine x_block_ret (x_then_ret (?_))
         exact x_ret rfl (.tmp rfl (.nil)) ((congrArg Value.bool (by rw [hk, if_neg (by omega), if_pos k4, decide_eq_true (by omega)])))
        ·
         refine o_step rfl (step_cast (v' := .bool false) (s_eql rfl rfl) (by rw [decide_eq_false (by omega)])) ?_
         refine o_step rfl (s_move rfl) ?_
         refine o_yes rfl rfl ?_
         refine o_step rfl (s_field rfl rfl (by decide)) ?_
         refine o_yes rfl rfl ?_
         refine o_step rfl (s_ld rfl (.own meA rfl)) ?_
         refine o_yes rfl rfl ?_
         refine o_step rfl (s_geq rfl rfl) ?_
         refine o_step rfl (s_pick_f rfl rfl) ?_
         refine o_step rfl (s_assign rfl) ?_
         refine o_nil ?_
         refine x_then (hK17 _ _ ?_)
         refine c_ret ?_
         refine x_block_ret (x_then_ret (?_))
         exact x_ret rfl (.tmp rfl (.nil)) ((congrArg Value.bool (by rw [hk, if_neg (by omega), if_pos k4]; exact decide_eq_decide.2 (by omega))))
       ·
        refine o_step rfl (step_cast (v' := .bool false) (s_eql rfl rfl) (by rw [decide_eq_false k4])) ?_
        refine o_step rfl (s_assign rfl) ?_
        refine o_nil ?_
        refine x_then (hK16 _ _ ?_)
        refine c_false rfl ?_
        refine c_skip ?_
        refine x_block ?_
        refine x_then (hK8 _ _ ?_)
        refine c_seq fun _ hK18 => ?_
        refine c_region ?_
        refine o_step rfl (s_field rfl rfl (by decide)) ?_
        refine o_step rfl (s_ld rfl (.own meA rfl)) ?_
        refine o_step rfl (s_eql rfl rfl) ?_
        refine o_step rfl (s_assign rfl) ?_
        refine o_nil ?_
        refine x_then (hK18 _ _ ?_)
        refine c_ret ?_
        refine ?_
        exact x_ret rfl (.tmp rfl (.nil)) ((congrArg Value.bool (by rw [hk, if_neg (by omega), if_neg (by omega), if_neg (by omega)])))
  ·
   intro _ hJ4
   refine c_seq fun _ hK19 => ?_
   refine c_region ?_
   refine o_step rfl (s_field rfl rfl (by decide)) ?_
   refine o_step rfl (s_ld rfl (.own meA rfl)) ?_
   refine o_nil ?_
   refine x_then (hK19 _ _ ?_)
   refine c_block ?_
   refine c_seq fun _ hK20 => ?_
   refine c_region ?_
   by_cases h1 : x.op = 1
   ·
    refine o_step rfl (step_cast (v' := .bool true) (s_eql rfl rfl) (by rw [decide_eq_true h1])) ?_
    refine o_step rfl (s_assign rfl) ?_
    refine o_nil ?_
    refine x_then (hK20 _ _ ?_)
    refine c_true rfl ?_
    refine c_region ?_
    refine o_step rfl (step_cast (v' := .agg (Ec 0#256).toArray) (s_build0 rfl) (by rw [Ec_zero]; rfl)) ?_
    refine o_step rfl (s_field rfl rfl (by decide)) ?_
    refine o_storeA (l := En (⟨0, x.set, x.n, x.mn, x.mx, 0⟩ : Nd)) (cs := Ec 0#256) rfl rfl rfl (Enc.one _) upA (Nat.le_of_ble_eq_true rfl) (fun _ _ => frz0) ?_
    rw [show splice (En (⟨0, x.set, x.n, x.mn, x.mx, 0⟩ : Nd)) 1 (Ec 0#256) = En (⟨0, 0, x.n, x.mn, x.mx, 0⟩ : Nd) from rfl]
    refine o_nil ?_
    refine x_block ?_
    rw [show (⟨0, 0, x.n, x.mn, x.mx, 0⟩ : Nd) = zr x by rw [zr, if_pos h1, if_neg (by omega), if_neg (by omega), if_neg (by omega)]]
    exact x_then (hJ4 () _ _ ⟨by omega, fun h => absurd h (by omega)⟩ sbA sbA hzB)
   ·
    refine o_step rfl (step_cast (v' := .bool false) (s_eql rfl rfl) (by rw [decide_eq_false h1])) ?_
    refine o_step rfl (s_assign rfl) ?_
    refine o_nil ?_
    refine x_then (hK20 _ _ ?_)
    refine c_false rfl ?_
    refine c_seq fun _ hK21 => ?_
    refine c_seq fun _ hK22 => ?_
    refine c_region ?_
    by_cases h7 : x.op = 7
    ·
     refine o_step rfl (step_cast (v' := .bool true) (s_eql rfl rfl) (by rw [decide_eq_true h7])) ?_
     refine o_step rfl (s_assign rfl) ?_
     refine o_nil ?_
     refine x_then (hK22 _ _ ?_)
     refine c_true rfl ?_
     refine c_skip ?_
     refine x_then (hK21 _ _ ?_)
     refine c_true rfl ?_
     refine c_region ?_
     refine o_step rfl (s_field rfl rfl (by decide)) ?_
     refine o_store rfl rfl rfl upA ltA rfl ?_
     rw [show (En (⟨0, x.set, x.n, x.mn, x.mx, 0⟩ : Nd)).set 5 (.int .i64 0) = En (⟨0, x.set, 0, x.mn, x.mx, 0⟩ : Nd) from rfl]
     refine o_nil ?_
     refine x_block ?_
     rw [show (⟨0, x.set, 0, x.mn, x.mx, 0⟩ : Nd) = zr x by rw [zr, if_neg (by omega), if_pos (.inl h7), if_neg (by omega), if_neg (by omega)]]
     exact x_then (hJ4 () _ _ ⟨by omega, fun h => absurd h (by omega)⟩ sbA sbA hzB)
    ·
     refine o_step rfl (step_cast (v' := .bool false) (s_eql rfl rfl) (by rw [decide_eq_false h7])) ?_
     refine o_step rfl (s_assign rfl) ?_
     refine o_nil ?_
     refine x_then (hK22 _ _ ?_)
     refine c_false rfl ?_
     refine c_region ?_
     by_cases h8 : x.op = 8
     ·
      refine o_step rfl (step_cast (v' := .bool true) (s_eql rfl rfl) (by rw [decide_eq_true h8])) ?_
      refine o_step rfl (s_assign rfl) ?_
      refine o_nil ?_
      refine x_then (hK21 _ _ ?_)
      refine c_true rfl ?_
      refine c_region ?_
      refine o_step rfl (s_field rfl rfl (by decide)) ?_
      refine o_store rfl rfl rfl upA ltA rfl ?_
      rw [show (En (⟨0, x.set, x.n, x.mn, x.mx, 0⟩ : Nd)).set 5 (.int .i64 0) = En (⟨0, x.set, 0, x.mn, x.mx, 0⟩ : Nd) from rfl]
      refine o_nil ?_
      refine x_block ?_
      rw [show (⟨0, x.set, 0, x.mn, x.mx, 0⟩ : Nd) = zr x by rw [zr, if_neg (by omega), if_pos (.inr h8), if_neg (by omega), if_neg (by omega)]]
      exact x_then (hJ4 () _ _ ⟨by omega, fun h => absurd h (by omega)⟩ sbA sbA hzB)
     ·
      refine o_step rfl (step_cast (v' := .bool false) (s_eql rfl rfl) (by rw [decide_eq_false h8])) ?_
      refine o_step rfl (s_assign rfl) ?_
      refine o_nil ?_
      refine x_then (hK21 _ _ ?_)
      refine c_false rfl ?_
      refine c_seq fun _ hK23 => ?_
      refine c_region ?_
      by_cases h6 : x.op = 6
      ·
       refine o_step rfl (step_cast (v' := .bool true) (s_eql rfl rfl) (by rw [decide_eq_true h6])) ?_
       refine o_step rfl (s_assign rfl) ?_
       refine o_nil ?_
       refine x_then (hK23 _ _ ?_)
       refine c_true rfl ?_
       refine c_seq fun _ hK24 => ?_
       refine c_seq fun _ hK25 => ?_
       refine c_region ?_
       refine o_step rfl (s_field rfl rfl (by decide)) ?_
       refine o_step rfl (s_ld rfl (.own meA rfl)) ?_
       by_cases hm1 : x.mn < 0
       ·
        refine o_step rfl (step_cast (v' := .bool true) (s_lss rfl rfl) (by rw [decide_eq_true (by omega)])) ?_
        refine o_step rfl (s_move rfl) ?_
        refine o_no rfl rfl rfl rfl ?_
        refine o_no rfl rfl rfl rfl ?_
        refine o_no rfl rfl rfl rfl ?_
        refine o_step rfl (s_pick_t rfl rfl) ?_
        refine o_step rfl (s_move rfl) ?_
        refine o_no rfl rfl rfl rfl ?_
        refine o_no rfl rfl rfl rfl ?_
        refine o_no rfl rfl rfl rfl ?_
        refine o_no rfl rfl rfl rfl ?_
        refine o_noU rfl rfl rfl ?_
        refine o_noU rfl rfl rfl ?_
        refine o_noU rfl rfl rfl ?_
        refine o_noU rfl rfl rfl ?_
        refine o_noU rfl rfl rfl ?_
        refine o_noU rfl rfl rfl ?_
        refine o_noU rfl rfl rfl ?_
        refine o_noU rfl rfl rfl ?_
        refine o_noU rfl rfl rfl ?_
        refine o_noU rfl rfl rfl ?_
        refine o_no rfl rfl rfl rfl ?_
        refine o_step rfl (s_pick_t rfl rfl) ?_
        refine o_nil ?_
        refine x_then (hK25 _ _ ?_)
        refine c_true rfl ?_
        refine c_seq fun _ hK26 => ?_
        refine c_region ?_
        refine o_step rfl (s_assign rfl) ?_
        refine o_nil ?_
        refine x_then (hK26 _ _ ?_)
        refine c_ret ?_
        refine x_then_ret (x_block_ret (x_then_ret (?_)))
        exact x_ret rfl (.tmp rfl (.nil)) ((congrArg Value.bool (ndOk_rep h6 (by omega)).symm))
       ·
        refine o_step rfl (step_cast (v' := .bool false) (s_lss rfl rfl) (by rw [decide_eq_false (by omega)])) ?_
        refine o_step rfl (s_move rfl) ?_
        refine o_yes rfl rfl ?_
        refine o_step rfl (s_field rfl rfl (by decide)) ?_
        refine o_yes rfl rfl ?_
        refine o_step rfl (s_ld rfl (.own meA rfl)) ?_
        refine o_yes rfl rfl ?_
        by_cases hm2 : x.mn > 255
        ·
         refine o_step rfl (step_cast (v' := .bool true) (s_gtr rfl rfl) (by rw [decide_eq_true (by omega)])) ?_
         refine o_step rfl (s_pick_f rfl rfl) ?_
         refine o_step rfl (s_move rfl) ?_
         refine o_no rfl rfl rfl rfl ?_
         refine o_no rfl rfl rfl rfl ?_
         refine o_no rfl rfl rfl rfl ?_
         refine o_no rfl rfl rfl rfl ?_
         refine o_noU rfl rfl rfl ?_
         refine o_noU rfl rfl rfl ?_
         refine o_noU rfl rfl rfl ?_
         refine o_noU rfl rfl rfl ?_
         refine o_noU rfl rfl rfl ?_
         refine o_noU rfl rfl rfl ?_
         refine o_noU rfl rfl rfl ?_
         refine o_noU rfl rfl rfl ?_
         refine o_noU rfl rfl rfl ?_
         refine o_noU rfl rfl rfl ?_
         refine o_no rfl rfl rfl rfl ?_
         refine o_step rfl (s_pick_t rfl rfl) ?_
         refine o_nil ?_
         refine x_then (hK25 _ _ ?_)
         refine c_true rfl ?_
         refine c_seq fun _ hK27 => ?_
         refine c_region ?_
         refine o_step rfl (s_assign rfl) ?_
         refine o_nil ?_
         refine x_then (hK27 _ _ ?_)
         refine c_ret ?_
         refine x_then_ret (x_block_ret (x_then_ret (?_)))
         exact x_ret rfl (.tmp rfl (.nil)) ((congrArg Value.bool (ndOk_rep h6 (by omega)).symm))
        ·
         refine o_step rfl (step_cast (v' := .bool false) (s_gtr rfl rfl) (by rw [decide_eq_false (by omega)])) ?_
         refine o_step rfl (s_pick_f rfl rfl) ?_
         refine o_step rfl (s_move rfl) ?_
         refine o_yes rfl rfl ?_
         refine o_step rfl (s_field rfl rfl (by decide)) ?_
         refine o_yes rfl rfl ?_
         refine o_step rfl (s_ld rfl (.own meA rfl)) ?_
         refine o_yes rfl rfl ?_
         by_cases hm3 : x.mx ≠ -1
         ·
          refine o_step rfl (step_cast (v' := .bool true) (s_neq rfl rfl) (by rw [decide_eq_true (by omega)])) ?_
          refine o_yes rfl rfl ?_
          refine o_step rfl (s_move rfl) ?_
          refine o_yes rfl rfl ?_
          refine o_step rfl (s_field rfl rfl (by decide)) ?_
          refine o_yes rfl rfl ?_
          refine o_step rfl (s_ld rfl (.own meA rfl)) ?_
          refine o_yes rfl rfl ?_
          refine o_step rfl (s_field rfl rfl (by decide)) ?_
          refine o_yes rfl rfl ?_
          refine o_step rfl (s_ld rfl (.own meA rfl)) ?_
          refine o_yes rfl rfl ?_
          by_cases hm4 : x.mx < x.mn
          ·
           refine o_step rfl (step_cast (v' := .bool true) (s_lss rfl rfl) (by rw [decide_eq_true (by omega)])) ?_
           refine o_yes rfl rfl ?_
           refine o_step rfl (s_move rfl) ?_
           refine o_no rfl rfl rfl rfl ?_
           refine o_no rfl rfl rfl rfl ?_
           refine o_no rfl rfl rfl rfl ?_
           refine o_yes rfl rfl ?_
           refine o_step rfl (s_pick_t rfl rfl) ?_
           refine o_yes rfl rfl ?_
           refine o_step rfl (s_pick_t rfl rfl) ?_
           refine o_step rfl (s_pick_f rfl rfl) ?_
           refine o_nil ?_
           refine x_then (hK25 _ _ ?_)
           refine c_true rfl ?_
           refine c_seq fun _ hK28 => ?_
           refine c_region ?_
           refine o_step rfl (s_assign rfl) ?_
           refine o_nil ?_
           refine x_then (hK28 _ _ ?_)
           refine c_ret ?_
           refine x_then_ret (x_block_ret (x_then_ret (?_)))
           exact x_ret rfl (.tmp rfl (.nil)) ((congrArg Value.bool (ndOk_rep h6 (by omega)).symm))
          ·
           refine o_step rfl (step_cast (v' := .bool false) (s_lss rfl rfl) (by rw [decide_eq_false (by omega)])) ?_
           refine o_yes rfl rfl ?_
           refine o_step rfl (s_move rfl) ?_
           refine o_yes rfl rfl ?_
           refine o_step rfl (s_field rfl rfl (by decide)) ?_
           refine o_yes rfl rfl ?_
           refine o_step rfl (s_ld rfl (.own meA rfl)) ?_
           refine o_yes rfl rfl ?_
           by_cases hm5 : x.mx > 255
           ·
            refine o_step rfl (step_cast (v' := .bool true) (s_gtr rfl rfl) (by rw [decide_eq_true (by omega)])) ?_
            refine o_yes rfl rfl ?_
            refine o_step rfl (s_pick_f rfl rfl) ?_
            refine o_yes rfl rfl ?_
            refine o_step rfl (s_pick_t rfl rfl) ?_
            refine o_step rfl (s_pick_f rfl rfl) ?_
            refine o_nil ?_
            refine x_then (hK25 _ _ ?_)
            refine c_true rfl ?_
            refine c_seq fun _ hK29 => ?_
            refine c_region ?_
            refine o_step rfl (s_assign rfl) ?_
            refine o_nil ?_
            refine x_then (hK29 _ _ ?_)
            refine c_ret ?_
            refine x_then_ret (x_block_ret (x_then_ret (?_)))
            exact x_ret rfl (.tmp rfl (.nil)) ((congrArg Value.bool (ndOk_rep h6 (by omega)).symm))
           ·
            refine o_step rfl (step_cast (v' := .bool false) (s_gtr rfl rfl) (by rw [decide_eq_false (by omega)])) ?_
            refine o_yes rfl rfl ?_
            refine o_step rfl (s_pick_f rfl rfl) ?_
            refine o_yes rfl rfl ?_
            refine o_step rfl (s_pick_t rfl rfl) ?_
            refine o_step rfl (s_pick_f rfl rfl) ?_
            refine o_nil ?_
            refine x_then (hK25 _ _ ?_)
            refine c_false rfl ?_
            refine c_skip ?_
            refine x_then (hK24 _ _ ?_)
            refine c_region ?_
            refine o_step rfl (s_field rfl rfl (by decide)) ?_
            refine o_store rfl rfl rfl upA ltA rfl ?_
            rw [show (En (⟨0, x.set, x.n, x.mn, x.mx, 0⟩ : Nd)).set 6 (.int .i64 0) = En (⟨0, x.set, x.n, 0, x.mx, 0⟩ : Nd) from rfl]
            refine o_step rfl (s_field rfl rfl (by decide)) ?_
            refine o_store rfl rfl rfl upA ltA rfl ?_
            rw [show (En (⟨0, x.set, x.n, 0, x.mx, 0⟩ : Nd)).set 7 (.int .i64 0) = En (⟨0, x.set, x.n, 0, 0, 0⟩ : Nd) from rfl]
            refine o_nil ?_
            refine x_block ?_
            rw [show (⟨0, x.set, x.n, 0, 0, 0⟩ : Nd) = zr x by rw [zr, if_neg (by omega), if_neg (by omega), if_pos h6, if_pos h6]]
            exact x_then (hJ4 () _ _ ⟨by omega, fun h => by omega⟩ sbA sbA hzB)
         ·
          refine o_step rfl (step_cast (v' := .bool false) (s_neq rfl rfl) (by rw [decide_eq_false (by omega)])) ?_
          refine o_yes rfl rfl ?_
          refine o_step rfl (s_move rfl) ?_
          refine o_no rfl rfl rfl rfl ?_
          refine o_no rfl rfl rfl rfl ?_
          refine o_no rfl rfl rfl rfl ?_
          refine o_no rfl rfl rfl rfl ?_
          refine o_no rfl rfl rfl rfl ?_
          refine o_no rfl rfl rfl rfl ?_
          refine o_noU rfl rfl rfl ?_
          refine o_noU rfl rfl rfl ?_
          refine o_noU rfl rfl rfl ?_
          refine o_no rfl rfl rfl rfl ?_
          refine o_yes rfl rfl ?_
          refine o_step rfl (s_pick_f rfl rfl) ?_
          refine o_step rfl (s_pick_f rfl rfl) ?_
          refine o_nil ?_
          refine x_then (hK25 _ _ ?_)
          refine c_false rfl ?_
          refine c_skip ?_
          refine x_then (hK24 _ _ ?_)
          refine c_region ?_
          refine o_step rfl (s_field rfl rfl (by decide)) ?_
          refine o_store rfl rfl rfl upA ltA rfl ?_
          rw [show (En (⟨0, x.set, x.n, x.mn, x.mx, 0⟩ : Nd)).set 6 (.int .i64 0) = En (⟨0, x.set, x.n, 0, x.mx, 0⟩ : Nd) from rfl]
          refine o_step rfl (s_field rfl rfl (by decide)) ?_
          refine o_store rfl rfl rfl upA ltA rfl ?_
          rw [show (En (⟨0, x.set, x.n, 0, x.mx, 0⟩ : Nd)).set 7 (.int .i64 0) = En (⟨0, x.set, x.n, 0, 0, 0⟩ : Nd) from rfl]
          refine o_nil ?_
          refine x_block ?_
          rw [show (⟨0, x.set, x.n, 0, 0, 0⟩ : Nd) = zr x by rw [zr, if_neg (by omega), if_neg (by omega), if_pos h6, if_pos h6]]
          exact x_then (hJ4 () _ _ ⟨by omega, fun h => by omega⟩ sbA sbA hzB)
      ·
       refine o_step rfl (step_cast (v' := .bool false) (s_eql rfl rfl) (by rw [decide_eq_false h6])) ?_
       refine o_step rfl (s_assign rfl) ?_
       refine o_nil ?_
       refine x_then (hK23 _ _ ?_)
       refine c_false rfl ?_
       refine c_seq fun _ hK30 => ?_
       refine c_seq fun _ hK31 => ?_
       refine c_region ?_
       by_cases h2 : x.op = 2
       ·
        refine o_step rfl (step_cast (v' := .bool true) (s_eql rfl rfl) (by rw [decide_eq_true h2])) ?_
        refine o_step rfl (s_assign rfl) ?_
        refine o_nil ?_
        refine x_then (hK31 _ _ ?_)
        refine c_true rfl ?_
        refine c_skip ?_
        refine x_then (hK30 _ _ ?_)
        refine c_true rfl ?_
        refine c_skip ?_
        refine x_block ?_
        rw [show (⟨0, x.set, x.n, x.mn, x.mx, 0⟩ : Nd) = zr x by rw [zr, if_neg (by omega), if_neg (by omega), if_neg (by omega), if_neg (by omega)]]
        exact x_then (hJ4 () _ _ ⟨by omega, fun h => absurd h (by omega)⟩ sbA sbA hzB)
       ·
        refine o_step rfl (step_cast (v' := .bool false) (s_eql rfl rfl) (by rw [decide_eq_false h2])) ?_
        refine o_step rfl (s_assign rfl) ?_
        refine o_nil ?_
        refine x_then (hK31 _ _ ?_)
        refine c_false rfl ?_
        refine c_seq fun _ hK32 => ?_
        refine c_region ?_
        by_cases h3 : x.op = 3
        ·
         refine o_step rfl (step_cast (v' := .bool true) (s_eql rfl rfl) (by rw [decide_eq_true h3])) ?_
         refine o_step rfl (s_assign rfl) ?_
         refine o_nil ?_
         refine x_then (hK32 _ _ ?_)
         refine c_true rfl ?_
         refine c_skip ?_
         refine x_then (hK30 _ _ ?_)
         refine c_true rfl ?_
         refine c_skip ?_
         refine x_block ?_
         rw [show (⟨0, x.set, x.n, x.mn, x.mx, 0⟩ : Nd) = zr x by rw [zr, if_neg (by omega), if_neg (by omega), if_neg (by omega), if_neg (by omega)]]
         exact x_then (hJ4 () _ _ ⟨by omega, fun h => absurd h (by omega)⟩ sbA sbA hzB)
        ·
         refine o_step rfl (step_cast (v' := .bool false) (s_eql rfl rfl) (by rw [decide_eq_false h3])) ?_
         refine o_step rfl (s_assign rfl) ?_
         refine o_nil ?_
         refine x_then (hK32 _ _ ?_)
         refine c_false rfl ?_
         refine c_seq fun _ hK33 => ?_
         refine c_region ?_
         by_cases h4 : x.op = 4
         ·
          refine o_step rfl (step_cast (v' := .bool true) (s_eql rfl rfl) (by rw [decide_eq_true h4])) ?_
          refine o_step rfl (s_assign rfl) ?_
          refine o_nil ?_
          refine x_then (hK33 _ _ ?_)
          refine c_true rfl ?_
          refine c_skip ?_
          refine x_then (hK30 _ _ ?_)
          refine c_true rfl ?_
          refine c_skip ?_
          refine x_block ?_
          rw [show (⟨0, x.set, x.n, x.mn, x.mx, 0⟩ : Nd) = zr x by rw [zr, if_neg (by omega), if_neg (by omega), if_neg (by omega), if_neg (by omega)]]
          exact x_then (hJ4 () _ _ ⟨by omega, fun h => absurd h (by omega)⟩ sbA sbA hzB)
         ·
          refine o_step rfl (step_cast (v' := .bool false) (s_eql rfl rfl) (by rw [decide_eq_false h4])) ?_
          refine o_step rfl (s_assign rfl) ?_
          refine o_nil ?_
          refine x_then (hK33 _ _ ?_)
          refine c_false rfl ?_
          refine c_region ?_
          by_cases h5 : x.op = 5
          ·
           refine o_step rfl (step_cast (v' := .bool true) (s_eql rfl rfl) (by rw [decide_eq_true h5])) ?_
           refine o_step rfl (s_assign rfl) ?_
           refine o_nil ?_
           refine x_then (hK30 _ _ ?_)
           refine c_true rfl ?_
           refine c_skip ?_
           refine x_block ?_
           rw [show (⟨0, x.set, x.n, x.mn, x.mx, 0⟩ : Nd) = zr x by rw [zr, if_neg (by omega), if_neg (by omega), if_neg (by omega), if_neg (by omega)]]
           exact x_then (hJ4 () _ _ ⟨by omega, fun h => absurd h (by omega)⟩ sbA sbA hzB)
          ·
           refine o_step rfl (step_cast (v' := .bool false) (s_eql rfl rfl) (by rw [decide_eq_false h5])) ?_
           refine o_step rfl (s_assign rfl) ?_
           refine o_nil ?_
           refine x_then (hK30 _ _ ?_)
           refine c_false rfl ?_
           refine c_seq fun _ hK34 => ?_
           refine c_region ?_
           refine o_step rfl (s_assign rfl) ?_
           refine o_nil ?_
           refine x_then (hK34 _ _ ?_)
           refine c_ret ?_
           refine x_block_ret (x_then_ret (?_))
           exact x_ret rfl (.tmp rfl (.nil)) ((congrArg Value.bool (ndOk_op (by omega)).symm))
end Go.Proofs.YtmompllplidphaaDoor
