/- Part of the proofs over this seat: see the text that holds the theorem. Conditions: each theorem bears its own. -/
import Derived.Test.YtihbhlgognpmmaaNW9Z
namespace Go.Proofs.Ytihbhlgognpmmaa
open Go Go.HL Go.Proofs Go.HL.Kl Go.HL.Kl.Mc
set_option maxHeartbeats 2000000 in
theorem rMShaped_fn (ra : Option Addr) (rc : Nat) (m : List In) (hmr : ∀ t ∈ m, -128 ≤ t.op ∧ t.op < 128) : HL.Fn Try.prog 13 [.slice ra m.length rc] (fun w => Rd Ein w (.slice ra m.length rc) m) [] (fun v _ => v = .bool (mokB m)) := by
  refine fn_of Try.func13 rfl rfl rfl fun w0 hw => ?_
  have hsl := hw.sl
  have hbl := hsl.le
  refine c_seq fun _ hK1 => ?_
  refine c_region ?_
  refine o_step rfl (s_assign rfl) ?_
  refine o_nil ?_
  refine x_then (hK1 _ _ ?_)
  refine c_seq fun _ hK2 => ?_
  refine c_seq fun _ hK3 => ?_
  refine c_region ?_
  refine o_step rfl (s_move rfl) ?_
  refine o_step rfl (s_len rfl) ?_
  by_cases hl1 : m.length < 1
  ·
   refine o_step rfl (step_cast (v' := .bool true) (s_lss rfl rfl) (by rw [decide_eq_true (by omega)])) ?_
   refine o_step rfl (s_move rfl) ?_
   refine o_no rfl rfl rfl rfl ?_
   refine o_no rfl rfl rfl rfl ?_
   refine o_no rfl rfl rfl rfl ?_
   refine o_step rfl (s_pick_t rfl rfl) ?_
   refine o_nil ?_
   refine x_then (hK3 _ _ ?_)
   refine c_true rfl ?_
   refine c_seq fun _ hK4 => ?_
   refine c_region ?_
   refine o_step rfl (s_assign rfl) ?_
   refine o_nil ?_
   refine x_then (hK4 _ _ ?_)
   refine c_ret ?_
   refine x_then_ret (?_)
   exact x_ret rfl (.tmp rfl (.nil)) ((congrArg Value.bool (mok_len (by omega)).symm))
  ·
   refine o_step rfl (step_cast (v' := .bool false) (s_lss rfl rfl) (by rw [decide_eq_false (by omega)])) ?_
   refine o_step rfl (s_move rfl) ?_
   refine o_yes rfl rfl ?_
   refine o_step rfl (s_move rfl) ?_
   refine o_yes rfl rfl ?_
   refine o_step rfl (s_len rfl) ?_
   refine o_yes rfl rfl ?_
   by_cases hl2 : (m.length : Int) > 65540
   ·
    refine o_step rfl (step_cast (v' := .bool true) (s_gtr rfl rfl) (by rw [decide_eq_true (by omega)])) ?_
    refine o_step rfl (s_pick_f rfl rfl) ?_
    refine o_nil ?_
    refine x_then (hK3 _ _ ?_)
    refine c_true rfl ?_
    refine c_seq fun _ hK5 => ?_
    refine c_region ?_
    refine o_step rfl (s_assign rfl) ?_
    refine o_nil ?_
    refine x_then (hK5 _ _ ?_)
    refine c_ret ?_
    refine x_then_ret (?_)
    exact x_ret rfl (.tmp rfl (.nil)) ((congrArg Value.bool (mok_len (by omega)).symm))
   ·
    refine o_step rfl (step_cast (v' := .bool false) (s_gtr rfl rfl) (by rw [decide_eq_false (by omega)])) ?_
    refine o_step rfl (s_pick_f rfl rfl) ?_
    refine o_nil ?_
    refine x_then (hK3 _ _ ?_)
    refine c_false rfl ?_
    refine c_skip ?_
    refine x_then (hK2 _ _ ?_)
    refine c_seq fun _ hK6 => ?_
    refine c_seq fun _ hK7 => ?_
    refine c_region ?_
    refine o_step rfl (s_assign rfl) ?_
    refine o_nil ?_
    refine x_then (hK7 _ _ ?_)
    refine c_block ?_
    -- not carried: 2
    refine c_loopB (fun (q : Nat) => q ≤ m.length ∧ MUp m q) (fun (q : Nat) => [(3, .int .i64 q)]) [(0, _)] (fun (q : Nat) => []) (fun (q : Nat) => m.length - q) 0 ⟨by omega, .zero⟩ sbA sbA hzB ?_
    rintro q ⟨hq, hU⟩
    refine c_seq fun _ hK8 => ?_
    refine c_seq fun _ hK9 => ?_
    refine c_region ?_
    refine o_step rfl (s_move rfl) ?_
    refine o_step rfl (s_move rfl) ?_
    refine o_step rfl (s_len rfl) ?_
    by_cases hql : q < m.length
    ·
     obtain ⟨t, ht⟩ : ∃ t, m[q]? = some t := ⟨_, List.getElem?_eq_getElem hql⟩
     have hop := hmr t (List.mem_of_getElem? ht)
     refine o_step rfl (step_cast (v' := .bool true) (s_lss rfl rfl) (by rw [decide_eq_true (by omega)])) ?_
     refine o_nil ?_
     refine x_then (hK9 _ _ ?_)
     refine c_true rfl ?_
     refine c_skip ?_
     refine x_then (hK8 _ _ ?_)
     refine c_seq fun _ hK10 => ?_
     refine c_block ?_
     refine c_seq fun _ hK11 => ?_
     refine c_region ?_
     refine o_step rfl (s_move rfl) ?_
     refine o_step rfl (s_move rfl) ?_
     refine o_step rfl (s_idx rfl rfl hsl (by omega)) ?_
     refine o_step rfl (s_field rfl rfl (by decide)) ?_
     refine o_step rfl (s_ld rfl ((RdK.old0 hw).ld q 0 ht rfl (by decide) (by omega))) ?_
     refine o_step rfl (s_convI rfl (by omega)) ?_
     refine o_step rfl (s_assign rfl) ?_
     refine o_nil ?_
     refine x_then (hK11 _ _ ?_)
     refine c_seq fun _ hK12 => ?_
     refine c_region ?_
     refine o_step rfl (s_assign rfl) ?_
     refine o_nil ?_
     refine x_then (hK12 _ _ ?_)
     refine c_seqJ (ι := Int) (fun lx => lx = if t.op = 4 ∨ t.op = 5 then ((m.length - 1 : Nat) : Int) else 0) (fun lx => [(5, .int .i64 lx)]) [(0, _), (3, _), (4, _), (15, _), (16, _), (17, _), (18, _), (21, _), (22, _), (23, _), (24, _), (25, _), (26, _)] (fun lx => []) sbA ?_ ?_
     ·
      rintro lx hlx
      refine c_seq fun _ hK14 => ?_
      refine c_region ?_
      refine o_step rfl (s_assign rfl) ?_
      refine o_nil ?_
      refine x_then (hK14 _ _ ?_)
      refine c_seqJ (ι := Int) (fun ly => ly = if t.op = 5 then ((m.length - 1 : Nat) : Int) else 0) (fun ly => [(6, .int .i64 ly)]) [(0, _), (3, _), (4, _), (5, _), (15, _), (16, _), (17, _), (18, _), (21, _), (22, _), (23, _), (24, _), (25, _), (26, _)] (fun ly => []) sbA ?_ ?_
      ·
       rintro ly hly
       refine c_seq fun _ hK16 => ?_
       refine c_seq fun _ hK17 => ?_
       refine c_region ?_
       refine o_step rfl (s_move rfl) ?_
       by_cases k1 : t.op < 1
       ·
        refine o_step rfl (step_cast (v' := .bool true) (s_lss rfl rfl) (by rw [decide_eq_true (by omega)])) ?_
        refine o_step rfl (s_move rfl) ?_
        refine o_no rfl rfl rfl rfl ?_
        refine o_no rfl rfl rfl rfl ?_
        refine o_step rfl (s_pick_t rfl rfl) ?_
        refine o_step rfl (s_move rfl) ?_
        refine o_no rfl rfl rfl rfl ?_
        refine o_no rfl rfl rfl rfl ?_
        refine o_no rfl rfl rfl rfl ?_
        refine o_noU rfl rfl rfl ?_
        refine o_noU rfl rfl rfl ?_
        refine o_noU rfl rfl rfl ?_
        refine o_noU rfl rfl rfl ?_
        refine o_noU rfl rfl rfl ?_
        refine o_noU rfl rfl rfl ?_
        refine o_noU rfl rfl rfl ?_
        refine o_no rfl rfl rfl rfl ?_
        refine o_step rfl (s_pick_t rfl rfl) ?_
        refine o_step rfl (s_move rfl) ?_
        refine o_no rfl rfl rfl rfl ?_
        refine o_no rfl rfl rfl rfl ?_
        refine o_no rfl rfl rfl rfl ?_
        refine o_no rfl rfl rfl rfl ?_
        refine o_no rfl rfl rfl rfl ?_
        refine o_no rfl rfl rfl rfl ?_
        refine o_step rfl (s_pick_t rfl rfl) ?_
        refine o_step rfl (s_move rfl) ?_
        refine o_no rfl rfl rfl rfl ?_
        refine o_no rfl rfl rfl rfl ?_
        refine o_no rfl rfl rfl rfl ?_
        refine o_no rfl rfl rfl rfl ?_
        refine o_no rfl rfl rfl rfl ?_
        refine o_no rfl rfl rfl rfl ?_
        refine o_no rfl rfl rfl rfl ?_
        refine o_step rfl (s_pick_t rfl rfl) ?_
        refine o_step rfl (s_move rfl) ?_
        refine o_no rfl rfl rfl rfl ?_
        refine o_no rfl rfl rfl rfl ?_
        refine o_no rfl rfl rfl rfl ?_
        refine o_no rfl rfl rfl rfl ?_
        refine o_no rfl rfl rfl rfl ?_
        refine o_no rfl rfl rfl rfl ?_
        refine o_step rfl (s_pick_t rfl rfl) ?_
        refine o_step rfl (s_move rfl) ?_
        refine o_no rfl rfl rfl rfl ?_
        refine o_no rfl rfl rfl rfl ?_
        refine o_no rfl rfl rfl rfl ?_
        refine o_no rfl rfl rfl rfl ?_
        refine o_no rfl rfl rfl rfl ?_
        refine o_no rfl rfl rfl rfl ?_
        refine o_no rfl rfl rfl rfl ?_
        refine o_step rfl (s_pick_t rfl rfl) ?_
        refine o_nil ?_
        refine x_then (hK17 _ _ ?_)
        refine c_true rfl ?_
        refine c_seq fun _ hK18 => ?_
        refine c_region ?_
        refine o_step rfl (s_assign rfl) ?_
        refine o_nil ?_
        refine x_then (hK18 _ _ ?_)
        refine c_ret ?_
        refine x_then_ret (x_block_ret (x_then_ret (x_then_ret (x_block_ret (x_then_ret (?_))))))
        exact x_ret rfl (.tmp rfl (.nil)) ((by first | exact (congrArg Value.bool (mok_in ht (fun h => by obtain ⟨_, _, _, _⟩ := (inOk_iff hlx hly).1 h; omega)).symm) | exact (congrArg Value.bool (mok_in ht (fun h => ((inOk_iff hlx hly).1 h).2.1.elim kn1 kset)).symm) | exact (congrArg Value.bool (mok_last ht (by omega) (by omega)).symm) | exact (congrArg Value.bool (hU.all (by omega) (by omega)).symm)))
       ·
        refine o_step rfl (step_cast (v' := .bool false) (s_lss rfl rfl) (by rw [decide_eq_false (by omega)])) ?_
        refine o_step rfl (s_move rfl) ?_
        refine o_yes rfl rfl ?_
        refine o_step rfl (s_move rfl) ?_
        refine o_yes rfl rfl ?_
        by_cases k6 : t.op > 6
        ·
         refine o_step rfl (step_cast (v' := .bool true) (s_gtr rfl rfl) (by rw [decide_eq_true (by omega)])) ?_
         refine o_step rfl (s_pick_f rfl rfl) ?_
         refine o_step rfl (s_move rfl) ?_
         refine o_no rfl rfl rfl rfl ?_
         refine o_no rfl rfl rfl rfl ?_
         refine o_no rfl rfl rfl rfl ?_
         refine o_noU rfl rfl rfl ?_
         refine o_noU rfl rfl rfl ?_
         refine o_noU rfl rfl rfl ?_
         refine o_noU rfl rfl rfl ?_
         refine o_noU rfl rfl rfl ?_
         refine o_noU rfl rfl rfl ?_
         refine o_noU rfl rfl rfl ?_
         refine o_no rfl rfl rfl rfl ?_
         refine o_step rfl (s_pick_t rfl rfl) ?_
         refine o_step rfl (s_move rfl) ?_
         refine o_no rfl rfl rfl rfl ?_
         refine o_no rfl rfl rfl rfl ?_
         refine o_no rfl rfl rfl rfl ?_
         refine o_no rfl rfl rfl rfl ?_
         refine o_no rfl rfl rfl rfl ?_
         refine o_no rfl rfl rfl rfl ?_
         refine o_step rfl (s_pick_t rfl rfl) ?_
         refine o_step rfl (s_move rfl) ?_
         refine o_no rfl rfl rfl rfl ?_
         refine o_no rfl rfl rfl rfl ?_
         refine o_no rfl rfl rfl rfl ?_
         refine o_no rfl rfl rfl rfl ?_
         refine o_no rfl rfl rfl rfl ?_
         refine o_no rfl rfl rfl rfl ?_
         refine o_no rfl rfl rfl rfl ?_
         refine o_step rfl (s_pick_t rfl rfl) ?_
         refine o_step rfl (s_move rfl) ?_
         refine o_no rfl rfl rfl rfl ?_
         refine o_no rfl rfl rfl rfl ?_
         refine o_no rfl rfl rfl rfl ?_
         refine o_no rfl rfl rfl rfl ?_
         refine o_no rfl rfl rfl rfl ?_
         refine o_no rfl rfl rfl rfl ?_
         refine o_step rfl (s_pick_t rfl rfl) ?_
         refine o_step rfl (s_move rfl) ?_
         refine o_no rfl rfl rfl rfl ?_
         refine o_no rfl rfl rfl rfl ?_
         refine o_no rfl rfl rfl rfl ?_
         refine o_no rfl rfl rfl rfl ?_
         refine o_no rfl rfl rfl rfl ?_
         refine o_no rfl rfl rfl rfl ?_
         refine o_no rfl rfl rfl rfl ?_
         refine o_step rfl (s_pick_t rfl rfl) ?_
         refine o_nil ?_
         refine x_then (hK17 _ _ ?_)
         refine c_true rfl ?_
         refine c_seq fun _ hK19 => ?_
         refine c_region ?_
         refine o_step rfl (s_assign rfl) ?_
         refine o_nil ?_
         refine x_then (hK19 _ _ ?_)
         refine c_ret ?_
         refine x_then_ret (x_block_ret (x_then_ret (x_then_ret (x_block_ret (x_then_ret (?_))))))
         exact x_ret rfl (.tmp rfl (.nil)) ((by first | exact (congrArg Value.bool (mok_in ht (fun h => by obtain ⟨_, _, _, _⟩ := (inOk_iff hlx hly).1 h; omega)).symm) | exact (congrArg Value.bool (mok_in ht (fun h => ((inOk_iff hlx hly).1 h).2.1.elim kn1 kset)).symm) | exact (congrArg Value.bool (mok_last ht (by omega) (by omega)).symm) | exact (congrArg Value.bool (hU.all (by omega) (by omega)).symm)))
        ·
         refine o_step rfl (step_cast (v' := .bool false) (s_gtr rfl rfl) (by rw [decide_eq_false (by omega)])) ?_
         refine o_step rfl (s_pick_f rfl rfl) ?_
         refine o_step rfl (s_move rfl) ?_
         refine o_yes rfl rfl ?_
         refine o_step rfl (s_move rfl) ?_
         refine o_yes rfl rfl ?_
         by_cases kn1 : t.op ≠ 1
         ·
          refine o_step rfl (step_cast (v' := .bool true) (s_neq rfl rfl) (by rw [decide_eq_true (by omega)])) ?_
          refine o_yes rfl rfl ?_
          refine o_step rfl (s_move rfl) ?_
          refine o_yes rfl rfl ?_
          refine o_step rfl (s_move rfl) ?_
          refine o_yes rfl rfl ?_
          refine o_step rfl (s_move rfl) ?_
          refine o_yes rfl rfl ?_
          refine o_step rfl (s_idx rfl rfl hsl (by omega)) ?_
          refine o_yes rfl rfl ?_
          refine o_step rfl (s_field rfl rfl (by decide)) ?_
          refine o_yes rfl rfl ?_
          refine o_step rfl (s_ldB rfl (cels_set (RdK.old0 hw) ht (by omega)) (Ec_lenM _)) ?_
          refine o_yes rfl rfl ?_
          refine o_step rfl (step_cast (v' := .agg (Ec 0#256).toArray) (s_build0 rfl) (by rw [Ec_zero]; rfl)) ?_
          refine o_yes rfl rfl ?_
          by_cases kset : t.set ≠ 0#256
          ·
           refine o_step rfl (step_cast (v' := .bool true) (s_neq_cl rfl rfl) (by rw [decide_eq_true kset])) ?_
           refine o_yes rfl rfl ?_
           refine o_step rfl (s_pick_t rfl rfl) ?_
           refine o_step rfl (s_pick_f rfl rfl) ?_
           refine o_step rfl (s_move rfl) ?_
           refine o_no rfl rfl rfl rfl ?_
           refine o_no rfl rfl rfl rfl ?_
           refine o_no rfl rfl rfl rfl ?_
           refine o_no rfl rfl rfl rfl ?_
           refine o_no rfl rfl rfl rfl ?_
           refine o_no rfl rfl rfl rfl ?_
           refine o_step rfl (s_pick_t rfl rfl) ?_
           refine o_step rfl (s_move rfl) ?_
           refine o_no rfl rfl rfl rfl ?_
           refine o_no rfl rfl rfl rfl ?_
           refine o_no rfl rfl rfl rfl ?_
           refine o_no rfl rfl rfl rfl ?_
           refine o_no rfl rfl rfl rfl ?_
           refine o_no rfl rfl rfl rfl ?_
           refine o_no rfl rfl rfl rfl ?_
           refine o_step rfl (s_pick_t rfl rfl) ?_
           refine o_step rfl (s_move rfl) ?_
           refine o_no rfl rfl rfl rfl ?_
           refine o_no rfl rfl rfl rfl ?_
           refine o_no rfl rfl rfl rfl ?_
           refine o_no rfl rfl rfl rfl ?_
           refine o_no rfl rfl rfl rfl ?_
           refine o_no rfl rfl rfl rfl ?_
           refine o_step rfl (s_pick_t rfl rfl) ?_
           refine o_step rfl (s_move rfl) ?_
           refine o_no rfl rfl rfl rfl ?_
           refine o_no rfl rfl rfl rfl ?_
           refine o_no rfl rfl rfl rfl ?_
           refine o_no rfl rfl rfl rfl ?_
           refine o_no rfl rfl rfl rfl ?_
           refine o_no rfl rfl rfl rfl ?_
           refine o_no rfl rfl rfl rfl ?_
           refine o_step rfl (s_pick_t rfl rfl) ?_
           refine o_nil ?_
           refine x_then (hK17 _ _ ?_)
           refine c_true rfl ?_
           refine c_seq fun _ hK20 => ?_
           refine c_region ?_
           refine o_step rfl (s_assign rfl) ?_
           refine o_nil ?_
           refine x_then (hK20 _ _ ?_)
           refine c_ret ?_
           refine x_then_ret (x_block_ret (x_then_ret (x_then_ret (x_block_ret (x_then_ret (?_))))))
           exact x_ret rfl (.tmp rfl (.nil)) ((by first | exact (congrArg Value.bool (mok_in ht (fun h => by obtain ⟨_, _, _, _⟩ := (inOk_iff hlx hly).1 h; omega)).symm) | exact (congrArg Value.bool (mok_in ht (fun h => ((inOk_iff hlx hly).1 h).2.1.elim kn1 kset)).symm) | exact (congrArg Value.bool (mok_last ht (by omega) (by omega)).symm) | exact (congrArg Value.bool (hU.all (by omega) (by omega)).symm)))
          ·
           have hset : t.op = 1 ∨ t.set = 0 := .inr (Decidable.not_not.1 kset)
           refine o_step rfl (step_cast (v' := .bool false) (s_neq_cl rfl rfl) (by rw [decide_eq_false kset])) ?_
           refine o_yes rfl rfl ?_
           refine o_step rfl (s_pick_t rfl rfl) ?_
           refine o_step rfl (s_pick_f rfl rfl) ?_
           refine o_step rfl (s_move rfl) ?_
           refine o_yes rfl rfl ?_
           refine o_step rfl (s_move rfl) ?_
           refine o_yes rfl rfl ?_
           refine o_step rfl (s_move rfl) ?_
           refine o_yes rfl rfl ?_
           refine o_step rfl (s_idx rfl rfl hsl (by omega)) ?_
           refine o_yes rfl rfl ?_
           refine o_step rfl (s_field rfl rfl (by decide)) ?_
           refine o_yes rfl rfl ?_
           refine o_step rfl (s_ld rfl ((RdK.old0 hw).ld q 5 ht rfl (by decide) (by omega))) ?_
           refine o_yes rfl rfl ?_
           by_cases kx0 : t.x < 0
           ·
            refine o_step rfl (step_cast (v' := .bool true) (s_lss rfl rfl) (by rw [decide_eq_true (by omega)])) ?_
            refine o_step rfl (s_pick_f rfl rfl) ?_
            refine o_step rfl (s_move rfl) ?_
            refine o_no rfl rfl rfl rfl ?_
            refine o_no rfl rfl rfl rfl ?_
            refine o_no rfl rfl rfl rfl ?_
            refine o_no rfl rfl rfl rfl ?_
            refine o_no rfl rfl rfl rfl ?_
            refine o_no rfl rfl rfl rfl ?_
            refine o_no rfl rfl rfl rfl ?_
            refine o_step rfl (s_pick_t rfl rfl) ?_
            refine o_step rfl (s_move rfl) ?_
            refine o_no rfl rfl rfl rfl ?_
            refine o_no rfl rfl rfl rfl ?_
            refine o_no rfl rfl rfl rfl ?_
            refine o_no rfl rfl rfl rfl ?_
            refine o_no rfl rfl rfl rfl ?_
            refine o_no rfl rfl rfl rfl ?_
            refine o_step rfl (s_pick_t rfl rfl) ?_
            refine o_step rfl (s_move rfl) ?_
            refine o_no rfl rfl rfl rfl ?_
            refine o_no rfl rfl rfl rfl ?_
            refine o_no rfl rfl rfl rfl ?_
            refine o_no rfl rfl rfl rfl ?_
            refine o_no rfl rfl rfl rfl ?_
            refine o_no rfl rfl rfl rfl ?_
            refine o_no rfl rfl rfl rfl ?_
            refine o_step rfl (s_pick_t rfl rfl) ?_
            refine o_nil ?_
            refine x_then (hK17 _ _ ?_)
            refine c_true rfl ?_
            refine c_seq fun _ hK21 => ?_
            refine c_region ?_
            refine o_step rfl (s_assign rfl) ?_
            refine o_nil ?_
            refine x_then (hK21 _ _ ?_)
            refine c_ret ?_
            refine x_then_ret (x_block_ret (x_then_ret (x_then_ret (x_block_ret (x_then_ret (?_))))))
            exact x_ret rfl (.tmp rfl (.nil)) ((by first | exact (congrArg Value.bool (mok_in ht (fun h => by obtain ⟨_, _, _, _⟩ := (inOk_iff hlx hly).1 h; omega)).symm) | exact (congrArg Value.bool (mok_in ht (fun h => ((inOk_iff hlx hly).1 h).2.1.elim kn1 kset)).symm) | exact (congrArg Value.bool (mok_last ht (by omega) (by omega)).symm) | exact (congrArg Value.bool (hU.all (by omega) (by omega)).symm)))
           ·
            refine o_step rfl (step_cast (v' := .bool false) (s_lss rfl rfl) (by rw [decide_eq_false (by omega)])) ?_
            refine o_step rfl (s_pick_f rfl rfl) ?_
            refine o_step rfl (s_move rfl) ?_
            refine o_yes rfl rfl ?_
            refine o_step rfl (s_move rfl) ?_
            refine o_yes rfl rfl ?_
            refine o_step rfl (s_move rfl) ?_
            refine o_yes rfl rfl ?_
            refine o_step rfl (s_idx rfl rfl hsl (by omega)) ?_
            refine o_yes rfl rfl ?_
            refine o_step rfl (s_field rfl rfl (by decide)) ?_
            refine o_yes rfl rfl ?_
            refine o_step rfl (s_ld rfl ((RdK.old0 hw).ld q 5 ht rfl (by decide) (by omega))) ?_
            refine o_yes rfl rfl ?_
            refine o_step rfl (s_move rfl) ?_
            refine o_yes rfl rfl ?_
            by_cases kx1 : t.x > lx
            ·
             refine o_step rfl (step_cast (v' := .bool true) (s_gtr rfl rfl) (by rw [decide_eq_true (by omega)])) ?_
             refine o_step rfl (s_pick_f rfl rfl) ?_
             refine o_step rfl (s_move rfl) ?_
             refine o_no rfl rfl rfl rfl ?_
             refine o_no rfl rfl rfl rfl ?_
             refine o_no rfl rfl rfl rfl ?_
             refine o_no rfl rfl rfl rfl ?_
             refine o_no rfl rfl rfl rfl ?_
             refine o_no rfl rfl rfl rfl ?_
             refine o_step rfl (s_pick_t rfl rfl) ?_
             refine o_step rfl (s_move rfl) ?_
             refine o_no rfl rfl rfl rfl ?_
             refine o_no rfl rfl rfl rfl ?_
             refine o_no rfl rfl rfl rfl ?_
             refine o_no rfl rfl rfl rfl ?_
             refine o_no rfl rfl rfl rfl ?_
             refine o_no rfl rfl rfl rfl ?_
             refine o_no rfl rfl rfl rfl ?_
             refine o_step rfl (s_pick_t rfl rfl) ?_
             refine o_nil ?_
             refine x_then (hK17 _ _ ?_)
             refine c_true rfl ?_
             refine c_seq fun _ hK22 => ?_
             refine c_region ?_
             refine o_step rfl (s_assign rfl) ?_
             refine o_nil ?_
             refine x_then (hK22 _ _ ?_)
             refine c_ret ?_
             refine x_then_ret (x_block_ret (x_then_ret (x_then_ret (x_block_ret (x_then_ret (?_))))))
             exact x_ret rfl (.tmp rfl (.nil)) ((by first | exact (congrArg Value.bool (mok_in ht (fun h => by obtain ⟨_, _, _, _⟩ := (inOk_iff hlx hly).1 h; omega)).symm) | exact (congrArg Value.bool (mok_in ht (fun h => ((inOk_iff hlx hly).1 h).2.1.elim kn1 kset)).symm) | exact (congrArg Value.bool (mok_last ht (by omega) (by omega)).symm) | exact (congrArg Value.bool (hU.all (by omega) (by omega)).symm)))
            ·
             refine o_step rfl (step_cast (v' := .bool false) (s_gtr rfl rfl) (by rw [decide_eq_false (by omega)])) ?_
             refine o_step rfl (s_pick_f rfl rfl) ?_
             refine o_step rfl (s_move rfl) ?_
             refine o_yes rfl rfl ?_
             refine o_step rfl (s_move rfl) ?_
             refine o_yes rfl rfl ?_
             refine o_step rfl (s_move rfl) ?_
             refine o_yes rfl rfl ?_
             refine o_step rfl (s_idx rfl rfl hsl (by omega)) ?_
             refine o_yes rfl rfl ?_
             refine o_step rfl (s_field rfl rfl (by decide)) ?_
             refine o_yes rfl rfl ?_
             refine o_step rfl (s_ld rfl ((RdK.old0 hw).ld q 6 ht rfl (by decide) (by omega))) ?_
             refine o_yes rfl rfl ?_
             by_cases ky0 : t.y < 0
             ·
              refine o_step rfl (step_cast (v' := .bool true) (s_lss rfl rfl) (by rw [decide_eq_true (by omega)])) ?_
              refine o_step rfl (s_pick_f rfl rfl) ?_
              refine o_step rfl (s_move rfl) ?_
              refine o_no rfl rfl rfl rfl ?_
              refine o_no rfl rfl rfl rfl ?_
              refine o_no rfl rfl rfl rfl ?_
              refine o_no rfl rfl rfl rfl ?_
              refine o_no rfl rfl rfl rfl ?_
              refine o_no rfl rfl rfl rfl ?_
              refine o_no rfl rfl rfl rfl ?_
              refine o_step rfl (s_pick_t rfl rfl) ?_
              refine o_nil ?_
              refine x_then (hK17 _ _ ?_)
              refine c_true rfl ?_
              refine c_seq fun _ hK23 => ?_
              refine c_region ?_
              refine o_step rfl (s_assign rfl) ?_
              refine o_nil ?_
              refine x_then (hK23 _ _ ?_)
              refine c_ret ?_
              refine x_then_ret (x_block_ret (x_then_ret (x_then_ret (x_block_ret (x_then_ret (?_))))))
              exact x_ret rfl (.tmp rfl (.nil)) ((by first | exact (congrArg Value.bool (mok_in ht (fun h => by obtain ⟨_, _, _, _⟩ := (inOk_iff hlx hly).1 h; omega)).symm) | exact (congrArg Value.bool (mok_in ht (fun h => ((inOk_iff hlx hly).1 h).2.1.elim kn1 kset)).symm) | exact (congrArg Value.bool (mok_last ht (by omega) (by omega)).symm) | exact (congrArg Value.bool (hU.all (by omega) (by omega)).symm)))
             ·
              refine o_step rfl (step_cast (v' := .bool false) (s_lss rfl rfl) (by rw [decide_eq_false (by omega)])) ?_
              refine o_step rfl (s_pick_f rfl rfl) ?_
              refine o_step rfl (s_move rfl) ?_
              refine o_yes rfl rfl ?_
              refine o_step rfl (s_move rfl) ?_
              refine o_yes rfl rfl ?_
              refine o_step rfl (s_move rfl) ?_
              refine o_yes rfl rfl ?_
              refine o_step rfl (s_idx rfl rfl hsl (by omega)) ?_
              refine o_yes rfl rfl ?_
              refine o_step rfl (s_field rfl rfl (by decide)) ?_
              refine o_yes rfl rfl ?_
              refine o_step rfl (s_ld rfl ((RdK.old0 hw).ld q 6 ht rfl (by decide) (by omega))) ?_
              refine o_yes rfl rfl ?_
              refine o_step rfl (s_move rfl) ?_
              refine o_yes rfl rfl ?_
              by_cases ky1 : t.y > ly
              ·
               refine o_step rfl (step_cast (v' := .bool true) (s_gtr rfl rfl) (by rw [decide_eq_true (by omega)])) ?_
               refine o_step rfl (s_pick_f rfl rfl) ?_
               refine o_nil ?_
               refine x_then (hK17 _ _ ?_)
               refine c_true rfl ?_
               refine c_seq fun _ hK24 => ?_
               refine c_region ?_
               refine o_step rfl (s_assign rfl) ?_
               refine o_nil ?_
               refine x_then (hK24 _ _ ?_)
               refine c_ret ?_
               refine x_then_ret (x_block_ret (x_then_ret (x_then_ret (x_block_ret (x_then_ret (?_))))))
               exact x_ret rfl (.tmp rfl (.nil)) ((by first | exact (congrArg Value.bool (mok_in ht (fun h => by obtain ⟨_, _, _, _⟩ := (inOk_iff hlx hly).1 h; omega)).symm) | exact (congrArg Value.bool (mok_in ht (fun h => ((inOk_iff hlx hly).1 h).2.1.elim kn1 kset)).symm) | exact (congrArg Value.bool (mok_last ht (by omega) (by omega)).symm) | exact (congrArg Value.bool (hU.all (by omega) (by omega)).symm)))
              ·
               refine o_step rfl (step_cast (v' := .bool false) (s_gtr rfl rfl) (by rw [decide_eq_false (by omega)])) ?_
               refine o_step rfl (s_pick_f rfl rfl) ?_
               refine o_nil ?_
               refine x_then (hK17 _ _ ?_)
               refine c_false rfl ?_
               refine c_skip ?_
               refine x_then (hK16 _ _ ?_)
               refine c_seq fun _ hK25 => ?_
               refine c_region ?_
               refine o_step rfl (s_move rfl) ?_
               by_cases k3 : t.op ≤ 3
               ·
                refine o_step rfl (step_cast (v' := .bool true) (s_leq rfl rfl) (by rw [decide_eq_true (by omega)])) ?_
                refine o_step rfl (s_move rfl) ?_
                refine o_yes rfl rfl ?_
                refine o_step rfl (s_move rfl) ?_
                refine o_yes rfl rfl ?_
                refine o_step rfl (s_move rfl) ?_
                refine o_yes rfl rfl ?_
                refine o_step rfl (s_len rfl) ?_
                refine o_yes rfl rfl ?_
                refine o_step rfl (s_sub rfl rfl (by omega)) ?_
                refine o_yes rfl rfl ?_
                by_cases kl : (q : Int) = m.length - 1
                ·
                 refine o_step rfl (step_cast (v' := .bool true) (s_eql rfl rfl) (by rw [decide_eq_true (by omega)])) ?_
                 refine o_step rfl (s_pick_t rfl rfl) ?_
                 refine o_nil ?_
                 refine x_then (hK25 _ _ ?_)
                 refine c_true rfl ?_
                 refine c_seq fun _ hK26 => ?_
                 refine c_region ?_
                 refine o_step rfl (s_assign rfl) ?_
                 refine o_nil ?_
                 refine x_then (hK26 _ _ ?_)
                 refine c_ret ?_
                 refine x_block_ret (x_then_ret (x_then_ret (x_block_ret (x_then_ret (?_)))))
                 exact x_ret rfl (.tmp rfl (.nil)) ((by first | exact (congrArg Value.bool (mok_in ht (fun h => by obtain ⟨_, _, _, _⟩ := (inOk_iff hlx hly).1 h; omega)).symm) | exact (congrArg Value.bool (mok_in ht (fun h => ((inOk_iff hlx hly).1 h).2.1.elim kn1 kset)).symm) | exact (congrArg Value.bool (mok_last ht (by omega) (by omega)).symm) | exact (congrArg Value.bool (hU.all (by omega) (by omega)).symm)))
                ·
                 refine o_step rfl (step_cast (v' := .bool false) (s_eql rfl rfl) (by rw [decide_eq_false (by omega)])) ?_
                 refine o_step rfl (s_pick_t rfl rfl) ?_
                 refine o_nil ?_
                 refine x_then (hK25 _ _ ?_)
                 refine c_false rfl ?_
                 refine c_skip ?_
                 refine x_block ?_
                 refine x_then (hK10 _ _ ?_)
                 refine c_region ?_
                 refine o_step rfl (s_move rfl) ?_
                 refine o_step rfl (s_add rfl rfl (by omega)) ?_
                 refine o_step rfl (s_assign rfl) ?_
                 refine o_nil ?_
                 exact x_then (x_inv (q + 1) ⟨by omega, hU.step ht ((inOk_iff hlx hly).2 ⟨by omega, hset, by omega, by omega⟩) (fun _ => by omega)⟩ (by first | omega | (dsimp only; omega)) sbA hzB)
               ·
                refine o_step rfl (step_cast (v' := .bool false) (s_leq rfl rfl) (by rw [decide_eq_false (by omega)])) ?_
                refine o_step rfl (s_move rfl) ?_
                refine o_no rfl rfl rfl rfl ?_
                refine o_no rfl rfl rfl rfl ?_
                refine o_no rfl rfl rfl rfl ?_
                refine o_no rfl rfl rfl rfl ?_
                refine o_no rfl rfl rfl rfl ?_
                refine o_step rfl (s_pick_f rfl rfl) ?_
                refine o_nil ?_
                refine x_then (hK25 _ _ ?_)
                refine c_false rfl ?_
                refine c_skip ?_
                refine x_block ?_
                refine x_then (hK10 _ _ ?_)
                refine c_region ?_
                refine o_step rfl (s_move rfl) ?_
                refine o_step rfl (s_add rfl rfl (by omega)) ?_
                refine o_step rfl (s_assign rfl) ?_
                refine o_nil ?_
                exact x_then (x_inv (q + 1) ⟨by omega, hU.step ht ((inOk_iff hlx hly).2 ⟨by omega, hset, by omega, by omega⟩) (fun _ => by omega)⟩ (by first | omega | (dsimp only; omega)) sbA hzB)
         ·
          have hset : t.op = 1 ∨ t.set = 0 := .inl (by omega)
          refine o_step rfl (step_cast (v' := .bool false) (s_neq rfl rfl) (by rw [decide_eq_false (by omega)])) ?_
          refine o_yes rfl rfl ?_
          refine o_step rfl (s_move rfl) ?_
          refine o_no rfl rfl rfl rfl ?_
          refine o_no rfl rfl rfl rfl ?_
          refine o_no rfl rfl rfl rfl ?_
          refine o_no rfl rfl rfl rfl ?_
          refine o_no rfl rfl rfl rfl ?_
          refine o_no rfl rfl rfl rfl ?_
          refine o_no rfl rfl rfl rfl ?_
          refine o_yes rfl rfl ?_
          refine o_step rfl (s_pick_f rfl rfl) ?_
          refine o_step rfl (s_pick_f rfl rfl) ?_
          refine o_step rfl (s_move rfl) ?_
          refine o_yes rfl rfl ?_
          refine o_step rfl (s_move rfl) ?_
          refine o_yes rfl rfl ?_
          refine o_step rfl (s_move rfl) ?_
          refine o_yes rfl rfl ?_
          refine o_step rfl (s_idx rfl rfl hsl (by omega)) ?_
          refine o_yes rfl rfl ?_
          refine o_step rfl (s_field rfl rfl (by decide)) ?_
          refine o_yes rfl rfl ?_
          refine o_step rfl (s_ld rfl ((RdK.old0 hw).ld q 5 ht rfl (by decide) (by omega))) ?_
          refine o_yes rfl rfl ?_
          by_cases kx0 : t.x < 0
          ·
           refine o_step rfl (step_cast (v' := .bool true) (s_lss rfl rfl) (by rw [decide_eq_true (by omega)])) ?_
           refine o_step rfl (s_pick_f rfl rfl) ?_
           refine o_step rfl (s_move rfl) ?_
           refine o_no rfl rfl rfl rfl ?_
           refine o_no rfl rfl rfl rfl ?_
           refine o_no rfl rfl rfl rfl ?_
           refine o_no rfl rfl rfl rfl ?_
           refine o_no rfl rfl rfl rfl ?_
           refine o_no rfl rfl rfl rfl ?_
           refine o_no rfl rfl rfl rfl ?_
           refine o_step rfl (s_pick_t rfl rfl) ?_
           refine o_step rfl (s_move rfl) ?_
           refine o_no rfl rfl rfl rfl ?_
           refine o_no rfl rfl rfl rfl ?_
           refine o_no rfl rfl rfl rfl ?_
           refine o_no rfl rfl rfl rfl ?_
           refine o_no rfl rfl rfl rfl ?_
           refine o_no rfl rfl rfl rfl ?_
           refine o_step rfl (s_pick_t rfl rfl) ?_
           refine o_step rfl (s_move rfl) ?_
           refine o_no rfl rfl rfl rfl ?_
           refine o_no rfl rfl rfl rfl ?_
           refine o_no rfl rfl rfl rfl ?_
           refine o_no rfl rfl rfl rfl ?_
           refine o_no rfl rfl rfl rfl ?_
           refine o_no rfl rfl rfl rfl ?_
           refine o_no rfl rfl rfl rfl ?_
           refine o_step rfl (s_pick_t rfl rfl) ?_
           refine o_nil ?_
           refine x_then (hK17 _ _ ?_)
           refine c_true rfl ?_
           refine c_seq fun _ hK27 => ?_
           refine c_region ?_
           refine o_step rfl (s_assign rfl) ?_
           refine o_nil ?_
           refine x_then (hK27 _ _ ?_)
           refine c_ret ?_
           refine x_then_ret (x_block_ret (x_then_ret (x_then_ret (x_block_ret (x_then_ret (?_))))))
           exact x_ret rfl (.tmp rfl (.nil)) ((by first | exact (congrArg Value.bool (mok_in ht (fun h => by obtain ⟨_, _, _, _⟩ := (inOk_iff hlx hly).1 h; omega)).symm) | exact (congrArg Value.bool (mok_in ht (fun h => ((inOk_iff hlx hly).1 h).2.1.elim kn1 kset)).symm) | exact (congrArg Value.bool (mok_last ht (by omega) (by omega)).symm) | exact (congrArg Value.bool (hU.all (by omega) (by omega)).symm)))
          ·
           refine o_step rfl (step_cast (v' := .bool false) (s_lss rfl rfl) (by rw [decide_eq_false (by omega)])) ?_
           refine o_step rfl (s_pick_f rfl rfl) ?_
           refine o_step rfl (s_move rfl) ?_
           refine o_yes rfl rfl ?_
           refine o_step rfl (s_move rfl) ?_
           refine o_yes rfl rfl ?_
           refine o_step rfl (s_move rfl) ?_
           refine o_yes rfl rfl ?_
           refine o_step rfl (s_idx rfl rfl hsl (by omega)) ?_
           refine o_yes rfl rfl ?_
           refine o_step rfl (s_field rfl rfl (by decide)) ?_
           refine o_yes rfl rfl ?_
           refine o_step rfl (s_ld rfl ((RdK.old0 hw).ld q 5 ht rfl (by decide) (by omega))) ?_
           refine o_yes rfl rfl ?_
           refine o_step rfl (s_move rfl) ?_
           refine o_yes rfl rfl ?_
           by_cases kx1 : t.x > lx
           ·
            refine o_step rfl (step_cast (v' := .bool true) (s_gtr rfl rfl) (by rw [decide_eq_true (by omega)])) ?_
            refine o_step rfl (s_pick_f rfl rfl) ?_
            refine o_step rfl (s_move rfl) ?_
            refine o_no rfl rfl rfl rfl ?_
            refine o_no rfl rfl rfl rfl ?_
            refine o_no rfl rfl rfl rfl ?_
            refine o_no rfl rfl rfl rfl ?_
            refine o_no rfl rfl rfl rfl ?_
            refine o_no rfl rfl rfl rfl ?_
            refine o_step rfl (s_pick_t rfl rfl) ?_
            refine o_step rfl (s_move rfl) ?_
            refine o_no rfl rfl rfl rfl ?_
            refine o_no rfl rfl rfl rfl ?_
            refine o_no rfl rfl rfl rfl ?_
            refine o_no rfl rfl rfl rfl ?_
            refine o_no rfl rfl rfl rfl ?_
            refine o_no rfl rfl rfl rfl ?_
            refine o_no rfl rfl rfl rfl ?_
            refine o_step rfl (s_pick_t rfl rfl) ?_
            refine o_nil ?_
            refine x_then (hK17 _ _ ?_)
            refine c_true rfl ?_
            refine c_seq fun _ hK28 => ?_
            refine c_region ?_
            refine o_step rfl (s_assign rfl) ?_
            refine o_nil ?_
            refine x_then (hK28 _ _ ?_)
            refine c_ret ?_
            refine x_then_ret (x_block_ret (x_then_ret (x_then_ret (x_block_ret (x_then_ret (?_))))))
            exact x_ret rfl (.tmp rfl (.nil)) ((by first | exact (congrArg Value.bool (mok_in ht (fun h => by obtain ⟨_, _, _, _⟩ := (inOk_iff hlx hly).1 h; omega)).symm) | exact (congrArg Value.bool (mok_in ht (fun h => ((inOk_iff hlx hly).1 h).2.1.elim kn1 kset)).symm) | exact (congrArg Value.bool (mok_last ht (by omega) (by omega)).symm) | exact (congrArg Value.bool (hU.all (by omega) (by omega)).symm)))
           ·
            refine o_step rfl (step_cast (v' := .bool false) (s_gtr rfl rfl) (by rw [decide_eq_false (by omega)])) ?_
            refine o_step rfl (s_pick_f rfl rfl) ?_
            refine o_step rfl (s_move rfl) ?_
            refine o_yes rfl rfl ?_
            refine o_step rfl (s_move rfl) ?_
            refine o_yes rfl rfl ?_
            refine o_step rfl (s_move rfl) ?_
            refine o_yes rfl rfl ?_
            refine o_step rfl (s_idx rfl rfl hsl (by omega)) ?_
            refine o_yes rfl rfl ?_
            refine o_step rfl (s_field rfl rfl (by decide)) ?_
            refine o_yes rfl rfl ?_
            refine o_step rfl (s_ld rfl ((RdK.old0 hw).ld q 6 ht rfl (by decide) (by omega))) ?_
            refine o_yes rfl rfl ?_
            by_cases ky0 : t.y < 0
            ·
             refine o_step rfl (step_cast (v' := .bool true) (s_lss rfl rfl) (by rw [decide_eq_true (by omega)])) ?_
             refine o_step rfl (s_pick_f rfl rfl) ?_
             refine o_step rfl (s_move rfl) ?_
             refine o_no rfl rfl rfl rfl ?_
             refine o_no rfl rfl rfl rfl ?_
             refine o_no rfl rfl rfl rfl ?_
             refine o_no rfl rfl rfl rfl ?_
             refine o_no rfl rfl rfl rfl ?_
             refine o_no rfl rfl rfl rfl ?_
             refine o_no rfl rfl rfl rfl ?_
             refine o_step rfl (s_pick_t rfl rfl) ?_
             refine o_nil ?_
             refine x_then (hK17 _ _ ?_)
             refine c_true rfl ?_
             refine c_seq fun _ hK29 => ?_
             refine c_region ?_
             refine o_step rfl (s_assign rfl) ?_
             refine o_nil ?_
             refine x_then (hK29 _ _ ?_)
             refine c_ret ?_
             refine x_then_ret (x_block_ret (x_then_ret (x_then_ret (x_block_ret (x_then_ret (?_))))))
             exact x_ret rfl (.tmp rfl (.nil)) ((by first | exact (congrArg Value.bool (mok_in ht (fun h => by obtain ⟨_, _, _, _⟩ := (inOk_iff hlx hly).1 h; omega)).symm) | exact (congrArg Value.bool (mok_in ht (fun h => ((inOk_iff hlx hly).1 h).2.1.elim kn1 kset)).symm) | exact (congrArg Value.bool (mok_last ht (by omega) (by omega)).symm) | exact (congrArg Value.bool (hU.all (by omega) (by omega)).symm)))
            ·
             refine o_step rfl (step_cast (v' := .bool false) (s_lss rfl rfl) (by rw [decide_eq_false (by omega)])) ?_
             refine o_step rfl (s_pick_f rfl rfl) ?_
             refine o_step rfl (s_move rfl) ?_
             refine o_yes rfl rfl ?_
             refine o_step rfl (s_move rfl) ?_
             refine o_yes rfl rfl ?_
             refine o_step rfl (s_move rfl) ?_
             refine o_yes rfl rfl ?_
             refine o_step rfl (s_idx rfl rfl hsl (by omega)) ?_
             refine o_yes rfl rfl ?_
             refine o_step rfl (s_field rfl rfl (by decide)) ?_
             refine o_yes rfl rfl ?_
             refine o_step rfl (s_ld rfl ((RdK.old0 hw).ld q 6 ht rfl (by decide) (by omega))) ?_
             refine o_yes rfl rfl ?_
             refine o_step rfl (s_move rfl) ?_
             refine o_yes rfl rfl ?_
             by_cases ky1 : t.y > ly
             ·
              refine o_step rfl (step_cast (v' := .bool true) (s_gtr rfl rfl) (by rw [decide_eq_true (by omega)])) ?_
              refine o_step rfl (s_pick_f rfl rfl) ?_
              refine o_nil ?_
              refine x_then (hK17 _ _ ?_)
              refine c_true rfl ?_
              refine c_seq fun _ hK30 => ?_
              refine c_region ?_
              refine o_step rfl (s_assign rfl) ?_
              refine o_nil ?_
              refine x_then (hK30 _ _ ?_)
              refine c_ret ?_
              refine x_then_ret (x_block_ret (x_then_ret (x_then_ret (x_block_ret (x_then_ret (?_))))))
              exact x_ret rfl (.tmp rfl (.nil)) ((by first | exact (congrArg Value.bool (mok_in ht (fun h => by obtain ⟨_, _, _, _⟩ := (inOk_iff hlx hly).1 h; omega)).symm) | exact (congrArg Value.bool (mok_in ht (fun h => ((inOk_iff hlx hly).1 h).2.1.elim kn1 kset)).symm) | exact (congrArg Value.bool (mok_last ht (by omega) (by omega)).symm) | exact (congrArg Value.bool (hU.all (by omega) (by omega)).symm)))
             ·
              refine o_step rfl (step_cast (v' := .bool false) (s_gtr rfl rfl) (by rw [decide_eq_false (by omega)])) ?_
              refine o_step rfl (s_pick_f rfl rfl) ?_
              refine o_nil ?_
              refine x_then (hK17 _ _ ?_)
              refine c_false rfl ?_
              refine c_skip ?_
              refine x_then (hK16 _ _ ?_)
              refine c_seq fun _ hK31 => ?_
              refine c_region ?_
              refine o_step rfl (s_move rfl) ?_
              by_cases k3 : t.op ≤ 3
              ·
               refine o_step rfl (step_cast (v' := .bool true) (s_leq rfl rfl) (by rw [decide_eq_true (by omega)])) ?_
               refine o_step rfl (s_move rfl) ?_
               refine o_yes rfl rfl ?_
               refine o_step rfl (s_move rfl) ?_
               refine o_yes rfl rfl ?_
               refine o_step rfl (s_move rfl) ?_
               refine o_yes rfl rfl ?_
               refine o_step rfl (s_len rfl) ?_
               refine o_yes rfl rfl ?_
               refine o_step rfl (s_sub rfl rfl (by omega)) ?_
               refine o_yes rfl rfl ?_
               by_cases kl : (q : Int) = m.length - 1
               ·
                refine o_step rfl (step_cast (v' := .bool true) (s_eql rfl rfl) (by rw [decide_eq_true (by omega)])) ?_
                refine o_step rfl (s_pick_t rfl rfl) ?_
                refine o_nil ?_
                refine x_then (hK31 _ _ ?_)
                refine c_true rfl ?_
                refine c_seq fun _ hK32 => ?_
                refine c_region ?_
                refine o_step rfl (s_assign rfl) ?_
                refine o_nil ?_
                refine x_then (hK32 _ _ ?_)
                refine c_ret ?_
                refine x_block_ret (x_then_ret (x_then_ret (x_block_ret (x_then_ret (?_)))))
                exact x_ret rfl (.tmp rfl (.nil)) ((by first | exact (congrArg Value.bool (mok_in ht (fun h => by obtain ⟨_, _, _, _⟩ := (inOk_iff hlx hly).1 h; omega)).symm) | exact (congrArg Value.bool (mok_in ht (fun h => ((inOk_iff hlx hly).1 h).2.1.elim kn1 kset)).symm) | exact (congrArg Value.bool (mok_last ht (by omega) (by omega)).symm) | exact (congrArg Value.bool (hU.all (by omega) (by omega)).symm)))
               ·
                refine o_step rfl (step_cast (v' := .bool false) (s_eql rfl rfl) (by rw [decide_eq_false (by omega)])) ?_
                refine o_step rfl (s_pick_t rfl rfl) ?_
                refine o_nil ?_
                refine x_then (hK31 _ _ ?_)
                refine c_false rfl ?_
                refine c_skip ?_
                refine x_block ?_
                refine x_then (hK10 _ _ ?_)
                refine c_region ?_
                refine o_step rfl (s_move rfl) ?_
                refine o_step rfl (s_add rfl rfl (by omega)) ?_
                refine o_step rfl (s_assign rfl) ?_
                refine o_nil ?_
                exact x_then (x_inv (q + 1) ⟨by omega, hU.step ht ((inOk_iff hlx hly).2 ⟨by omega, hset, by omega, by omega⟩) (fun _ => by omega)⟩ (by first | omega | (dsimp only; omega)) sbA hzB)
              ·
               refine o_step rfl (step_cast (v' := .bool false) (s_leq rfl rfl) (by rw [decide_eq_false (by omega)])) ?_
               refine o_step rfl (s_move rfl) ?_
               refine o_no rfl rfl rfl rfl ?_
               refine o_no rfl rfl rfl rfl ?_
               refine o_no rfl rfl rfl rfl ?_
               refine o_no rfl rfl rfl rfl ?_
               refine o_no rfl rfl rfl rfl ?_
               refine o_step rfl (s_pick_f rfl rfl) ?_
               refine o_nil ?_
               refine x_then (hK31 _ _ ?_)
               refine c_false rfl ?_
               refine c_skip ?_
               refine x_block ?_
               refine x_then (hK10 _ _ ?_)
               refine c_region ?_
               refine o_step rfl (s_move rfl) ?_
               refine o_step rfl (s_add rfl rfl (by omega)) ?_
               refine o_step rfl (s_assign rfl) ?_
               refine o_nil ?_
               exact x_then (x_inv (q + 1) ⟨by omega, hU.step ht ((inOk_iff hlx hly).2 ⟨by omega, hset, by omega, by omega⟩) (fun _ => by omega)⟩ (by first | omega | (dsimp only; omega)) sbA hzB)
      ·
       intro _ hJ15
       refine c_seq fun _ hK33 => ?_
       refine c_region ?_
       refine o_step rfl (s_move rfl) ?_
       by_cases k5 : t.op = 5
       ·
        refine o_step rfl (step_cast (v' := .bool true) (s_eql rfl rfl) (by rw [decide_eq_true (by omega)])) ?_
        refine o_nil ?_
        refine x_then (hK33 _ _ ?_)
        refine c_true rfl ?_
        refine c_region ?_
        refine o_step rfl (s_move rfl) ?_
        refine o_step rfl (s_len rfl) ?_
        refine o_step rfl (s_sub rfl rfl (by omega)) ?_
        refine o_step rfl (s_assign rfl) ?_
        refine o_nil ?_
        exact x_then (hJ15 ((m.length : Int) - 1) _ _ (by rw [if_pos (by omega)]; omega) sbA sbA hzB)
       ·
        refine o_step rfl (step_cast (v' := .bool false) (s_eql rfl rfl) (by rw [decide_eq_false (by omega)])) ?_
        refine o_nil ?_
        refine x_then (hK33 _ _ ?_)
        refine c_false rfl ?_
        refine c_skip ?_
        exact x_then (hJ15 0 _ _ (by rw [if_neg (by omega)]) sbA sbA hzB)
     ·
      intro _ hJ13
      refine c_seq fun _ hK34 => ?_
      refine c_region ?_
      refine o_step rfl (s_move rfl) ?_
      by_cases h4 : t.op = 4
      ·
       refine o_step rfl (step_cast (v' := .bool true) (s_eql rfl rfl) (by rw [decide_eq_true (by omega)])) ?_
       refine o_step rfl (s_move rfl) ?_
       refine o_no rfl rfl rfl rfl ?_
       refine o_no rfl rfl rfl rfl ?_
       refine o_step rfl (s_pick_t rfl rfl) ?_
       refine o_nil ?_
       refine x_then (hK34 _ _ ?_)
       refine c_true rfl ?_
       refine c_region ?_
       refine o_step rfl (s_move rfl) ?_
       refine o_step rfl (s_len rfl) ?_
       refine o_step rfl (s_sub rfl rfl (by omega)) ?_
       refine o_step rfl (s_assign rfl) ?_
       refine o_nil ?_
       exact x_then (hJ13 ((m.length : Int) - 1) _ _ (by rw [if_pos (by omega)]; omega) sbA sbA hzB)
      ·
       refine o_step rfl (step_cast (v' := .bool false) (s_eql rfl rfl) (by rw [decide_eq_false (by omega)])) ?_
       refine o_step rfl (s_move rfl) ?_
       refine o_yes rfl rfl ?_
       refine o_step rfl (s_move rfl) ?_
       refine o_yes rfl rfl ?_
       by_cases h5 : t.op = 5
       ·
        refine o_step rfl (step_cast (v' := .bool true) (s_eql rfl rfl) (by rw [decide_eq_true (by omega)])) ?_
        refine o_step rfl (s_pick_f rfl rfl) ?_
        refine o_nil ?_
        refine x_then (hK34 _ _ ?_)
        refine c_true rfl ?_
        refine c_region ?_
        refine o_step rfl (s_move rfl) ?_
        refine o_step rfl (s_len rfl) ?_
        refine o_step rfl (s_sub rfl rfl (by omega)) ?_
        refine o_step rfl (s_assign rfl) ?_
        refine o_nil ?_
        exact x_then (hJ13 ((m.length : Int) - 1) _ _ (by rw [if_pos (by omega)]; omega) sbA sbA hzB)
       ·
        refine o_step rfl (step_cast (v' := .bool false) (s_eql rfl rfl) (by rw [decide_eq_false (by omega)])) ?_
        refine o_step rfl (s_pick_f rfl rfl) ?_
        refine o_nil ?_
        refine x_then (hK34 _ _ ?_)
        refine c_false rfl ?_
        refine c_skip ?_
        exact x_then (hJ13 0 _ _ (by rw [if_neg (by omega)]) sbA sbA hzB)
    ·
     obtain rfl : q = m.length := by omega
     refine o_step rfl (step_cast (v' := .bool false) (s_lss rfl rfl) (by rw [decide_eq_false (by omega)])) ?_
     refine o_nil ?_
     refine x_then (hK9 _ _ ?_)
     refine c_false rfl ?_
     refine c_exit ?_
     refine x_then_exit ?_
     refine x_then_exit ?_
     refine x_block_exit ?_
     refine x_then (hK6 _ _ ?_)
     refine c_seq fun _ hK35 => ?_
     refine c_region ?_
     refine o_step rfl (s_assign rfl) ?_
     refine o_nil ?_
     refine x_then (hK35 _ _ ?_)
     refine c_ret ?_
     refine ?_
     exact x_ret rfl (.tmp rfl (.nil)) ((by first | exact (congrArg Value.bool (mok_in ht (fun h => by obtain ⟨_, _, _, _⟩ := (inOk_iff hlx hly).1 h; omega)).symm) | exact (congrArg Value.bool (mok_in ht (fun h => ((inOk_iff hlx hly).1 h).2.1.elim kn1 kset)).symm) | exact (congrArg Value.bool (mok_last ht (by omega) (by omega)).symm) | exact (congrArg Value.bool (hU.all (by omega) (by omega)).symm)))
end Go.Proofs.Ytihbhlgognpmmaa

/- Where runs lead at a place: the search. Conditions: none. -/
namespace Go.HL.Kl.Mc
open Go Go.HL Go.HL.Kl
/-- where one step without a byte leads -/
def succs (t : In) (n p i : Nat) : List Nat :=
  if t.op = 2 then (if p = 0 then [i + 1] else []) else if t.op = 3 then (if p = n then [i + 1] else [])
  else if t.op = 4 then [t.x.toNat] else if t.op = 5 then [t.x.toNat, t.y.toNat] else []
theorem eps_succs {m : List In} {n p i j : Nat} {t : In} (hm : MOk m) (ht : m[i]? = some t) : Eps m n p i j ↔ j ∈ succs t n p i := by
  have hb := (hm.2.2 i t ht).1.bnd
  unfold Eps succs
  constructor
  · rintro ⟨u, hu, h⟩
    rw [ht] at hu; cases hu
    rcases h with ⟨ho, h1, h2⟩ | ⟨ho, h1, h2⟩ | ⟨ho, h1⟩ | ⟨ho, h1 | h1⟩
    · rw [if_pos ho, if_pos h1, h2]; simp
    · rw [if_neg (by omega), if_pos ho, if_pos h1, h2]; simp
    · rw [if_neg (by omega), if_neg (by omega), if_pos ho, h1]; simp
    · rw [if_neg (by omega), if_neg (by omega), if_neg (by omega), if_pos ho, h1]; simp
    · rw [if_neg (by omega), if_neg (by omega), if_neg (by omega), if_pos ho, h1]; simp
  · intro h
    refine ⟨t, ht, ?_⟩
    split at h
    · split at h
      · simp at h; exact .inl ⟨‹_›, ‹_›, h⟩
      · cases h
    split at h
    · split at h
      · simp at h; exact .inr (.inl ⟨‹_›, ‹_›, h⟩)
      · cases h
    split at h
    · simp at h; exact .inr (.inr (.inl ⟨‹_›, by omega⟩))
    split at h
    · simp at h
      rcases h with h | h
      · exact .inr (.inr (.inr ⟨‹_›, .inl (by omega)⟩))
      · exact .inr (.inr (.inr ⟨‹_›, .inr (by omega)⟩))
    · cases h
/-- the search so far -/
structure Srch (m : List In) (n p from_ : Nat) (s0 sn : List Bool) (todo : List Nat) : Prop where
  len : sn.length = m.length
  a : ∀ i : Nat, s0[i]? = some true → sn[i]? = some true
  b : ∀ i : Nat, sn[i]? = some true → s0[i]? = some true ∨ EpsS m n p from_ i
  c : ∀ t ∈ todo, EpsS m n p from_ t ∧ t < m.length
  d : ∀ i j : Nat, sn[i]? = some true → Eps m n p i j → sn[j]? = some true ∨ j ∈ todo
  e : sn[from_]? = some true ∨ from_ ∈ todo
theorem Srch.start {m : List In} {n p f : Nat} {s0 : List Bool} (hl : s0.length = m.length) (hf : f < m.length) (hc : ∀ i j : Nat, s0[i]? = some true → Eps m n p i j → s0[j]? = some true) : Srch m n p f s0 s0 [f] :=
  ⟨hl, fun _ h => h, fun _ h => .inl h, fun t h => by obtain rfl := List.mem_singleton.1 h; exact ⟨.refl, hf⟩, fun i j h1 h2 => .inl (hc i j h1 h2), .inr (by simp)⟩
theorem Srch.pop {m : List In} {n p f : Nat} {s0 sn : List Bool} {todo : List Nat} {t : Nat} (h : Srch m n p f s0 sn (todo ++ [t])) (ht : sn[t]? = some true) : Srch m n p f s0 sn todo := by
  refine ⟨h.len, h.a, h.b, fun u hu => h.c u (List.mem_append_left _ hu), fun i j h1 h2 => ?_, ?_⟩
  · rcases h.d i j h1 h2 with h3 | h3
    · exact .inl h3
    · rcases List.mem_append.1 h3 with h3 | h3
      · exact .inr h3
      · obtain rfl := List.mem_singleton.1 h3; exact .inl ht
  · rcases h.e with h3 | h3
    · exact .inl h3
    · rcases List.mem_append.1 h3 with h3 | h3
      · exact .inr h3
      · obtain rfl := List.mem_singleton.1 h3; exact .inl ht
theorem Srch.go {m : List In} {n p f : Nat} {s0 sn : List Bool} {todo : List Nat} {t : Nat} {u : In} (hm : MOk m) (h : Srch m n p f s0 sn (todo ++ [t])) (hu : m[t]? = some u) : Srch m n p f s0 (sn.set t true) (todo ++ succs u n p t) := by
  have htl : t < sn.length := by rw [h.len]; exact (List.getElem?_eq_some_iff.1 hu).1
  have ht := (h.c t (by simp)).1
  have key : ∀ i : Nat, (sn.set t true)[i]? = some true ↔ i = t ∨ sn[i]? = some true := by
    intro i
    by_cases e : t = i
    · subst e; rw [List.getElem?_set_self htl]; simp
    · rw [List.getElem?_set_ne e]; constructor
      · exact .inr
      · rintro (e' | h'); exact absurd e'.symm e; exact h'
  refine ⟨by rw [List.length_set]; exact h.len, fun i hi => (key i).2 (.inr (h.a i hi)), fun i hi => ?_, fun w hw => ?_, fun i j hi hij => ?_, ?_⟩
  · rcases (key i).1 hi with rfl | hi
    · exact .inr ht
    · exact h.b i hi
  · rcases List.mem_append.1 hw with hw | hw
    · exact h.c w (List.mem_append_left _ hw)
    · have := (eps_succs (n := n) (p := p) hm hu).2 hw
      exact ⟨ht.tail this, hm.lt this⟩
  · rcases (key i).1 hi with rfl | hi
    · exact .inr (List.mem_append_right _ ((eps_succs hm hu).1 hij))
    · rcases h.d i j hi hij with h3 | h3
      · exact .inl ((key j).2 (.inr h3))
      · rcases List.mem_append.1 h3 with h3 | h3
        · exact .inr (List.mem_append_left _ h3)
        · obtain rfl := List.mem_singleton.1 h3; exact .inl ((key j).2 (.inl rfl))
  · rcases h.e with h3 | h3
    · exact .inl ((key _).2 (.inr h3))
    · rcases List.mem_append.1 h3 with h3 | h3
      · exact .inr (List.mem_append_left _ h3)
      · have := List.mem_singleton.1 h3; exact .inl ((key _).2 (.inl this))
theorem Srch.done {m : List In} {n p f : Nat} {s0 sn : List Bool} (h : Srch m n p f s0 sn []) : (∀ i : Nat, sn[i]? = some true ↔ s0[i]? = some true ∨ EpsS m n p f i) ∧ ∀ i j : Nat, sn[i]? = some true → Eps m n p i j → sn[j]? = some true := by
  have hcl : ∀ i j : Nat, sn[i]? = some true → Eps m n p i j → sn[j]? = some true := fun i j h1 h2 => (h.d i j h1 h2).resolve_right (by simp)
  have hall : ∀ i j : Nat, EpsS m n p i j → sn[i]? = some true → sn[j]? = some true := by
    intro i j he
    induction he with
    | refl => exact id
    | head e _ ih => exact fun hi => ih (hcl _ _ hi e)
  exact ⟨fun i => ⟨h.b i, fun hi => hi.elim (h.a i) fun he => hall _ _ he (h.e.resolve_right (by simp))⟩, hcl⟩
theorem last_split {l : List Nat} (h : 0 < l.length) : ∃ tl t, l = tl ++ [t] := ⟨l.dropLast, l.getLast (List.ne_nil_of_length_pos h), (List.dropLast_concat_getLast _).symm⟩
/-- how many are not yet seen -/
def unseen (l : List Bool) : Nat := l.countP (!·)
theorem unseen_set : ∀ (l : List Bool) (t : Nat), l[t]? = some false → unseen (l.set t true) + 1 = unseen l
  | [], t, h => by simp at h
  | b :: l, 0, h => by
    simp at h; subst h
    simp [unseen, List.countP_cons]
  | b :: l, t + 1, h => by
    have := unseen_set l t (by simpa using h)
    simp only [unseen, List.set_cons_succ, List.countP_cons] at this ⊢
    omega
theorem unseen_le (l : List Bool) : unseen l ≤ l.length := List.countP_le_length
theorem succs_len (t : In) (n p i : Nat) : (succs t n p i).length ≤ 2 := by
  unfold succs
  repeat' split
  all_goals simp
end Go.HL.Kl.Mc
