/- Part of the proofs over this seat: see the text that holds the theorem. Conditions: each theorem bears its own. -/
import Derived.Test.YtihbhlgognpmmaaDoorDW9Z
import Derived.Test.YtihbhlgognpmmaaDoorMT9Z
namespace Go.Proofs.YtihbhlgognpmmaaDoor
open Go Go.HL Go.Proofs Go.HL.Kl Go.HL.Kl.Mc
set_option maxHeartbeats 2000000 in
theorem rMShaped_fn (ra : Option Addr) (rc : Nat) (m : List In) (hmr : ∀ t ∈ m, -128 ≤ t.op ∧ t.op < 128) : HL.Fn Tryd.prog 14 [.slice ra m.length rc] (fun w => Rd Ein w (.slice ra m.length rc) m) [] (fun v _ => v = .bool (mokB m)) := by
  refine fn_of Tryd.func14 rfl rfl rfl fun w0 hw => ?_
  have hsl := hw.sl
  have hbl := hsl.le
  refine c_seq fun _ hK1 => ?_
  refine c_region ?_
  refine o_step rfl (s_assign rfl) ?_
  refine o_nil ?_
  refine x_then (hK1 _ _ ?_)
  refine c_seq fun _ hK2 => ?_
  refine c_seq fun _ hK3 => ?_
  refine c_region ?_
  refine o_step rfl (s_move rfl) ?_
  refine o_step rfl (s_len rfl) ?_
  by_cases hl1 : m.length < 1
  ·
   refine o_step rfl (step_cast (v' := .bool true) (s_lss rfl rfl) (by rw [decide_eq_true (by omega)])) ?_
   refine o_step rfl (s_move rfl) ?_
   refine o_no rfl rfl rfl rfl ?_
   refine o_no rfl rfl rfl rfl ?_
   refine o_no rfl rfl rfl rfl ?_
   refine o_step rfl (s_pick_t rfl rfl) ?_
   refine o_nil ?_
   refine x_then (hK3 _ _ ?_)
   refine c_true rfl ?_
   refine c_seq fun _ hK4 => ?_
   refine c_region ?_
   refine o_step rfl (s_assign rfl) ?_
   refine o_nil ?_
   refine x_then (hK4 _ _ ?_)
   refine c_ret ?_
   refine x_then_ret (?_)
   exact x_ret rfl (.tmp rfl (.nil)) ((congrArg Value.bool (mok_len (by omega)).symm))
  ·
   refine o_step rfl (step_cast (v' := .bool false) (s_lss rfl rfl) (by rw [decide_eq_false (by omega)])) ?_
   refine o_step rfl (s_move rfl) ?_
   refine o_yes rfl rfl ?_
   refine o_step rfl (s_move rfl) ?_
   refine o_yes rfl rfl ?_
   refine o_step rfl (s_len rfl) ?_
   refine o_yes rfl rfl ?_
   by_cases hl2 : (m.length : Int) > 65540
   ·
    refine o_step rfl (step_cast (v' := .bool true) (s_gtr rfl rfl) (by rw [decide_eq_true (by omega)])) ?_
    refine o_step rfl (s_pick_f rfl rfl) ?_
    refine o_nil ?_
    refine x_then (hK3 _ _ ?_)
    refine c_true rfl ?_
    refine c_seq fun _ hK5 => ?_
    refine c_region ?_
    refine o_step rfl (s_assign rfl) ?_
    refine o_nil ?_
    refine x_then (hK5 _ _ ?_)
    refine c_ret ?_
    refine x_then_ret (?_)
    exact x_ret rfl (.tmp rfl (.nil)) ((congrArg Value.bool (mok_len (by omega)).symm))
   ·
    refine o_step rfl (step_cast (v' := .bool false) (s_gtr rfl rfl) (by rw [decide_eq_false (by omega)])) ?_
    refine o_step rfl (s_pick_f rfl rfl) ?_
    refine o_nil ?_
    refine x_then (hK3 _ _ ?_)
    refine c_false rfl ?_
    refine c_skip ?_
    refine x_then (hK2 _ _ ?_)
    refine c_seq fun _ hK6 => ?_
    refine c_seq fun _ hK7 => ?_
    refine c_region ?_
    refine o_step rfl (s_assign rfl) ?_
    refine o_nil ?_
    refine x_then (hK7 _ _ ?_)
    refine c_block ?_
    -- not carried: 2
    refine c_loopB (fun (q : Nat) => q ≤ m.length ∧ MUp m q) (fun (q : Nat) => [(3, .int .i64 q)]) [(0, _)] (fun (q : Nat) => []) (fun (q : Nat) => m.length - q) 0 ⟨by omega, .zero⟩ sbA sbA hzB ?_
    rintro q ⟨hq, hU⟩
    refine c_seq fun _ hK8 => ?_
    refine c_seq fun _ hK9 => ?_
    refine c_region ?_
    refine o_step rfl (s_move rfl) ?_
    refine o_step rfl (s_move rfl) ?_
    refine o_step rfl (s_len rfl) ?_
    by_cases hql : q < m.length
    ·
     obtain ⟨t, ht⟩ : ∃ t, m[q]? = some t := ⟨_, List.getElem?_eq_getElem hql⟩
     have hop := hmr t (List.mem_of_getElem? ht)
     refine o_step rfl (step_cast (v' := .bool true) (s_lss rfl rfl) (by rw [decide_eq_true (by omega)])) ?_
     refine o_nil ?_
     refine x_then (hK9 _ _ ?_)
     refine c_true rfl ?_
     refine c_skip ?_
     refine x_then (hK8 _ _ ?_)
     refine c_seq fun _ hK10 => ?_
     refine c_block ?_
     refine c_seq fun _ hK11 => ?_
     refine c_region ?_
     refine o_step rfl (s_move rfl) ?_
     refine o_step rfl (s_move rfl) ?_
     refine o_step rfl (s_idx rfl rfl hsl (by omega)) ?_
     refine o_step rfl (s_field rfl rfl (by decide)) ?_
     refine o_step rfl (s_ld rfl ((RdK.old0 hw).ld q 0 ht rfl (by decide) (by omega))) ?_
     refine o_step rfl (s_convI rfl (by omega)) ?_
     refine o_step rfl (s_assign rfl) ?_
     refine o_nil ?_
     refine x_then (hK11 _ _ ?_)
     refine c_seq fun _ hK12 => ?_
     refine c_region ?_
     refine o_step rfl (s_assign rfl) ?_
     refine o_nil ?_
     refine x_then (hK12 _ _ ?_)
     refine c_seqJ (ι := Int) (fun lx => lx = if t.op = 4 ∨ t.op = 5 then ((m.length - 1 : Nat) : Int) else 0) (fun lx => [(5, .int .i64 lx)]) [(0, _), (3, _), (4, _), (15, _), (16, _), (17, _), (18, _), (21, _), (22, _), (23, _), (24, _), (25, _), (26, _)] (fun lx => []) sbA ?_ ?_
     ·
      rintro lx hlx
      refine c_seq fun _ hK14 => ?_
      refine c_region ?_
      refine o_step rfl (s_assign rfl) ?_
      refine o_nil ?_
      refine x_then (hK14 _ _ ?_)
      refine c_seqJ (ι := Int) (fun ly => ly = if t.op = 5 then ((m.length - 1 : Nat) : Int) else 0) (fun ly => [(6, .int .i64 ly)]) [(0, _), (3, _), (4, _), (5, _), (15, _), (16, _), (17, _), (18, _), (21, _), (22, _), (23, _), (24, _), (25, _), (26, _)] (fun ly => []) sbA ?_ ?_
      ·
       rintro ly hly
       refine c_seq fun _ hK16 => ?_
       refine c_seq fun _ hK17 => ?_
       refine c_region ?_
       refine o_step rfl (s_move rfl) ?_
       by_cases k1 : t.op < 1
       ·
        refine o_step rfl (step_cast (v' := .bool true) (s_lss rfl rfl) (by rw [decide_eq_true (by omega)])) ?_
        refine o_step rfl (s_move rfl) ?_
        refine o_no rfl rfl rfl rfl ?_
        refine o_no rfl rfl rfl rfl ?_
        refine o_step rfl (s_pick_t rfl rfl) ?_
        refine o_step rfl (s_move rfl) ?_
        refine o_no rfl rfl rfl rfl ?_
        refine o_no rfl rfl rfl rfl ?_
        refine o_no rfl rfl rfl rfl ?_
        refine o_noU rfl rfl rfl ?_
        refine o_noU rfl rfl rfl ?_
        refine o_noU rfl rfl rfl ?_
        refine o_noU rfl rfl rfl ?_
        refine o_noU rfl rfl rfl ?_
        refine o_noU rfl rfl rfl ?_
        refine o_noU rfl rfl rfl ?_
        refine o_no rfl rfl rfl rfl ?_
        refine o_step rfl (s_pick_t rfl rfl) ?_
        refine o_step rfl (s_move rfl) ?_
        refine o_no rfl rfl rfl rfl ?_
        refine o_no rfl rfl rfl rfl ?_
        refine o_no rfl rfl rfl rfl ?_
        refine o_no rfl rfl rfl rfl ?_
        refine o_no rfl rfl rfl rfl ?_
        refine o_no rfl rfl rfl rfl ?_
        refine o_step rfl (s_pick_t rfl rfl) ?_
        refine o_step rfl (s_move rfl) ?_
        refine o_no rfl rfl rfl rfl ?_
        refine o_no rfl rfl rfl rfl ?_
        refine o_no rfl rfl rfl rfl ?_
        refine o_no rfl rfl rfl rfl ?_
        refine o_no rfl rfl rfl rfl ?_
        refine o_no rfl rfl rfl rfl ?_
        refine o_no rfl rfl rfl rfl ?_
        refine o_step rfl (s_pick_t rfl rfl) ?_
        refine o_step rfl (s_move rfl) ?_
        refine o_no rfl rfl rfl rfl ?_
        refine o_no rfl rfl rfl rfl ?_
        refine o_no rfl rfl rfl rfl ?_
        refine o_no rfl rfl rfl rfl ?_
        refine o_no rfl rfl rfl rfl ?_
        refine o_no rfl rfl rfl rfl ?_
        refine o_step rfl (s_pick_t rfl rfl) ?_
        refine o_step rfl (s_move rfl) ?_
        refine o_no rfl rfl rfl rfl ?_
        refine o_no rfl rfl rfl rfl ?_
        refine o_no rfl rfl rfl rfl ?_
        refine o_no rfl rfl rfl rfl ?_
        refine o_no rfl rfl rfl rfl ?_
        refine o_no rfl rfl rfl rfl ?_
        refine o_no rfl rfl rfl rfl ?_
        refine o_step rfl (s_pick_t rfl rfl) ?_
        refine o_nil ?_
        refine x_then (hK17 _ _ ?_)
        refine c_true rfl ?_
        refine c_seq fun _ hK18 => ?_
        refine c_region ?_
        refine o_step rfl (s_assign rfl) ?_
        refine o_nil ?_
        refine x_then (hK18 _ _ ?_)
        refine c_ret ?_
        refine x_then_ret (x_block_ret (x_then_ret (x_then_ret (x_block_ret (x_then_ret (?_))))))
        exact x_ret rfl (.tmp rfl (.nil)) ((by first | exact (congrArg Value.bool (mok_in ht (fun h => by obtain ⟨_, _, _, _⟩ := (inOk_iff hlx hly).1 h; omega)).symm) | exact (congrArg Value.bool (mok_in ht (fun h => ((inOk_iff hlx hly).1 h).2.1.elim kn1 kset)).symm) | exact (congrArg Value.bool (mok_last ht (by omega) (by omega)).symm) | exact (congrArg Value.bool (hU.all (by omega) (by omega)).symm)))
       ·
        refine o_step rfl (step_cast (v' := .bool false) (s_lss rfl rfl) (by rw [decide_eq_false (by omega)])) ?_
        refine o_step rfl (s_move rfl) ?_
        refine o_yes rfl rfl ?_
        refine o_step rfl (s_move rfl) ?_
        refine o_yes rfl rfl ?_
        by_cases k6 : t.op > 6
        ·
         refine o_step rfl (step_cast (v' := .bool true) (s_gtr rfl rfl) (by rw [decide_eq_true (by omega)])) ?_
         refine o_step rfl (s_pick_f rfl rfl) ?_
         refine o_step rfl (s_move rfl) ?_
         refine o_no rfl rfl rfl rfl ?_
         refine o_no rfl rfl rfl rfl ?_
         refine o_no rfl rfl rfl rfl ?_
         refine o_noU rfl rfl rfl ?_
         refine o_noU rfl rfl rfl ?_
         refine o_noU rfl rfl rfl ?_
         refine o_noU rfl rfl rfl ?_
         refine o_noU rfl rfl rfl ?_
         refine o_noU rfl rfl rfl ?_
         refine o_noU rfl rfl rfl ?_
         refine o_no rfl rfl rfl rfl ?_
         refine o_step rfl (s_pick_t rfl rfl) ?_
         refine o_step rfl (s_move rfl) ?_
         refine o_no rfl rfl rfl rfl ?_
         refine o_no rfl rfl rfl rfl ?_
         refine o_no rfl rfl rfl rfl ?_
         refine o_no rfl rfl rfl rfl ?_
         refine o_no rfl rfl rfl rfl ?_
         refine o_no rfl rfl rfl rfl ?_
         refine o_step rfl (s_pick_t rfl rfl) ?_
         refine o_step rfl (s_move rfl) ?_
         refine o_no rfl rfl rfl rfl ?_
         refine o_no rfl rfl rfl rfl ?_
         refine o_no rfl rfl rfl rfl ?_
         refine o_no rfl rfl rfl rfl ?_
         refine o_no rfl rfl rfl rfl ?_
         refine o_no rfl rfl rfl rfl ?_
         refine o_no rfl rfl rfl rfl ?_
         refine o_step rfl (s_pick_t rfl rfl) ?_
         refine o_step rfl (s_move rfl) ?_
         refine o_no rfl rfl rfl rfl ?_
         refine o_no rfl rfl rfl rfl ?_
         refine o_no rfl rfl rfl rfl ?_
         refine o_no rfl rfl rfl rfl ?_
         refine o_no rfl rfl rfl rfl ?_
         refine o_no rfl rfl rfl rfl ?_
         refine o_step rfl (s_pick_t rfl rfl) ?_
         refine o_step rfl (s_move rfl) ?_
         refine o_no rfl rfl rfl rfl ?_
         refine o_no rfl rfl rfl rfl ?_
         refine o_no rfl rfl rfl rfl ?_
         refine o_no rfl rfl rfl rfl ?_
         refine o_no rfl rfl rfl rfl ?_
         refine o_no rfl rfl rfl rfl ?_
         refine o_no rfl rfl rfl rfl ?_
         refine o_step rfl (s_pick_t rfl rfl) ?_
         refine o_nil ?_
         refine x_then (hK17 _ _ ?_)
         refine c_true rfl ?_
         refine c_seq fun _ hK19 => ?_
         refine c_region ?_
         refine o_step rfl (s_assign rfl) ?_
         refine o_nil ?_
         refine x_then (hK19 _ _ ?_)
         refine c_ret ?_
         refine x_then_ret (x_block_ret (x_then_ret (x_then_ret (x_block_ret (x_then_ret (?_))))))
         exact x_ret rfl (.tmp rfl (.nil)) ((by first | exact (congrArg Value.bool (mok_in ht (fun h => by obtain ⟨_, _, _, _⟩ := (inOk_iff hlx hly).1 h; omega)).symm) | exact (congrArg Value.bool (mok_in ht (fun h => ((inOk_iff hlx hly).1 h).2.1.elim kn1 kset)).symm) | exact (congrArg Value.bool (mok_last ht (by omega) (by omega)).symm) | exact (congrArg Value.bool (hU.all (by omega) (by omega)).symm)))
        ·
         refine o_step rfl (step_cast (v' := .bool false) (s_gtr rfl rfl) (by rw [decide_eq_false (by omega)])) ?_
         refine o_step rfl (s_pick_f rfl rfl) ?_
         refine o_step rfl (s_move rfl) ?_
         refine o_yes rfl rfl ?_
         refine o_step rfl (s_move rfl) ?_
         refine o_yes rfl rfl ?_
         by_cases kn1 : t.op ≠ 1
         ·
          refine o_step rfl (step_cast (v' := .bool true) (s_neq rfl rfl) (by rw [decide_eq_true (by omega)])) ?_
          refine o_yes rfl rfl ?_
          refine o_step rfl (s_move rfl) ?_
          refine o_yes rfl rfl ?_
          refine o_step rfl (s_move rfl) ?_
          refine o_yes rfl rfl ?_
          refine o_step rfl (s_move rfl) ?_
          refine o_yes rfl rfl ?_
          refine o_step rfl (s_idx rfl rfl hsl (by omega)) ?_
          refine o_yes rfl rfl ?_
          refine o_step rfl (s_field rfl rfl (by decide)) ?_
          refine o_yes rfl rfl ?_
          refine o_step rfl (s_ldB rfl (cels_set (RdK.old0 hw) ht (by omega)) (Ec_lenM _)) ?_
          refine o_yes rfl rfl ?_
          refine o_step rfl (step_cast (v' := .agg (Ec 0#256).toArray) (s_build0 rfl) (by rw [Ec_zero]; rfl)) ?_
          refine o_yes rfl rfl ?_
          by_cases kset : t.set ≠ 0#256
          ·
           refine o_step rfl (step_cast (v' := .bool true) (s_neq_cl rfl rfl) (by rw [decide_eq_true kset])) ?_
           refine o_yes rfl rfl ?_
           refine o_step rfl (s_pick_t rfl rfl) ?_
           refine o_step rfl (s_pick_f rfl rfl) ?_
           refine o_step rfl (s_move rfl) ?_
           refine o_no rfl rfl rfl rfl ?_
           refine o_no rfl rfl rfl rfl ?_
           refine o_no rfl rfl rfl rfl ?_
           refine o_no rfl rfl rfl rfl ?_
           refine o_no rfl rfl rfl rfl ?_
           refine o_no rfl rfl rfl rfl ?_
           refine o_step rfl (s_pick_t rfl rfl) ?_
           refine o_step rfl (s_move rfl) ?_
           refine o_no rfl rfl rfl rfl ?_
           refine o_no rfl rfl rfl rfl ?_
           refine o_no rfl rfl rfl rfl ?_
           refine o_no rfl rfl rfl rfl ?_
           refine o_no rfl rfl rfl rfl ?_
           refine o_no rfl rfl rfl rfl ?_
           refine o_no rfl rfl rfl rfl ?_
           refine o_step rfl (s_pick_t rfl rfl) ?_
           refine o_step rfl (s_move rfl) ?_
           refine o_no rfl rfl rfl rfl ?_
           refine o_no rfl rfl rfl rfl ?_
           refine o_no rfl rfl rfl rfl ?_
           refine o_no rfl rfl rfl rfl ?_
           refine o_no rfl rfl rfl rfl ?_
           refine o_no rfl rfl rfl rfl ?_
           refine o_step rfl (s_pick_t rfl rfl) ?_
           refine o_step rfl (s_move rfl) ?_
           refine o_no rfl rfl rfl rfl ?_
           refine o_no rfl rfl rfl rfl ?_
           refine o_no rfl rfl rfl rfl ?_
           refine o_no rfl rfl rfl rfl ?_
           refine o_no rfl rfl rfl rfl ?_
           refine o_no rfl rfl rfl rfl ?_
           refine o_no rfl rfl rfl rfl ?_
           refine o_step rfl (s_pick_t rfl rfl) ?_
           refine o_nil ?_
           refine x_then (hK17 _ _ ?_)
           refine c_true rfl ?_
           refine c_seq fun _ hK20 => ?_
           refine c_region ?_
           refine o_step rfl (s_assign rfl) ?_
           refine o_nil ?_
           refine x_then (hK20 _ _ ?_)
           refine c_ret ?_
           refine x_then_ret (x_block_ret (x_then_ret (x_then_ret (x_block_ret (x_then_ret (?_))))))
           exact x_ret rfl (.tmp rfl (.nil)) ((by first | exact (congrArg Value.bool (mok_in ht (fun h => by obtain ⟨_, _, _, _⟩ := (inOk_iff hlx hly).1 h; omega)).symm) | exact (congrArg Value.bool (mok_in ht (fun h => ((inOk_iff hlx hly).1 h).2.1.elim kn1 kset)).symm) | exact (congrArg Value.bool (mok_last ht (by omega) (by omega)).symm) | exact (congrArg Value.bool (hU.all (by omega) (by omega)).symm)))
          ·
           have hset : t.op = 1 ∨ t.set = 0 := .inr (Decidable.not_not.1 kset)
           refine o_step rfl (step_cast (v' := .bool false) (s_neq_cl rfl rfl) (by rw [decide_eq_false kset])) ?_
           refine o_yes rfl rfl ?_
           refine o_step rfl (s_pick_t rfl rfl) ?_
           refine o_step rfl (s_pick_f rfl rfl) ?_
           refine o_step rfl (s_move rfl) ?_
           refine o_yes rfl rfl ?_
           refine o_step rfl (s_move rfl) ?_
           refine o_yes rfl rfl ?_
           refine o_step rfl (s_move rfl) ?_
           refine o_yes rfl rfl ?_
           refine o_step rfl (s_idx rfl rfl hsl (by omega)) ?_
           refine o_yes rfl rfl ?_
           refine o_step rfl (s_field rfl rfl (by decide)) ?_
           refine o_yes rfl rfl ?_
           refine o_step rfl (s_ld rfl ((RdK.old0 hw).ld q 5 ht rfl (by decide) (by omega))) ?_
           refine o_yes rfl rfl ?_
           by_cases kx0 : t.x < 0
           ·
            refine o_step rfl (step_cast (v' := .bool true) (s_lss rfl rfl) (by rw [decide_eq_true (by omega)])) ?_
            refine o_step rfl (s_pick_f rfl rfl) ?_
            refine o_step rfl (s_move rfl) ?_
            refine o_no rfl rfl rfl rfl ?_
            refine o_no rfl rfl rfl rfl ?_
            refine o_no rfl rfl rfl rfl ?_
            refine o_no rfl rfl rfl rfl ?_
            refine o_no rfl rfl rfl rfl ?_
            refine o_no rfl rfl rfl rfl ?_
            refine o_no rfl rfl rfl rfl ?_
            refine o_step rfl (s_pick_t rfl rfl) ?_
            refine o_step rfl (s_move rfl) ?_
            refine o_no rfl rfl rfl rfl ?_
            refine o_no rfl rfl rfl rfl ?_
            refine o_no rfl rfl rfl rfl ?_
            refine o_no rfl rfl rfl rfl ?_
            refine o_no rfl rfl rfl rfl ?_
            refine o_no rfl rfl rfl rfl ?_
            refine o_step rfl (s_pick_t rfl rfl) ?_
            refine o_step rfl (s_move rfl) ?_
            refine o_no rfl rfl rfl rfl ?_
            refine o_no rfl rfl rfl rfl ?_
            refine o_no rfl rfl rfl rfl ?_
            refine o_no rfl rfl rfl rfl ?_
            refine o_no rfl rfl rfl rfl ?_
            refine o_no rfl rfl rfl rfl ?_
            refine o_no rfl rfl rfl rfl ?_
            refine o_step rfl (s_pick_t rfl rfl) ?_
            refine o_nil ?_
            refine x_then (hK17 _ _ ?_)
            refine c_true rfl ?_
            refine c_seq fun _ hK21 => ?_
            refine c_region ?_
            refine o_step rfl (s_assign rfl) ?_
            refine o_nil ?_
            refine x_then (hK21 _ _ ?_)
            refine c_ret ?_
            refine x_then_ret (x_block_ret (x_then_ret (x_then_ret (x_block_ret (x_then_ret (?_))))))
            exact x_ret rfl (.tmp rfl (.nil)) ((by first | exact (congrArg Value.bool (mok_in ht (fun h => by obtain ⟨_, _, _, _⟩ := (inOk_iff hlx hly).1 h; omega)).symm) | exact (congrArg Value.bool (mok_in ht (fun h => ((inOk_iff hlx hly).1 h).2.1.elim kn1 kset)).symm) | exact (congrArg Value.bool (mok_last ht (by omega) (by omega)).symm) | exact (congrArg Value.bool (hU.all (by omega) (by omega)).symm)))
           ·
            refine o_step rfl (step_cast (v' := .bool false) (s_lss rfl rfl) (by rw [decide_eq_false (by omega)])) ?_
            refine o_step rfl (s_pick_f rfl rfl) ?_
            refine o_step rfl (s_move rfl) ?_
            refine o_yes rfl rfl ?_
            refine o_step rfl (s_move rfl) ?_
            refine o_yes rfl rfl ?_
            refine o_step rfl (s_move rfl) ?_
            refine o_yes rfl rfl ?_
            refine o_step rfl (s_idx rfl rfl hsl (by omega)) ?_
            refine o_yes rfl rfl ?_
            refine o_step rfl (s_field rfl rfl (by decide)) ?_
            refine o_yes rfl rfl ?_
            refine o_step rfl (s_ld rfl ((RdK.old0 hw).ld q 5 ht rfl (by decide) (by omega))) ?_
            refine o_yes rfl rfl ?_
            refine o_step rfl (s_move rfl) ?_
            refine o_yes rfl rfl ?_
            by_cases kx1 : t.x > lx
            ·
             refine o_step rfl (step_cast (v' := .bool true) (s_gtr rfl rfl) (by rw [decide_eq_true (by omega)])) ?_
             refine o_step rfl (s_pick_f rfl rfl) ?_
             refine o_step rfl (s_move rfl) ?_
             refine o_no rfl rfl rfl rfl ?_
             refine o_no rfl rfl rfl rfl ?_
             refine o_no rfl rfl rfl rfl ?_
             refine o_no rfl rfl rfl rfl ?_
             refine o_no rfl rfl rfl rfl ?_
             refine o_no rfl rfl rfl rfl ?_
             refine o_step rfl (s_pick_t rfl rfl) ?_
             refine o_step rfl (s_move rfl) ?_
             refine o_no rfl rfl rfl rfl ?_
             refine o_no rfl rfl rfl rfl ?_
             refine o_no rfl rfl rfl rfl ?_
             refine o_no rfl rfl rfl rfl ?_
             refine o_no rfl rfl rfl rfl ?_
             refine o_no rfl rfl rfl rfl ?_
             refine o_no rfl rfl rfl rfl ?_
             refine o_step rfl (s_pick_t rfl rfl) ?_
             refine o_nil ?_
             refine x_then (hK17 _ _ ?_)
             refine c_true rfl ?_
             refine c_seq fun _ hK22 => ?_
             refine c_region ?_
             refine o_step rfl (s_assign rfl) ?_
             refine o_nil ?_
             refine x_then (hK22 _ _ ?_)
             refine c_ret ?_
             refine x_then_ret (x_block_ret (x_then_ret (x_then_ret (x_block_ret (x_then_ret (?_))))))
             exact x_ret rfl (.tmp rfl (.nil)) ((by first | exact (congrArg Value.bool (mok_in ht (fun h => by obtain ⟨_, _, _, _⟩ := (inOk_iff hlx hly).1 h; omega)).symm) | exact (congrArg Value.bool (mok_in ht (fun h => ((inOk_iff hlx hly).1 h).2.1.elim kn1 kset)).symm) | exact (congrArg Value.bool (mok_last ht (by omega) (by omega)).symm) | exact (congrArg Value.bool (hU.all (by omega) (by omega)).symm)))
            ·
             refine o_step rfl (step_cast (v' := .bool false) (s_gtr rfl rfl) (by rw [decide_eq_false (by omega)])) ?_
             refine o_step rfl (s_pick_f rfl rfl) ?_
             refine o_step rfl (s_move rfl) ?_
             refine o_yes rfl rfl ?_
             refine o_step rfl (s_move rfl) ?_
             refine o_yes rfl rfl ?_
             refine o_step rfl (s_move rfl) ?_
             refine o_yes rfl rfl ?_
             refine o_step rfl (s_idx rfl rfl hsl (by omega)) ?_
             refine o_yes rfl rfl ?_
             refine o_step rfl (s_field rfl rfl (by decide)) ?_
             refine o_yes rfl rfl ?_
             refine o_step rfl (s_ld rfl ((RdK.old0 hw).ld q 6 ht rfl (by decide) (by omega))) ?_
             refine o_yes rfl rfl ?_
             by_cases ky0 : t.y < 0
             ·
              refine o_step rfl (step_cast (v' := .bool true) (s_lss rfl rfl) (by rw [decide_eq_true (by omega)])) ?_
              refine o_step rfl (s_pick_f rfl rfl) ?_
              refine o_step rfl (s_move rfl) ?_
              refine o_no rfl rfl rfl rfl ?_
              refine o_no rfl rfl rfl rfl ?_
              refine o_no rfl rfl rfl rfl ?_
              refine o_no rfl rfl rfl rfl ?_
              refine o_no rfl rfl rfl rfl ?_
              refine o_no rfl rfl rfl rfl ?_
              refine o_no rfl rfl rfl rfl ?_
              refine o_step rfl (s_pick_t rfl rfl) ?_
              refine o_nil ?_
              refine x_then (hK17 _ _ ?_)
              refine c_true rfl ?_
              refine c_seq fun _ hK23 => ?_
              refine c_region ?_
              refine o_step rfl (s_assign rfl) ?_
              refine o_nil ?_
              refine x_then (hK23 _ _ ?_)
              refine c_ret ?_
              refine x_then_ret (x_block_ret (x_then_ret (x_then_ret (x_block_ret (x_then_ret (?_))))))
              exact x_ret rfl (.tmp rfl (.nil)) ((by first | exact (congrArg Value.bool (mok_in ht (fun h => by obtain ⟨_, _, _, _⟩ := (inOk_iff hlx hly).1 h; omega)).symm) | exact (congrArg Value.bool (mok_in ht (fun h => ((inOk_iff hlx hly).1 h).2.1.elim kn1 kset)).symm) | exact (congrArg Value.bool (mok_last ht (by omega) (by omega)).symm) | exact (congrArg Value.bool (hU.all (by omega) (by omega)).symm)))
             ·
              refine o_step rfl (step_cast (v' := .bool false) (s_lss rfl rfl) (by rw [decide_eq_false (by omega)])) ?_
              refine o_step rfl (s_pick_f rfl rfl) ?_
              refine o_step rfl (s_move rfl) ?_
              refine o_yes rfl rfl ?_
              refine o_step rfl (s_move rfl) ?_
              refine o_yes rfl rfl ?_
              refine o_step rfl (s_move rfl) ?_
              refine o_yes rfl rfl ?_
              refine o_step rfl (s_idx rfl rfl hsl (by omega)) ?_
              refine o_yes rfl rfl ?_
              refine o_step rfl (s_field rfl rfl (by decide)) ?_
              refine o_yes rfl rfl ?_
              refine o_step rfl (s_ld rfl ((RdK.old0 hw).ld q 6 ht rfl (by decide) (by omega))) ?_
              refine o_yes rfl rfl ?_
              refine o_step rfl (s_move rfl) ?_
              refine o_yes rfl rfl ?_
              by_cases ky1 : t.y > ly
              ·
               refine o_step rfl (step_cast (v' := .bool true) (s_gtr rfl rfl) (by rw [decide_eq_true (by omega)])) ?_
               refine o_step rfl (s_pick_f rfl rfl) ?_
               refine o_nil ?_
               refine x_then (hK17 _ _ ?_)
               refine c_true rfl ?_
               refine c_seq fun _ hK24 => ?_
               refine c_region ?_
               refine o_step rfl (s_assign rfl) ?_
               refine o_nil ?_
               refine x_then (hK24 _ _ ?_)
               refine c_ret ?_
               refine x_then_ret (x_block_ret (x_then_ret (x_then_ret (x_block_ret (x_then_ret (?_))))))
               exact x_ret rfl (.tmp rfl (.nil)) ((by first | exact (congrArg Value.bool (mok_in ht (fun h => by obtain ⟨_, _, _, _⟩ := (inOk_iff hlx hly).1 h; omega)).symm) | exact (congrArg Value.bool (mok_in ht (fun h => ((inOk_iff hlx hly).1 h).2.1.elim kn1 kset)).symm) | exact (congrArg Value.bool (mok_last ht (by omega) (by omega)).symm) | exact (congrArg Value.bool (hU.all (by omega) (by omega)).symm)))
              ·
               refine o_step rfl (step_cast (v' := .bool false) (s_gtr rfl rfl) (by rw [decide_eq_false (by omega)])) ?_
               refine o_step rfl (s_pick_f rfl rfl) ?_
               refine o_nil ?_
               refine x_then (hK17 _ _ ?_)
               refine c_false rfl ?_
               refine c_skip ?_
               refine x_then (hK16 _ _ ?_)
               refine c_seq fun _ hK25 => ?_
               refine c_region ?_
               refine o_step rfl (s_move rfl) ?_
               by_cases k3 : t.op ≤ 3
               ·
                refine o_step rfl (step_cast (v' := .bool true) (s_leq rfl rfl) (by rw [decide_eq_true (by omega)])) ?_
                refine o_step rfl (s_move rfl) ?_
                refine o_yes rfl rfl ?_
                refine o_step rfl (s_move rfl) ?_
                refine o_yes rfl rfl ?_
                refine o_step rfl (s_move rfl) ?_
                refine o_yes rfl rfl ?_
                refine o_step rfl (s_len rfl) ?_
                refine o_yes rfl rfl ?_
                refine o_step rfl (s_sub rfl rfl (by omega)) ?_
                refine o_yes rfl rfl ?_
                by_cases kl : (q : Int) = m.length - 1
                ·
                 refine o_step rfl (step_cast (v' := .bool true) (s_eql rfl rfl) (by rw [decide_eq_true (by omega)])) ?_
                 refine o_step rfl (s_pick_t rfl rfl) ?_
                 refine o_nil ?_
                 refine x_then (hK25 _ _ ?_)
                 refine c_true rfl ?_
                 refine c_seq fun _ hK26 => ?_
                 refine c_region ?_
                 refine o_step rfl (s_assign rfl) ?_
                 refine o_nil ?_
                 refine x_then (hK26 _ _ ?_)
                 refine c_ret ?_
                 refine x_block_ret (x_then_ret (x_then_ret (x_block_ret (x_then_ret (?_)))))
                 exact x_ret rfl (.tmp rfl (.nil)) ((by first | exact (congrArg Value.bool (mok_in ht (fun h => by obtain ⟨_, _, _, _⟩ := (inOk_iff hlx hly).1 h; omega)).symm) | exact (congrArg Value.bool (mok_in ht (fun h => ((inOk_iff hlx hly).1 h).2.1.elim kn1 kset)).symm) | exact (congrArg Value.bool (mok_last ht (by omega) (by omega)).symm) | exact (congrArg Value.bool (hU.all (by omega) (by omega)).symm)))
                ·
                 refine o_step rfl (step_cast (v' := .bool false) (s_eql rfl rfl) (by rw [decide_eq_false (by omega)])) ?_
                 refine o_step rfl (s_pick_t rfl rfl) ?_
                 refine o_nil ?_
                 refine x_then (hK25 _ _ ?_)
                 refine c_false rfl ?_
                 refine c_skip ?_
                 refine x_block ?_
                 refine x_then (hK10 _ _ ?_)
                 refine c_region ?_
                 refine o_step rfl (s_move rfl) ?_
                 refine o_step rfl (s_add rfl rfl (by omega)) ?_
                 refine o_step rfl (s_assign rfl) ?_
                 refine o_nil ?_
                 exact x_then (x_inv (q + 1) ⟨by omega, hU.step ht ((inOk_iff hlx hly).2 ⟨by omega, hset, by omega, by omega⟩) (fun _ => by omega)⟩ (by first | omega | (dsimp only; omega)) sbA hzB)
               ·
                refine o_step rfl (step_cast (v' := .bool false) (s_leq rfl rfl) (by rw [decide_eq_false (by omega)])) ?_
                refine o_step rfl (s_move rfl) ?_
                refine o_no rfl rfl rfl rfl ?_
                refine o_no rfl rfl rfl rfl ?_
                refine o_no rfl rfl rfl rfl ?_
                refine o_no rfl rfl rfl rfl ?_
                refine o_no rfl rfl rfl rfl ?_
                refine o_step rfl (s_pick_f rfl rfl) ?_
                refine o_nil ?_
                refine x_then (hK25 _ _ ?_)
                refine c_false rfl ?_
                refine c_skip ?_
                refine x_block ?_
                refine x_then (hK10 _ _ ?_)
                refine c_region ?_
                refine o_step rfl (s_move rfl) ?_
                refine o_step rfl (s_add rfl rfl (by omega)) ?_
                refine o_step rfl (s_assign rfl) ?_
                refine o_nil ?_
                exact x_then (x_inv (q + 1) ⟨by omega, hU.step ht ((inOk_iff hlx hly).2 ⟨by omega, hset, by omega, by omega⟩) (fun _ => by omega)⟩ (by first | omega | (dsimp only; omega)) sbA hzB)
         ·
          have hset : t.op = 1 ∨ t.set = 0 := .inl (by omega)
          refine o_step rfl (step_cast (v' := .bool false) (s_neq rfl rfl) (by rw [decide_eq_false (by omega)])) ?_
          refine o_yes rfl rfl ?_
          refine o_step rfl (s_move rfl) ?_
          refine o_no rfl rfl rfl rfl ?_
          refine o_no rfl rfl rfl rfl ?_
          refine o_no rfl rfl rfl rfl ?_
          refine o_no rfl rfl rfl rfl ?_
          refine o_no rfl rfl rfl rfl ?_
          refine o_no rfl rfl rfl rfl ?_
          refine o_no rfl rfl rfl rfl ?_
          refine o_yes rfl rfl ?_
          refine o_step rfl (s_pick_f rfl rfl) ?_
          refine o_step rfl (s_pick_f rfl rfl) ?_
          refine o_step rfl (s_move rfl) ?_
          refine o_yes rfl rfl ?_
          refine o_step rfl (s_move rfl) ?_
          refine o_yes rfl rfl ?_
          refine o_step rfl (s_move rfl) ?_
          refine o_yes rfl rfl ?_
          refine o_step rfl (s_idx rfl rfl hsl (by omega)) ?_
          refine o_yes rfl rfl ?_
          refine o_step rfl (s_field rfl rfl (by decide)) ?_
          refine o_yes rfl rfl ?_
          refine o_step rfl (s_ld rfl ((RdK.old0 hw).ld q 5 ht rfl (by decide) (by omega))) ?_
          refine o_yes rfl rfl ?_
          by_cases kx0 : t.x < 0
          ·
           refine o_step rfl (step_cast (v' := .bool true) (s_lss rfl rfl) (by rw [decide_eq_true (by omega)])) ?_
           refine o_step rfl (s_pick_f rfl rfl) ?_
           refine o_step rfl (s_move rfl) ?_
           refine o_no rfl rfl rfl rfl ?_
           refine o_no rfl rfl rfl rfl ?_
           refine o_no rfl rfl rfl rfl ?_
           refine o_no rfl rfl rfl rfl ?_
           refine o_no rfl rfl rfl rfl ?_
           refine o_no rfl rfl rfl rfl ?_
           refine o_no rfl rfl rfl rfl ?_
           refine o_step rfl (s_pick_t rfl rfl) ?_
           refine o_step rfl (s_move rfl) ?_
           refine o_no rfl rfl rfl rfl ?_
           refine o_no rfl rfl rfl rfl ?_
           refine o_no rfl rfl rfl rfl ?_
           refine o_no rfl rfl rfl rfl ?_
           refine o_no rfl rfl rfl rfl ?_
           refine o_no rfl rfl rfl rfl ?_
           refine o_step rfl (s_pick_t rfl rfl) ?_
           refine o_step rfl (s_move rfl) ?_
           refine o_no rfl rfl rfl rfl ?_
           refine o_no rfl rfl rfl rfl ?_
           refine o_no rfl rfl rfl rfl ?_
           refine o_no rfl rfl rfl rfl ?_
           refine o_no rfl rfl rfl rfl ?_
           refine o_no rfl rfl rfl rfl ?_
           refine o_no rfl rfl rfl rfl ?_
           refine o_step rfl (s_pick_t rfl rfl) ?_
           refine o_nil ?_
           refine x_then (hK17 _ _ ?_)
           refine c_true rfl ?_
           refine c_seq fun _ hK27 => ?_
           refine c_region ?_
           refine o_step rfl (s_assign rfl) ?_
           refine o_nil ?_
           refine x_then (hK27 _ _ ?_)
           refine c_ret ?_
           refine x_then_ret (x_block_ret (x_then_ret (x_then_ret (x_block_ret (x_then_ret (?_))))))
           exact x_ret rfl (.tmp rfl (.nil)) ((by first | exact (congrArg Value.bool (mok_in ht (fun h => by obtain ⟨_, _, _, _⟩ := (inOk_iff hlx hly).1 h; omega)).symm) | exact (congrArg Value.bool (mok_in ht (fun h => ((inOk_iff hlx hly).1 h).2.1.elim kn1 kset)).symm) | exact (congrArg Value.bool (mok_last ht (by omega) (by omega)).symm) | exact (congrArg Value.bool (hU.all (by omega) (by omega)).symm)))
          ·
           refine o_step rfl (step_cast (v' := .bool false) (s_lss rfl rfl) (by rw [decide_eq_false (by omega)])) ?_
           refine o_step rfl (s_pick_f rfl rfl) ?_
           refine o_step rfl (s_move rfl) ?_
           refine o_yes rfl rfl ?_
           refine o_step rfl (s_move rfl) ?_
           refine o_yes rfl rfl ?_
           refine o_step rfl (s_move rfl) ?_
           refine o_yes rfl rfl ?_
           refine o_step rfl (s_idx rfl rfl hsl (by omega)) ?_
           refine o_yes rfl rfl ?_
           refine o_step rfl (s_field rfl rfl (by decide)) ?_
           refine o_yes rfl rfl ?_
           refine o_step rfl (s_ld rfl ((RdK.old0 hw).ld q 5 ht rfl (by decide) (by omega))) ?_
           refine o_yes rfl rfl ?_
           refine o_step rfl (s_move rfl) ?_
           refine o_yes rfl rfl ?_
           by_cases kx1 : t.x > lx
           ·
            refine o_step rfl (step_cast (v' := .bool true) (s_gtr rfl rfl) (by rw [decide_eq_true (by omega)])) ?_
            refine o_step rfl (s_pick_f rfl rfl) ?_
            refine o_step rfl (s_move rfl) ?_
            refine o_no rfl rfl rfl rfl ?_
            refine o_no rfl rfl rfl rfl ?_
            refine o_no rfl rfl rfl rfl ?_
            refine o_no rfl rfl rfl rfl ?_
            refine o_no rfl rfl rfl rfl ?_
            refine o_no rfl rfl rfl rfl ?_
            refine o_step rfl (s_pick_t rfl rfl) ?_
            refine o_step rfl (s_move rfl) ?_
            refine o_no rfl rfl rfl rfl ?_
            refine o_no rfl rfl rfl rfl ?_
            refine o_no rfl rfl rfl rfl ?_
            refine o_no rfl rfl rfl rfl ?_
            refine o_no rfl rfl rfl rfl ?_
            refine o_no rfl rfl rfl rfl ?_
            refine o_no rfl rfl rfl rfl ?_
            refine o_step rfl (s_pick_t rfl rfl) ?_
            refine o_nil ?_
            refine x_then (hK17 _ _ ?_)
            refine c_true rfl ?_
            refine c_seq fun _ hK28 => ?_
            refine c_region ?_
            refine o_step rfl (s_assign rfl) ?_
            refine o_nil ?_
            refine x_then (hK28 _ _ ?_)
            refine c_ret ?_
            refine x_then_ret (x_block_ret (x_then_ret (x_then_ret (x_block_ret (x_then_ret (?_))))))
            exact x_ret rfl (.tmp rfl (.nil)) ((by first | exact (congrArg Value.bool (mok_in ht (fun h => by obtain ⟨_, _, _, _⟩ := (inOk_iff hlx hly).1 h; omega)).symm) | exact (congrArg Value.bool (mok_in ht (fun h => ((inOk_iff hlx hly).1 h).2.1.elim kn1 kset)).symm) | exact (congrArg Value.bool (mok_last ht (by omega) (by omega)).symm) | exact (congrArg Value.bool (hU.all (by omega) (by omega)).symm)))
           ·
            refine o_step rfl (step_cast (v' := .bool false) (s_gtr rfl rfl) (by rw [decide_eq_false (by omega)])) ?_
            refine o_step rfl (s_pick_f rfl rfl) ?_
            refine o_step rfl (s_move rfl) ?_
            refine o_yes rfl rfl ?_
            refine o_step rfl (s_move rfl) ?_
            refine o_yes rfl rfl ?_
            refine o_step rfl (s_move rfl) ?_
            refine o_yes rfl rfl ?_
            refine o_step rfl (s_idx rfl rfl hsl (by omega)) ?_
            refine o_yes rfl rfl ?_
            refine o_step rfl (s_field rfl rfl (by decide)) ?_
            refine o_yes rfl rfl ?_
            refine o_step rfl (s_ld rfl ((RdK.old0 hw).ld q 6 ht rfl (by decide) (by omega))) ?_
            refine o_yes rfl rfl ?_
            by_cases ky0 : t.y < 0
            ·
             refine o_step rfl (step_cast (v' := .bool true) (s_lss rfl rfl) (by rw [decide_eq_true (by omega)])) ?_
             refine o_step rfl (s_pick_f rfl rfl) ?_
             refine o_step rfl (s_move rfl) ?_
             refine o_no rfl rfl rfl rfl ?_
             refine o_no rfl rfl rfl rfl ?_
             refine o_no rfl rfl rfl rfl ?_
             refine o_no rfl rfl rfl rfl ?_
             refine o_no rfl rfl rfl rfl ?_
             refine o_no rfl rfl rfl rfl ?_
             refine o_no rfl rfl rfl rfl ?_
             refine o_step rfl (s_pick_t rfl rfl) ?_
             refine o_nil ?_
             refine x_then (hK17 _ _ ?_)
             refine c_true rfl ?_
             refine c_seq fun _ hK29 => ?_
             refine c_region ?_
             refine o_step rfl (s_assign rfl) ?_
             refine o_nil ?_
             refine x_then (hK29 _ _ ?_)
             refine c_ret ?_
             refine x_then_ret (x_block_ret (x_then_ret (x_then_ret (x_block_ret (x_then_ret (?_))))))
             exact x_ret rfl (.tmp rfl (.nil)) ((by first | exact (congrArg Value.bool (mok_in ht (fun h => by obtain ⟨_, _, _, _⟩ := (inOk_iff hlx hly).1 h; omega)).symm) | exact (congrArg Value.bool (mok_in ht (fun h => ((inOk_iff hlx hly).1 h).2.1.elim kn1 kset)).symm) | exact (congrArg Value.bool (mok_last ht (by omega) (by omega)).symm) | exact (congrArg Value.bool (hU.all (by omega) (by omega)).symm)))
            ·
             refine o_step rfl (step_cast (v' := .bool false) (s_lss rfl rfl) (by rw [decide_eq_false (by omega)])) ?_
             refine o_step rfl (s_pick_f rfl rfl) ?_
             refine o_step rfl (s_move rfl) ?_
             refine o_yes rfl rfl ?_
             refine o_step rfl (s_move rfl) ?_
             refine o_yes rfl rfl ?_
             refine o_step rfl (s_move rfl) ?_
             refine o_yes rfl rfl ?_
             refine o_step rfl (s_idx rfl rfl hsl (by omega)) ?_
             refine o_yes rfl rfl ?_
             refine o_step rfl (s_field rfl rfl (by decide)) ?_
             refine o_yes rfl rfl ?_
             refine o_step rfl (s_ld rfl ((RdK.old0 hw).ld q 6 ht rfl (by decide) (by omega))) ?_
             refine o_yes rfl rfl ?_
             refine o_step rfl (s_move rfl) ?_
             refine o_yes rfl rfl ?_
             by_cases ky1 : t.y > ly
             ·
              refine o_step rfl (step_cast (v' := .bool true) (s_gtr rfl rfl) (by rw [decide_eq_true (by omega)])) ?_
              refine o_step rfl (s_pick_f rfl rfl) ?_
              refine o_nil ?_
              refine x_then (hK17 _ _ ?_)
              refine c_true rfl ?_
              refine c_seq fun _ hK30 => ?_
              refine c_region ?_
              refine o_step rfl (s_assign rfl) ?_
              refine o_nil ?_
              refine x_then (hK30 _ _ ?_)
              refine c_ret ?_
              refine x_then_ret (x_block_ret (x_then_ret (x_then_ret (x_block_ret (x_then_ret (?_))))))
              exact x_ret rfl (.tmp rfl (.nil)) ((by first | exact (congrArg Value.bool (mok_in ht (fun h => by obtain ⟨_, _, _, _⟩ := (inOk_iff hlx hly).1 h; omega)).symm) | exact (congrArg Value.bool (mok_in ht (fun h => ((inOk_iff hlx hly).1 h).2.1.elim kn1 kset)).symm) | exact (congrArg Value.bool (mok_last ht (by omega) (by omega)).symm) | exact (congrArg Value.bool (hU.all (by omega) (by omega)).symm)))
             ·
              refine o_step rfl (step_cast (v' := .bool false) (s_gtr rfl rfl) (by rw [decide_eq_false (by omega)])) ?_
              refine o_step rfl (s_pick_f rfl rfl) ?_
              refine o_nil ?_
              refine x_then (hK17 _ _ ?_)
              refine c_false rfl ?_
              refine c_skip ?_
              refine x_then (hK16 _ _ ?_)
              refine c_seq fun _ hK31 => ?_
              refine c_region ?_
              refine o_step rfl (s_move rfl) ?_
              by_cases k3 : t.op ≤ 3
              ·
               refine o_step rfl (step_cast (v' := .bool true) (s_leq rfl rfl) (by rw [decide_eq_true (by omega)])) ?_
               refine o_step rfl (s_move rfl) ?_
               refine o_yes rfl rfl ?_
               refine o_step rfl (s_move rfl) ?_
               refine o_yes rfl rfl ?_
               refine o_step rfl (s_move rfl) ?_
               refine o_yes rfl rfl ?_
               refine o_step rfl (s_len rfl) ?_
               refine o_yes rfl rfl ?_
               refine o_step rfl (s_sub rfl rfl (by omega)) ?_
               refine o_yes rfl rfl ?_
               by_cases kl : (q : Int) = m.length - 1
               ·
                refine o_step rfl (step_cast (v' := .bool true) (s_eql rfl rfl) (by rw [decide_eq_true (by omega)])) ?_
                refine o_step rfl (s_pick_t rfl rfl) ?_
                refine o_nil ?_
                refine x_then (hK31 _ _ ?_)
                refine c_true rfl ?_
                refine c_seq fun _ hK32 => ?_
                refine c_region ?_
                refine o_step rfl (s_assign rfl) ?_
                refine o_nil ?_
                refine x_then (hK32 _ _ ?_)
                refine c_ret ?_
                refine x_block_ret (x_then_ret (x_then_ret (x_block_ret (x_then_ret (?_)))))
                exact x_ret rfl (.tmp rfl (.nil)) ((by first | exact (congrArg Value.bool (mok_in ht (fun h => by obtain ⟨_, _, _, _⟩ := (inOk_iff hlx hly).1 h; omega)).symm) | exact (congrArg Value.bool (mok_in ht (fun h => ((inOk_iff hlx hly).1 h).2.1.elim kn1 kset)).symm) | exact (congrArg Value.bool (mok_last ht (by omega) (by omega)).symm) | exact (congrArg Value.bool (hU.all (by omega) (by omega)).symm)))
               ·
                refine o_step rfl (step_cast (v' := .bool false) (s_eql rfl rfl) (by rw [decide_eq_false (by omega)])) ?_
                refine o_step rfl (s_pick_t rfl rfl) ?_
                refine o_nil ?_
                refine x_then (hK31 _ _ ?_)
                refine c_false rfl ?_
                refine c_skip ?_
                refine x_block ?_
                refine x_then (hK10 _ _ ?_)
                refine c_region ?_
                refine o_step rfl (s_move rfl) ?_
                refine o_step rfl (s_add rfl rfl (by omega)) ?_
                refine o_step rfl (s_assign rfl) ?_
                refine o_nil ?_
                exact x_then (x_inv (q + 1) ⟨by omega, hU.step ht ((inOk_iff hlx hly).2 ⟨by omega, hset, by omega, by omega⟩) (fun _ => by omega)⟩ (by first | omega | (dsimp only; omega)) sbA hzB)
              ·
               refine o_step rfl (step_cast (v' := .bool false) (s_leq rfl rfl) (by rw [decide_eq_false (by omega)])) ?_
               refine o_step rfl (s_move rfl) ?_
               refine o_no rfl rfl rfl rfl ?_
               refine o_no rfl rfl rfl rfl ?_
               refine o_no rfl rfl rfl rfl ?_
               refine o_no rfl rfl rfl rfl ?_
               refine o_no rfl rfl rfl rfl ?_
               refine o_step rfl (s_pick_f rfl rfl) ?_
               refine o_nil ?_
               refine x_then (hK31 _ _ ?_)
               refine c_false rfl ?_
               refine c_skip ?_
               refine x_block ?_
               refine x_then (hK10 _ _ ?_)
               refine c_region ?_
               refine o_step rfl (s_move rfl) ?_
               refine o_step rfl (s_add rfl rfl (by omega)) ?_
               refine o_step rfl (s_assign rfl) ?_
               refine o_nil ?_
               exact x_then (x_inv (q + 1) ⟨by omega, hU.step ht ((inOk_iff hlx hly).2 ⟨by omega, hset, by omega, by omega⟩) (fun _ => by omega)⟩ (by first | omega | (dsimp only; omega)) sbA hzB)
      ·
       intro _ hJ15
       refine c_seq fun _ hK33 => ?_
       refine c_region ?_
       refine o_step rfl (s_move rfl) ?_
       by_cases k5 : t.op = 5
       ·
        refine o_step rfl (step_cast (v' := .bool true) (s_eql rfl rfl) (by rw [decide_eq_true (by omega)])) ?_
        refine o_nil ?_
        refine x_then (hK33 _ _ ?_)
        refine c_true rfl ?_
        refine c_region ?_
        refine o_step rfl (s_move rfl) ?_
        refine o_step rfl (s_len rfl) ?_
        refine o_step rfl (s_sub rfl rfl (by omega)) ?_
        refine o_step rfl (s_assign rfl) ?_
        refine o_nil ?_
        exact x_then (hJ15 ((m.length : Int) - 1) _ _ (by rw [if_pos (by omega)]; omega) sbA sbA hzB)
       ·
        refine o_step rfl (step_cast (v' := .bool false) (s_eql rfl rfl) (by rw [decide_eq_false (by omega)])) ?_
        refine o_nil ?_
        refine x_then (hK33 _ _ ?_)
        refine c_false rfl ?_
        refine c_skip ?_
        exact x_then (hJ15 0 _ _ (by rw [if_neg (by omega)]) sbA sbA hzB)
     ·
      intro _ hJ13
      refine c_seq fun _ hK34 => ?_
      refine c_region ?_
      refine o_step rfl (s_move rfl) ?_
      by_cases h4 : t.op = 4
      ·
       refine o_step rfl (step_cast (v' := .bool true) (s_eql rfl rfl) (by rw [decide_eq_true (by omega)])) ?_
       refine o_step rfl (s_move rfl) ?_
       refine o_no rfl rfl rfl rfl ?_
       refine o_no rfl rfl rfl rfl ?_
       refine o_step rfl (s_pick_t rfl rfl) ?_
       refine o_nil ?_
       refine x_then (hK34 _ _ ?_)
       refine c_true rfl ?_
       refine c_region ?_
       refine o_step rfl (s_move rfl) ?_
       refine o_step rfl (s_len rfl) ?_
       refine o_step rfl (s_sub rfl rfl (by omega)) ?_
       refine o_step rfl (s_assign rfl) ?_
       refine o_nil ?_
       exact x_then (hJ13 ((m.length : Int) - 1) _ _ (by rw [if_pos (by omega)]; omega) sbA sbA hzB)
      ·
       refine o_step rfl (step_cast (v' := .bool false) (s_eql rfl rfl) (by rw [decide_eq_false (by omega)])) ?_
       refine o_step rfl (s_move rfl) ?_
       refine o_yes rfl rfl ?_
       refine o_step rfl (s_move rfl) ?_
       refine o_yes rfl rfl ?_
       by_cases h5 : t.op = 5
       ·
        refine o_step rfl (step_cast (v' := .bool true) (s_eql rfl rfl) (by rw [decide_eq_true (by omega)])) ?_
        refine o_step rfl (s_pick_f rfl rfl) ?_
        refine o_nil ?_
        refine x_then (hK34 _ _ ?_)
        refine c_true rfl ?_
        refine c_region ?_
        refine o_step rfl (s_move rfl) ?_
        refine o_step rfl (s_len rfl) ?_
        refine o_step rfl (s_sub rfl rfl (by omega)) ?_
        refine o_step rfl (s_assign rfl) ?_
        refine o_nil ?_
        exact x_then (hJ13 ((m.length : Int) - 1) _ _ (by rw [if_pos (by omega)]; omega) sbA sbA hzB)
       ·
        refine o_step rfl (step_cast (v' := .bool false) (s_eql rfl rfl) (by rw [decide_eq_false (by omega)])) ?_
        refine o_step rfl (s_pick_f rfl rfl) ?_
        refine o_nil ?_
        refine x_then (hK34 _ _ ?_)
        refine c_false rfl ?_
        refine c_skip ?_
        exact x_then (hJ13 0 _ _ (by rw [if_neg (by omega)]) sbA sbA hzB)
    ·
     obtain rfl : q = m.length := by omega
     refine o_step rfl (step_cast (v' := .bool false) (s_lss rfl rfl) (by rw [decide_eq_false (by omega)])) ?_
     refine o_nil ?_
     refine x_then (hK9 _ _ ?_)
     refine c_false rfl ?_
     refine c_exit ?_
     refine x_then_exit ?_
     refine x_then_exit ?_
     refine x_block_exit ?_
     refine x_then (hK6 _ _ ?_)
     refine c_seq fun _ hK35 => ?_
     refine c_region ?_
     refine o_step rfl (s_assign rfl) ?_
     refine o_nil ?_
     refine x_then (hK35 _ _ ?_)
     refine c_ret ?_
     refine ?_
     exact x_ret rfl (.tmp rfl (.nil)) ((by first | exact (congrArg Value.bool (mok_in ht (fun h => by obtain ⟨_, _, _, _⟩ := (inOk_iff hlx hly).1 h; omega)).symm) | exact (congrArg Value.bool (mok_in ht (fun h => ((inOk_iff hlx hly).1 h).2.1.elim kn1 kset)).symm) | exact (congrArg Value.bool (mok_last ht (by omega) (by omega)).symm) | exact (congrArg Value.bool (hU.all (by omega) (by omega)).symm)))
end Go.Proofs.YtihbhlgognpmmaaDoor
