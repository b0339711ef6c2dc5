/- Part of the proofs over this seat: see the text that holds the theorem. Conditions: each theorem bears its own. -/
import Derived.Test.YtihbhlgognpmmaaDoorDW9Z
import Derived.Test.YtihbhlgognpmmaaDoorMT9Z
import Derived.Test.YtihbhlgognpmmaaDoorHlB
import Derived.Test.YtihbhlgognpmmaaDoorMC1Z
namespace Go.Proofs.YtihbhlgognpmmaaDoor
open Go Go.HL Go.Proofs Go.HL.Kl Go.HL.Kl.Mc
theorem place_fn (x : Int) (b1 : Nat) (ra : Option Addr) (rc : Nat) (m : List In) : HL.Fn Tryd.prog 32 [.int .i64 x, .pointer (some ⟨b1, 0, none⟩)] (fun w => RdP w b1 0 [.slice ra m.length rc]) [] (fun v _ => v = .bool (decide (0 ≤ x ∧ x < m.length))) := by
  refine fn_of Tryd.func32 rfl rfl rfl fun w0 hw => ?_
  refine c_seq fun _ hK1 => ?_
  refine c_region ?_
  refine o_step rfl (s_assign rfl) ?_
  refine o_nil ?_
  refine x_then (hK1 _ _ ?_)
  refine c_seq fun _ hK2 => ?_
  refine c_region ?_
  refine o_step rfl (s_move rfl) ?_
  by_cases h0 : x ≥ 0
  ·
   refine o_step rfl (step_cast (v' := .bool true) (s_geq rfl rfl) (by rw [decide_eq_true (by omega)])) ?_
   refine o_step rfl (s_move rfl) ?_
   refine o_yes rfl rfl ?_
   refine o_step rfl (s_move rfl) ?_
   refine o_yes rfl rfl ?_
   refine o_step rfl (s_ld rfl ((RdPK.old0 hw).cel (j := 0) rfl rfl)) ?_
   refine o_yes rfl rfl ?_
   refine o_step rfl (s_len rfl) ?_
   refine o_yes rfl rfl ?_
   by_cases h1 : x < m.length
   ·
    refine o_step rfl (step_cast (v' := .bool true) (s_lss rfl rfl) (by rw [decide_eq_true (by omega)])) ?_
    refine o_step rfl (s_pick_t rfl rfl) ?_
    refine o_step rfl (s_assign rfl) ?_
    refine o_nil ?_
    refine x_then (hK2 _ _ ?_)
    refine c_ret ?_
    refine ?_
    exact x_ret rfl (.tmp rfl (.nil)) ((congrArg Value.bool (decide_eq_true (by omega)).symm))
   ·
    refine o_step rfl (step_cast (v' := .bool false) (s_lss rfl rfl) (by rw [decide_eq_false (by omega)])) ?_
    refine o_step rfl (s_pick_t rfl rfl) ?_
    refine o_step rfl (s_assign rfl) ?_
    refine o_nil ?_
    refine x_then (hK2 _ _ ?_)
    refine c_ret ?_
    refine ?_
    exact x_ret rfl (.tmp rfl (.nil)) ((congrArg Value.bool (decide_eq_false (by omega)).symm))
  ·
   refine o_step rfl (step_cast (v' := .bool false) (s_geq rfl rfl) (by rw [decide_eq_false (by omega)])) ?_
   refine o_step rfl (s_move rfl) ?_
   refine o_no rfl rfl rfl rfl ?_
   refine o_no rfl rfl rfl rfl ?_
   refine o_no rfl rfl rfl rfl ?_
   refine o_no rfl rfl rfl rfl ?_
   refine o_step rfl (s_pick_f rfl rfl) ?_
   refine o_step rfl (s_assign rfl) ?_
   refine o_nil ?_
   refine x_then (hK2 _ _ ?_)
   refine c_ret ?_
   refine ?_
   exact x_ret rfl (.tmp rfl (.nil)) ((congrArg Value.bool (decide_eq_false (by omega)).symm))

set_option maxHeartbeats 2000000 in
theorem mShaped_fn (ra : Option Addr) (rc : Nat) (m : List In)  : HL.Fn Tryd.prog 13 [.slice ra m.length rc] (fun w => Rd Ein w (.slice ra m.length rc) m) [] (fun v _ => v = .bool (mokB m)) := by
  refine fn_of Tryd.func13 rfl rfl rfl fun w0 hw => ?_
  have hsl := hw.sl
  have hbl := hsl.le
  refine c_seq fun _ hK1 => ?_
  refine c_region ?_
  refine o_box rfl rfl rfl fun b1 => ?_
  refine o_step rfl (s_assign rfl) ?_
  refine o_nil ?_
  refine x_then (hK1 _ _ ?_)
  refine c_seq fun _ hK2 => ?_
  refine c_seq fun _ hK3 => ?_
  refine c_region ?_
  refine o_step rfl (s_ld rfl (.own meA rfl)) ?_
  refine o_step rfl (s_len rfl) ?_
  by_cases hl1 : m.length = 0
  ·
   refine o_step rfl (step_cast (v' := .bool true) (s_eql rfl rfl) (by rw [decide_eq_true (by omega)])) ?_
   refine o_step rfl (s_move rfl) ?_
   refine o_no rfl rfl rfl rfl ?_
   refine o_no rfl rfl rfl rfl ?_
   refine o_no rfl rfl rfl rfl ?_
   refine o_step rfl (s_pick_t rfl rfl) ?_
   refine o_nil ?_
   refine x_then (hK3 _ _ ?_)
   refine c_true rfl ?_
   refine c_seq fun _ hK4 => ?_
   refine c_region ?_
   refine o_step rfl (s_assign rfl) ?_
   refine o_nil ?_
   refine x_then (hK4 _ _ ?_)
   refine c_ret ?_
   refine x_then_ret (?_)
   exact x_ret rfl (.tmp rfl (.nil)) ((by first | exact (congrArg Value.bool (mok_len (by omega)).symm) | exact (congrArg Value.bool (mok_last ht (by omega) (by omega)).symm) | exact (congrArg Value.bool (hU.all (by omega) (by omega)).symm) | exact (congrArg Value.bool (mok_in ht (fun h => hne (wantI_of h))).symm) | exact (congrArg Value.bool (mok_in ht (fun h => by have := InOk.bnd h; omega)).symm) | exact (congrArg Value.bool (mok_in ht (fun h => by obtain ⟨h, _⟩ := h; omega)).symm)))
  ·
   refine o_step rfl (step_cast (v' := .bool false) (s_eql rfl rfl) (by rw [decide_eq_false (by omega)])) ?_
   refine o_step rfl (s_move rfl) ?_
   refine o_yes rfl rfl ?_
   refine o_step rfl (s_ld rfl (.own meA rfl)) ?_
   refine o_yes rfl rfl ?_
   refine o_step rfl (s_len rfl) ?_
   refine o_yes rfl rfl ?_
   by_cases hl2 : (m.length : Int) > 65540
   ·
    refine o_step rfl (step_cast (v' := .bool true) (s_gtr rfl rfl) (by rw [decide_eq_true (by omega)])) ?_
    refine o_step rfl (s_pick_f rfl rfl) ?_
    refine o_nil ?_
    refine x_then (hK3 _ _ ?_)
    refine c_true rfl ?_
    refine c_seq fun _ hK5 => ?_
    refine c_region ?_
    refine o_step rfl (s_assign rfl) ?_
    refine o_nil ?_
    refine x_then (hK5 _ _ ?_)
    refine c_ret ?_
    refine x_then_ret (?_)
    exact x_ret rfl (.tmp rfl (.nil)) ((by first | exact (congrArg Value.bool (mok_len (by omega)).symm) | exact (congrArg Value.bool (mok_last ht (by omega) (by omega)).symm) | exact (congrArg Value.bool (hU.all (by omega) (by omega)).symm) | exact (congrArg Value.bool (mok_in ht (fun h => hne (wantI_of h))).symm) | exact (congrArg Value.bool (mok_in ht (fun h => by have := InOk.bnd h; omega)).symm) | exact (congrArg Value.bool (mok_in ht (fun h => by obtain ⟨h, _⟩ := h; omega)).symm)))
   ·
    refine o_step rfl (step_cast (v' := .bool false) (s_gtr rfl rfl) (by rw [decide_eq_false (by omega)])) ?_
    refine o_step rfl (s_pick_f rfl rfl) ?_
    refine o_nil ?_
    refine x_then (hK3 _ _ ?_)
    refine c_false rfl ?_
    refine c_skip ?_
    refine x_then (hK2 _ _ ?_)
    refine c_seq fun _ hK6 => ?_
    refine c_region ?_
    refine o_step rfl (s_func (us := []) (vs := [_]) rfl rfl) ?_
    refine o_step rfl (s_assign rfl) ?_
    refine o_nil ?_
    refine x_then (hK6 _ _ ?_)
    refine c_seq fun _ hK7 => ?_
    refine c_seq fun _ hK8 => ?_
    refine c_region ?_
    refine o_step rfl (s_ld rfl (.own meA rfl)) ?_
    refine o_step rfl (s_len rfl) ?_
    refine o_step rfl (s_move rfl) ?_
    refine o_nil ?_
    refine x_then (hK8 _ _ ?_)
    refine c_block ?_
    -- not carried: 2
    refine c_loopB (fun (q : Nat) => q ≤ m.length ∧ MUp m q) (fun (q : Nat) => [(18, .int .i64 q)]) [(1, _), (3, _), (16, _), (17, _)] (fun (q : Nat) => [(b1, .cells [.slice ra m.length rc].toArray 27 (0, 0))]) (fun (q : Nat) => m.length - q) 0 ⟨by omega, .zero⟩ sbA sbA hzB ?_
    rintro q ⟨hq, hU⟩
    refine c_seq fun _ hK9 => ?_
    refine c_region ?_
    by_cases hql : q < m.length
    ·
     obtain ⟨t, ht⟩ : ∃ t, m[q]? = some t := ⟨_, List.getElem?_eq_getElem hql⟩
     refine o_step rfl (step_cast (v' := .bool true) (s_lss rfl rfl) (by rw [decide_eq_true (by omega)])) ?_
     refine o_nil ?_
     refine x_then (hK9 _ _ ?_)
     refine c_seq fun _ hK10 => ?_
     refine c_true rfl ?_
     refine c_skip ?_
     refine x_then (hK10 _ _ ?_)
     refine c_seq fun _ hK11 => ?_
     refine c_block ?_
     refine c_seq fun _ hK12 => ?_
     refine c_region ?_
     refine o_step rfl (s_move rfl) ?_
     refine o_step rfl (s_idx rfl rfl hsl (by omega)) ?_
     refine o_step rfl (s_ldB rfl ((RdK.old0 hw).lds q ht rfl) (by rfl)) ?_
     refine o_alloc (l := Ein ⟨0, 0, 0, 0⟩) (by rw [Ein_zero]; rfl) rfl fun b5 => ?_
     refine o_step rfl (s_assign rfl) ?_
     refine o_stW rfl rfl upA lnA lnA onA ?_
     refine o_nil ?_
     refine x_then (hK12 _ _ ?_)
     refine c_seq fun _ hK13 => ?_
     refine c_region ?_
     refine o_alloc (l := Ein ⟨0, 0, 0, 0⟩) (by rw [Ein_zero]; rfl) rfl fun b6 => ?_
     refine o_nil ?_
     refine x_then (hK13 _ _ ?_)
     refine c_seqJ (ι := Unit) (fun g => (1 ≤ t.op ∧ t.op ≤ 6) ∧ (t.op ≤ 3 → q + 1 < m.length)) (fun g => []) [(1, _), (3, _), (4, _), (5, _), (6, _), (16, _), (17, _), (18, _), (19, _), (20, _), (21, _), (22, _)] (fun g => [(b6, .cells (Ein (wantI t)).toArray 73 (0, 0)), (b5, .cells (Ein t).toArray 73 (0, 0)), (b1, .cells [.slice ra m.length rc].toArray 27 (0, 0))]) sbA ?_ ?_
     ·
      rintro g hI
      refine c_seq fun _ hK15 => ?_
      refine c_region ?_
      refine o_step rfl (s_ldB rfl (RdPK.cels (.own meA)) lnA) ?_
      refine o_step rfl (s_ldB rfl (RdPK.cels (.own meA)) lnA) ?_
      by_cases hne : t ≠ wantI t
      ·
       refine o_step rfl (step_cast (v' := .bool true) (s_neq_in rfl rfl) (by rw [decide_eq_false hne]; rfl)) ?_
       refine o_step rfl (s_move rfl) ?_
       refine o_no rfl rfl rfl rfl ?_
       refine o_no rfl rfl rfl rfl ?_
       refine o_no rfl rfl rfl rfl ?_
       refine o_no rfl rfl rfl rfl ?_
       refine o_no rfl rfl rfl rfl ?_
       refine o_step rfl (s_pick_t rfl rfl) ?_
       refine o_step rfl (s_move rfl) ?_
       refine o_no rfl rfl rfl rfl ?_
       refine o_no rfl rfl rfl rfl ?_
       refine o_no rfl rfl rfl rfl ?_
       refine o_no rfl rfl rfl rfl ?_
       refine o_no rfl rfl rfl rfl ?_
       refine o_step rfl (s_pick_t rfl rfl) ?_
       refine o_nil ?_
       refine x_then (hK15 _ _ ?_)
       refine c_true rfl ?_
       refine c_seq fun _ hK16 => ?_
       refine c_region ?_
       refine o_step rfl (s_assign rfl) ?_
       refine o_nil ?_
       refine x_then (hK16 _ _ ?_)
       refine c_ret ?_
       refine x_block_ret (x_then_ret (x_then_ret (x_block_ret (x_then_ret (?_)))))
       exact x_ret rfl (.tmp rfl (.nil)) ((by first | exact (congrArg Value.bool (mok_len (by omega)).symm) | exact (congrArg Value.bool (mok_last ht (by omega) (by omega)).symm) | exact (congrArg Value.bool (hU.all (by omega) (by omega)).symm) | exact (congrArg Value.bool (mok_in ht (fun h => hne (wantI_of h))).symm) | exact (congrArg Value.bool (mok_in ht (fun h => by have := InOk.bnd h; omega)).symm) | exact (congrArg Value.bool (mok_in ht (fun h => by obtain ⟨h, _⟩ := h; omega)).symm)))
      ·
       refine o_step rfl (step_cast (v' := .bool false) (s_neq_in rfl rfl) (by rw [decide_eq_true (Decidable.not_not.1 hne)]; rfl)) ?_
       refine o_step rfl (s_move rfl) ?_
       refine o_yes rfl rfl ?_
       refine o_step rfl (s_move rfl) ?_
       refine o_yes rfl rfl ?_
       refine o_step rfl (s_field rfl rfl (by decide)) ?_
       refine o_yes rfl rfl ?_
       refine o_step rfl (s_ld rfl (.own meA rfl)) ?_
       refine o_yes rfl rfl ?_
       refine o_callC (us := []) (vs := [_]) (cs := [.pointer (some ⟨b1, 0, none⟩)]) (place_fn t.x b1 ra rc m) rfl rfl rfl (by exact .nil) (fun w st => (RdPK.own meA).out w st) (fun v68 S68 hv68 => ?_)
       by_cases hx : 0 ≤ t.x ∧ t.x < m.length
       ·
        rw [decide_eq_true hx] at hv68
        subst hv68
        refine o_yes rfl rfl ?_
        refine o_step rfl (s_not rfl) ?_
        refine o_step rfl (s_pick_f rfl rfl) ?_
        refine o_step rfl (s_move rfl) ?_
        refine o_yes rfl rfl ?_
        refine o_step rfl (s_move rfl) ?_
        refine o_yes rfl rfl ?_
        refine o_step rfl (s_field rfl rfl (by decide)) ?_
        refine o_yes rfl rfl ?_
        refine o_step rfl (s_ld rfl (.own meA rfl)) ?_
        refine o_yes rfl rfl ?_
        refine o_callC (us := []) (vs := [_]) (cs := [.pointer (some ⟨b1, 0, none⟩)]) (place_fn t.y b1 ra rc m) rfl rfl rfl (by exact .nil) (fun w st => (RdPK.own meA).out w st) (fun v75 S75 hv75 => ?_)
        by_cases hy : 0 ≤ t.y ∧ t.y < m.length
        ·
         rw [decide_eq_true hy] at hv75
         subst hv75
         refine o_yes rfl rfl ?_
         refine o_step rfl (s_not rfl) ?_
         refine o_step rfl (s_pick_f rfl rfl) ?_
         refine o_nil ?_
         refine x_then (hK15 _ _ ?_)
         refine c_false rfl ?_
         refine c_skip ?_
         refine x_block ?_
         refine x_then (hK11 _ _ ?_)
         refine c_region ?_
         refine o_step rfl (s_add rfl rfl (by omega)) ?_
         refine o_step rfl (s_move rfl) ?_
         refine o_nil ?_
         exact x_then (x_inv (q + 1) ⟨by omega, hU.step ht (inOk_of hI.1 (Decidable.not_not.1 hne) hx hy) hI.2⟩ (by first | omega | (dsimp only; omega)) sbA hzB)
        ·
         rw [decide_eq_false hy] at hv75
         subst hv75
         refine o_yes rfl rfl ?_
         refine o_step rfl (s_not rfl) ?_
         refine o_step rfl (s_pick_f rfl rfl) ?_
         refine o_nil ?_
         refine x_then (hK15 _ _ ?_)
         refine c_true rfl ?_
         refine c_seq fun _ hK17 => ?_
         refine c_region ?_
         refine o_step rfl (s_assign rfl) ?_
         refine o_nil ?_
         refine x_then (hK17 _ _ ?_)
         refine c_ret ?_
         refine x_block_ret (x_then_ret (x_then_ret (x_block_ret (x_then_ret (?_)))))
         exact x_ret rfl (.tmp rfl (.nil)) ((by first | exact (congrArg Value.bool (mok_len (by omega)).symm) | exact (congrArg Value.bool (mok_last ht (by omega) (by omega)).symm) | exact (congrArg Value.bool (hU.all (by omega) (by omega)).symm) | exact (congrArg Value.bool (mok_in ht (fun h => hne (wantI_of h))).symm) | exact (congrArg Value.bool (mok_in ht (fun h => by have := InOk.bnd h; omega)).symm) | exact (congrArg Value.bool (mok_in ht (fun h => by obtain ⟨h, _⟩ := h; omega)).symm)))
       ·
        rw [decide_eq_false hx] at hv68
        subst hv68
        refine o_yes rfl rfl ?_
        refine o_step rfl (s_not rfl) ?_
        refine o_step rfl (s_pick_f rfl rfl) ?_
        refine o_step rfl (s_move rfl) ?_
        refine o_no rfl rfl rfl rfl ?_
        refine o_no rfl rfl rfl rfl ?_
        refine o_no rfl rfl rfl rfl ?_
        refine o_no rfl rfl rfl rfl ?_
        refine o_no rfl rfl rfl rfl ?_
        refine o_step rfl (s_pick_t rfl rfl) ?_
        refine o_nil ?_
        refine x_then (hK15 _ _ ?_)
        refine c_true rfl ?_
        refine c_seq fun _ hK18 => ?_
        refine c_region ?_
        refine o_step rfl (s_assign rfl) ?_
        refine o_nil ?_
        refine x_then (hK18 _ _ ?_)
        refine c_ret ?_
        refine x_block_ret (x_then_ret (x_then_ret (x_block_ret (x_then_ret (?_)))))
        exact x_ret rfl (.tmp rfl (.nil)) ((by first | exact (congrArg Value.bool (mok_len (by omega)).symm) | exact (congrArg Value.bool (mok_last ht (by omega) (by omega)).symm) | exact (congrArg Value.bool (hU.all (by omega) (by omega)).symm) | exact (congrArg Value.bool (mok_in ht (fun h => hne (wantI_of h))).symm) | exact (congrArg Value.bool (mok_in ht (fun h => by have := InOk.bnd h; omega)).symm) | exact (congrArg Value.bool (mok_in ht (fun h => by obtain ⟨h, _⟩ := h; omega)).symm)))
     ·
      intro _ hJ14
      refine c_seq fun _ hK19 => ?_
      refine c_region ?_
      refine o_step rfl (s_field rfl rfl (by decide)) ?_
      refine o_step rfl (s_ld rfl (.own meA rfl)) ?_
      refine o_step rfl (s_field rfl rfl (by decide)) ?_
      refine o_store rfl rfl rfl upA ltA rfl ?_
      rw [show (Ein (⟨0, 0, 0, 0⟩ : In)).set 0 (.int .i8 t.op) = Ein (⟨t.op, 0, 0, 0⟩ : In) from rfl]
      refine o_nil ?_
      refine x_then (hK19 _ _ ?_)
      refine c_seq fun _ hK20 => ?_
      refine c_region ?_
      refine o_step rfl (s_field rfl rfl (by decide)) ?_
      refine o_step rfl (s_ld rfl (.own meA rfl)) ?_
      refine o_nil ?_
      refine x_then (hK20 _ _ ?_)
      refine c_block ?_
      refine c_seq fun _ hK21 => ?_
      refine c_region ?_
      by_cases h1 : t.op = 1
      ·
       refine o_step rfl (step_cast (v' := .bool true) (s_eql rfl rfl) (by rw [decide_eq_true h1])) ?_
       refine o_step rfl (s_assign rfl) ?_
       refine o_nil ?_
       refine x_then (hK21 _ _ ?_)
       refine c_true rfl ?_
       refine c_seq fun _ hK22 => ?_
       refine c_region ?_
       refine o_step rfl (s_field rfl rfl (by decide)) ?_
       refine o_step rfl (s_ldB rfl (RdPK.cels (RdPK.own' (cs := Ec t.set) meA in_set)) (Ec_lenM _)) ?_
       refine o_step rfl (s_field rfl rfl (by decide)) ?_
       refine o_storeA (l := Ein (⟨t.op, 0, 0, 0⟩ : In)) (cs := Ec t.set) rfl rfl rfl (Enc.one _) upA (Nat.le_of_ble_eq_true rfl) (fun _ _ => frz0) ?_
       rw [show splice (Ein (⟨t.op, 0, 0, 0⟩ : In)) 1 (Ec t.set) = Ein (⟨t.op, t.set, 0, 0⟩ : In) from rfl]
       refine o_nil ?_
       refine x_then (hK22 _ _ ?_)
       refine c_seq fun _ hK23 => ?_
       refine c_region ?_
       refine o_step rfl (s_move rfl) ?_
       refine o_step rfl (s_add rfl rfl (by omega)) ?_
       refine o_step rfl (s_ld rfl (.own meA rfl)) ?_
       refine o_step rfl (s_len rfl) ?_
       by_cases he : (q : Int) + 1 = m.length
       ·
        refine o_step rfl (step_cast (v' := .bool true) (s_eql rfl rfl) (by rw [decide_eq_true (by omega)])) ?_
        refine o_nil ?_
        refine x_then (hK23 _ _ ?_)
        refine c_true rfl ?_
        refine c_seq fun _ hK24 => ?_
        refine c_region ?_
        refine o_step rfl (s_assign rfl) ?_
        refine o_nil ?_
        refine x_then (hK24 _ _ ?_)
        refine c_ret ?_
        refine x_block_ret (x_then_ret (x_block_ret (x_then_ret (x_then_ret (x_block_ret (x_then_ret (?_)))))))
        exact x_ret rfl (.tmp rfl (.nil)) ((by first | exact (congrArg Value.bool (mok_len (by omega)).symm) | exact (congrArg Value.bool (mok_last ht (by omega) (by omega)).symm) | exact (congrArg Value.bool (hU.all (by omega) (by omega)).symm) | exact (congrArg Value.bool (mok_in ht (fun h => hne (wantI_of h))).symm) | exact (congrArg Value.bool (mok_in ht (fun h => by have := InOk.bnd h; omega)).symm) | exact (congrArg Value.bool (mok_in ht (fun h => by obtain ⟨h, _⟩ := h; omega)).symm)))
       ·
        refine o_step rfl (step_cast (v' := .bool false) (s_eql rfl rfl) (by rw [decide_eq_false (by omega)])) ?_
        refine o_nil ?_
        refine x_then (hK23 _ _ ?_)
        refine c_false rfl ?_
        refine c_skip ?_
        refine x_block ?_
        rw [show (⟨t.op, t.set, 0, 0⟩ : In) = wantI t by rw [wantI, if_pos h1, if_neg (by omega), if_neg (by omega)]]
        exact x_then (hJ14 () _ _ ⟨by omega, fun _ => by omega⟩ sbA sbA hzB)
      ·
       refine o_step rfl (step_cast (v' := .bool false) (s_eql rfl rfl) (by rw [decide_eq_false h1])) ?_
       refine o_step rfl (s_assign rfl) ?_
       refine o_nil ?_
       refine x_then (hK21 _ _ ?_)
       refine c_false rfl ?_
       refine c_seq fun _ hK25 => ?_
       refine c_seq fun _ hK26 => ?_
       refine c_region ?_
       by_cases h2 : t.op = 2
       ·
        refine o_step rfl (step_cast (v' := .bool true) (s_eql rfl rfl) (by rw [decide_eq_true h2])) ?_
        refine o_step rfl (s_assign rfl) ?_
        refine o_nil ?_
        refine x_then (hK26 _ _ ?_)
        refine c_true rfl ?_
        refine c_skip ?_
        refine x_then (hK25 _ _ ?_)
        refine c_true rfl ?_
        refine c_seq fun _ hK27 => ?_
        refine c_region ?_
        refine o_step rfl (s_move rfl) ?_
        refine o_step rfl (s_add rfl rfl (by omega)) ?_
        refine o_step rfl (s_ld rfl (.own meA rfl)) ?_
        refine o_step rfl (s_len rfl) ?_
        by_cases he : (q : Int) + 1 = m.length
        ·
         refine o_step rfl (step_cast (v' := .bool true) (s_eql rfl rfl) (by rw [decide_eq_true (by omega)])) ?_
         refine o_nil ?_
         refine x_then (hK27 _ _ ?_)
         refine c_true rfl ?_
         refine c_seq fun _ hK28 => ?_
         refine c_region ?_
         refine o_step rfl (s_assign rfl) ?_
         refine o_nil ?_
         refine x_then (hK28 _ _ ?_)
         refine c_ret ?_
         refine x_block_ret (x_then_ret (x_block_ret (x_then_ret (x_then_ret (x_block_ret (x_then_ret (?_)))))))
         exact x_ret rfl (.tmp rfl (.nil)) ((by first | exact (congrArg Value.bool (mok_len (by omega)).symm) | exact (congrArg Value.bool (mok_last ht (by omega) (by omega)).symm) | exact (congrArg Value.bool (hU.all (by omega) (by omega)).symm) | exact (congrArg Value.bool (mok_in ht (fun h => hne (wantI_of h))).symm) | exact (congrArg Value.bool (mok_in ht (fun h => by have := InOk.bnd h; omega)).symm) | exact (congrArg Value.bool (mok_in ht (fun h => by obtain ⟨h, _⟩ := h; omega)).symm)))
        ·
         refine o_step rfl (step_cast (v' := .bool false) (s_eql rfl rfl) (by rw [decide_eq_false (by omega)])) ?_
         refine o_nil ?_
         refine x_then (hK27 _ _ ?_)
         refine c_false rfl ?_
         refine c_skip ?_
         refine x_block ?_
         rw [show (⟨t.op, 0, 0, 0⟩ : In) = wantI t by rw [wantI, if_neg (by omega), if_neg (by omega), if_neg (by omega)]]
         exact x_then (hJ14 () _ _ ⟨by omega, fun _ => by omega⟩ sbA sbA hzB)
       ·
        refine o_step rfl (step_cast (v' := .bool false) (s_eql rfl rfl) (by rw [decide_eq_false h2])) ?_
        refine o_step rfl (s_assign rfl) ?_
        refine o_nil ?_
        refine x_then (hK26 _ _ ?_)
        refine c_false rfl ?_
        refine c_region ?_
        by_cases h3 : t.op = 3
        ·
         refine o_step rfl (step_cast (v' := .bool true) (s_eql rfl rfl) (by rw [decide_eq_true h3])) ?_
         refine o_step rfl (s_assign rfl) ?_
         refine o_nil ?_
         refine x_then (hK25 _ _ ?_)
         refine c_true rfl ?_
         refine c_seq fun _ hK29 => ?_
         refine c_region ?_
         refine o_step rfl (s_move rfl) ?_
         refine o_step rfl (s_add rfl rfl (by omega)) ?_
         refine o_step rfl (s_ld rfl (.own meA rfl)) ?_
         refine o_step rfl (s_len rfl) ?_
         by_cases he : (q : Int) + 1 = m.length
         ·
          refine o_step rfl (step_cast (v' := .bool true) (s_eql rfl rfl) (by rw [decide_eq_true (by omega)])) ?_
          refine o_nil ?_
          refine x_then (hK29 _ _ ?_)
          refine c_true rfl ?_
          refine c_seq fun _ hK30 => ?_
          refine c_region ?_
          refine o_step rfl (s_assign rfl) ?_
          refine o_nil ?_
          refine x_then (hK30 _ _ ?_)
          refine c_ret ?_
          refine x_block_ret (x_then_ret (x_block_ret (x_then_ret (x_then_ret (x_block_ret (x_then_ret (?_)))))))
          exact x_ret rfl (.tmp rfl (.nil)) ((by first | exact (congrArg Value.bool (mok_len (by omega)).symm) | exact (congrArg Value.bool (mok_last ht (by omega) (by omega)).symm) | exact (congrArg Value.bool (hU.all (by omega) (by omega)).symm) | exact (congrArg Value.bool (mok_in ht (fun h => hne (wantI_of h))).symm) | exact (congrArg Value.bool (mok_in ht (fun h => by have := InOk.bnd h; omega)).symm) | exact (congrArg Value.bool (mok_in ht (fun h => by obtain ⟨h, _⟩ := h; omega)).symm)))
         ·
          refine o_step rfl (step_cast (v' := .bool false) (s_eql rfl rfl) (by rw [decide_eq_false (by omega)])) ?_
          refine o_nil ?_
          refine x_then (hK29 _ _ ?_)
          refine c_false rfl ?_
          refine c_skip ?_
          refine x_block ?_
          rw [show (⟨t.op, 0, 0, 0⟩ : In) = wantI t by rw [wantI, if_neg (by omega), if_neg (by omega), if_neg (by omega)]]
          exact x_then (hJ14 () _ _ ⟨by omega, fun _ => by omega⟩ sbA sbA hzB)
        ·
         refine o_step rfl (step_cast (v' := .bool false) (s_eql rfl rfl) (by rw [decide_eq_false h3])) ?_
         refine o_step rfl (s_assign rfl) ?_
         refine o_nil ?_
         refine x_then (hK25 _ _ ?_)
         refine c_false rfl ?_
         refine c_seq fun _ hK31 => ?_
         refine c_region ?_
         by_cases h4 : t.op = 4
         ·
          refine o_step rfl (step_cast (v' := .bool true) (s_eql rfl rfl) (by rw [decide_eq_true h4])) ?_
          refine o_step rfl (s_assign rfl) ?_
          refine o_nil ?_
          refine x_then (hK31 _ _ ?_)
          refine c_true rfl ?_
          refine c_region ?_
          refine o_step rfl (s_field rfl rfl (by decide)) ?_
          refine o_step rfl (s_ld rfl (.own meA rfl)) ?_
          refine o_step rfl (s_field rfl rfl (by decide)) ?_
          refine o_store rfl rfl rfl upA ltA rfl ?_
          rw [show (Ein (⟨t.op, 0, 0, 0⟩ : In)).set 5 (.int .i64 t.x) = Ein (⟨t.op, 0, t.x, 0⟩ : In) from rfl]
          refine o_nil ?_
          refine x_block ?_
          rw [show (⟨t.op, 0, t.x, 0⟩ : In) = wantI t by rw [wantI, if_neg (by omega), if_pos (.inl h4), if_neg (by omega)]]
          exact x_then (hJ14 () _ _ ⟨by omega, fun h => absurd h (by omega)⟩ sbA sbA hzB)
         ·
          refine o_step rfl (step_cast (v' := .bool false) (s_eql rfl rfl) (by rw [decide_eq_false h4])) ?_
          refine o_step rfl (s_assign rfl) ?_
          refine o_nil ?_
          refine x_then (hK31 _ _ ?_)
          refine c_false rfl ?_
          refine c_seq fun _ hK32 => ?_
          refine c_region ?_
          by_cases h5 : t.op = 5
          ·
           refine o_step rfl (step_cast (v' := .bool true) (s_eql rfl rfl) (by rw [decide_eq_true h5])) ?_
           refine o_step rfl (s_assign rfl) ?_
           refine o_nil ?_
           refine x_then (hK32 _ _ ?_)
           refine c_true rfl ?_
           refine c_drawE ([(b5, .cells (Ein t).toArray 73 (0, 0))]) (fun i => false) ?_
           refine e_take 0 rfl (by kernel_rfl) (by kernel_rfl) (by kernel_rfl) (by kernel_rfl) (fun _ _ => rfl) rfl hzB (s_field rfl rfl (by decide)) ?_
           refine e_take 1 rfl (by kernel_rfl) (by kernel_rfl) (by kernel_rfl) (by kernel_rfl) (fun _ _ => rfl) rfl hzB (s_ld rfl (.own meA rfl)) ?_
           refine e_take 2 rfl (by kernel_rfl) (by kernel_rfl) (by kernel_rfl) (by kernel_rfl) (fun _ _ => rfl) rfl hzB (s_field rfl rfl (by decide)) ?_
           refine e_take 3 rfl (by kernel_rfl) (by kernel_rfl) (by kernel_rfl) (by kernel_rfl) (fun _ _ => rfl) rfl hzB (s_ld rfl (.own meA rfl)) ?_
           refine e_take 4 rfl (by kernel_rfl) (by kernel_rfl) (by kernel_rfl) (by kernel_rfl) (fun _ _ => rfl) rfl hzB (s_field rfl rfl (by decide)) ?_
           refine e_one 5 rfl (by kernel_rfl) ?_
           refine o_store rfl rfl rfl upA ltA rfl ?_
           rw [show (Ein (⟨t.op, 0, 0, 0⟩ : In)).set 5 (.int .i64 t.x) = Ein (⟨t.op, 0, t.x, 0⟩ : In) from rfl]
           refine o_nil ?_
           refine x_oneS hzB ?_
           refine e_take 6 rfl (by kernel_rfl) (by kernel_rfl) (by kernel_rfl) (by kernel_rfl) (fun _ _ => rfl) rfl hzB (s_field rfl rfl (by decide)) ?_
           refine e_one 7 rfl (by kernel_rfl) ?_
           refine o_store rfl rfl rfl upA ltA rfl ?_
           rw [show (Ein (⟨t.op, 0, t.x, 0⟩ : In)).set 6 (.int .i64 t.y) = Ein (⟨t.op, 0, t.x, t.y⟩ : In) from rfl]
           refine o_nil ?_
           refine x_oneS hzB ?_
           refine e_done (by kernel_rfl) ?_
           refine x_block ?_
           rw [show (⟨t.op, 0, t.x, t.y⟩ : In) = wantI t by rw [wantI, if_neg (by omega), if_pos (.inr h5), if_pos h5]]
           exact x_then (hJ14 () _ _ ⟨by omega, fun h => absurd h (by omega)⟩ sbA sbA hzB)
          ·
           refine o_step rfl (step_cast (v' := .bool false) (s_eql rfl rfl) (by rw [decide_eq_false h5])) ?_
           refine o_step rfl (s_assign rfl) ?_
           refine o_nil ?_
           refine x_then (hK32 _ _ ?_)
           refine c_false rfl ?_
           refine c_seq fun _ hK33 => ?_
           refine c_region ?_
           by_cases h6 : t.op = 6
           ·
            refine o_step rfl (step_cast (v' := .bool true) (s_eql rfl rfl) (by rw [decide_eq_true h6])) ?_
            refine o_step rfl (s_assign rfl) ?_
            refine o_nil ?_
            refine x_then (hK33 _ _ ?_)
            refine c_true rfl ?_
            refine c_skip ?_
            refine x_block ?_
            rw [show (⟨t.op, 0, 0, 0⟩ : In) = wantI t by rw [wantI, if_neg (by omega), if_neg (by omega), if_neg (by omega)]]
            exact x_then (hJ14 () _ _ ⟨by omega, fun h => absurd h (by omega)⟩ sbA sbA hzB)
           ·
            refine o_step rfl (step_cast (v' := .bool false) (s_eql rfl rfl) (by rw [decide_eq_false h6])) ?_
            refine o_step rfl (s_assign rfl) ?_
            refine o_nil ?_
            refine x_then (hK33 _ _ ?_)
            refine c_false rfl ?_
            refine c_seq fun _ hK34 => ?_
            refine c_region ?_
            refine o_step rfl (s_assign rfl) ?_
            refine o_nil ?_
            refine x_then (hK34 _ _ ?_)
            refine c_ret ?_
            refine x_block_ret (x_then_ret (x_block_ret (x_then_ret (x_then_ret (x_block_ret (x_then_ret (?_)))))))
            exact x_ret rfl (.tmp rfl (.nil)) ((by first | exact (congrArg Value.bool (mok_len (by omega)).symm) | exact (congrArg Value.bool (mok_last ht (by omega) (by omega)).symm) | exact (congrArg Value.bool (hU.all (by omega) (by omega)).symm) | exact (congrArg Value.bool (mok_in ht (fun h => hne (wantI_of h))).symm) | exact (congrArg Value.bool (mok_in ht (fun h => by have := InOk.bnd h; omega)).symm) | exact (congrArg Value.bool (mok_in ht (fun h => by obtain ⟨h, _⟩ := h; omega)).symm)))
    ·
     obtain rfl : q = m.length := by omega
     refine o_step rfl (step_cast (v' := .bool false) (s_lss rfl rfl) (by rw [decide_eq_false (by omega)])) ?_
     refine o_nil ?_
     refine x_then (hK9 _ _ ?_)
     refine c_seq fun _ hK35 => ?_
     refine c_false rfl ?_
     refine c_exit ?_
     refine x_then_exit ?_
     refine x_then_exit ?_
     refine x_block_exit ?_
     refine x_then (hK7 _ _ ?_)
     refine c_seq fun _ hK36 => ?_
     refine c_region ?_
     refine o_step rfl (s_assign rfl) ?_
     refine o_nil ?_
     refine x_then (hK36 _ _ ?_)
     refine c_ret ?_
     refine ?_
     exact x_ret rfl (.tmp rfl (.nil)) ((by first | exact (congrArg Value.bool (mok_len (by omega)).symm) | exact (congrArg Value.bool (mok_last ht (by omega) (by omega)).symm) | exact (congrArg Value.bool (hU.all (by omega) (by omega)).symm) | exact (congrArg Value.bool (mok_in ht (fun h => hne (wantI_of h))).symm) | exact (congrArg Value.bool (mok_in ht (fun h => by have := InOk.bnd h; omega)).symm) | exact (congrArg Value.bool (mok_in ht (fun h => by obtain ⟨h, _⟩ := h; omega)).symm)))
end Go.Proofs.YtihbhlgognpmmaaDoor

/- Part of the proofs over this seat: see the text that holds the theorem. Conditions: each theorem bears its own. -/
namespace Go.Tab
open Go Go.HL

/-- the first j places of l hold f -/
structure Fill {α : Type} (f : Nat → α) (n j : Nat) (l : List α) : Prop where
  len : l.length = n
  get : ∀ i, i < j → l[i]? = some (f i)
theorem Fill.zero {α : Type} {f : Nat → α} {l : List α} {n : Nat} (h : l.length = n) : Fill f n 0 l := ⟨h, fun _ h => by omega⟩
theorem Fill.step {α : Type} {f : Nat → α} {n j : Nat} {l : List α} (h : Fill f n j l) (hj : j < n) {y : α} (hy : y = f j) : Fill f n (j + 1) (l.set j y) := by
  refine ⟨by simp [h.len], fun i hi => ?_⟩
  subst hy
  by_cases e : j = i
  · subst e; rw [List.getElem?_set_self (by rw [h.len]; exact hj)]
  · rw [List.getElem?_set_ne e]; exact h.get i (by omega)
theorem Fill.done {α : Type} {f : Nat → α} {n j : Nat} {l : List α} (h : Fill f n j l) (hj : n ≤ j) : l = (List.range n).map f := by
  apply List.ext_getElem?
  intro i
  by_cases hi : i < n
  · rw [h.get i (by omega), List.getElem?_map, List.getElem?_range hi]; rfl
  · rw [List.getElem?_eq_none (by rw [h.len]; omega), List.getElem?_eq_none (by simp; omega)]

def idT : List UInt8 := (List.range 256).map UInt8.ofNat
theorem idT_len : idT.length = 256 := by simp [idT]
theorem idT_get {i : Nat} (h : i < 256) : idT[i]? = some (UInt8.ofNat i) := by
  unfold idT
  rw [List.getElem?_map, List.getElem?_range h]; rfl
theorem zlen (n : Nat) : (List.replicate n (0 : UInt8)).length = n := by simp

def at0 (t : List UInt8) (i : Nat) : UInt8 := t.getD i 0
theorem at0_get {t : List UInt8} {i : Nat} (h : i < t.length) : t[i]? = some (at0 t i) := by simp [at0, h]

def thenT (t u : List UInt8) : List UInt8 := (List.range 256).map fun i => at0 u (at0 t i).toNat
theorem thenT_len (t u : List UInt8) : (thenT t u).length = 256 := by simp [thenT]
def applyT (t b : List UInt8) : List UInt8 := (List.range b.length).map fun i => at0 t (at0 b i).toNat
theorem applyT_len (t b : List UInt8) : (applyT t b).length = b.length := by simp [applyT]
theorem applyT_id (b : List UInt8) : applyT idT b = b := by
  apply List.ext_getElem?
  intro i
  by_cases hi : i < b.length
  · unfold applyT
    rw [List.getElem?_map, List.getElem?_range hi, at0_get hi]
    simp only [Option.map_some, Option.some.injEq]
    have h := idT_get (UInt8.toNat_lt (at0 b i))
    unfold at0 at h ⊢
    rw [List.getD_eq_getElem?_getD, h]
    simp
  · rw [List.getElem?_eq_none (by rw [applyT_len]; omega), List.getElem?_eq_none (by omega)]

/-- the table of the first j pairs -/
def newAt (f t : List UInt8) : Nat → Option (List UInt8)
  | 0 => some idT
  | j + 1 => if at0 f j ∈ f.take j then none else (newAt f t j).map (·.set (at0 f j).toNat (at0 t j))
def newR (f t : List UInt8) : Option (List UInt8) := if f.length = t.length then newAt f t f.length else none
theorem newAt_len {f t : List UInt8} : ∀ {j : Nat} {l : List UInt8}, newAt f t j = some l → l.length = 256
  | 0, l, h => by simp only [newAt, Option.some.injEq] at h; subst h; exact idT_len
  | j + 1, l, h => by
    simp only [newAt] at h
    split at h
    · cases h
    · cases hr : newAt f t j with
      | none => simp [hr] at h
      | some m => simp only [hr, Option.map_some, Option.some.injEq] at h; subst h; simp [newAt_len hr]
theorem newAt_none {f t : List UInt8} {j : Nat} (h : at0 f j ∈ f.take j) : ∀ {m : Nat}, j < m → newAt f t m = none
  | 0, hm => by omega
  | m + 1, hm => by
    simp only [newAt]
    by_cases e : j = m
    · subst e; rw [if_pos h]
    · rw [newAt_none h (by omega)]; simp

def zT : List UInt8 := List.replicate 256 0
theorem zT_len : zT.length = 256 := List.length_replicate
/-- what New answers -/
def tabV (r : Option (List UInt8)) : Value := .tuple #[.agg (flat Eb (r.getD zT)).toArray, .int .i64 (if r.isSome then 0 else 60)]

theorem getD_len {r : Option (List UInt8)} (h : ∀ l, r = some l → l.length = 256) : (r.getD zT).length = 256 := by
  cases r with
  | none => exact zT_len
  | some l => exact h l rfl
theorem tab_none {r : Option (List UInt8)} (h : r = none) : resV [.agg (List.replicate 256 (.int .u8 0)).toArray, .int .i64 60] = tabV r := by
  subst h
  show Value.tuple #[_, _] = tabV none
  rw [tabV]
  simp only [Option.getD_none, zT, flatEb_zeros]
  rfl
theorem tab_some {r : Option (List UInt8)} {l : List UInt8} (h : r = some l) : resV [.agg (flat Eb l).toArray, .int .i64 0] = tabV r := by subst h; rfl
theorem newR_some {f t l : List UInt8} {j : Nat} (h : newAt f t j = some l) (hl : f.length = t.length) (hj : f.length ≤ j) (hj' : j ≤ f.length) : newR f t = some l := by
  have : j = f.length := by omega
  subst this
  rw [newR, if_pos hl, h]
theorem newR_none {f t : List UInt8} {j : Nat} (h : at0 f j ∈ f.take j) (hj : j < f.length) : newR f t = none := by
  rw [newR]; split
  · exact newAt_none h hj
  · rfl
theorem seen_step {f : List UInt8} {j : Nat} {sn : List Bool} (hj : j < f.length) (hl : sn.length = 256) (h : ∀ b : UInt8, sn[b.toNat]? = some (decide (b ∈ f.take j))) :
    ∀ b : UInt8, (sn.set (at0 f j).toNat true)[b.toNat]? = some (decide (b ∈ f.take (j + 1))) := by
  intro b
  rw [List.take_add_one, at0_get hj]
  by_cases e : at0 f j = b
  · subst e
    rw [List.getElem?_set_self (by rw [hl]; exact UInt8.toNat_lt _)]
    simp
  · rw [List.getElem?_set_ne (fun h' => e (UInt8.toNat_inj.1 h')), h b]
    congr 1
    rw [Bool.eq_iff_iff]
    simp only [decide_eq_true_eq, List.mem_append, Option.toList_some, List.mem_singleton]
    constructor
    · exact fun h => .inl h
    · rintro (h | h)
      · exact h
      · exact absurd h.symm e
theorem idT_take {j : Nat} (h : j < 256) : idT.take (j + 1) = idT.take j ++ [UInt8.ofNat j] := by
  rw [List.take_add_one, idT_get h]; rfl
theorem idT_all : idT.take 256 = idT := List.take_of_length_le (by rw [idT_len]; omega)
theorem idT_tl {j : Nat} (h : j ≤ 256) : (idT.take j).length = j := by rw [List.length_take, idT_len]; omega
theorem at0_id {j : Nat} (h : j < 256) : (at0 idT j).toNat = j := by
  have h1 := idT_get h
  unfold at0
  rw [List.getD_eq_getElem?_getD, h1, Option.getD_some, UInt8.toNat_ofNat_of_lt' (by simp [UInt8.size]; omega)]
theorem at0_range {f : Nat → UInt8} {n i : Nat} (h : i < n) : at0 ((List.range n).map f) i = f i := by
  unfold at0
  rw [List.getD_eq_getElem?_getD, List.getElem?_map, List.getElem?_range h]; rfl
theorem at0_apply {t b : List UInt8} {i : Nat} (h : i < b.length) : at0 (applyT t b) i = at0 t (at0 b i).toNat := at0_range h
theorem at0_then {t u : List UInt8} {i : Nat} (h : i < 256) : at0 (thenT t u) i = at0 u (at0 t i).toNat := at0_range h
theorem applyT_then (t u b : List UInt8) : applyT (thenT t u) b = applyT u (applyT t b) := by
  unfold applyT
  rw [show ((List.range b.length).map fun i => at0 t (at0 b i).toNat).length = b.length by simp]
  refine List.map_congr_left fun i hi => ?_
  rw [at0_then (UInt8.toNat_lt _), at0_range (by simpa using hi)]
theorem thenT_assoc (t u v : List UInt8) : thenT (thenT t u) v = thenT t (thenT u v) := by
  refine List.map_congr_left fun i hi => ?_
  rw [at0_then (by simpa using hi), at0_then (UInt8.toNat_lt _)]
def xyT : List UInt8 := (idT.set 97 120).set 98 121
theorem xyT_len : xyT.length = 256 := by rw [xyT, List.length_set, List.length_set, idT_len]
theorem lv1 : newR [97, 98] [120, 121] = some xyT := rfl
theorem lv2 : newR [97, 97] [120, 121] = none := rfl
theorem lv3 : applyT xyT [97, 98, 99, 97, 98] = [120, 121, 99, 120, 121] := by decide +kernel
theorem fill_id {j : Nat} {l : List UInt8} (h : Fill UInt8.ofNat 256 j l) (hj : 256 ≤ j) : l = idT := h.done hj
theorem fill_then {t u : List UInt8} {j : Nat} {l : List UInt8} (h : Fill (fun i => at0 u (at0 t i).toNat) 256 j l) (hj : 256 ≤ j) : l = thenT t u := h.done hj
theorem fill_apply {t xs : List UInt8} {j : Nat} {l : List UInt8} (h : Fill (fun i => at0 t (at0 xs i).toNat) xs.length j l) (hj : xs.length ≤ j) : l = applyT t xs := h.done hj
attribute [irreducible] idT thenT applyT xyT
end Go.Tab

/- Lists with room behind them, of any kind. Conditions: none. -/
namespace Go.HL
open Go Go.Tab
section
variable {α : Type}
def wdlF (d : Nat → α) (xs : List α) (i : Nat) : α := (xs[i]?).getD (d i)
def wdl (d : Nat → α) (xs : List α) : List α := (List.range (xs.length + 64)).map (wdlF d xs)
theorem wdl_len (d : Nat → α) (xs : List α) : (wdl d xs).length = xs.length + 64 := by simp [wdl]
theorem wdl_at {d : Nat → α} {xs : List α} {i : Nat} (h : i < xs.length + 64) : (wdl d xs)[i]? = some (wdlF d xs i) := by
  unfold wdl
  rw [List.getElem?_map, List.getElem?_range h]; rfl
theorem wdl_in {d : Nat → α} {xs : List α} {i : Nat} {x : α} (h : xs[i]? = some x) : x = wdlF d xs i := by rw [wdlF, h]; rfl
theorem wdl_out {d : Nat → α} {xs : List α} {i : Nat} (h : ¬ i < xs.length) : d i = wdlF d xs i := by rw [wdlF, List.getElem?_eq_none (by omega)]; rfl
theorem wdl_spare {d : Nat → α} {xs : List α} {i : Nat} (h1 : ¬ i < xs.length) (h2 : i < xs.length + 64) : (wdl d xs)[i]? = some (d i) := by rw [wdl_at h2, wdl_out (d := d) h1]
theorem wdl_take (d : Nat → α) (xs : List α) : (wdl d xs).take xs.length = xs := by
  apply List.ext_getElem?
  intro i
  by_cases hi : i < xs.length
  · rw [List.getElem?_take, if_pos hi, wdl_at (by omega), ← wdl_in (List.getElem?_eq_getElem hi), List.getElem?_eq_getElem hi]
  · rw [List.getElem?_eq_none (by rw [List.length_take]; omega), List.getElem?_eq_none (by omega)]
theorem fill_wdl {d : Nat → α} {xs : List α} {j : Nat} {l : List α} (h : Fill (wdlF d xs) (xs.length + 64) j l) (hj : xs.length + 64 ≤ j) : l = wdl d xs := h.done hj
theorem ext_upto {a b : List α} (hl : a.length = b.length) (h : ∀ i, i < a.length → a[i]? = b[i]?) : a = b := by
  apply List.ext_getElem?
  intro i
  by_cases hi : i < a.length
  · exact h i hi
  · rw [List.getElem?_eq_none (by omega), List.getElem?_eq_none (by omega)]
theorem Rd.pref {α : Type} {E : α → List Value} {k : Nat} [he : Enc E k] {w : World} {a : Option Addr} {c : Nat} {xs : List α} (h : Rd E w (.slice a xs.length c) xs) (m : Nat) : Rd E w (.slice a (xs.take m).length c) (xs.take m) := by
  obtain ⟨⟨a', c', hv, hn, h0, hsp⟩, hle⟩ := h.sl
  simp only [Value.slice.injEq] at hv
  obtain ⟨rfl, _, rfl⟩ := hv
  have hlen : (xs.take m).length ≤ xs.length := by simp; omega
  refine ⟨⟨⟨_, _, rfl, by omega, h0, fun A hA hz => hsp A hA (by omega)⟩, by omega⟩, fun j u hu => ?_⟩
  refine h.get j u ?_
  rw [← List.take_append_drop m xs, flat_append, List.getElem?_append_left (List.getElem?_eq_some_iff.1 hu).1]
  exact hu
attribute [irreducible] wdl wdlF
end
theorem c_knw {P : Program} {κ : Cx} {Q : Pst} {c : Code} {L : HL.Loc} {H : Hp} {p : Prop} (h : ∀ w, St κ.w0 w κ.M H → p) (k : p → C P κ Q c L H) : C P κ Q c L H :=
  ⟨fun ro a w hr ok => (k (h w ok.st)).out ro a w hr ok⟩
end Go.HL

/- Spare instructions; the node of one byte. Conditions: none. -/
namespace Go.HL.Kl.Mc
open Go Go.HL Go.HL.Kl
def spI (i : Nat) : In := ⟨0, 0, ((1048576 * 9 + i + 1 : Nat) : Int), -7⟩
/-- the node of one byte -/
def letN (b : UInt8) : Nd := ⟨1, bit b.toNat, 0, 0, 0, 0⟩
theorem En_one : En ⟨1, 0, 0, 0, 0, 0⟩ = [.int .i8 1, .int .u64 0, .int .u64 0, .int .u64 0, .int .u64 0, .int .i64 0, .int .i64 0, .int .i64 0, .int .i64 0] := by
  show _ :: (Ec 0#256 ++ _) = _
  rw [Ec_zero]; rfl
theorem letN_set (b : UInt8) : (En (⟨1, 0, 0, 0, 0, 0⟩ : Nd)).set (0 + 1 + (((b.toNat / 64 : Nat) : Int)).toNat * 1) (Ew (1#64 <<< (b.toNat % 64))) = En (letN b) := by
  have hb := b.toNat_lt
  have h := with_eq (0#256) (x := b.toNat) hb
  have h0 : ∀ i, wd 0#256 i = 0#64 := fun i => by simp [wd]
  rw [h0, BitVec.zero_or, BitVec.zero_or] at h
  show (_ :: (Ec 0#256 ++ _)).set _ _ = _ :: (Ec (bit b.toNat) ++ _)
  rw [← h, ← Ec_set _ _ (by omega), Int.toNat_natCast, show 0 + 1 + b.toNat / 64 * 1 = b.toNat / 64 + 1 by omega, List.set_cons_succ, List.set_append_left _ _ (by show b.toNat / 64 < 4; omega)]; rfl
end Go.HL.Kl.Mc

/- Part of the proofs over this seat: see the text that holds the theorem. Conditions: each theorem bears its own. -/
namespace Go.Proofs.YtihbhlgognpmmaaDoor
open Go Go.HL Go.Proofs Go.HL.Kl Go.HL.Kl.Mc
theorem num_fn (k i : Nat) (hk : k ≤ 1000) (hi : i ≤ 4294967296) : HL.Fn Tryd.prog 21 [.int .i64 k, .int .i64 i] (fun _ => True) [] (fun v _ => v = .int .i64 ((1048576 * k + i + 1 : Nat) : Int)) := by
  refine fn_of Tryd.func21 rfl rfl rfl fun w0 hw => ?_
  refine c_seq fun _ hK1 => ?_
  refine c_region ?_
  refine o_step rfl (s_assign rfl) ?_
  refine o_nil ?_
  refine x_then (hK1 _ _ ?_)
  refine c_seq fun _ hK2 => ?_
  refine c_region ?_
  refine o_step rfl (s_move rfl) ?_
  refine o_step rfl (s_mul rfl rfl (by omega)) ?_
  refine o_step rfl (s_move rfl) ?_
  refine o_step rfl (s_add rfl rfl (by omega)) ?_
  refine o_step rfl (s_add rfl rfl (by omega)) ?_
  refine o_step rfl (s_assign rfl) ?_
  refine o_nil ?_
  refine x_then (hK2 _ _ ?_)
  refine c_ret ?_
  refine ?_
  exact x_ret rfl (.tmp rfl (.nil)) ((congrArg (Value.int .i64) (by omega)))

theorem long_fn (n : Int) : HL.Fn Tryd.prog 5 [.int .i64 n] (fun _ => True) [] (fun v _ => v = .bool (decide (n > 2147483647))) := by
  refine fn_of Tryd.func5 rfl rfl rfl fun w0 hw => ?_
  refine c_seq fun _ hK1 => ?_
  refine c_region ?_
  refine o_step rfl (s_assign rfl) ?_
  refine o_nil ?_
  refine x_then (hK1 _ _ ?_)
  refine c_seq fun _ hK2 => ?_
  refine c_region ?_
  refine o_step rfl (s_move rfl) ?_
  refine o_step rfl (s_gtr rfl rfl) ?_
  refine o_step rfl (s_assign rfl) ?_
  refine o_nil ?_
  refine x_then (hK2 _ _ ?_)
  refine c_ret ?_
  refine ?_
  exact x_ret rfl (.tmp rfl (.nil)) (rfl)

theorem eqIn_fn (a a2 : Option Addr) (c c2 : Nat) (xs ys : List In) : HL.Fn Tryd.prog 10 [.slice a xs.length c, .slice a2 ys.length c2] (fun w => Rd Ein w (.slice a xs.length c) xs ∧ Rd Ein w (.slice a2 ys.length c2) ys) [] (fun v _ => v = .bool (decide (xs = ys))) := by
  refine fn_of Tryd.func10 rfl rfl rfl fun w0 hw => ?_
  obtain ⟨hx, hy⟩ := hw
  have hsx := hx.sl
  have hsy := hy.sl
  have hbx := hsx.le
  have hby := hsy.le
  refine c_seq fun _ hK1 => ?_
  refine c_region ?_
  refine o_step rfl (s_assign rfl) ?_
  refine o_nil ?_
  refine x_then (hK1 _ _ ?_)
  refine c_seq fun _ hK2 => ?_
  refine c_seq fun _ hK3 => ?_
  refine c_region ?_
  refine o_step rfl (s_move rfl) ?_
  refine o_step rfl (s_len rfl) ?_
  refine o_step rfl (s_move rfl) ?_
  refine o_step rfl (s_len rfl) ?_
  refine o_step rfl (s_neq rfl rfl) ?_
  refine o_nil ?_
  refine x_then (hK3 _ _ ?_)
  refine c_if rfl (fun hl => ?_) (fun hl => ?_)
  ·
   refine c_seq fun _ hK4 => ?_
   refine c_region ?_
   refine o_step rfl (s_assign rfl) ?_
   refine o_nil ?_
   refine x_then (hK4 _ _ ?_)
   refine c_ret ?_
   refine x_then_ret (?_)
   exact x_ret rfl (.tmp rfl (.nil)) ((congrArg Value.bool (decide_eq_false (by intro e; subst e; omega)).symm))
  ·
   refine c_skip ?_
   refine x_then (hK2 _ _ ?_)
   refine c_seq fun _ hK5 => ?_
   refine c_seq fun _ hK6 => ?_
   refine c_region ?_
   refine o_step rfl (s_assign rfl) ?_
   refine o_nil ?_
   refine x_then (hK6 _ _ ?_)
   refine c_block ?_
   -- not carried: 4
   refine c_loopB (fun (j : Nat) => j ≤ xs.length ∧ ∀ i, i < j → xs[i]? = ys[i]?) (fun (j : Nat) => [(5, .int .i64 j)]) [(0, _), (1, _)] (fun (j : Nat) => _) (fun (j : Nat) => xs.length - j) 0 ⟨by omega, fun i hi => by omega⟩ sbA sbA hzB ?_
   rintro j ⟨hj, hjt⟩
   refine c_seq fun _ hK7 => ?_
   refine c_seq fun _ hK8 => ?_
   refine c_region ?_
   refine o_step rfl (s_move rfl) ?_
   refine o_step rfl (s_move rfl) ?_
   refine o_step rfl (s_len rfl) ?_
   refine o_step rfl (s_lss rfl rfl) ?_
   refine o_nil ?_
   refine x_then (hK8 _ _ ?_)
   refine c_if rfl (fun hlt => ?_) (fun hlt => ?_)
   ·
    obtain ⟨x, hxj⟩ : ∃ x, xs[j]? = some x := ⟨_, List.getElem?_eq_getElem (by omega)⟩
    obtain ⟨y, hyj⟩ : ∃ y, ys[j]? = some y := ⟨_, List.getElem?_eq_getElem (by omega)⟩
    refine c_skip ?_
    refine x_then (hK7 _ _ ?_)
    refine c_seq fun _ hK9 => ?_
    refine c_block ?_
    refine c_seq fun _ hK10 => ?_
    refine c_drawE ([]) (fun i => false) ?_
    refine e_take 0 rfl (by kernel_rfl) (by kernel_rfl) (by kernel_rfl) (by kernel_rfl) (fun _ _ => rfl) rfl (by exact HSub.nil) (s_move rfl) ?_
    refine e_take 1 rfl (by kernel_rfl) (by kernel_rfl) (by kernel_rfl) (by kernel_rfl) (fun _ _ => rfl) rfl (by exact HSub.nil) (s_move rfl) ?_
    refine e_take 2 rfl (by kernel_rfl) (by kernel_rfl) (by kernel_rfl) (by kernel_rfl) (fun _ _ => rfl) rfl (by exact HSub.nil) (s_idx rfl rfl hsx (by omega)) ?_
    refine e_take 3 rfl (by kernel_rfl) (by kernel_rfl) (by kernel_rfl) (by kernel_rfl) (fun _ _ => rfl) rfl (by exact HSub.nil) (s_ldB rfl ((RdK.old0 hx).lds j hxj (by omega)) (by rfl)) ?_
    refine e_take 4 rfl (by kernel_rfl) (by kernel_rfl) (by kernel_rfl) (by kernel_rfl) (fun _ _ => rfl) rfl (by exact HSub.nil) (s_move rfl) ?_
    refine e_take 5 rfl (by kernel_rfl) (by kernel_rfl) (by kernel_rfl) (by kernel_rfl) (fun _ _ => rfl) rfl (by exact HSub.nil) (s_move rfl) ?_
    refine e_take 6 rfl (by kernel_rfl) (by kernel_rfl) (by kernel_rfl) (by kernel_rfl) (fun _ _ => rfl) rfl (by exact HSub.nil) (s_idx rfl rfl hsy (by omega)) ?_
    refine e_take 7 rfl (by kernel_rfl) (by kernel_rfl) (by kernel_rfl) (by kernel_rfl) (fun _ _ => rfl) rfl (by exact HSub.nil) (s_ldB rfl ((RdK.old0 hy).lds j hyj (by omega)) (by rfl)) ?_
    refine e_take 8 rfl (by kernel_rfl) (by kernel_rfl) (by kernel_rfl) (by kernel_rfl) (fun _ _ => rfl) rfl (by exact HSub.nil) (s_neq_in rfl rfl) ?_
    refine e_done (by kernel_rfl) ?_
    refine x_then (hK10 _ _ ?_)
    refine c_ifn rfl (fun hne => ?_) (fun hne => ?_)
    ·
     refine c_seq fun _ hK11 => ?_
     refine c_region ?_
     refine o_step rfl (s_assign rfl) ?_
     refine o_nil ?_
     refine x_then (hK11 _ _ ?_)
     refine c_ret ?_
     refine x_block_ret (x_then_ret (x_then_ret (x_block_ret (x_then_ret (?_)))))
     exact x_ret rfl (.tmp rfl (.nil)) ((congrArg Value.bool (decide_eq_false (by intro e; subst e; rw [hxj] at hyj; cases hyj; exact hne rfl)).symm))
    ·
     refine c_skip ?_
     refine x_block ?_
     refine x_then (hK9 _ _ ?_)
     refine c_region ?_
     refine o_step rfl (s_move rfl) ?_
     refine o_step rfl (s_add rfl rfl (by omega)) ?_
     refine o_step rfl (s_assign rfl) ?_
     refine o_nil ?_
     exact x_then (x_inv (j + 1) ⟨by omega, fun i hi => by rcases Nat.lt_or_ge i j with h | h; exact hjt i h; rw [show i = j by omega, hxj, hyj, hne]⟩ (by first | omega | (dsimp only; omega)) sbA hzB)
   ·
    refine c_exit ?_
    refine x_then_exit ?_
    refine x_then_exit ?_
    refine x_block_exit ?_
    refine x_then (hK5 _ _ ?_)
    refine c_seq fun _ hK12 => ?_
    refine c_region ?_
    refine o_step rfl (s_assign rfl) ?_
    refine o_nil ?_
    refine x_then (hK12 _ _ ?_)
    refine c_ret ?_
    refine ?_
    exact x_ret rfl (.tmp rfl (.nil)) ((congrArg Value.bool (decide_eq_true (ext_upto (by omega) fun i hi => hjt i (by omega))).symm))

theorem letter_fn (b : UInt8) : HL.Fn Tryd.prog 19 [.int .u8 b.toNat] (fun _ => True) [] (fun v _ => v = .agg (En (letN b)).toArray) := by
  refine fn_of Tryd.func19 rfl rfl rfl fun w0 hw => ?_
  have hx := b.toNat_lt
  refine c_seq fun _ hK1 => ?_
  refine c_region ?_
  refine o_alloc (l := En zN) (by rw [En_zero]; rfl) rfl fun b2 => ?_
  refine o_nil ?_
  refine x_then (hK1 _ _ ?_)
  refine c_seq fun _ hK2 => ?_
  refine c_region ?_
  refine o_step rfl (step_cast (v' := .agg (En (⟨1, 0, 0, 0, 0, 0⟩ : Nd)).toArray) (s_build (cs := [_, _, _, _, _, _, _, _, _]) (vs := [_]) rfl rfl (.cons rfl rfl rfl rfl rfl .nil)) (by rw [En_one])) ?_
  refine o_alloc (l := En zN) (by rw [En_zero]; rfl) rfl fun b3 => ?_
  refine o_stW rfl rfl upA lnA lnA onA ?_
  refine o_nil ?_
  refine x_then (hK2 _ _ ?_)
  refine c_seq fun _ hK3 => ?_
  refine c_region ?_
  refine o_step rfl (s_move rfl) ?_
  refine o_step rfl (step_cast (v' := .int .u8 ((b.toNat / 64 : Nat) : Int)) (s_quo rfl rfl (by decide)) (congrArg _ (quo64 hx))) ?_
  refine o_step rfl (s_move rfl) ?_
  refine o_step rfl (step_cast (v' := .int .u8 ((b.toNat % 64 : Nat) : Int)) (s_rem rfl rfl (by decide)) (congrArg _ (rem64 hx))) ?_
  refine o_step rfl (step_cast (v' := Ew (1#64 <<< (b.toNat % 64))) (s_shl rfl rfl (by omega)) (v_shl1 (by omega))) ?_
  refine o_step rfl (s_field rfl rfl (by decide)) ?_
  refine o_step rfl (s_indexA rfl rfl (by omega)) ?_
  refine o_store rfl rfl rfl upA (by show _ < 9; omega) rfl ?_
  rw [letN_set b]
  refine o_nil ?_
  refine x_then (hK3 _ _ ?_)
  refine c_seq fun _ hK4 => ?_
  refine c_region ?_
  refine o_step rfl (s_ldB rfl (RdPK.cels (.own meA)) lnA) ?_
  refine o_stW rfl rfl upA lnA lnA onA ?_
  refine o_nil ?_
  refine x_then (hK4 _ _ ?_)
  refine c_ret ?_
  refine ?_
  exact x_ret rfl (.agg inferInstance inferInstance rfl (RdPK.cels (.own meA)) lnA (.nil)) (rfl)
end Go.Proofs.YtihbhlgognpmmaaDoor

/- Where runs lead at a place: the search. Conditions: none. -/
namespace Go.HL.Kl.Mc
open Go Go.HL Go.HL.Kl
/-- where one step without a byte leads -/
def succs (t : In) (n p i : Nat) : List Nat :=
  if t.op = 2 then (if p = 0 then [i + 1] else []) else if t.op = 3 then (if p = n then [i + 1] else [])
  else if t.op = 4 then [t.x.toNat] else if t.op = 5 then [t.x.toNat, t.y.toNat] else []
theorem eps_succs {m : List In} {n p i j : Nat} {t : In} (hm : MOk m) (ht : m[i]? = some t) : Eps m n p i j ↔ j ∈ succs t n p i := by
  have hb := (hm.2.2 i t ht).1.bnd
  unfold Eps succs
  constructor
  · rintro ⟨u, hu, h⟩
    rw [ht] at hu; cases hu
    rcases h with ⟨ho, h1, h2⟩ | ⟨ho, h1, h2⟩ | ⟨ho, h1⟩ | ⟨ho, h1 | h1⟩
    · rw [if_pos ho, if_pos h1, h2]; simp
    · rw [if_neg (by omega), if_pos ho, if_pos h1, h2]; simp
    · rw [if_neg (by omega), if_neg (by omega), if_pos ho, h1]; simp
    · rw [if_neg (by omega), if_neg (by omega), if_neg (by omega), if_pos ho, h1]; simp
    · rw [if_neg (by omega), if_neg (by omega), if_neg (by omega), if_pos ho, h1]; simp
  · intro h
    refine ⟨t, ht, ?_⟩
    split at h
    · split at h
      · simp at h; exact .inl ⟨‹_›, ‹_›, h⟩
      · cases h
    split at h
    · split at h
      · simp at h; exact .inr (.inl ⟨‹_›, ‹_›, h⟩)
      · cases h
    split at h
    · simp at h; exact .inr (.inr (.inl ⟨‹_›, by omega⟩))
    split at h
    · simp at h
      rcases h with h | h
      · exact .inr (.inr (.inr ⟨‹_›, .inl (by omega)⟩))
      · exact .inr (.inr (.inr ⟨‹_›, .inr (by omega)⟩))
    · cases h
/-- the search so far -/
structure Srch (m : List In) (n p from_ : Nat) (s0 sn : List Bool) (todo : List Nat) : Prop where
  len : sn.length = m.length
  a : ∀ i : Nat, s0[i]? = some true → sn[i]? = some true
  b : ∀ i : Nat, sn[i]? = some true → s0[i]? = some true ∨ EpsS m n p from_ i
  c : ∀ t ∈ todo, EpsS m n p from_ t ∧ t < m.length
  d : ∀ i j : Nat, sn[i]? = some true → Eps m n p i j → sn[j]? = some true ∨ j ∈ todo
  e : sn[from_]? = some true ∨ from_ ∈ todo
theorem Srch.start {m : List In} {n p f : Nat} {s0 : List Bool} (hl : s0.length = m.length) (hf : f < m.length) (hc : ∀ i j : Nat, s0[i]? = some true → Eps m n p i j → s0[j]? = some true) : Srch m n p f s0 s0 [f] :=
  ⟨hl, fun _ h => h, fun _ h => .inl h, fun t h => by obtain rfl := List.mem_singleton.1 h; exact ⟨.refl, hf⟩, fun i j h1 h2 => .inl (hc i j h1 h2), .inr (by simp)⟩
theorem Srch.pop {m : List In} {n p f : Nat} {s0 sn : List Bool} {todo : List Nat} {t : Nat} (h : Srch m n p f s0 sn (todo ++ [t])) (ht : sn[t]? = some true) : Srch m n p f s0 sn todo := by
  refine ⟨h.len, h.a, h.b, fun u hu => h.c u (List.mem_append_left _ hu), fun i j h1 h2 => ?_, ?_⟩
  · rcases h.d i j h1 h2 with h3 | h3
    · exact .inl h3
    · rcases List.mem_append.1 h3 with h3 | h3
      · exact .inr h3
      · obtain rfl := List.mem_singleton.1 h3; exact .inl ht
  · rcases h.e with h3 | h3
    · exact .inl h3
    · rcases List.mem_append.1 h3 with h3 | h3
      · exact .inr h3
      · obtain rfl := List.mem_singleton.1 h3; exact .inl ht
theorem Srch.go {m : List In} {n p f : Nat} {s0 sn : List Bool} {todo : List Nat} {t : Nat} {u : In} (hm : MOk m) (h : Srch m n p f s0 sn (todo ++ [t])) (hu : m[t]? = some u) : Srch m n p f s0 (sn.set t true) (todo ++ succs u n p t) := by
  have htl : t < sn.length := by rw [h.len]; exact (List.getElem?_eq_some_iff.1 hu).1
  have ht := (h.c t (by simp)).1
  have key : ∀ i : Nat, (sn.set t true)[i]? = some true ↔ i = t ∨ sn[i]? = some true := by
    intro i
    by_cases e : t = i
    · subst e; rw [List.getElem?_set_self htl]; simp
    · rw [List.getElem?_set_ne e]; constructor
      · exact .inr
      · rintro (e' | h'); exact absurd e'.symm e; exact h'
  refine ⟨by rw [List.length_set]; exact h.len, fun i hi => (key i).2 (.inr (h.a i hi)), fun i hi => ?_, fun w hw => ?_, fun i j hi hij => ?_, ?_⟩
  · rcases (key i).1 hi with rfl | hi
    · exact .inr ht
    · exact h.b i hi
  · rcases List.mem_append.1 hw with hw | hw
    · exact h.c w (List.mem_append_left _ hw)
    · have := (eps_succs (n := n) (p := p) hm hu).2 hw
      exact ⟨ht.tail this, hm.lt this⟩
  · rcases (key i).1 hi with rfl | hi
    · exact .inr (List.mem_append_right _ ((eps_succs hm hu).1 hij))
    · rcases h.d i j hi hij with h3 | h3
      · exact .inl ((key j).2 (.inr h3))
      · rcases List.mem_append.1 h3 with h3 | h3
        · exact .inr (List.mem_append_left _ h3)
        · obtain rfl := List.mem_singleton.1 h3; exact .inl ((key j).2 (.inl rfl))
  · rcases h.e with h3 | h3
    · exact .inl ((key _).2 (.inr h3))
    · rcases List.mem_append.1 h3 with h3 | h3
      · exact .inr (List.mem_append_left _ h3)
      · have := List.mem_singleton.1 h3; exact .inl ((key _).2 (.inl this))
theorem Srch.done {m : List In} {n p f : Nat} {s0 sn : List Bool} (h : Srch m n p f s0 sn []) : (∀ i : Nat, sn[i]? = some true ↔ s0[i]? = some true ∨ EpsS m n p f i) ∧ ∀ i j : Nat, sn[i]? = some true → Eps m n p i j → sn[j]? = some true := by
  have hcl : ∀ i j : Nat, sn[i]? = some true → Eps m n p i j → sn[j]? = some true := fun i j h1 h2 => (h.d i j h1 h2).resolve_right (by simp)
  have hall : ∀ i j : Nat, EpsS m n p i j → sn[i]? = some true → sn[j]? = some true := by
    intro i j he
    induction he with
    | refl => exact id
    | head e _ ih => exact fun hi => ih (hcl _ _ hi e)
  exact ⟨fun i => ⟨h.b i, fun hi => hi.elim (h.a i) fun he => hall _ _ he (h.e.resolve_right (by simp))⟩, hcl⟩
theorem last_split {l : List Nat} (h : 0 < l.length) : ∃ tl t, l = tl ++ [t] := ⟨l.dropLast, l.getLast (List.ne_nil_of_length_pos h), (List.dropLast_concat_getLast _).symm⟩
/-- how many are not yet seen -/
def unseen (l : List Bool) : Nat := l.countP (!·)
theorem unseen_set : ∀ (l : List Bool) (t : Nat), l[t]? = some false → unseen (l.set t true) + 1 = unseen l
  | [], t, h => by simp at h
  | b :: l, 0, h => by
    simp at h; subst h
    simp [unseen, List.countP_cons]
  | b :: l, t + 1, h => by
    have := unseen_set l t (by simpa using h)
    simp only [unseen, List.set_cons_succ, List.countP_cons] at this ⊢
    omega
theorem unseen_le (l : List Bool) : unseen l ≤ l.length := List.countP_le_length
theorem succs_len (t : In) (n p i : Nat) : (succs t n p i).length ≤ 2 := by
  unfold succs
  repeat' split
  all_goals simp
end Go.HL.Kl.Mc

/- Where runs lead, place by place. Conditions: none. -/
namespace Go.HL.Kl.Mc
open Go Go.HL Go.HL.Kl
/-- the steps of the machine at which a place is begun -/
def Begn (m : List In) (w : List UInt8) (f p j : Nat) : Prop := (p = f ∧ j = 0) ∨ (f < p ∧ ∃ i, j = i + 1 ∧ Run m w (0, f) (i, p - 1) ∧ Eat m w i (p - 1))
theorem run_start {m : List In} {w : List UInt8} {f p i : Nat} (hf : f ≤ p) : Run m w (0, f) (i, p) ↔ ∃ j, Begn m w f p j ∧ EpsS m w.length p j i := by
  constructor
  · intro h
    rcases Nat.eq_or_lt_of_le hf with he | hl
    · subst he
      exact ⟨0, .inl ⟨rfl, rfl⟩, run_base.1 h⟩
    · obtain ⟨q, rfl⟩ : ∃ q, p = q + 1 := ⟨p - 1, by omega⟩
      obtain ⟨j, h1, h2, h3⟩ := (run_succ (by omega)).1 h
      exact ⟨j + 1, .inr ⟨hl, j, rfl, h1, h2⟩, h3⟩
  · rintro ⟨j, h | h, h2⟩
    · obtain ⟨rfl, rfl⟩ := h
      exact run_base.2 h2
    · obtain ⟨hl, k, rfl, h3, h4⟩ := h
      obtain ⟨q, rfl⟩ : ∃ q, p = q + 1 := ⟨p - 1, by omega⟩
      exact (run_succ (by omega)).2 ⟨k, h3, h4, h2⟩
theorem start_none {m : List In} {w : List UInt8} {f p : Nat} (hf : f ≤ p) (h : ∀ j, ¬ Begn m w f p j) : ∀ (k i : Nat), ¬ Run m w (0, f) (i, p + k) := by
  intro k
  induction k with
  | zero =>
    intro i h1
    obtain ⟨j, h2, _⟩ := (run_start hf).1 h1
    exact h j h2
  | succ k ih =>
    intro i h1
    obtain ⟨j, h2, _⟩ := (run_start (p := p + (k + 1)) (by omega)).1 h1
    rcases h2 with h2 | ⟨_, i', _, h3, _⟩
    · omega
    · exact ih i' (by rwa [show p + (k + 1) - 1 = p + k by omega] at h3)
theorem start_lt {m : List In} {w : List UInt8} {f p j : Nat} (hM : MOk m) (h : Begn m w f p j) : j < m.length := by
  rcases h with ⟨_, rfl⟩ | ⟨_, i, rfl, _, t, b, ht, ho, _⟩
  · exact hM.1
  · exact (hM.2.2 i t ht).2 (by omega)
theorem begn_start {m : List In} {w : List UInt8} {g : Nat} : ∀ j, j ∈ [0] ↔ Begn m w g g j := fun j => by
  rw [List.mem_singleton]
  exact ⟨fun h => .inl ⟨rfl, h⟩, fun h => h.elim (·.2) fun h => by have := h.1; omega⟩
theorem begn_nil {m : List In} {w : List UInt8} {g p : Nat} {q : List Nat} (hq : ∀ j, j ∈ q ↔ Begn m w g p j) (h : ¬ ((q.length : Int) > 0)) : ∀ j, ¬ Begn m w g p j := fun j hj => by
  have := (hq j).2 hj
  rw [List.eq_nil_of_length_eq_zero (l := q) (by omega)] at this
  cases this
end Go.HL.Kl.Mc
