/- Part of the proofs over this seat: see the text that holds the theorem. Conditions: each theorem bears its own. -/
import Derived.Test.YtihbhlgognpmmaaNW9Z
namespace Go.Proofs.Ytihbhlgognpmmaa
open Go Go.HL Go.Proofs Go.HL.Kl Go.HL.Kl.Mc
theorem place_fn (x : Int) (b1 : Nat) (ra : Option Addr) (rc : Nat) (m : List In) : HL.Fn Try.prog 43 [.int .i64 x, .pointer (some ⟨b1, 0, none⟩)] (fun w => RdP w b1 0 [.slice ra m.length rc]) [] (fun v _ => v = .bool (decide (0 ≤ x ∧ x < m.length))) := by
  refine fn_of Try.func43 rfl rfl rfl fun w0 hw => ?_
  refine c_seq fun _ hK1 => ?_
  refine c_region ?_
  refine o_step rfl (s_assign rfl) ?_
  refine o_nil ?_
  refine x_then (hK1 _ _ ?_)
  refine c_seq fun _ hK2 => ?_
  refine c_region ?_
  refine o_step rfl (s_move rfl) ?_
  by_cases h0 : x ≥ 0
  ·
   refine o_step rfl (step_cast (v' := .bool true) (s_geq rfl rfl) (by rw [decide_eq_true (by omega)])) ?_
   refine o_step rfl (s_move rfl) ?_
   refine o_yes rfl rfl ?_
   refine o_step rfl (s_move rfl) ?_
   refine o_yes rfl rfl ?_
   refine o_step rfl (s_ld rfl ((RdPK.old0 hw).cel (j := 0) rfl rfl)) ?_
   refine o_yes rfl rfl ?_
   refine o_step rfl (s_len rfl) ?_
   refine o_yes rfl rfl ?_
   by_cases h1 : x < m.length
   ·
    refine o_step rfl (step_cast (v' := .bool true) (s_lss rfl rfl) (by rw [decide_eq_true (by omega)])) ?_
    refine o_step rfl (s_pick_t rfl rfl) ?_
    refine o_step rfl (s_assign rfl) ?_
    refine o_nil ?_
    refine x_then (hK2 _ _ ?_)
    refine c_ret ?_
    refine ?_
    exact x_ret rfl (.tmp rfl (.nil)) ((congrArg Value.bool (decide_eq_true (by omega)).symm))
   ·
    refine o_step rfl (step_cast (v' := .bool false) (s_lss rfl rfl) (by rw [decide_eq_false (by omega)])) ?_
    refine o_step rfl (s_pick_t rfl rfl) ?_
    refine o_step rfl (s_assign rfl) ?_
    refine o_nil ?_
    refine x_then (hK2 _ _ ?_)
    refine c_ret ?_
    refine ?_
    exact x_ret rfl (.tmp rfl (.nil)) ((congrArg Value.bool (decide_eq_false (by omega)).symm))
  ·
   refine o_step rfl (step_cast (v' := .bool false) (s_geq rfl rfl) (by rw [decide_eq_false (by omega)])) ?_
   refine o_step rfl (s_move rfl) ?_
   refine o_no rfl rfl rfl rfl ?_
   refine o_no rfl rfl rfl rfl ?_
   refine o_no rfl rfl rfl rfl ?_
   refine o_no rfl rfl rfl rfl ?_
   refine o_step rfl (s_pick_f rfl rfl) ?_
   refine o_step rfl (s_assign rfl) ?_
   refine o_nil ?_
   refine x_then (hK2 _ _ ?_)
   refine c_ret ?_
   refine ?_
   exact x_ret rfl (.tmp rfl (.nil)) ((congrArg Value.bool (decide_eq_false (by omega)).symm))

set_option maxHeartbeats 2000000 in
theorem mShaped_fn (ra : Option Addr) (rc : Nat) (m : List In)  : HL.Fn Try.prog 19 [.slice ra m.length rc] (fun w => Rd Ein w (.slice ra m.length rc) m) [] (fun v _ => v = .bool (mokB m)) := by
  refine fn_of Try.func19 rfl rfl rfl fun w0 hw => ?_
  have hsl := hw.sl
  have hbl := hsl.le
  refine c_seq fun _ hK1 => ?_
  refine c_region ?_
  refine o_box rfl rfl rfl fun b1 => ?_
  refine o_step rfl (s_assign rfl) ?_
  refine o_nil ?_
  refine x_then (hK1 _ _ ?_)
  refine c_seq fun _ hK2 => ?_
  refine c_seq fun _ hK3 => ?_
  refine c_region ?_
  refine o_step rfl (s_ld rfl (.own meA rfl)) ?_
  refine o_step rfl (s_len rfl) ?_
  by_cases hl1 : m.length = 0
  ·
   refine o_step rfl (step_cast (v' := .bool true) (s_eql rfl rfl) (by rw [decide_eq_true (by omega)])) ?_
   refine o_step rfl (s_move rfl) ?_
   refine o_no rfl rfl rfl rfl ?_
   refine o_no rfl rfl rfl rfl ?_
   refine o_no rfl rfl rfl rfl ?_
   refine o_step rfl (s_pick_t rfl rfl) ?_
   refine o_nil ?_
   refine x_then (hK3 _ _ ?_)
   refine c_true rfl ?_
   refine c_seq fun _ hK4 => ?_
   refine c_region ?_
   refine o_step rfl (s_assign rfl) ?_
   refine o_nil ?_
   refine x_then (hK4 _ _ ?_)
   refine c_ret ?_
   refine x_then_ret (?_)
   exact x_ret rfl (.tmp rfl (.nil)) ((by first | exact (congrArg Value.bool (mok_len (by omega)).symm) | exact (congrArg Value.bool (mok_last ht (by omega) (by omega)).symm) | exact (congrArg Value.bool (hU.all (by omega) (by omega)).symm) | exact (congrArg Value.bool (mok_in ht (fun h => hne (wantI_of h))).symm) | exact (congrArg Value.bool (mok_in ht (fun h => by have := InOk.bnd h; omega)).symm) | exact (congrArg Value.bool (mok_in ht (fun h => by obtain ⟨h, _⟩ := h; omega)).symm)))
  ·
   refine o_step rfl (step_cast (v' := .bool false) (s_eql rfl rfl) (by rw [decide_eq_false (by omega)])) ?_
   refine o_step rfl (s_move rfl) ?_
   refine o_yes rfl rfl ?_
   refine o_step rfl (s_ld rfl (.own meA rfl)) ?_
   refine o_yes rfl rfl ?_
   refine o_step rfl (s_len rfl) ?_
   refine o_yes rfl rfl ?_
   by_cases hl2 : (m.length : Int) > 65540
   ·
    refine o_step rfl (step_cast (v' := .bool true) (s_gtr rfl rfl) (by rw [decide_eq_true (by omega)])) ?_
    refine o_step rfl (s_pick_f rfl rfl) ?_
    refine o_nil ?_
    refine x_then (hK3 _ _ ?_)
    refine c_true rfl ?_
    refine c_seq fun _ hK5 => ?_
    refine c_region ?_
    refine o_step rfl (s_assign rfl) ?_
    refine o_nil ?_
    refine x_then (hK5 _ _ ?_)
    refine c_ret ?_
    refine x_then_ret (?_)
    exact x_ret rfl (.tmp rfl (.nil)) ((by first | exact (congrArg Value.bool (mok_len (by omega)).symm) | exact (congrArg Value.bool (mok_last ht (by omega) (by omega)).symm) | exact (congrArg Value.bool (hU.all (by omega) (by omega)).symm) | exact (congrArg Value.bool (mok_in ht (fun h => hne (wantI_of h))).symm) | exact (congrArg Value.bool (mok_in ht (fun h => by have := InOk.bnd h; omega)).symm) | exact (congrArg Value.bool (mok_in ht (fun h => by obtain ⟨h, _⟩ := h; omega)).symm)))
   ·
    refine o_step rfl (step_cast (v' := .bool false) (s_gtr rfl rfl) (by rw [decide_eq_false (by omega)])) ?_
    refine o_step rfl (s_pick_f rfl rfl) ?_
    refine o_nil ?_
    refine x_then (hK3 _ _ ?_)
    refine c_false rfl ?_
    refine c_skip ?_
    refine x_then (hK2 _ _ ?_)
    refine c_seq fun _ hK6 => ?_
    refine c_region ?_
    refine o_step rfl (s_func (us := []) (vs := [_]) rfl rfl) ?_
    refine o_step rfl (s_assign rfl) ?_
    refine o_nil ?_
    refine x_then (hK6 _ _ ?_)
    refine c_seq fun _ hK7 => ?_
    refine c_seq fun _ hK8 => ?_
    refine c_region ?_
    refine o_step rfl (s_ld rfl (.own meA rfl)) ?_
    refine o_step rfl (s_len rfl) ?_
    refine o_step rfl (s_move rfl) ?_
    refine o_nil ?_
    refine x_then (hK8 _ _ ?_)
    refine c_block ?_
    -- not carried: 2
    refine c_loopB (fun (q : Nat) => q ≤ m.length ∧ MUp m q) (fun (q : Nat) => [(18, .int .i64 q)]) [(1, _), (3, _), (16, _), (17, _)] (fun (q : Nat) => [(b1, .cells [.slice ra m.length rc].toArray 27 (0, 0))]) (fun (q : Nat) => m.length - q) 0 ⟨by omega, .zero⟩ sbA sbA hzB ?_
    rintro q ⟨hq, hU⟩
    refine c_seq fun _ hK9 => ?_
    refine c_region ?_
    by_cases hql : q < m.length
    ·
     obtain ⟨t, ht⟩ : ∃ t, m[q]? = some t := ⟨_, List.getElem?_eq_getElem hql⟩
     refine o_step rfl (step_cast (v' := .bool true) (s_lss rfl rfl) (by rw [decide_eq_true (by omega)])) ?_
     refine o_nil ?_
     refine x_then (hK9 _ _ ?_)
     refine c_seq fun _ hK10 => ?_
     refine c_true rfl ?_
     refine c_skip ?_
     refine x_then (hK10 _ _ ?_)
     refine c_seq fun _ hK11 => ?_
     refine c_block ?_
     refine c_seq fun _ hK12 => ?_
     refine c_region ?_
     refine o_step rfl (s_move rfl) ?_
     refine o_step rfl (s_idx rfl rfl hsl (by omega)) ?_
     refine o_step rfl (s_ldB rfl ((RdK.old0 hw).lds q ht rfl) (by rfl)) ?_
     refine o_alloc (l := Ein ⟨0, 0, 0, 0⟩) (by rw [Ein_zero]; rfl) rfl fun b5 => ?_
     refine o_step rfl (s_assign rfl) ?_
     refine o_stW rfl rfl upA lnA lnA onA ?_
     refine o_nil ?_
     refine x_then (hK12 _ _ ?_)
     refine c_seq fun _ hK13 => ?_
     refine c_region ?_
     refine o_alloc (l := Ein ⟨0, 0, 0, 0⟩) (by rw [Ein_zero]; rfl) rfl fun b6 => ?_
     refine o_nil ?_
     refine x_then (hK13 _ _ ?_)
     refine c_seqJ (ι := Unit) (fun g => (1 ≤ t.op ∧ t.op ≤ 6) ∧ (t.op ≤ 3 → q + 1 < m.length)) (fun g => []) [(1, _), (3, _), (4, _), (5, _), (6, _), (16, _), (17, _), (18, _), (19, _), (20, _), (21, _), (22, _)] (fun g => [(b6, .cells (Ein (wantI t)).toArray 60 (0, 0)), (b5, .cells (Ein t).toArray 60 (0, 0)), (b1, .cells [.slice ra m.length rc].toArray 27 (0, 0))]) sbA ?_ ?_
     ·
      rintro g hI
      refine c_seq fun _ hK15 => ?_
      refine c_region ?_
      refine o_step rfl (s_ldB rfl (RdPK.cels (.own meA)) lnA) ?_
      refine o_step rfl (s_ldB rfl (RdPK.cels (.own meA)) lnA) ?_
      by_cases hne : t ≠ wantI t
      ·
       refine o_step rfl (step_cast (v' := .bool true) (s_neq_in rfl rfl) (by rw [decide_eq_false hne]; rfl)) ?_
       refine o_step rfl (s_move rfl) ?_
       refine o_no rfl rfl rfl rfl ?_
       refine o_no rfl rfl rfl rfl ?_
       refine o_no rfl rfl rfl rfl ?_
       refine o_no rfl rfl rfl rfl ?_
       refine o_no rfl rfl rfl rfl ?_
       refine o_step rfl (s_pick_t rfl rfl) ?_
       refine o_step rfl (s_move rfl) ?_
       refine o_no rfl rfl rfl rfl ?_
       refine o_no rfl rfl rfl rfl ?_
       refine o_no rfl rfl rfl rfl ?_
       refine o_no rfl rfl rfl rfl ?_
       refine o_no rfl rfl rfl rfl ?_
       refine o_step rfl (s_pick_t rfl rfl) ?_
       refine o_nil ?_
       refine x_then (hK15 _ _ ?_)
       refine c_true rfl ?_
       refine c_seq fun _ hK16 => ?_
       refine c_region ?_
       refine o_step rfl (s_assign rfl) ?_
       refine o_nil ?_
       refine x_then (hK16 _ _ ?_)
       refine c_ret ?_
       refine x_block_ret (x_then_ret (x_then_ret (x_block_ret (x_then_ret (?_)))))
       exact x_ret rfl (.tmp rfl (.nil)) ((by first | exact (congrArg Value.bool (mok_len (by omega)).symm) | exact (congrArg Value.bool (mok_last ht (by omega) (by omega)).symm) | exact (congrArg Value.bool (hU.all (by omega) (by omega)).symm) | exact (congrArg Value.bool (mok_in ht (fun h => hne (wantI_of h))).symm) | exact (congrArg Value.bool (mok_in ht (fun h => by have := InOk.bnd h; omega)).symm) | exact (congrArg Value.bool (mok_in ht (fun h => by obtain ⟨h, _⟩ := h; omega)).symm)))
      ·
       refine o_step rfl (step_cast (v' := .bool false) (s_neq_in rfl rfl) (by rw [decide_eq_true (Decidable.not_not.1 hne)]; rfl)) ?_
       refine o_step rfl (s_move rfl) ?_
       refine o_yes rfl rfl ?_
       refine o_step rfl (s_move rfl) ?_
       refine o_yes rfl rfl ?_
       refine o_step rfl (s_field rfl rfl (by decide)) ?_
       refine o_yes rfl rfl ?_
       refine o_step rfl (s_ld rfl (.own meA rfl)) ?_
       refine o_yes rfl rfl ?_
       refine o_callC (us := []) (vs := [_]) (cs := [.pointer (some ⟨b1, 0, none⟩)]) (place_fn t.x b1 ra rc m) rfl rfl rfl (by exact .nil) (fun w st => (RdPK.own meA).out w st) (fun v68 S68 hv68 => ?_)
       by_cases hx : 0 ≤ t.x ∧ t.x < m.length
       ·
        rw [decide_eq_true hx] at hv68
        subst hv68
        refine o_yes rfl rfl ?_
        refine o_step rfl (s_not rfl) ?_
        refine o_step rfl (s_pick_f rfl rfl) ?_
        refine o_step rfl (s_move rfl) ?_
        refine o_yes rfl rfl ?_
        refine o_step rfl (s_move rfl) ?_
        refine o_yes rfl rfl ?_
        refine o_step rfl (s_field rfl rfl (by decide)) ?_
        refine o_yes rfl rfl ?_
        refine o_step rfl (s_ld rfl (.own meA rfl)) ?_
        refine o_yes rfl rfl ?_
        refine o_callC (us := []) (vs := [_]) (cs := [.pointer (some ⟨b1, 0, none⟩)]) (place_fn t.y b1 ra rc m) rfl rfl rfl (by exact .nil) (fun w st => (RdPK.own meA).out w st) (fun v75 S75 hv75 => ?_)
        by_cases hy : 0 ≤ t.y ∧ t.y < m.length
        ·
         rw [decide_eq_true hy] at hv75
         subst hv75
         refine o_yes rfl rfl ?_
         refine o_step rfl (s_not rfl) ?_
         refine o_step rfl (s_pick_f rfl rfl) ?_
         refine o_nil ?_
         refine x_then (hK15 _ _ ?_)
         refine c_false rfl ?_
         refine c_skip ?_
         refine x_block ?_
         refine x_then (hK11 _ _ ?_)
         refine c_region ?_
         refine o_step rfl (s_add rfl rfl (by omega)) ?_
         refine o_step rfl (s_move rfl) ?_
         refine o_nil ?_
         exact x_then (x_inv (q + 1) ⟨by omega, hU.step ht (inOk_of hI.1 (Decidable.not_not.1 hne) hx hy) hI.2⟩ (by first | omega | (dsimp only; omega)) sbA hzB)
        ·
         rw [decide_eq_false hy] at hv75
         subst hv75
         refine o_yes rfl rfl ?_
         refine o_step rfl (s_not rfl) ?_
         refine o_step rfl (s_pick_f rfl rfl) ?_
         refine o_nil ?_
         refine x_then (hK15 _ _ ?_)
         refine c_true rfl ?_
         refine c_seq fun _ hK17 => ?_
         refine c_region ?_
         refine o_step rfl (s_assign rfl) ?_
         refine o_nil ?_
         refine x_then (hK17 _ _ ?_)
         refine c_ret ?_
         refine x_block_ret (x_then_ret (x_then_ret (x_block_ret (x_then_ret (?_)))))
         exact x_ret rfl (.tmp rfl (.nil)) ((by first | exact (congrArg Value.bool (mok_len (by omega)).symm) | exact (congrArg Value.bool (mok_last ht (by omega) (by omega)).symm) | exact (congrArg Value.bool (hU.all (by omega) (by omega)).symm) | exact (congrArg Value.bool (mok_in ht (fun h => hne (wantI_of h))).symm) | exact (congrArg Value.bool (mok_in ht (fun h => by have := InOk.bnd h; omega)).symm) | exact (congrArg Value.bool (mok_in ht (fun h => by obtain ⟨h, _⟩ := h; omega)).symm)))
       ·
        rw [decide_eq_false hx] at hv68
        subst hv68
        refine o_yes rfl rfl ?_
        refine o_step rfl (s_not rfl) ?_
        refine o_step rfl (s_pick_f rfl rfl) ?_
        refine o_step rfl (s_move rfl) ?_
        refine o_no rfl rfl rfl rfl ?_
        refine o_no rfl rfl rfl rfl ?_
        refine o_no rfl rfl rfl rfl ?_
        refine o_no rfl rfl rfl rfl ?_
        refine o_no rfl rfl rfl rfl ?_
        refine o_step rfl (s_pick_t rfl rfl) ?_
        refine o_nil ?_
        refine x_then (hK15 _ _ ?_)
        refine c_true rfl ?_
        refine c_seq fun _ hK18 => ?_
        refine c_region ?_
        refine o_step rfl (s_assign rfl) ?_
        refine o_nil ?_
        refine x_then (hK18 _ _ ?_)
        refine c_ret ?_
        refine x_block_ret (x_then_ret (x_then_ret (x_block_ret (x_then_ret (?_)))))
        exact x_ret rfl (.tmp rfl (.nil)) ((by first | exact (congrArg Value.bool (mok_len (by omega)).symm) | exact (congrArg Value.bool (mok_last ht (by omega) (by omega)).symm) | exact (congrArg Value.bool (hU.all (by omega) (by omega)).symm) | exact (congrArg Value.bool (mok_in ht (fun h => hne (wantI_of h))).symm) | exact (congrArg Value.bool (mok_in ht (fun h => by have := InOk.bnd h; omega)).symm) | exact (congrArg Value.bool (mok_in ht (fun h => by obtain ⟨h, _⟩ := h; omega)).symm)))
     ·
      intro _ hJ14
      refine c_seq fun _ hK19 => ?_
      refine c_region ?_
      refine o_step rfl (s_field rfl rfl (by decide)) ?_
      refine o_step rfl (s_ld rfl (.own meA rfl)) ?_
      refine o_step rfl (s_field rfl rfl (by decide)) ?_
      refine o_store rfl rfl rfl upA ltA rfl ?_
      rw [show (Ein (⟨0, 0, 0, 0⟩ : In)).set 0 (.int .i8 t.op) = Ein (⟨t.op, 0, 0, 0⟩ : In) from rfl]
      refine o_nil ?_
      refine x_then (hK19 _ _ ?_)
      refine c_seq fun _ hK20 => ?_
      refine c_region ?_
      refine o_step rfl (s_field rfl rfl (by decide)) ?_
      refine o_step rfl (s_ld rfl (.own meA rfl)) ?_
      refine o_nil ?_
      refine x_then (hK20 _ _ ?_)
      refine c_block ?_
      refine c_seq fun _ hK21 => ?_
      refine c_region ?_
      by_cases h1 : t.op = 1
      ·
       refine o_step rfl (step_cast (v' := .bool true) (s_eql rfl rfl) (by rw [decide_eq_true h1])) ?_
       refine o_step rfl (s_assign rfl) ?_
       refine o_nil ?_
       refine x_then (hK21 _ _ ?_)
       refine c_true rfl ?_
       refine c_seq fun _ hK22 => ?_
       refine c_region ?_
       refine o_step rfl (s_field rfl rfl (by decide)) ?_
       refine o_step rfl (s_ldB rfl (RdPK.cels (RdPK.own' (cs := Ec t.set) meA in_set)) (Ec_lenM _)) ?_
       refine o_step rfl (s_field rfl rfl (by decide)) ?_
       refine o_storeA (l := Ein (⟨t.op, 0, 0, 0⟩ : In)) (cs := Ec t.set) rfl rfl rfl (Enc.one _) upA (Nat.le_of_ble_eq_true rfl) (fun _ _ => frz0) ?_
       rw [show splice (Ein (⟨t.op, 0, 0, 0⟩ : In)) 1 (Ec t.set) = Ein (⟨t.op, t.set, 0, 0⟩ : In) from rfl]
       refine o_nil ?_
       refine x_then (hK22 _ _ ?_)
       refine c_seq fun _ hK23 => ?_
       refine c_region ?_
       refine o_step rfl (s_move rfl) ?_
       refine o_step rfl (s_add rfl rfl (by omega)) ?_
       refine o_step rfl (s_ld rfl (.own meA rfl)) ?_
       refine o_step rfl (s_len rfl) ?_
       by_cases he : (q : Int) + 1 = m.length
       ·
        refine o_step rfl (step_cast (v' := .bool true) (s_eql rfl rfl) (by rw [decide_eq_true (by omega)])) ?_
        refine o_nil ?_
        refine x_then (hK23 _ _ ?_)
        refine c_true rfl ?_
        refine c_seq fun _ hK24 => ?_
        refine c_region ?_
        refine o_step rfl (s_assign rfl) ?_
        refine o_nil ?_
        refine x_then (hK24 _ _ ?_)
        refine c_ret ?_
        refine x_block_ret (x_then_ret (x_block_ret (x_then_ret (x_then_ret (x_block_ret (x_then_ret (?_)))))))
        exact x_ret rfl (.tmp rfl (.nil)) ((by first | exact (congrArg Value.bool (mok_len (by omega)).symm) | exact (congrArg Value.bool (mok_last ht (by omega) (by omega)).symm) | exact (congrArg Value.bool (hU.all (by omega) (by omega)).symm) | exact (congrArg Value.bool (mok_in ht (fun h => hne (wantI_of h))).symm) | exact (congrArg Value.bool (mok_in ht (fun h => by have := InOk.bnd h; omega)).symm) | exact (congrArg Value.bool (mok_in ht (fun h => by obtain ⟨h, _⟩ := h; omega)).symm)))
       ·
        refine o_step rfl (step_cast (v' := .bool false) (s_eql rfl rfl) (by rw [decide_eq_false (by omega)])) ?_
        refine o_nil ?_
        refine x_then (hK23 _ _ ?_)
        refine c_false rfl ?_
        refine c_skip ?_
        refine x_block ?_
        rw [show (⟨t.op, t.set, 0, 0⟩ : In) = wantI t by rw [wantI, if_pos h1, if_neg (by omega), if_neg (by omega)]]
        exact x_then (hJ14 () _ _ ⟨by omega, fun _ => by omega⟩ sbA sbA hzB)
      ·
       refine o_step rfl (step_cast (v' := .bool false) (s_eql rfl rfl) (by rw [decide_eq_false h1])) ?_
       refine o_step rfl (s_assign rfl) ?_
       refine o_nil ?_
       refine x_then (hK21 _ _ ?_)
       refine c_false rfl ?_
       refine c_seq fun _ hK25 => ?_
       refine c_seq fun _ hK26 => ?_
       refine c_region ?_
       by_cases h2 : t.op = 2
       ·
        refine o_step rfl (step_cast (v' := .bool true) (s_eql rfl rfl) (by rw [decide_eq_true h2])) ?_
        refine o_step rfl (s_assign rfl) ?_
        refine o_nil ?_
        refine x_then (hK26 _ _ ?_)
        refine c_true rfl ?_
        refine c_skip ?_
        refine x_then (hK25 _ _ ?_)
        refine c_true rfl ?_
        refine c_seq fun _ hK27 => ?_
        refine c_region ?_
        refine o_step rfl (s_move rfl) ?_
        refine o_step rfl (s_add rfl rfl (by omega)) ?_
        refine o_step rfl (s_ld rfl (.own meA rfl)) ?_
        refine o_step rfl (s_len rfl) ?_
        by_cases he : (q : Int) + 1 = m.length
        ·
         refine o_step rfl (step_cast (v' := .bool true) (s_eql rfl rfl) (by rw [decide_eq_true (by omega)])) ?_
         refine o_nil ?_
         refine x_then (hK27 _ _ ?_)
         refine c_true rfl ?_
         refine c_seq fun _ hK28 => ?_
         refine c_region ?_
         refine o_step rfl (s_assign rfl) ?_
         refine o_nil ?_
         refine x_then (hK28 _ _ ?_)
         refine c_ret ?_
         refine x_block_ret (x_then_ret (x_block_ret (x_then_ret (x_then_ret (x_block_ret (x_then_ret (?_)))))))
         exact x_ret rfl (.tmp rfl (.nil)) ((by first | exact (congrArg Value.bool (mok_len (by omega)).symm) | exact (congrArg Value.bool (mok_last ht (by omega) (by omega)).symm) | exact (congrArg Value.bool (hU.all (by omega) (by omega)).symm) | exact (congrArg Value.bool (mok_in ht (fun h => hne (wantI_of h))).symm) | exact (congrArg Value.bool (mok_in ht (fun h => by have := InOk.bnd h; omega)).symm) | exact (congrArg Value.bool (mok_in ht (fun h => by obtain ⟨h, _⟩ := h; omega)).symm)))
        ·
         refine o_step rfl (step_cast (v' := .bool false) (s_eql rfl rfl) (by rw [decide_eq_false (by omega)])) ?_
         refine o_nil ?_
         refine x_then (hK27 _ _ ?_)
         refine c_false rfl ?_
         refine c_skip ?_
         refine x_block ?_
         rw [show (⟨t.op, 0, 0, 0⟩ : In) = wantI t by rw [wantI, if_neg (by omega), if_neg (by omega), if_neg (by omega)]]
         exact x_then (hJ14 () _ _ ⟨by omega, fun _ => by omega⟩ sbA sbA hzB)
       ·
        refine o_step rfl (step_cast (v' := .bool false) (s_eql rfl rfl) (by rw [decide_eq_false h2])) ?_
        refine o_step rfl (s_assign rfl) ?_
        refine o_nil ?_
        refine x_then (hK26 _ _ ?_)
        refine c_false rfl ?_
        refine c_region ?_
        by_cases h3 : t.op = 3
        ·
         refine o_step rfl (step_cast (v' := .bool true) (s_eql rfl rfl) (by rw [decide_eq_true h3])) ?_
         refine o_step rfl (s_assign rfl) ?_
         refine o_nil ?_
         refine x_then (hK25 _ _ ?_)
         refine c_true rfl ?_
         refine c_seq fun _ hK29 => ?_
         refine c_region ?_
         refine o_step rfl (s_move rfl) ?_
         refine o_step rfl (s_add rfl rfl (by omega)) ?_
         refine o_step rfl (s_ld rfl (.own meA rfl)) ?_
         refine o_step rfl (s_len rfl) ?_
         by_cases he : (q : Int) + 1 = m.length
         ·
          refine o_step rfl (step_cast (v' := .bool true) (s_eql rfl rfl) (by rw [decide_eq_true (by omega)])) ?_
          refine o_nil ?_
          refine x_then (hK29 _ _ ?_)
          refine c_true rfl ?_
          refine c_seq fun _ hK30 => ?_
          refine c_region ?_
          refine o_step rfl (s_assign rfl) ?_
          refine o_nil ?_
          refine x_then (hK30 _ _ ?_)
          refine c_ret ?_
          refine x_block_ret (x_then_ret (x_block_ret (x_then_ret (x_then_ret (x_block_ret (x_then_ret (?_)))))))
          exact x_ret rfl (.tmp rfl (.nil)) ((by first | exact (congrArg Value.bool (mok_len (by omega)).symm) | exact (congrArg Value.bool (mok_last ht (by omega) (by omega)).symm) | exact (congrArg Value.bool (hU.all (by omega) (by omega)).symm) | exact (congrArg Value.bool (mok_in ht (fun h => hne (wantI_of h))).symm) | exact (congrArg Value.bool (mok_in ht (fun h => by have := InOk.bnd h; omega)).symm) | exact (congrArg Value.bool (mok_in ht (fun h => by obtain ⟨h, _⟩ := h; omega)).symm)))
         ·
          refine o_step rfl (step_cast (v' := .bool false) (s_eql rfl rfl) (by rw [decide_eq_false (by omega)])) ?_
          refine o_nil ?_
          refine x_then (hK29 _ _ ?_)
          refine c_false rfl ?_
          refine c_skip ?_
          refine x_block ?_
          rw [show (⟨t.op, 0, 0, 0⟩ : In) = wantI t by rw [wantI, if_neg (by omega), if_neg (by omega), if_neg (by omega)]]
          exact x_then (hJ14 () _ _ ⟨by omega, fun _ => by omega⟩ sbA sbA hzB)
        ·
         refine o_step rfl (step_cast (v' := .bool false) (s_eql rfl rfl) (by rw [decide_eq_false h3])) ?_
         refine o_step rfl (s_assign rfl) ?_
         refine o_nil ?_
         refine x_then (hK25 _ _ ?_)
         refine c_false rfl ?_
         refine c_seq fun _ hK31 => ?_
         refine c_region ?_
         by_cases h4 : t.op = 4
         ·
          refine o_step rfl (step_cast (v' := .bool true) (s_eql rfl rfl) (by rw [decide_eq_true h4])) ?_
          refine o_step rfl (s_assign rfl) ?_
          refine o_nil ?_
          refine x_then (hK31 _ _ ?_)
          refine c_true rfl ?_
          refine c_region ?_
          refine o_step rfl (s_field rfl rfl (by decide)) ?_
          refine o_step rfl (s_ld rfl (.own meA rfl)) ?_
          refine o_step rfl (s_field rfl rfl (by decide)) ?_
          refine o_store rfl rfl rfl upA ltA rfl ?_
          rw [show (Ein (⟨t.op, 0, 0, 0⟩ : In)).set 5 (.int .i64 t.x) = Ein (⟨t.op, 0, t.x, 0⟩ : In) from rfl]
          refine o_nil ?_
          refine x_block ?_
          rw [show (⟨t.op, 0, t.x, 0⟩ : In) = wantI t by rw [wantI, if_neg (by omega), if_pos (.inl h4), if_neg (by omega)]]
          exact x_then (hJ14 () _ _ ⟨by omega, fun h => absurd h (by omega)⟩ sbA sbA hzB)
         ·
          refine o_step rfl (step_cast (v' := .bool false) (s_eql rfl rfl) (by rw [decide_eq_false h4])) ?_
          refine o_step rfl (s_assign rfl) ?_
          refine o_nil ?_
          refine x_then (hK31 _ _ ?_)
          refine c_false rfl ?_
          refine c_seq fun _ hK32 => ?_
          refine c_region ?_
          by_cases h5 : t.op = 5
          ·
           refine o_step rfl (step_cast (v' := .bool true) (s_eql rfl rfl) (by rw [decide_eq_true h5])) ?_
           refine o_step rfl (s_assign rfl) ?_
           refine o_nil ?_
           refine x_then (hK32 _ _ ?_)
           refine c_true rfl ?_
           refine c_drawE ([(b5, .cells (Ein t).toArray 60 (0, 0))]) (fun i => false) ?_
           refine e_take 0 rfl (by kernel_rfl) (by kernel_rfl) (by kernel_rfl) (by kernel_rfl) (fun _ _ => rfl) rfl hzB (s_field rfl rfl (by decide)) ?_
           refine e_take 1 rfl (by kernel_rfl) (by kernel_rfl) (by kernel_rfl) (by kernel_rfl) (fun _ _ => rfl) rfl hzB (s_ld rfl (.own meA rfl)) ?_
           refine e_take 2 rfl (by kernel_rfl) (by kernel_rfl) (by kernel_rfl) (by kernel_rfl) (fun _ _ => rfl) rfl hzB (s_field rfl rfl (by decide)) ?_
           refine e_take 3 rfl (by kernel_rfl) (by kernel_rfl) (by kernel_rfl) (by kernel_rfl) (fun _ _ => rfl) rfl hzB (s_ld rfl (.own meA rfl)) ?_
           refine e_take 4 rfl (by kernel_rfl) (by kernel_rfl) (by kernel_rfl) (by kernel_rfl) (fun _ _ => rfl) rfl hzB (s_field rfl rfl (by decide)) ?_
           refine e_one 5 rfl (by kernel_rfl) ?_
           refine o_store rfl rfl rfl upA ltA rfl ?_
           rw [show (Ein (⟨t.op, 0, 0, 0⟩ : In)).set 5 (.int .i64 t.x) = Ein (⟨t.op, 0, t.x, 0⟩ : In) from rfl]
           refine o_nil ?_
           refine x_oneS hzB ?_
           refine e_take 6 rfl (by kernel_rfl) (by kernel_rfl) (by kernel_rfl) (by kernel_rfl) (fun _ _ => rfl) rfl hzB (s_field rfl rfl (by decide)) ?_
           refine e_one 7 rfl (by kernel_rfl) ?_
           refine o_store rfl rfl rfl upA ltA rfl ?_
           rw [show (Ein (⟨t.op, 0, t.x, 0⟩ : In)).set 6 (.int .i64 t.y) = Ein (⟨t.op, 0, t.x, t.y⟩ : In) from rfl]
           refine o_nil ?_
           refine x_oneS hzB ?_
           refine e_done (by kernel_rfl) ?_
           refine x_block ?_
           rw [show (⟨t.op, 0, t.x, t.y⟩ : In) = wantI t by rw [wantI, if_neg (by omega), if_pos (.inr h5), if_pos h5]]
           exact x_then (hJ14 () _ _ ⟨by omega, fun h => absurd h (by omega)⟩ sbA sbA hzB)
          ·
           refine o_step rfl (step_cast (v' := .bool false) (s_eql rfl rfl) (by rw [decide_eq_false h5])) ?_
           refine o_step rfl (s_assign rfl) ?_
           refine o_nil ?_
           refine x_then (hK32 _ _ ?_)
           refine c_false rfl ?_
           refine c_seq fun _ hK33 => ?_
           refine c_region ?_
           by_cases h6 : t.op = 6
           ·
            refine o_step rfl (step_cast (v' := .bool true) (s_eql rfl rfl) (by rw [decide_eq_true h6])) ?_
            refine o_step rfl (s_assign rfl) ?_
            refine o_nil ?_
            refine x_then (hK33 _ _ ?_)
            refine c_true rfl ?_
            refine c_skip ?_
            refine x_block ?_
            rw [show (⟨t.op, 0, 0, 0⟩ : In) = wantI t by rw [wantI, if_neg (by omega), if_neg (by omega), if_neg (by omega)]]
            exact x_then (hJ14 () _ _ ⟨by omega, fun h => absurd h (by omega)⟩ sbA sbA hzB)
           ·
            refine o_step rfl (step_cast (v' := .bool false) (s_eql rfl rfl) (by rw [decide_eq_false h6])) ?_
            refine o_step rfl (s_assign rfl) ?_
            refine o_nil ?_
            refine x_then (hK33 _ _ ?_)
            refine c_false rfl ?_
            refine c_seq fun _ hK34 => ?_
            refine c_region ?_
            refine o_step rfl (s_assign rfl) ?_
            refine o_nil ?_
            refine x_then (hK34 _ _ ?_)
            refine c_ret ?_
            refine x_block_ret (x_then_ret (x_block_ret (x_then_ret (x_then_ret (x_block_ret (x_then_ret (?_)))))))
            exact x_ret rfl (.tmp rfl (.nil)) ((by first | exact (congrArg Value.bool (mok_len (by omega)).symm) | exact (congrArg Value.bool (mok_last ht (by omega) (by omega)).symm) | exact (congrArg Value.bool (hU.all (by omega) (by omega)).symm) | exact (congrArg Value.bool (mok_in ht (fun h => hne (wantI_of h))).symm) | exact (congrArg Value.bool (mok_in ht (fun h => by have := InOk.bnd h; omega)).symm) | exact (congrArg Value.bool (mok_in ht (fun h => by obtain ⟨h, _⟩ := h; omega)).symm)))
    ·
     obtain rfl : q = m.length := by omega
     refine o_step rfl (step_cast (v' := .bool false) (s_lss rfl rfl) (by rw [decide_eq_false (by omega)])) ?_
     refine o_nil ?_
     refine x_then (hK9 _ _ ?_)
     refine c_seq fun _ hK35 => ?_
     refine c_false rfl ?_
     refine c_exit ?_
     refine x_then_exit ?_
     refine x_then_exit ?_
     refine x_block_exit ?_
     refine x_then (hK7 _ _ ?_)
     refine c_seq fun _ hK36 => ?_
     refine c_region ?_
     refine o_step rfl (s_assign rfl) ?_
     refine o_nil ?_
     refine x_then (hK36 _ _ ?_)
     refine c_ret ?_
     refine ?_
     exact x_ret rfl (.tmp rfl (.nil)) ((by first | exact (congrArg Value.bool (mok_len (by omega)).symm) | exact (congrArg Value.bool (mok_last ht (by omega) (by omega)).symm) | exact (congrArg Value.bool (hU.all (by omega) (by omega)).symm) | exact (congrArg Value.bool (mok_in ht (fun h => hne (wantI_of h))).symm) | exact (congrArg Value.bool (mok_in ht (fun h => by have := InOk.bnd h; omega)).symm) | exact (congrArg Value.bool (mok_in ht (fun h => by obtain ⟨h, _⟩ := h; omega)).symm)))
end Go.Proofs.Ytihbhlgognpmmaa
