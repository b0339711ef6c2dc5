/- Part of the proofs over this seat: see the text that holds the theorem. Conditions: each theorem bears its own. -/
import Derived.Test.YtmpeokbongnniaaHTZ
import Derived.Test.YtmpeokbongnniaaYZM9Z
import Derived.Test.YtmpeokbongnniaaMT8Z
import Derived.Test.YtmpeokbongnniaaML1Z
import Derived.Test.YtmpeokbongnniaaYZL2
import Derived.Test.YtmpeokbongnniaaMK1Z
import Derived.Test.YtmpeokbongnniaaHlB
namespace Go.Proofs.Ytmpeokbongnniaa
open Go Go.HL Go.Proofs Go.HL.Kl Go.HL.Kl.Mc
theorem place_fn (x : Int) (b1 : Nat) (ra : Option Addr) (rc : Nat) (m : List In) : HL.Fn Try.prog 95 [.int .i64 x, .pointer (some ⟨b1, 0, none⟩)] (fun w => RdP w b1 0 [.slice ra m.length rc]) [] (fun v _ => v = .bool (decide (0 ≤ x ∧ x < m.length))) := by
  refine fn_of Try.func95 rfl rfl rfl fun w0 hw => ?_; refine c_seq fun _ hK1 => ?_; refine c_region ?_; refine o_step rfl (s_assign rfl) ?_; refine o_nil ?_; refine x_then (hK1 _ _ ?_); refine c_seq fun _ hK2 => ?_; refine c_region ?_; refine o_step rfl (s_move rfl) ?_
  by_cases h0 : x ≥ 0
  ·
   refine o_step rfl (step_cast (v' := .bool true) (s_geq rfl rfl) (by rw [decide_eq_true (by omega)])) ?_; refine o_step rfl (s_move rfl) ?_; refine o_yes rfl rfl ?_; refine o_step rfl (s_move rfl) ?_; refine o_yes rfl rfl ?_; refine o_step rfl (s_ld rfl ((RdPK.old0 hw).cel (j := 0) rfl rfl)) ?_; refine o_yes rfl rfl ?_; refine o_step rfl (s_len rfl) ?_; refine o_yes rfl rfl ?_
   by_cases h1 : x < m.length
   ·
    refine o_step rfl (step_cast (v' := .bool true) (s_lss rfl rfl) (by rw [decide_eq_true (by omega)])) ?_; refine o_step rfl (s_pick_t rfl rfl) ?_; refine o_step rfl (s_assign rfl) ?_; refine o_nil ?_; refine x_then (hK2 _ _ ?_); refine c_ret ?_; refine ?_; exact x_ret rfl (.tmp rfl (.nil)) ((congrArg Value.bool (decide_eq_true (by omega)).symm))
   ·
    refine o_step rfl (step_cast (v' := .bool false) (s_lss rfl rfl) (by rw [decide_eq_false (by omega)])) ?_; refine o_step rfl (s_pick_t rfl rfl) ?_; refine o_step rfl (s_assign rfl) ?_; refine o_nil ?_; refine x_then (hK2 _ _ ?_); refine c_ret ?_; refine ?_; exact x_ret rfl (.tmp rfl (.nil)) ((congrArg Value.bool (decide_eq_false (by omega)).symm))
  ·
   refine o_step rfl (step_cast (v' := .bool false) (s_geq rfl rfl) (by rw [decide_eq_false (by omega)])) ?_; refine o_step rfl (s_move rfl) ?_; refine o_no rfl rfl rfl rfl ?_; refine o_no rfl rfl rfl rfl ?_; refine o_no rfl rfl rfl rfl ?_; refine o_no rfl rfl rfl rfl ?_; refine o_step rfl (s_pick_f rfl rfl) ?_; refine o_step rfl (s_assign rfl) ?_; refine o_nil ?_; refine x_then (hK2 _ _ ?_); refine c_ret ?_; refine ?_; exact x_ret rfl (.tmp rfl (.nil)) ((congrArg Value.bool (decide_eq_false (by omega)).symm))

set_option maxHeartbeats 2000000 in
theorem mShaped_fn (ra : Option Addr) (rc : Nat) (m : List In)  : HL.Fn Try.prog 89 [.slice ra m.length rc] (fun w => Rd Ein w (.slice ra m.length rc) m) [] (fun v _ => v = .bool (mokB m)) := by
  refine fn_of Try.func89 rfl rfl rfl fun w0 hw => ?_
  have hsl := hw.sl
  have hbl := hsl.le
  refine c_seq fun _ hK1 => ?_; refine c_region ?_; refine o_box rfl rfl rfl fun b1 => ?_; refine o_step rfl (s_assign rfl) ?_; refine o_nil ?_; refine x_then (hK1 _ _ ?_); refine c_seq fun _ hK2 => ?_; refine c_seq fun _ hK3 => ?_; refine c_region ?_; refine o_step rfl (s_ld rfl (.own meA rfl)) ?_; refine o_step rfl (s_len rfl) ?_
  by_cases hl1 : m.length = 0
  ·
   refine o_step rfl (step_cast (v' := .bool true) (s_eql rfl rfl) (by rw [decide_eq_true (by omega)])) ?_; refine o_step rfl (s_move rfl) ?_; refine o_no rfl rfl rfl rfl ?_; refine o_no rfl rfl rfl rfl ?_; refine o_no rfl rfl rfl rfl ?_; refine o_step rfl (s_pick_t rfl rfl) ?_; refine o_nil ?_; refine x_then (hK3 _ _ ?_); refine c_true rfl ?_; refine c_seq fun _ hK4 => ?_; refine c_region ?_; refine o_step rfl (s_assign rfl) ?_; refine o_nil ?_; refine x_then (hK4 _ _ ?_); refine c_ret ?_; refine x_then_ret (?_); exact x_ret rfl (.tmp rfl (.nil)) ((by first | exact (congrArg Value.bool (mok_len (by omega)).symm) | exact (congrArg Value.bool (mok_last ht (by omega) (by omega)).symm) | exact (congrArg Value.bool (hU.all (by omega) (by omega)).symm) | exact (congrArg Value.bool (mok_in ht (fun h => hne (wantI_of h))).symm) | exact (congrArg Value.bool (mok_in ht (fun h => by have := InOk.bnd h; omega)).symm) | exact (congrArg Value.bool (mok_in ht (fun h => by obtain ⟨h, _⟩ := h; omega)).symm)))
  ·
   refine o_step rfl (step_cast (v' := .bool false) (s_eql rfl rfl) (by rw [decide_eq_false (by omega)])) ?_; refine o_step rfl (s_move rfl) ?_; refine o_yes rfl rfl ?_; refine o_step rfl (s_ld rfl (.own meA rfl)) ?_; refine o_yes rfl rfl ?_; refine o_step rfl (s_len rfl) ?_; refine o_yes rfl rfl ?_
   by_cases hl2 : (m.length : Int) > 65540
   ·
    refine o_step rfl (step_cast (v' := .bool true) (s_gtr rfl rfl) (by rw [decide_eq_true (by omega)])) ?_; refine o_step rfl (s_pick_f rfl rfl) ?_; refine o_nil ?_; refine x_then (hK3 _ _ ?_); refine c_true rfl ?_; refine c_seq fun _ hK5 => ?_; refine c_region ?_; refine o_step rfl (s_assign rfl) ?_; refine o_nil ?_; refine x_then (hK5 _ _ ?_); refine c_ret ?_; refine x_then_ret (?_); exact x_ret rfl (.tmp rfl (.nil)) ((by first | exact (congrArg Value.bool (mok_len (by omega)).symm) | exact (congrArg Value.bool (mok_last ht (by omega) (by omega)).symm) | exact (congrArg Value.bool (hU.all (by omega) (by omega)).symm) | exact (congrArg Value.bool (mok_in ht (fun h => hne (wantI_of h))).symm) | exact (congrArg Value.bool (mok_in ht (fun h => by have := InOk.bnd h; omega)).symm) | exact (congrArg Value.bool (mok_in ht (fun h => by obtain ⟨h, _⟩ := h; omega)).symm)))
   ·
    refine o_step rfl (step_cast (v' := .bool false) (s_gtr rfl rfl) (by rw [decide_eq_false (by omega)])) ?_; refine o_step rfl (s_pick_f rfl rfl) ?_; refine o_nil ?_; refine x_then (hK3 _ _ ?_); refine c_false rfl ?_; refine c_skip ?_; refine x_then (hK2 _ _ ?_); refine c_seq fun _ hK6 => ?_; refine c_region ?_; refine o_step rfl (s_func (us := []) (vs := [_]) rfl rfl) ?_; refine o_step rfl (s_assign rfl) ?_; refine o_nil ?_; refine x_then (hK6 _ _ ?_); refine c_seq fun _ hK7 => ?_; refine c_seq fun _ hK8 => ?_; refine c_region ?_; refine o_step rfl (s_ld rfl (.own meA rfl)) ?_; refine o_step rfl (s_len rfl) ?_; refine o_step rfl (s_move rfl) ?_; refine o_nil ?_; refine x_then (hK8 _ _ ?_); refine c_block ?_
    -- not carried: 2
    refine c_loopB (fun (q : Nat) => q ≤ m.length ∧ MUp m q) (fun (q : Nat) => [(18, .int .i64 q)]) [(1, _), (3, _), (16, _), (17, _)] (fun (q : Nat) => [(b1, .cells [.slice ra m.length rc].toArray 89 (0, 0))]) (fun (q : Nat) => m.length - q) 0 ⟨by omega, .zero⟩ sbA sbA hzB ?_
    rintro q ⟨hq, hU⟩
    refine c_seq fun _ hK9 => ?_; refine c_region ?_
    by_cases hql : q < m.length
    ·
     obtain ⟨t, ht⟩ : ∃ t, m[q]? = some t := ⟨_, List.getElem?_eq_getElem hql⟩
     refine o_step rfl (step_cast (v' := .bool true) (s_lss rfl rfl) (by rw [decide_eq_true (by omega)])) ?_; refine o_nil ?_; refine x_then (hK9 _ _ ?_); refine c_seq fun _ hK10 => ?_; refine c_true rfl ?_; refine c_skip ?_; refine x_then (hK10 _ _ ?_); refine c_seq fun _ hK11 => ?_; refine c_block ?_; refine c_seq fun _ hK12 => ?_; refine c_region ?_; refine o_step rfl (s_move rfl) ?_; refine o_step rfl (s_idx rfl rfl hsl (by omega)) ?_; refine o_step rfl (s_ldB rfl ((RdK.old0 hw).lds q ht rfl) (by rfl)) ?_; refine o_alloc (l := Ein ⟨0, 0, 0, 0⟩) (by rw [Ein_zero]; rfl) rfl fun b5 => ?_; refine o_step rfl (s_assign rfl) ?_; refine o_stW rfl rfl upA lnA lnA onA ?_; refine o_nil ?_; refine x_then (hK12 _ _ ?_); refine c_seq fun _ hK13 => ?_; refine c_region ?_; refine o_alloc (l := Ein ⟨0, 0, 0, 0⟩) (by rw [Ein_zero]; rfl) rfl fun b6 => ?_; refine o_nil ?_; refine x_then (hK13 _ _ ?_); refine c_seqJ (ι := Unit) (fun g => (1 ≤ t.op ∧ t.op ≤ 6) ∧ (t.op ≤ 3 → q + 1 < m.length)) (fun g => []) [(1, _), (3, _), (4, _), (5, _), (6, _), (16, _), (17, _), (18, _), (19, _), (20, _), (21, _), (22, _)] (fun g => [(b6, .cells (Ein (wantI t)).toArray 109 (0, 0)), (b5, .cells (Ein t).toArray 109 (0, 0)), (b1, .cells [.slice ra m.length rc].toArray 89 (0, 0))]) sbA ?_ ?_
     ·
      rintro g hI
      refine c_seq fun _ hK15 => ?_; refine c_region ?_; refine o_step rfl (s_ldB rfl (RdPK.cels (.own meA)) lnA) ?_; refine o_step rfl (s_ldB rfl (RdPK.cels (.own meA)) lnA) ?_
      by_cases hne : t ≠ wantI t
      ·
       refine o_step rfl (step_cast (v' := .bool true) (s_neq_in rfl rfl) (by rw [decide_eq_false hne]; rfl)) ?_; refine o_step rfl (s_move rfl) ?_; refine o_no rfl rfl rfl rfl ?_; refine o_no rfl rfl rfl rfl ?_; refine o_no rfl rfl rfl rfl ?_; refine o_no rfl rfl rfl rfl ?_; refine o_no rfl rfl rfl rfl ?_; refine o_step rfl (s_pick_t rfl rfl) ?_; refine o_step rfl (s_move rfl) ?_; refine o_no rfl rfl rfl rfl ?_; refine o_no rfl rfl rfl rfl ?_; refine o_no rfl rfl rfl rfl ?_; refine o_no rfl rfl rfl rfl ?_; refine o_no rfl rfl rfl rfl ?_; refine o_step rfl (s_pick_t rfl rfl) ?_; refine o_nil ?_; refine x_then (hK15 _ _ ?_); refine c_true rfl ?_; refine c_seq fun _ hK16 => ?_; refine c_region ?_; refine o_step rfl (s_assign rfl) ?_; refine o_nil ?_; refine x_then (hK16 _ _ ?_); refine c_ret ?_; refine x_block_ret (x_then_ret (x_then_ret (x_block_ret (x_then_ret (?_)))))
       exact x_ret rfl (.tmp rfl (.nil)) ((by first | exact (congrArg Value.bool (mok_len (by omega)).symm) | exact (congrArg Value.bool (mok_last ht (by omega) (by omega)).symm) | exact (congrArg Value.bool (hU.all (by omega) (by omega)).symm) | exact (congrArg Value.bool (mok_in ht (fun h => hne (wantI_of h))).symm) | exact (congrArg Value.bool (mok_in ht (fun h => by have := InOk.bnd h; omega)).symm) | exact (congrArg Value.bool (mok_in ht (fun h => by obtain ⟨h, _⟩ := h; omega)).symm)))
      ·
       refine o_step rfl (step_cast (v' := .bool false) (s_neq_in rfl rfl) (by rw [decide_eq_true (Decidable.not_not.1 hne)]; rfl)) ?_; refine o_step rfl (s_move rfl) ?_; refine o_yes rfl rfl ?_; refine o_step rfl (s_move rfl) ?_; refine o_yes rfl rfl ?_; refine o_step rfl (s_field rfl rfl (by decide)) ?_; refine o_yes rfl rfl ?_; refine o_step rfl (s_ld rfl (.own meA rfl)) ?_; refine o_yes rfl rfl ?_; refine o_callC (us := []) (vs := [_]) (cs := [.pointer (some ⟨b1, 0, none⟩)]) (place_fn t.x b1 ra rc m) rfl rfl rfl (by exact .nil) (fun w st => (RdPK.own meA).out w st) (fun v68 S68 hv68 => ?_)
       by_cases hx : 0 ≤ t.x ∧ t.x < m.length
       ·
        rw [decide_eq_true hx] at hv68
        subst hv68; refine o_yes rfl rfl ?_; refine o_step rfl (s_not rfl) ?_; refine o_step rfl (s_pick_f rfl rfl) ?_; refine o_step rfl (s_move rfl) ?_; refine o_yes rfl rfl ?_; refine o_step rfl (s_move rfl) ?_; refine o_yes rfl rfl ?_; refine o_step rfl (s_field rfl rfl (by decide)) ?_; refine o_yes rfl rfl ?_; refine o_step rfl (s_ld rfl (.own meA rfl)) ?_; refine o_yes rfl rfl ?_; refine o_callC (us := []) (vs := [_]) (cs := [.pointer (some ⟨b1, 0, none⟩)]) (place_fn t.y b1 ra rc m) rfl rfl rfl (by exact .nil) (fun w st => (RdPK.own meA).out w st) (fun v75 S75 hv75 => ?_)
        by_cases hy : 0 ≤ t.y ∧ t.y < m.length
        ·
         rw [decide_eq_true hy] at hv75
         subst hv75; refine o_yes rfl rfl ?_; refine o_step rfl (s_not rfl) ?_; refine o_step rfl (s_pick_f rfl rfl) ?_; refine o_nil ?_; refine x_then (hK15 _ _ ?_); refine c_false rfl ?_; refine c_skip ?_; refine x_block ?_; refine x_then (hK11 _ _ ?_); refine c_region ?_; refine o_step rfl (s_add rfl rfl (by omega)) ?_; refine o_step rfl (s_move rfl) ?_; refine o_nil ?_; exact x_then (x_inv (q + 1) ⟨by omega, hU.step ht (inOk_of hI.1 (Decidable.not_not.1 hne) hx hy) hI.2⟩ (by first | omega | (dsimp only; omega)) sbA hzB)
        ·
         rw [decide_eq_false hy] at hv75
         subst hv75; refine o_yes rfl rfl ?_; refine o_step rfl (s_not rfl) ?_; refine o_step rfl (s_pick_f rfl rfl) ?_; refine o_nil ?_; refine x_then (hK15 _ _ ?_); refine c_true rfl ?_; refine c_seq fun _ hK17 => ?_; refine c_region ?_; refine o_step rfl (s_assign rfl) ?_; refine o_nil ?_; refine x_then (hK17 _ _ ?_); refine c_ret ?_; refine x_block_ret (x_then_ret (x_then_ret (x_block_ret (x_then_ret (?_)))))
         exact x_ret rfl (.tmp rfl (.nil)) ((by first | exact (congrArg Value.bool (mok_len (by omega)).symm) | exact (congrArg Value.bool (mok_last ht (by omega) (by omega)).symm) | exact (congrArg Value.bool (hU.all (by omega) (by omega)).symm) | exact (congrArg Value.bool (mok_in ht (fun h => hne (wantI_of h))).symm) | exact (congrArg Value.bool (mok_in ht (fun h => by have := InOk.bnd h; omega)).symm) | exact (congrArg Value.bool (mok_in ht (fun h => by obtain ⟨h, _⟩ := h; omega)).symm)))
       ·
        rw [decide_eq_false hx] at hv68
        subst hv68; refine o_yes rfl rfl ?_; refine o_step rfl (s_not rfl) ?_; refine o_step rfl (s_pick_f rfl rfl) ?_; refine o_step rfl (s_move rfl) ?_; refine o_no rfl rfl rfl rfl ?_; refine o_no rfl rfl rfl rfl ?_; refine o_no rfl rfl rfl rfl ?_; refine o_no rfl rfl rfl rfl ?_; refine o_no rfl rfl rfl rfl ?_; refine o_step rfl (s_pick_t rfl rfl) ?_; refine o_nil ?_; refine x_then (hK15 _ _ ?_); refine c_true rfl ?_; refine c_seq fun _ hK18 => ?_; refine c_region ?_; refine o_step rfl (s_assign rfl) ?_; refine o_nil ?_; refine x_then (hK18 _ _ ?_); refine c_ret ?_; refine x_block_ret (x_then_ret (x_then_ret (x_block_ret (x_then_ret (?_)))))
        exact x_ret rfl (.tmp rfl (.nil)) ((by first | exact (congrArg Value.bool (mok_len (by omega)).symm) | exact (congrArg Value.bool (mok_last ht (by omega) (by omega)).symm) | exact (congrArg Value.bool (hU.all (by omega) (by omega)).symm) | exact (congrArg Value.bool (mok_in ht (fun h => hne (wantI_of h))).symm) | exact (congrArg Value.bool (mok_in ht (fun h => by have := InOk.bnd h; omega)).symm) | exact (congrArg Value.bool (mok_in ht (fun h => by obtain ⟨h, _⟩ := h; omega)).symm)))
     ·
      intro _ hJ14
      refine c_seq fun _ hK19 => ?_; refine c_region ?_; refine o_step rfl (s_field rfl rfl (by decide)) ?_; refine o_step rfl (s_ld rfl (.own meA rfl)) ?_; refine o_step rfl (s_field rfl rfl (by decide)) ?_; refine o_store rfl rfl rfl upA ltA rfl ?_
      rw [show (Ein (⟨0, 0, 0, 0⟩ : In)).set 0 (.int .i8 t.op) = Ein (⟨t.op, 0, 0, 0⟩ : In) from rfl]
      refine o_nil ?_; refine x_then (hK19 _ _ ?_); refine c_seq fun _ hK20 => ?_; refine c_region ?_; refine o_step rfl (s_field rfl rfl (by decide)) ?_; refine o_step rfl (s_ld rfl (.own meA rfl)) ?_; refine o_nil ?_; refine x_then (hK20 _ _ ?_); refine c_block ?_; refine c_seq fun _ hK21 => ?_; refine c_region ?_
      by_cases h1 : t.op = 1
      ·
       refine o_step rfl (step_cast (v' := .bool true) (s_eql rfl rfl) (by rw [decide_eq_true h1])) ?_; refine o_step rfl (s_assign rfl) ?_; refine o_nil ?_; refine x_then (hK21 _ _ ?_); refine c_true rfl ?_; refine c_seq fun _ hK22 => ?_; refine c_region ?_; refine o_step rfl (s_field rfl rfl (by decide)) ?_; refine o_step rfl (s_ldB rfl (RdPK.cels (RdPK.own' (cs := Ec t.set) meA in_set)) (Ec_lenM _)) ?_; refine o_step rfl (s_field rfl rfl (by decide)) ?_; refine o_storeA (l := Ein (⟨t.op, 0, 0, 0⟩ : In)) (cs := Ec t.set) rfl rfl rfl (Enc.one _) upA (Nat.le_of_ble_eq_true rfl) (fun _ _ => frz0) ?_
       rw [show splice (Ein (⟨t.op, 0, 0, 0⟩ : In)) 1 (Ec t.set) = Ein (⟨t.op, t.set, 0, 0⟩ : In) from rfl]
       refine o_nil ?_; refine x_then (hK22 _ _ ?_); refine c_seq fun _ hK23 => ?_; refine c_region ?_; refine o_step rfl (s_move rfl) ?_; refine o_step rfl (s_add rfl rfl (by omega)) ?_; refine o_step rfl (s_ld rfl (.own meA rfl)) ?_; refine o_step rfl (s_len rfl) ?_
       by_cases he : (q : Int) + 1 = m.length
       ·
        refine o_step rfl (step_cast (v' := .bool true) (s_eql rfl rfl) (by rw [decide_eq_true (by omega)])) ?_; refine o_nil ?_; refine x_then (hK23 _ _ ?_); refine c_true rfl ?_; refine c_seq fun _ hK24 => ?_; refine c_region ?_; refine o_step rfl (s_assign rfl) ?_; refine o_nil ?_; refine x_then (hK24 _ _ ?_); refine c_ret ?_; refine x_block_ret (x_then_ret (x_block_ret (x_then_ret (x_then_ret (x_block_ret (x_then_ret (?_)))))))
        exact x_ret rfl (.tmp rfl (.nil)) ((by first | exact (congrArg Value.bool (mok_len (by omega)).symm) | exact (congrArg Value.bool (mok_last ht (by omega) (by omega)).symm) | exact (congrArg Value.bool (hU.all (by omega) (by omega)).symm) | exact (congrArg Value.bool (mok_in ht (fun h => hne (wantI_of h))).symm) | exact (congrArg Value.bool (mok_in ht (fun h => by have := InOk.bnd h; omega)).symm) | exact (congrArg Value.bool (mok_in ht (fun h => by obtain ⟨h, _⟩ := h; omega)).symm)))
       ·
        refine o_step rfl (step_cast (v' := .bool false) (s_eql rfl rfl) (by rw [decide_eq_false (by omega)])) ?_; refine o_nil ?_; refine x_then (hK23 _ _ ?_); refine c_false rfl ?_; refine c_skip ?_; refine x_block ?_
        rw [show (⟨t.op, t.set, 0, 0⟩ : In) = wantI t by rw [wantI, if_pos h1, if_neg (by omega), if_neg (by omega)]]
        exact x_then (hJ14 () _ _ ⟨by omega, fun _ => by omega⟩ sbA sbA hzB)
      ·
       refine o_step rfl (step_cast (v' := .bool false) (s_eql rfl rfl) (by rw [decide_eq_false h1])) ?_; refine o_step rfl (s_assign rfl) ?_; refine o_nil ?_; refine x_then (hK21 _ _ ?_); refine c_false rfl ?_; refine c_seq fun _ hK25 => ?_; refine c_seq fun _ hK26 => ?_; refine c_region ?_
       by_cases h2 : t.op = 2
       ·
        refine o_step rfl (step_cast (v' := .bool true) (s_eql rfl rfl) (by rw [decide_eq_true h2])) ?_; refine o_step rfl (s_assign rfl) ?_; refine o_nil ?_; refine x_then (hK26 _ _ ?_); refine c_true rfl ?_; refine c_skip ?_; refine x_then (hK25 _ _ ?_); refine c_true rfl ?_; refine c_seq fun _ hK27 => ?_; refine c_region ?_; refine o_step rfl (s_move rfl) ?_; refine o_step rfl (s_add rfl rfl (by omega)) ?_; refine o_step rfl (s_ld rfl (.own meA rfl)) ?_; refine o_step rfl (s_len rfl) ?_
        by_cases he : (q : Int) + 1 = m.length
        ·
         refine o_step rfl (step_cast (v' := .bool true) (s_eql rfl rfl) (by rw [decide_eq_true (by omega)])) ?_; refine o_nil ?_; refine x_then (hK27 _ _ ?_); refine c_true rfl ?_; refine c_seq fun _ hK28 => ?_; refine c_region ?_; refine o_step rfl (s_assign rfl) ?_; refine o_nil ?_; refine x_then (hK28 _ _ ?_); refine c_ret ?_; refine x_block_ret (x_then_ret (x_block_ret (x_then_ret (x_then_ret (x_block_ret (x_then_ret (?_)))))))
         exact x_ret rfl (.tmp rfl (.nil)) ((by first | exact (congrArg Value.bool (mok_len (by omega)).symm) | exact (congrArg Value.bool (mok_last ht (by omega) (by omega)).symm) | exact (congrArg Value.bool (hU.all (by omega) (by omega)).symm) | exact (congrArg Value.bool (mok_in ht (fun h => hne (wantI_of h))).symm) | exact (congrArg Value.bool (mok_in ht (fun h => by have := InOk.bnd h; omega)).symm) | exact (congrArg Value.bool (mok_in ht (fun h => by obtain ⟨h, _⟩ := h; omega)).symm)))
        ·
         refine o_step rfl (step_cast (v' := .bool false) (s_eql rfl rfl) (by rw [decide_eq_false (by omega)])) ?_; refine o_nil ?_; refine x_then (hK27 _ _ ?_); refine c_false rfl ?_; refine c_skip ?_; refine x_block ?_
         rw [show (⟨t.op, 0, 0, 0⟩ : In) = wantI t by rw [wantI, if_neg (by omega), if_neg (by omega), if_neg (by omega)]]
         exact x_then (hJ14 () _ _ ⟨by omega, fun _ => by omega⟩ sbA sbA hzB)
       ·
        refine o_step rfl (step_cast (v' := .bool false) (s_eql rfl rfl) (by rw [decide_eq_false h2])) ?_; refine o_step rfl (s_assign rfl) ?_; refine o_nil ?_; refine x_then (hK26 _ _ ?_); refine c_false rfl ?_; refine c_region ?_
        by_cases h3 : t.op = 3
        ·
         refine o_step rfl (step_cast (v' := .bool true) (s_eql rfl rfl) (by rw [decide_eq_true h3])) ?_; refine o_step rfl (s_assign rfl) ?_; refine o_nil ?_; refine x_then (hK25 _ _ ?_); refine c_true rfl ?_; refine c_seq fun _ hK29 => ?_; refine c_region ?_; refine o_step rfl (s_move rfl) ?_; refine o_step rfl (s_add rfl rfl (by omega)) ?_; refine o_step rfl (s_ld rfl (.own meA rfl)) ?_; refine o_step rfl (s_len rfl) ?_
         by_cases he : (q : Int) + 1 = m.length
         ·
          refine o_step rfl (step_cast (v' := .bool true) (s_eql rfl rfl) (by rw [decide_eq_true (by omega)])) ?_; refine o_nil ?_; refine x_then (hK29 _ _ ?_); refine c_true rfl ?_; refine c_seq fun _ hK30 => ?_; refine c_region ?_; refine o_step rfl (s_assign rfl) ?_; refine o_nil ?_; refine x_then (hK30 _ _ ?_); refine c_ret ?_; refine x_block_ret (x_then_ret (x_block_ret (x_then_ret (x_then_ret (x_block_ret (x_then_ret (?_)))))))
          exact x_ret rfl (.tmp rfl (.nil)) ((by first | exact (congrArg Value.bool (mok_len (by omega)).symm) | exact (congrArg Value.bool (mok_last ht (by omega) (by omega)).symm) | exact (congrArg Value.bool (hU.all (by omega) (by omega)).symm) | exact (congrArg Value.bool (mok_in ht (fun h => hne (wantI_of h))).symm) | exact (congrArg Value.bool (mok_in ht (fun h => by have := InOk.bnd h; omega)).symm) | exact (congrArg Value.bool (mok_in ht (fun h => by obtain ⟨h, _⟩ := h; omega)).symm)))
         ·
          refine o_step rfl (step_cast (v' := .bool false) (s_eql rfl rfl) (by rw [decide_eq_false (by omega)])) ?_; refine o_nil ?_; refine x_then (hK29 _ _ ?_); refine c_false rfl ?_; refine c_skip ?_; refine x_block ?_
          rw [show (⟨t.op, 0, 0, 0⟩ : In) = wantI t by rw [wantI, if_neg (by omega), if_neg (by omega), if_neg (by omega)]]
          exact x_then (hJ14 () _ _ ⟨by omega, fun _ => by omega⟩ sbA sbA hzB)
        ·
         refine o_step rfl (step_cast (v' := .bool false) (s_eql rfl rfl) (by rw [decide_eq_false h3])) ?_; refine o_step rfl (s_assign rfl) ?_; refine o_nil ?_; refine x_then (hK25 _ _ ?_); refine c_false rfl ?_; refine c_seq fun _ hK31 => ?_; refine c_region ?_
         by_cases h4 : t.op = 4
         ·
          refine o_step rfl (step_cast (v' := .bool true) (s_eql rfl rfl) (by rw [decide_eq_true h4])) ?_; refine o_step rfl (s_assign rfl) ?_; refine o_nil ?_; refine x_then (hK31 _ _ ?_); refine c_true rfl ?_; refine c_region ?_; refine o_step rfl (s_field rfl rfl (by decide)) ?_; refine o_step rfl (s_ld rfl (.own meA rfl)) ?_; refine o_step rfl (s_field rfl rfl (by decide)) ?_; refine o_store rfl rfl rfl upA ltA rfl ?_
          rw [show (Ein (⟨t.op, 0, 0, 0⟩ : In)).set 5 (.int .i64 t.x) = Ein (⟨t.op, 0, t.x, 0⟩ : In) from rfl]
          refine o_nil ?_; refine x_block ?_
          rw [show (⟨t.op, 0, t.x, 0⟩ : In) = wantI t by rw [wantI, if_neg (by omega), if_pos (.inl h4), if_neg (by omega)]]
          exact x_then (hJ14 () _ _ ⟨by omega, fun h => absurd h (by omega)⟩ sbA sbA hzB)
         ·
          refine o_step rfl (step_cast (v' := .bool false) (s_eql rfl rfl) (by rw [decide_eq_false h4])) ?_; refine o_step rfl (s_assign rfl) ?_; refine o_nil ?_; refine x_then (hK31 _ _ ?_); refine c_false rfl ?_; refine c_seq fun _ hK32 => ?_; refine c_region ?_
          by_cases h5 : t.op = 5
          ·
           refine o_step rfl (step_cast (v' := .bool true) (s_eql rfl rfl) (by rw [decide_eq_true h5])) ?_; refine o_step rfl (s_assign rfl) ?_; refine o_nil ?_; refine x_then (hK32 _ _ ?_); refine c_true rfl ?_; refine c_drawE ([(b5, .cells (Ein t).toArray 109 (0, 0))]) (fun i => false) ?_; refine e_tk 0 rfl hzB (s_field rfl rfl (by decide)) ?_; refine e_tk 1 rfl hzB (s_ld rfl (.own meA rfl)) ?_; refine e_tk 2 rfl hzB (s_field rfl rfl (by decide)) ?_; refine e_tk 3 rfl hzB (s_ld rfl (.own meA rfl)) ?_; refine e_tk 4 rfl hzB (s_field rfl rfl (by decide)) ?_; refine e_one 5 rfl (by kernel_rfl) ?_; refine o_store rfl rfl rfl upA ltA rfl ?_
           rw [show (Ein (⟨t.op, 0, 0, 0⟩ : In)).set 5 (.int .i64 t.x) = Ein (⟨t.op, 0, t.x, 0⟩ : In) from rfl]
           refine o_nil ?_; refine x_oneS hzB ?_; refine e_tk 6 rfl hzB (s_field rfl rfl (by decide)) ?_; refine e_one 7 rfl (by kernel_rfl) ?_; refine o_store rfl rfl rfl upA ltA rfl ?_
           rw [show (Ein (⟨t.op, 0, t.x, 0⟩ : In)).set 6 (.int .i64 t.y) = Ein (⟨t.op, 0, t.x, t.y⟩ : In) from rfl]
           refine o_nil ?_; refine x_oneS hzB ?_; refine e_done (by kernel_rfl) ?_; refine x_block ?_
           rw [show (⟨t.op, 0, t.x, t.y⟩ : In) = wantI t by rw [wantI, if_neg (by omega), if_pos (.inr h5), if_pos h5]]
           exact x_then (hJ14 () _ _ ⟨by omega, fun h => absurd h (by omega)⟩ sbA sbA hzB)
          ·
           refine o_step rfl (step_cast (v' := .bool false) (s_eql rfl rfl) (by rw [decide_eq_false h5])) ?_; refine o_step rfl (s_assign rfl) ?_; refine o_nil ?_; refine x_then (hK32 _ _ ?_); refine c_false rfl ?_; refine c_seq fun _ hK33 => ?_; refine c_region ?_
           by_cases h6 : t.op = 6
           ·
            refine o_step rfl (step_cast (v' := .bool true) (s_eql rfl rfl) (by rw [decide_eq_true h6])) ?_; refine o_step rfl (s_assign rfl) ?_; refine o_nil ?_; refine x_then (hK33 _ _ ?_); refine c_true rfl ?_; refine c_skip ?_; refine x_block ?_
            rw [show (⟨t.op, 0, 0, 0⟩ : In) = wantI t by rw [wantI, if_neg (by omega), if_neg (by omega), if_neg (by omega)]]
            exact x_then (hJ14 () _ _ ⟨by omega, fun h => absurd h (by omega)⟩ sbA sbA hzB)
           ·
            refine o_step rfl (step_cast (v' := .bool false) (s_eql rfl rfl) (by rw [decide_eq_false h6])) ?_; refine o_step rfl (s_assign rfl) ?_; refine o_nil ?_; refine x_then (hK33 _ _ ?_); refine c_false rfl ?_; refine c_seq fun _ hK34 => ?_; refine c_region ?_; refine o_step rfl (s_assign rfl) ?_; refine o_nil ?_; refine x_then (hK34 _ _ ?_); refine c_ret ?_; refine x_block_ret (x_then_ret (x_block_ret (x_then_ret (x_then_ret (x_block_ret (x_then_ret (?_)))))))
            exact x_ret rfl (.tmp rfl (.nil)) ((by first | exact (congrArg Value.bool (mok_len (by omega)).symm) | exact (congrArg Value.bool (mok_last ht (by omega) (by omega)).symm) | exact (congrArg Value.bool (hU.all (by omega) (by omega)).symm) | exact (congrArg Value.bool (mok_in ht (fun h => hne (wantI_of h))).symm) | exact (congrArg Value.bool (mok_in ht (fun h => by have := InOk.bnd h; omega)).symm) | exact (congrArg Value.bool (mok_in ht (fun h => by obtain ⟨h, _⟩ := h; omega)).symm)))
    ·
     obtain rfl : q = m.length := by omega
     refine o_step rfl (step_cast (v' := .bool false) (s_lss rfl rfl) (by rw [decide_eq_false (by omega)])) ?_; refine o_nil ?_; refine x_then (hK9 _ _ ?_); refine c_seq fun _ hK35 => ?_; refine c_false rfl ?_; refine c_exit ?_; refine x_then_exit ?_; refine x_then_exit ?_; refine x_block_exit ?_; refine x_then (hK7 _ _ ?_); refine c_seq fun _ hK36 => ?_; refine c_region ?_; refine o_step rfl (s_assign rfl) ?_; refine o_nil ?_; refine x_then (hK36 _ _ ?_); refine c_ret ?_; refine ?_; exact x_ret rfl (.tmp rfl (.nil)) ((by first | exact (congrArg Value.bool (mok_len (by omega)).symm) | exact (congrArg Value.bool (mok_last ht (by omega) (by omega)).symm) | exact (congrArg Value.bool (hU.all (by omega) (by omega)).symm) | exact (congrArg Value.bool (mok_in ht (fun h => hne (wantI_of h))).symm) | exact (congrArg Value.bool (mok_in ht (fun h => by have := InOk.bnd h; omega)).symm) | exact (congrArg Value.bool (mok_in ht (fun h => by obtain ⟨h, _⟩ := h; omega)).symm)))
end Go.Proofs.Ytmpeokbongnniaa

/- Part of the proofs over this seat: see the text that holds the theorem. Conditions: each theorem bears its own. -/
namespace Go.HL.Kl.Mc
structure LFound (m : List In) (w : List UInt8) (f p q : Nat) : Prop where
  fp : f ≤ p
  pq : p ≤ q
  qn : q ≤ w.length
  hit : Hit m w p q
  far : ∀ q', q < q' → q' ≤ w.length → ¬ Hit m w p q'
  near : ∀ p' q', f ≤ p' → p' < p → p' ≤ q' → q' ≤ w.length → ¬ Hit m w p' q'
def LNone (m : List In) (w : List UInt8) (f : Nat) : Prop := ∀ p q, f ≤ p → p ≤ q → q ≤ w.length → ¬ Hit m w p q
theorem EndsTo.no {m : List In} {w : List UInt8} {p : Nat} {es : List Bool} {last : Int} (h : EndsTo m w p (w.length + 1) es last) (hl : last < 0) : ∀ q, p ≤ q → q ≤ w.length → ¬ Hit m w p q := fun q h1 h2 hh => by
  rcases h.last with ⟨_, h3⟩ | ⟨q', e, _⟩
  · exact h3 q h2 ⟨h1, by omega, hh⟩
  · omega
theorem EndsTo.yes {m : List In} {w : List UInt8} {f p : Nat} {es : List Bool} {last : Int} (h : EndsTo m w p (w.length + 1) es last) (hl : 0 ≤ last) (hf : f ≤ p) (hn : ∀ p' q', f ≤ p' → p' < p → p' ≤ q' → q' ≤ w.length → ¬ Hit m w p' q') : LFound m w f p last.toNat := by
  rcases h.last with ⟨h1, _⟩ | ⟨q, e, a, b, c, d, g⟩
  · omega
  · subst e
    simp only [Int.toNat_natCast]
    exact ⟨hf, a, c, d, fun q' h1 h2 => g q' h1 (by omega) h2, hn⟩
theorem MetOk.start {N : Nat} : MetOk (List.replicate N 0) 0 (List.range N) N := by
  refine ⟨List.length_replicate, fun k v hv => ?_, fun v hv => ?_, fun k hk => List.mem_range.1 hk, List.nodup_range⟩
  · have h1 := (List.getElem?_eq_some_iff.1 hv).1
    rw [List.length_replicate] at h1
    rw [List.getElem?_replicate, if_pos h1] at hv
    cases hv
    exact ⟨fun _ => List.mem_range.2 h1, fun _ => rfl⟩
  · have := List.eq_of_mem_replicate hv
    subst this
    exact ⟨Int.le_refl _, Int.le_refl _⟩
end Go.HL.Kl.Mc

/- Part of the proofs over this seat: see the text that holds the theorem. Conditions: each theorem bears its own. -/
namespace Go.Proofs.Ytmpeokbongnniaa
open Go Go.HL Go.Proofs Go.HL.Kl Go.HL.Kl.Mc Go.HL.Kl.Mc.AskE
theorem fromP_fn (bS : Nat) (m : List In) (w : List UInt8) (es : List Bool) (S : Hp) (h : SrE bS m w.length es S) (hmr : ∀ x ∈ m, -128 ≤ x.op ∧ x.op < 128) (hmok : MOk m) (xa : Option Addr) (xc : Nat) (hwl : w.length ≤ 1000000) (f : Nat) (hf : f ≤ w.length) : HL.Fn Try.prog 90 [pt bS, .slice xa w.length xc, .int .i64 f] (fun W => Rd Eb W (.slice xa w.length xc) w ∧ Apart (keys S) (.slice xa w.length xc)) S (fun v S' => ∃ es' last, v = .int .i64 last ∧ SrE bS m w.length es' S' ∧ EndsTo m w f (w.length + 1) es' last) := by
  obtain ⟨ma, mc, ta, tc, g, l1, ea, ec, Sm, rfl, hm, hT, hM, h0, hl, hW, hE, hes, hgl, hgw⟩ := h
  exact from_fn bS ma mc m ta tc g l1 ea ec es Sm hm hmr hmok hT hM h0 hl hW hE xa xc w hwl hes hgl hgw f hf

set_option maxHeartbeats 2000000 in
theorem lnew_fn (ra : Option Addr) (rc : Nat) (m : List In) : HL.Fn Try.prog 85 [.slice ra m.length rc] (fun W => Rd Ein W (.slice ra m.length rc) m) [] (fun v S' => (mokB m = false ∧ v = .tuple #[.pointer none, .int .i64 49]) ∨ (mokB m = true ∧ ∃ bS, v = .tuple #[pt bS, .int .i64 0] ∧ ∀ n, SrE bS m n [] S')) := by
  refine fn_of Try.func85 rfl rfl rfl fun w0 hw => ?_
  have hsl := hw.sl
  have hbl := hsl.le
  refine c_seq fun _ hK1 => ?_; refine c_region ?_; refine o_step rfl (s_assign rfl) ?_; refine o_step rfl (s_assign rfl) ?_; refine o_nil ?_; refine x_then (hK1 _ _ ?_); refine c_seq fun _ hK2 => ?_; refine c_seq fun _ hK3 => ?_; refine c_region ?_; refine o_step rfl (s_move rfl) ?_; refine o_callP (mShaped_fn ra rc m) rfl rfl rfl (fun _ st => (RdK.old0 hw).out _ st) (fun v6 hv6 => ?_); subst hv6
  cases hmk : mokB m
  ·
   refine o_step rfl (s_not rfl) ?_; refine o_nil ?_; refine x_then (hK3 _ _ ?_); refine c_true rfl ?_; refine c_seq fun _ hK4 => ?_; refine c_region ?_; refine o_step rfl (s_assign rfl) ?_; refine o_step rfl (s_assign rfl) ?_; refine o_nil ?_; refine x_then (hK4 _ _ ?_); refine c_ret ?_; refine x_then_ret (?_); exact x_ret rfl (.tmp rfl (.tmp rfl (.nil))) (.inl ⟨hmk, rfl⟩)
  ·
   have hmok := mokB_iff.1 hmk
   have hml : m.length ≤ 65540 := hmok.2.1
   refine o_step rfl (s_not rfl) ?_; refine o_nil ?_; refine x_then (hK3 _ _ ?_); refine c_false rfl ?_; refine c_skip ?_; refine x_then (hK2 _ _ ?_); refine c_seq fun _ hK5 => ?_; refine c_drawE ([]) (fun i => false) ?_; refine e_tk 0 rfl (by exact HSub.nil) (s_move rfl) ?_; refine e_tk 1 rfl (by exact HSub.nil) (s_len rfl) ?_; refine e_tk 3 rfl (by exact HSub.nil) (s_move rfl) ?_; refine e_tk 4 rfl (by exact HSub.nil) (s_len rfl) ?_; refine e_join (ι := {g : (Nat × Hp) × (Nat × Hp) // OwnS Ein 7 109 (.slice (some ⟨g.1.1, 0, none⟩) m.length m.length) (List.replicate m.length (⟨0, 0, 0, 0⟩ : In)) g.1.2 ∧ OwnS Es16 1 152 (.slice (some ⟨g.2.1, 0, none⟩) m.length m.length) (List.replicate m.length (0 : Int)) g.2.2}) (fun g => [(10, .slice (some ⟨g.1.1.1, 0, none⟩) m.length m.length), (13, .slice (some ⟨g.1.2.1, 0, none⟩) m.length m.length)]) [(0, _), (2, _), (3, _)] (fun g => g.1.1.2 ++ g.1.2.2) 3 #[true, true, true, true, true, true, false, false, false] sbA (fun hJ => ?_) ?_
   ·
    refine e_any2 2 5 rfl rfl (by kernel_rfl) ?_ ?_
    ·
     refine o_make (E := Ein) (zx := (⟨0, 0, 0, 0⟩ : In)) (n := m.length) rfl rfl rfl (by omega) (by omega) rfl fun b10 S10 hS10 => ?_; refine o_nil ?_; refine x_oneS (by exact HSub.nil) ?_; refine e_one 5 rfl (by kernel_rfl) ?_; refine o_make (E := Es16) (zx := (0 : Int)) (n := m.length) rfl rfl rfl (by omega) (by omega) rfl fun b13 S13 hS13 => ?_; refine o_nil ?_; refine x_oneS (by exact HSub.nil) ?_
     exact e_lst (by kernel_rfl) (hJ ⟨((b10, S10), (b13, S13)), hS10, hS13⟩ _ _ sbA sbA hzB)
    ·
     refine o_make (E := Es16) (zx := (0 : Int)) (n := m.length) rfl rfl rfl (by omega) (by omega) rfl fun b13 S13 hS13 => ?_; refine o_nil ?_; refine x_oneS (by exact HSub.nil) ?_; refine e_one 2 rfl (by kernel_rfl) ?_; refine o_make (E := Ein) (zx := (⟨0, 0, 0, 0⟩ : In)) (n := m.length) rfl rfl rfl (by omega) (by omega) rfl fun b10 S10 hS10 => ?_; refine o_nil ?_; refine x_oneS (by exact HSub.nil) ?_
     exact e_lst (by kernel_rfl) (hJ ⟨((b10, S10), (b13, S13)), hS10, hS13⟩ _ _ sbA sbA hzB)
   ·
    rintro ⟨⟨⟨bm, Sm⟩, ⟨bt, St⟩⟩, hSm, hSt⟩
    refine e_one 6 rfl (by kernel_rfl) ?_; refine o_step rfl (s_build (cs := [_, _, _, _, _, _, _]) (vs := [_, _]) rfl rfl (.cons rfl rfl rfl rfl rfl (.cons rfl rfl rfl rfl rfl (.nil)))) ?_; refine o_nil ?_; refine x_oneS (by exact HSub.nil) ?_; refine e_one 7 rfl (by kernel_rfl) ?_; refine o_box rfl rfl rfl fun b15 => ?_; refine o_nil ?_; refine x_oneS (by exact HSub.nil) ?_; refine e_one 8 rfl (by kernel_rfl) ?_; refine o_step rfl (s_assign rfl) ?_; refine o_nil ?_; refine x_oneS (by exact HSub.nil) ?_; refine e_done (by kernel_rfl) ?_; refine x_then (hK5 _ _ ?_); refine c_seq fun _ hK6 => ?_; refine c_region ?_; refine o_step rfl (s_move rfl) ?_; refine o_step rfl (s_nil rfl) ?_; refine o_step rfl (s_field rfl rfl (by decide)) ?_; refine o_step rfl (s_ld rfl (.own meA rfl)) ?_; refine o_step rfl (s_move rfl) ?_; refine o_copy hSm (RdK.old0 hw) (by simp) rfl rfl (pkA) rfl fun S21 hS21 => ?_
    refine o_nil ?_; refine x_then (hK6 _ _ ?_); refine c_seq fun _ hK7 => ?_; refine c_region ?_; refine o_step rfl (s_move rfl) ?_; refine o_step rfl (s_assign rfl) ?_; refine o_step rfl (s_assign rfl) ?_; refine o_nil ?_; refine x_then (hK7 _ _ ?_); refine c_ret ?_; refine ?_; refine x_sub (Sub.refl _) (H' := (b15, .cells [.slice (some ⟨bm, 0, none⟩) m.length m.length, .slice (some ⟨bt, 0, none⟩) m.length m.length, .int .i16 0, .slice none 0 0, .slice none 0 0, .slice none 0 0, .int .i64 0].toArray 154 (0, 0)) :: (S21 ++ (St ++ ([] ++ ([] ++ []))))) (by simpa using hzB) ?_; exact x_ret rfl (.tmp rfl (.tmp rfl (.nil))) (.inr ⟨hmk, b15, rfl, fun n => ⟨some ⟨bm, 0, none⟩, m.length, some ⟨bt, 0, none⟩, m.length, ⟨0, 0, 0, List.replicate m.length 0, none, 0, [], none, 0, [], [], St, [], [], []⟩, List.range m.length, none, 0, S21, rfl, hS21, hSt, .start, ⟨Int.le_refl _, by show (0 : Int) ≤ 32767; decide⟩, .nil, .nil, .nil, .inr ⟨rfl, rfl⟩, Nat.zero_le _, Nat.zero_le _⟩⟩)

set_option maxHeartbeats 2000000 in
theorem lfindO_fn (bS : Nat) (ma : Option Addr) (mc : Nat) (m : List In) (ta : Option Addr) (tc : Nat) (g : FrG) (l0 : List Nat) (ea : Option Addr) (ec : Nat) (es : List Bool) (Sm : Hp) (hm : OwnS Ein 7 109 (.slice ma m.length mc) m Sm) (hmr : ∀ x ∈ m, -128 ≤ x.op ∧ x.op < 128) (hmok : MOk m) (hT : OwnS Es16 1 152 (.slice ta m.length tc) g.mt g.St) (hM : MetOk g.mt g.st l0 m.length) (h0 : 0 ≤ g.st ∧ g.st ≤ 32767) (hl : OwnS Eix 1 3 (.slice g.ha g.l.length g.hc) g.l g.Sh) (hW : OwnS Eix 1 3 (.slice g.wa g.wl.length g.wc) g.wl g.Sw) (hE : OwnS Ebo 1 4 (.slice ea es.length ec) es g.Se) (xa : Option Addr) (xc : Nat) (w : List UInt8) (hwl : w.length ≤ 1000000) (hes : es.length = w.length + 1 ∨ (es = [] ∧ ec = 0)) (hgl : g.l.length ≤ m.length) (hgw : g.wl.length ≤ m.length) (f : Int) : HL.Fn Try.prog 86 [pt bS, .slice xa w.length xc, .int .i64 f] (fun W => Rd Eb W (.slice xa w.length xc) w ∧ Apart (keys ((bS, .cells [.slice ma m.length mc, .slice ta m.length tc, .int .i16 g.st, (.slice g.ha g.l.length g.hc), (.slice g.wa g.wl.length g.wc), .slice ea es.length ec, .int .i64 g.steps].toArray 154 (0, 0)) :: (Sm ++ (g.St ++ (g.Sh ++ (g.Sw ++ g.Se)))))) (.slice xa w.length xc)) ((bS, .cells [.slice ma m.length mc, .slice ta m.length tc, .int .i16 g.st, (.slice g.ha g.l.length g.hc), (.slice g.wa g.wl.length g.wc), .slice ea es.length ec, .int .i64 g.steps].toArray 154 (0, 0)) :: (Sm ++ (g.St ++ (g.Sh ++ (g.Sw ++ g.Se))))) (fun v S' => ∃ es' c S2, S' = c :: S2 ∧ SrE bS m w.length es' S2 ∧ ((∃ p q : Nat, v = .tuple #[.agg #[.int .i64 p, .int .i64 q], .bool true] ∧ 0 ≤ f ∧ LFound m w f.toNat p q) ∨ (v = .tuple #[.agg #[.int .i64 0, .int .i64 0], .bool false] ∧ (0 ≤ f → LNone m w f.toNat)))) := by
  refine fn_of Try.func86 rfl rfl rfl fun w0 hw => ?_
  have hxl := hw.1.sl
  have hm1 : 0 < m.length := hmok.1
  have hS0 : SrE bS m w.length es ((bS, .cells [.slice ma m.length mc, .slice ta m.length tc, .int .i16 g.st, (.slice g.ha g.l.length g.hc), (.slice g.wa g.wl.length g.wc), .slice ea es.length ec, .int .i64 0].toArray 154 (0, 0)) :: (Sm ++ (g.St ++ (g.Sh ++ (g.Sw ++ g.Se))))) := ⟨ma, mc, ta, tc, { g with steps := 0 }, l0, ea, ec, Sm, rfl, hm, hT, hM, h0, hl, hW, hE, hes, hgl, hgw⟩
  refine c_seq fun _ hK1 => ?_; refine c_region ?_; refine o_alloc (l := Esp ⟨0, 0⟩) rfl rfl fun b6 => ?_; refine o_step rfl (s_assign rfl) ?_; refine o_nil ?_; refine x_then (hK1 _ _ ?_); refine c_seq fun _ hK2 => ?_; refine c_seq fun _ hK3 => ?_; refine c_region ?_; refine o_step rfl (s_move rfl) ?_; refine o_step rfl (step_cast (v' := .bool false) (s_eql_nilp rfl rfl) rfl) ?_; refine o_step rfl (s_move rfl) ?_; refine o_yes rfl rfl ?_; refine o_step rfl (s_move rfl) ?_; refine o_yes rfl rfl ?_; refine o_step rfl (s_nil rfl) ?_; refine o_yes rfl rfl ?_; refine o_step rfl (s_field rfl rfl (by decide)) ?_; refine o_yes rfl rfl ?_; refine o_step rfl (s_ld rfl (.own meA rfl)) ?_; refine o_yes rfl rfl ?_; refine o_step rfl (s_len rfl) ?_; refine o_yes rfl rfl ?_; refine o_step rfl (step_cast (v' := .bool false) (s_eql rfl rfl) (by rw [decide_eq_false (by omega)])) ?_; refine o_step rfl (s_pick_f rfl rfl) ?_
  refine o_nil ?_; refine x_then (hK3 _ _ ?_); refine c_false rfl ?_; refine c_skip ?_; refine x_then (hK2 _ _ ?_); refine c_seq fun _ hK4 => ?_; refine c_region ?_; refine o_step rfl (s_move rfl) ?_; refine o_step rfl (s_nil rfl) ?_; refine o_step rfl (s_field rfl rfl (by decide)) ?_; refine o_store rfl rfl rfl upA ltA rfl ?_; refine o_nil ?_; refine x_then (hK4 _ _ ?_); refine c_seq fun _ hK5 => ?_; refine c_seq fun _ hK6 => ?_; refine c_region ?_; refine o_step rfl (s_move rfl) ?_
  by_cases hf0 : f < 0
  ·
   refine o_step rfl (step_cast (v' := .bool true) (s_lss rfl rfl) (by rw [decide_eq_true (by omega)])) ?_; refine o_nil ?_; refine x_then (hK6 _ _ ?_); refine c_true rfl ?_; refine c_seq fun _ hK7 => ?_; refine c_region ?_; refine o_step rfl (s_build (cs := [_, _]) (vs := []) rfl rfl (.nil)) ?_; refine o_stW rfl rfl upA lnA lnA onA ?_; refine o_step rfl (s_assign rfl) ?_; refine o_nil ?_; refine x_then (hK7 _ _ ?_); refine c_ret ?_; refine x_then_ret (?_); refine x_sub (Sub.refl _) (H' := (b6, .cells (Esp ⟨0, 0⟩).toArray 51 (0, 0)) :: ((bS, .cells [.slice ma m.length mc, .slice ta m.length tc, .int .i16 g.st, (.slice g.ha g.l.length g.hc), (.slice g.wa g.wl.length g.wc), .slice ea es.length ec, .int .i64 0].toArray 154 (0, 0)) :: (Sm ++ (g.St ++ (g.Sh ++ (g.Sw ++ g.Se)))))) hzB ?_; exact x_ret rfl (.agg inferInstance inferInstance rfl (RdPK.cels (.own meA)) lnA (.tmp rfl (.nil))) (⟨es, _, _, rfl, hS0, .inr ⟨rfl, fun h => by omega⟩⟩)
  ·
   obtain ⟨f, rfl⟩ : ∃ n : Nat, f = n := ⟨f.toNat, by omega⟩
   refine o_step rfl (step_cast (v' := .bool false) (s_lss rfl rfl) (by rw [decide_eq_false (by omega)])) ?_; refine o_nil ?_; refine x_then (hK6 _ _ ?_); refine c_false rfl ?_; refine c_skip ?_; refine x_then (hK5 _ _ ?_); refine c_seq fun _ hK8 => ?_; refine c_seq fun _ hK9 => ?_; refine c_region ?_; refine o_step rfl (s_move rfl) ?_; refine o_step rfl (s_assign rfl) ?_; refine o_nil ?_; refine x_then (hK9 _ _ ?_); refine c_block ?_
   -- not carried: 7
   refine c_loop3 (fun (p : Nat) (es' : List Bool) (S' : Hp) => f ≤ p ∧ SrE bS m w.length es' S' ∧ (∀ p' q', f ≤ p' → p' < p → p' ≤ q' → q' ≤ w.length → ¬ Hit m w p' q')) (fun (p : Nat) (es' : List Bool) (S' : Hp) => [(8, .int .i64 p)]) [(0, _), (1, _), (6, _)] (fun (p : Nat) (es' : List Bool) (S' : Hp) => (b6, .cells (Esp ⟨0, 0⟩).toArray 51 (0, 0)) :: S') (fun (p : Nat) (es' : List Bool) (S' : Hp) => w.length + 1 - p) f es _ ⟨Nat.le_refl _, hS0, fun p q h1 h2 => by omega⟩ sbA sbA hzB ?_
   rintro p es' S' ⟨hfp, hS', hnp⟩
   refine c_seq fun _ hK10 => ?_; refine c_seq fun _ hK11 => ?_; refine c_region ?_; refine o_step rfl (s_move rfl) ?_; refine o_step rfl (s_move rfl) ?_; refine o_step rfl (s_len rfl) ?_
   by_cases hpn : (p : Int) ≤ w.length
   ·
    refine o_step rfl (step_cast (v' := .bool true) (s_leq rfl rfl) (by rw [decide_eq_true (by omega)])) ?_; refine o_nil ?_; refine x_then (hK11 _ _ ?_); refine c_true rfl ?_; refine c_skip ?_; refine x_then (hK10 _ _ ?_); refine c_seq fun _ hK12 => ?_; refine c_block ?_; refine c_seq fun _ hK13 => ?_; refine c_region ?_; refine o_step rfl (s_move rfl) ?_; refine o_step rfl (s_move rfl) ?_; refine o_step rfl (s_move rfl) ?_; refine o_call (fromP_fn bS m w es' S' hS' hmr hmok xa xc hwl p (by omega)) rfl rfl rfl (pkA) (fun w st => ⟨(RdK.old hw.1 hw.2).out w st, St.apart_M st (by exact hiB) hw.1 hw.2 (by decide)⟩) (fun v37 S37 ⟨es2, last, hv37, hS37, hE37⟩ => ?_); subst hv37
    refine o_step rfl (s_assign rfl) ?_; refine o_nil ?_; refine x_then (hK13 _ _ ?_); refine c_seq fun _ hK14 => ?_; refine c_region ?_; refine o_step rfl (s_move rfl) ?_
    by_cases hla : last ≥ 0
    ·
     refine o_step rfl (step_cast (v' := .bool true) (s_geq rfl rfl) (by rw [decide_eq_true (by omega)])) ?_; refine o_nil ?_; refine x_then (hK14 _ _ ?_); refine c_true rfl ?_; refine c_seq fun _ hK15 => ?_; refine c_region ?_; refine o_step rfl (s_move rfl) ?_; refine o_step rfl (s_move rfl) ?_; refine o_step rfl (s_build (cs := [_, _]) (vs := [_, _]) rfl rfl (.cons rfl rfl rfl rfl rfl (.cons rfl rfl rfl rfl rfl (.nil)))) ?_; refine o_stW rfl rfl upA lnA lnA onA ?_; refine o_step rfl (s_assign rfl) ?_; refine o_nil ?_; refine x_then (hK15 _ _ ?_); refine c_ret ?_; refine x_block_ret (x_then_ret (x_then_ret (x_block_ret (x_then_ret (?_)))))
     refine x_sub (Sub.refl _) (H' := (b6, .cells [.int .i64 p, .int .i64 last].toArray 51 (0, 0)) :: S37) hzB ?_; exact x_ret rfl (.agg inferInstance inferInstance rfl (RdPK.cels (.own meA)) lnA (.tmp rfl (.nil))) (⟨es2, _, _, rfl, hS37, .inl ⟨p, last.toNat, by rw [Int.toNat_of_nonneg (by omega)]; rfl, by omega, hE37.yes (by omega) (by simpa using hfp) (by simpa using hnp)⟩⟩)
    ·
     refine o_step rfl (step_cast (v' := .bool false) (s_geq rfl rfl) (by rw [decide_eq_false (by omega)])) ?_; refine o_nil ?_; refine x_then (hK14 _ _ ?_); refine c_false rfl ?_; refine c_skip ?_; refine x_block ?_; refine x_then (hK12 _ _ ?_); refine c_region ?_; refine o_step rfl (s_move rfl) ?_; refine o_step rfl (s_add rfl rfl (by omega)) ?_; refine o_step rfl (s_assign rfl) ?_; refine o_nil ?_; exact x_then (x_inv (p + 1, es2, S37) ⟨by omega, hS37, fun p' q' h1 h2 h3 h4 => (Nat.lt_or_ge p' p).elim (fun h => hnp p' q' h1 h h3 h4) (fun h => (show p' = p by omega) ▸ (hE37.no (by omega) q' ((show p' = p by omega) ▸ h3) h4))⟩ (by first | omega | (dsimp only; omega)) sbA hzB)
   ·
    refine o_step rfl (step_cast (v' := .bool false) (s_leq rfl rfl) (by rw [decide_eq_false (by omega)])) ?_; refine o_nil ?_; refine x_then (hK11 _ _ ?_); refine c_false rfl ?_; refine c_exit ?_; refine x_then_exit ?_; refine x_then_exit ?_; refine x_block_exit ?_; refine x_then (hK8 _ _ ?_); refine c_seq fun _ hK16 => ?_; refine c_region ?_; refine o_step rfl (s_build (cs := [_, _]) (vs := []) rfl rfl (.nil)) ?_; refine o_stW rfl rfl upA lnA lnA onA ?_; refine o_step rfl (s_assign rfl) ?_; refine o_nil ?_; refine x_then (hK16 _ _ ?_); refine c_ret ?_; refine ?_; exact x_ret rfl (.agg inferInstance inferInstance rfl (RdPK.cels (.own meA)) lnA (.tmp rfl (.nil))) (⟨es', _, _, rfl, hS', .inr ⟨rfl, fun _ p' q' h1 h2 h3 => hnp p' q' (by simpa using h1) (by omega) h2 h3⟩⟩)

theorem lfind_fn (bS : Nat) (m : List In) (w : List UInt8) (es : List Bool) (S : Hp) (h : SrE bS m w.length es S) (hmr : ∀ x ∈ m, -128 ≤ x.op ∧ x.op < 128) (hmok : MOk m) (xa : Option Addr) (xc : Nat) (hwl : w.length ≤ 1000000) (f : Int) : HL.Fn Try.prog 86 [pt bS, .slice xa w.length xc, .int .i64 f] (fun W => Rd Eb W (.slice xa w.length xc) w ∧ Apart (keys S) (.slice xa w.length xc)) S (fun v S' => ∃ es', SrE bS m w.length es' S' ∧ ((∃ p q : Nat, v = .tuple #[.agg #[.int .i64 p, .int .i64 q], .bool true] ∧ 0 ≤ f ∧ LFound m w f.toNat p q) ∨ (v = .tuple #[.agg #[.int .i64 0, .int .i64 0], .bool false] ∧ (0 ≤ f → LNone m w f.toNat)))) := by
  obtain ⟨ma, mc, ta, tc, g, l1, ea, ec, Sm, rfl, hm, hT, hM, h0, hl, hW, hE, hes, hgl, hgw⟩ := h
  refine Fn.sub (lfindO_fn bS ma mc m ta tc g l1 ea ec es Sm hm hmr hmok hT hM h0 hl hW hE xa xc w hwl hes hgl hgw f) fun v S' ⟨es', c, S2, h1, h2, h3⟩ => ?_; subst h1
  exact ⟨S2, HSub.skip (HSub.refl _), es', h2, h3⟩
end Go.Proofs.Ytmpeokbongnniaa

/- Rules for the assertion of an interface's value to a type that is no interface. Conditions: none. -/
namespace Go.HL
open Go
def noIf : TypeDesc → Bool
  | .interface _ => false
  | _ => true
section
variable {P : Program} {κ : Cx} {L : Loc} {H : Hp} {ty : TypeId} {v : Value} {x : Operand}
theorem s_tas_t {t xt : TypeId} (h : (P.underlying t).map noIf = some true) (hx : ev L x = some (.iface t v)) : Step P κ (.typeAssert x xt t true) ty L H (.tuple #[v, .bool true]) :=
  ⟨fun ρ w d pos af g hρ _ => by
    cases hu : P.underlying t with
    | none => simp [hu] at h
    | some D =>
      simp only [hu, Option.map_some, Option.some.injEq] at h
      cases D <;> first | (simp [noIf] at h; done) | simp [execOp, hρ _ _ hx, Instr.typeAssert, run_underlying hu]⟩
end
end Go.HL

/- Part of the proofs over this seat: see the text that holds the theorem. Conditions: each theorem bears its own. -/
namespace Go.HL.Kl.Mc
theorem hit_le {m : List In} {w : List UInt8} {a b : Nat} (h : Hit m w a b) : a ≤ b := by
  obtain ⟨i, t, ⟨n, hr⟩, _⟩ := h
  exact runN_le hr
theorem der_le {x : Nd} {ks : F} {w : List UInt8} (hw : (F.nd x ks .nil).wf) {a b : Nat} (h : der1 w x ks a b) : a ≤ b := hit_le ((mach_hit hw).2 h)
theorem LFound.lft {x : Nd} {ks : F} {w : List UInt8} {f p q : Nat} (hw : (F.nd x ks .nil).wf) (h : LFound (mach (.nd x ks .nil)) w f p q) : Lft w x ks f p q := by
  have key : ∀ a b, Hit (mach (.nd x ks .nil)) w a b ↔ der1 w x ks a b := fun a b => mach_hit hw
  refine ⟨h.fp, h.pq, h.qn, (key _ _).1 h.hit, fun p' q' h1 h2 h3 hd => ?_, fun q' h1 h2 hd => h.far q' h1 h2 ((key _ _).2 hd)⟩
  exact h.near p' q' h1 h2 (der_le hw hd) h3 ((key _ _).2 hd)
theorem LNone.lft {x : Nd} {ks : F} {w : List UInt8} {f : Nat} (hw : (F.nd x ks .nil).wf) (h : LNone (mach (.nd x ks .nil)) w f) : ¬ ∃ p q, f ≤ p ∧ q ≤ w.length ∧ der1 w x ks p q :=
  fun ⟨p, q, h1, h2, h3⟩ => h p q h1 (der_le hw h3) h2 ((mach_hit hw).2 h3)
theorem FindP.not {T : Nat} {re : List Nd} {w : List UInt8} {f : Nat} {x : Nd} {ks : F} (hM : May re w x ks) (h : LNone (mach (.nd x ks .nil)) w f) : FindP T re w f (.tuple #[.slice none 0 0, .bool false]) [] := by
  refine .inr ⟨fun ⟨x', ks', g, p, q, hM', hg, h1, h2, h3⟩ => ?_, rfl, rfl⟩
  obtain ⟨rfl, rfl⟩ := hM'.hs.uniq hM.hs
  have hg' : f = g := by omega
  subst hg'
  exact LNone.lft hM.hs.wf h ⟨p, q, h1, h2, h3⟩
theorem FindP.yes {T : Nat} {re : List Nd} {w : List UInt8} {f p q : Nat} {x : Nd} {ks : F} {v : Value} {S' : Hp} (hM : May re w x ks) (h : LFound (mach (.nd x ks .nil)) w f p q) (hb : BestP T re w p q v S') : FindP T re w f v S' := by
  have hl := h.lft hM.hs.wf
  rcases hb with ⟨x', ks', p', q', hM', hp, hq, h1, h2, h3, hC⟩ | ⟨hn, _⟩
  · obtain ⟨rfl, rfl⟩ := hM'.hs.uniq hM.hs
    have e1 : p = p' := by omega
    have e2 : q = q' := by omega
    subst e1 e2
    exact .inl ⟨x', ks', f, p, q, hM, rfl, hl, hC⟩
  · exact absurd ⟨x, ks, p, q, hM, rfl, rfl, h.pq, h.qn, hl.der⟩ hn
theorem FindP.out {T : Nat} {re : List Nd} {w : List UInt8} {f : Int} {x : Nd} {ks : F} (hM : May re w x ks) (h : f < 0 ∨ (w.length : Int) < f) : FindP T re w f (.tuple #[.slice none 0 0, .bool false]) [] := by
  refine .inr ⟨fun ⟨x', ks', g, p, q, hM', hg, h1, h2, h3⟩ => ?_, rfl, rfl⟩
  have := der_le hM'.hs.wf h3
  omega
end Go.HL.Kl.Mc
