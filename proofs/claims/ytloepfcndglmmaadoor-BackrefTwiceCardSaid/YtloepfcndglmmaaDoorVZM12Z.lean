/- Part of the proofs over this seat: see the text that holds the theorem. Conditions: each theorem bears its own. -/
import Derived.Test.YtloepfcndglmmaaDoorHTZ
import Derived.Test.YtloepfcndglmmaaDoorVZM7Z
import Derived.Test.YtloepfcndglmmaaDoorHM2Z
import Derived.Test.YtloepfcndglmmaaDoorBT2Z
namespace Go.Proofs.YtloepfcndglmmaaDoor
open Go Go.HL Go.Proofs Go.HL.Kl Go.HL.Kl.Mc
theorem place_fn (x : Int) (b1 : Nat) (ra : Option Addr) (rc : Nat) (m : List In) : HL.Fn Tryd.prog 98 [.int .i64 x, .pointer (some ⟨b1, 0, none⟩)] (fun w => RdP w b1 0 [.slice ra m.length rc]) [] (fun v _ => v = .bool (decide (0 ≤ x ∧ x < m.length))) := by
  refine fn_of Tryd.func98 rfl rfl rfl fun w0 hw => ?_; refine cR fun _ hK1 => ?_; refine oA (oZ hK1 (cR fun _ hK2 => ?_)); refine oM ?_
  by_cases h0 : x ≥ 0
  ·refine oS geT (oM ?_); refine oY (oM ?_); refine oY ?_; refine oS (s_ld rfl ((RdPK.old0 hw).cel (j := 0) rfl rfl)) ?_; refine oY ?_; refine oS sC ?_; refine oY ?_
   by_cases h1 : x < m.length
   ·refine oS lsT ?_; refine oS sT (oA (oZ hK2 (c_ret ?_))); refine ?_; exact xR rfl rfl ((congrArg Value.bool (decide_eq_true (by omega)).symm))
   ·refine oS lsF ?_; refine oS sT (oA (oZ hK2 (c_ret ?_))); refine ?_; exact xR rfl rfl ((congrArg Value.bool (decide_eq_false (by omega)).symm))
  ·refine oS geF (oM ?_); refine oN ?_; refine oN ?_; refine oN ?_; refine oN ?_; refine oS sP (oA (oZ hK2 (c_ret ?_))); refine ?_; exact xR rfl rfl ((congrArg Value.bool (decide_eq_false (by omega)).symm))
set_option maxHeartbeats 2000000 in
theorem mShaped_fn (ra : Option Addr) (rc : Nat) (m : List In)  : HL.Fn Tryd.prog 78 [.slice ra m.length rc] (fun w => Rd Ein w (.slice ra m.length rc) m) [] (fun v _ => v = .bool (mokB m)) := by
  refine fn_of Tryd.func78 rfl rfl rfl fun w0 hw => ?_
  have hsl := hw.sl
  have hbl := hsl.le
  refine cR fun _ hK1 => ?_; refine o_box rfl rfl rfl fun b1 => ?_; refine oA (oZ hK1 (c_seq fun _ hK2 => ?_)); refine cR fun _ hK3 => ?_; refine oS sL ?_; refine oS sC ?_
  by_cases hl1 : m.length = 0
  ·refine oS eqT (oM ?_); refine oN ?_; refine oN ?_; refine oN ?_; refine oS sT (oZ hK3 ?_); refine cT (cR fun _ hK4 => ?_); refine oA (oZ hK4 (c_ret ?_)); refine x_then_ret (?_); exact xR rfl rfl ((by first | exact (congrArg Value.bool (mok_len (by omega)).symm) | exact (congrArg Value.bool (mok_last ht (by omega) (by omega)).symm) | exact (congrArg Value.bool (hU.all (by omega) (by omega)).symm) | exact (congrArg Value.bool (mok_in ht (fun h => hne (wantI_of h))).symm) | exact (congrArg Value.bool (mok_in ht (fun h => by have := InOk.bnd h; omega)).symm) | exact (congrArg Value.bool (mok_in ht (fun h => by obtain ⟨h, _⟩ := h; omega)).symm)))
  ·refine oS eqF (oM ?_); refine oY ?_; refine oS sL ?_; refine oY ?_; refine oS sC ?_; refine oY ?_
   by_cases hl2 : (m.length : Int) > 65540
   ·refine oS gtT ?_; refine oS sP (oZ hK3 ?_); refine cT (cR fun _ hK5 => ?_); refine oA (oZ hK5 (c_ret ?_)); refine x_then_ret (?_); exact xR rfl rfl ((by first | exact (congrArg Value.bool (mok_len (by omega)).symm) | exact (congrArg Value.bool (mok_last ht (by omega) (by omega)).symm) | exact (congrArg Value.bool (hU.all (by omega) (by omega)).symm) | exact (congrArg Value.bool (mok_in ht (fun h => hne (wantI_of h))).symm) | exact (congrArg Value.bool (mok_in ht (fun h => by have := InOk.bnd h; omega)).symm) | exact (congrArg Value.bool (mok_in ht (fun h => by obtain ⟨h, _⟩ := h; omega)).symm)))
   ·refine oS gtF ?_; refine oS sP (oZ hK3 ?_); refine cFZ hK2 (cR fun _ hK6 => ?_); refine oS (s_func (us := []) (vs := [_]) rfl rfl) ?_; refine oA (oZ hK6 (c_seq fun _ hK7 => ?_)); refine cR fun _ hK8 => ?_; refine oS sL ?_; refine oS sC (oM (oZ hK8 (c_block ?_)))
    -- not carried: 2
    refine c_loopB (fun (q : Nat) => q ≤ m.length ∧ MUp m q) (fun (q : Nat) => [(18, .int .i64 q)]) [(1, _), (3, _), (16, _), (17, _)] (fun (q : Nat) => [(b1, .cells [.slice ra m.length rc].toArray 81 (0, 0))]) (fun (q : Nat) => m.length - q) 0 ⟨by omega, .zero⟩ sbA sbA hzB ?_
    rintro q ⟨hq, hU⟩
    refine cR fun _ hK9 => ?_
    by_cases hql : q < m.length
    ·obtain ⟨t, ht⟩ : ∃ t, m[q]? = some t := ⟨_, List.getElem?_eq_getElem hql⟩
     refine oS lsT (oZ hK9 (c_seq fun _ hK10 => ?_)); refine cTZ hK10 (c_seq fun _ hK11 => ?_); refine c_block (cR fun _ hK12 => ?_); refine oM ?_; refine oS (s_idx rfl rfl hsl (by omega)) ?_; refine oS (s_ldB rfl ((RdK.old0 hw).lds q ht rfl) (by rfl)) ?_; refine o_alloc (l := Ein ⟨0, 0, 0, 0⟩) (by rw [Ein_zero]; rfl) rfl fun b5 => ?_; refine oA ?_; refine o_stW rfl rfl upA lnA lnA onA ?_; refine oZ hK12 (cR fun _ hK13 => ?_); refine o_alloc (l := Ein ⟨0, 0, 0, 0⟩) (by rw [Ein_zero]; rfl) rfl fun b6 => ?_; refine oZ hK13 ?_; refine c_seqJ (ι := Unit) (fun g => (1 ≤ t.op ∧ t.op ≤ 6) ∧ (t.op ≤ 3 → q + 1 < m.length)) (fun g => []) [(1, _), (3, _), (4, _), (5, _), (6, _), (16, _), (17, _), (18, _), (19, _), (20, _), (21, _), (22, _)] (fun g => [(b6, .cells (Ein (wantI t)).toArray 119 (0, 0)), (b5, .cells (Ein t).toArray 119 (0, 0)), (b1, .cells [.slice ra m.length rc].toArray 81 (0, 0))]) sbA ?_ ?_
     ·rintro g hI
      refine cR fun _ hK15 => ?_; refine oS (s_ldB rfl (RdPK.cels (.own meA)) lnA) ?_; refine oS (s_ldB rfl (RdPK.cels (.own meA)) lnA) ?_
      by_cases hne : t ≠ wantI t
      ·refine oS (step_cast (v' := .bool true) (s_neq_in rfl rfl) (by rw [decide_eq_false hne]; rfl)) ?_; refine oM ?_; refine oN ?_; refine oN ?_; refine oN ?_; refine oN ?_; refine oN ?_; refine oS sT (oM ?_); refine oN ?_; refine oN ?_; refine oN ?_; refine oN ?_; refine oN ?_; refine oS sT (oZ hK15 ?_); refine cT (cR fun _ hK16 => ?_); refine oA (oZ hK16 (c_ret ?_)); refine x_block_ret (x_then_ret (x_then_ret (x_block_ret (x_then_ret (?_)))))
       exact xR rfl rfl ((by first | exact (congrArg Value.bool (mok_len (by omega)).symm) | exact (congrArg Value.bool (mok_last ht (by omega) (by omega)).symm) | exact (congrArg Value.bool (hU.all (by omega) (by omega)).symm) | exact (congrArg Value.bool (mok_in ht (fun h => hne (wantI_of h))).symm) | exact (congrArg Value.bool (mok_in ht (fun h => by have := InOk.bnd h; omega)).symm) | exact (congrArg Value.bool (mok_in ht (fun h => by obtain ⟨h, _⟩ := h; omega)).symm)))
      ·refine oS (step_cast (v' := .bool false) (s_neq_in rfl rfl) (by rw [decide_eq_true (Decidable.not_not.1 hne)]; rfl)) ?_; refine oM ?_; refine oY (oM ?_); refine oY ?_; refine oS sF ?_; refine oY ?_; refine oS sL ?_; refine oY ?_; refine o_callC (us := []) (vs := [_]) (cs := [.pointer (some ⟨b1, 0, none⟩)]) (place_fn t.x b1 ra rc m) rfl rfl rfl (by exact .nil) (fun w st => (RdPK.own meA).out w st) (fun v68 S68 hv68 => ?_)
       by_cases hx : 0 ≤ t.x ∧ t.x < m.length
       ·rw [decide_eq_true hx] at hv68
        subst hv68; refine oY ?_; refine oS (s_not rfl) ?_; refine oS sP (oM ?_); refine oY (oM ?_); refine oY ?_; refine oS sF ?_; refine oY ?_; refine oS sL ?_; refine oY ?_; refine o_callC (us := []) (vs := [_]) (cs := [.pointer (some ⟨b1, 0, none⟩)]) (place_fn t.y b1 ra rc m) rfl rfl rfl (by exact .nil) (fun w st => (RdPK.own meA).out w st) (fun v75 S75 hv75 => ?_)
        by_cases hy : 0 ≤ t.y ∧ t.y < m.length
        ·rw [decide_eq_true hy] at hv75
         subst hv75; refine oY ?_; refine oS (s_not rfl) ?_; refine oS sP (oZ hK15 ?_); refine cF (c_skip (x_block (xZ hK11 (c_region ?_)))); refine oS sD (oM (o_nil ?_)); exact xI (q + 1) ⟨by omega, hU.step ht (inOk_of hI.1 (Decidable.not_not.1 hne) hx hy) hI.2⟩
        ·rw [decide_eq_false hy] at hv75
         subst hv75; refine oY ?_; refine oS (s_not rfl) ?_; refine oS sP (oZ hK15 ?_); refine cT (cR fun _ hK17 => ?_); refine oA (oZ hK17 (c_ret ?_)); refine x_block_ret (x_then_ret (x_then_ret (x_block_ret (x_then_ret (?_)))))
         exact xR rfl rfl ((by first | exact (congrArg Value.bool (mok_len (by omega)).symm) | exact (congrArg Value.bool (mok_last ht (by omega) (by omega)).symm) | exact (congrArg Value.bool (hU.all (by omega) (by omega)).symm) | exact (congrArg Value.bool (mok_in ht (fun h => hne (wantI_of h))).symm) | exact (congrArg Value.bool (mok_in ht (fun h => by have := InOk.bnd h; omega)).symm) | exact (congrArg Value.bool (mok_in ht (fun h => by obtain ⟨h, _⟩ := h; omega)).symm)))
       ·rw [decide_eq_false hx] at hv68
        subst hv68; refine oY ?_; refine oS (s_not rfl) ?_; refine oS sP (oM ?_); refine oN ?_; refine oN ?_; refine oN ?_; refine oN ?_; refine oN ?_; refine oS sT (oZ hK15 ?_); refine cT (cR fun _ hK18 => ?_); refine oA (oZ hK18 (c_ret ?_)); refine x_block_ret (x_then_ret (x_then_ret (x_block_ret (x_then_ret (?_)))))
        exact xR rfl rfl ((by first | exact (congrArg Value.bool (mok_len (by omega)).symm) | exact (congrArg Value.bool (mok_last ht (by omega) (by omega)).symm) | exact (congrArg Value.bool (hU.all (by omega) (by omega)).symm) | exact (congrArg Value.bool (mok_in ht (fun h => hne (wantI_of h))).symm) | exact (congrArg Value.bool (mok_in ht (fun h => by have := InOk.bnd h; omega)).symm) | exact (congrArg Value.bool (mok_in ht (fun h => by obtain ⟨h, _⟩ := h; omega)).symm)))
     ·intro _ hJ14
      refine cR fun _ hK19 => ?_; refine oS sF ?_; refine oS sL ?_; refine oS sF ?_; refine o_store rfl rfl rfl upA ltA rfl ?_
      rw [show (Ein (⟨0, 0, 0, 0⟩ : In)).set 0 (.int .i8 t.op) = Ein (⟨t.op, 0, 0, 0⟩ : In) from rfl]
      refine oZ hK19 (cR fun _ hK20 => ?_); refine oS sF ?_; refine oS sL (oZ hK20 (c_block (cR fun _ hK21 => ?_)))
      by_cases h1 : t.op = 1
      ·refine oS (eqT (h := h1)) ?_; refine oA (oZ hK21 ?_); refine cT (cR fun _ hK22 => ?_); refine oS sF ?_; refine oS (s_ldB rfl (RdPK.cels (RdPK.own' (cs := Ec t.set) meA in_set)) (Ec_lenM _)) ?_; refine oS sF ?_; refine o_storeA (l := Ein (⟨t.op, 0, 0, 0⟩ : In)) (cs := Ec t.set) rfl rfl rfl (Enc.one _) upA (Nat.le_of_ble_eq_true rfl) (fun _ _ => frz0) ?_
       rw [show splice (Ein (⟨t.op, 0, 0, 0⟩ : In)) 1 (Ec t.set) = Ein (⟨t.op, t.set, 0, 0⟩ : In) from rfl]
       refine oZ hK22 (cR fun _ hK23 => ?_); refine oM ?_; refine oS sD ?_; refine oS sL ?_; refine oS sC ?_
       by_cases he : (q : Int) + 1 = m.length
       ·refine oS eqT (oZ hK23 ?_); refine cT (cR fun _ hK24 => ?_); refine oA (oZ hK24 (c_ret ?_)); refine x_block_ret (x_then_ret (x_block_ret (x_then_ret (x_then_ret (x_block_ret (x_then_ret (?_)))))))
        exact xR rfl rfl ((by first | exact (congrArg Value.bool (mok_len (by omega)).symm) | exact (congrArg Value.bool (mok_last ht (by omega) (by omega)).symm) | exact (congrArg Value.bool (hU.all (by omega) (by omega)).symm) | exact (congrArg Value.bool (mok_in ht (fun h => hne (wantI_of h))).symm) | exact (congrArg Value.bool (mok_in ht (fun h => by have := InOk.bnd h; omega)).symm) | exact (congrArg Value.bool (mok_in ht (fun h => by obtain ⟨h, _⟩ := h; omega)).symm)))
       ·refine oS eqF (oZ hK23 ?_); refine cF (c_skip (x_block ?_))
        rw [show (⟨t.op, t.set, 0, 0⟩ : In) = wantI t by rw [wantI, if_pos h1, if_neg (by omega), if_neg (by omega)]]
        exact x_then (hJ14 () _ _ ⟨by omega, fun _ => by omega⟩ sbA sbA hzB)
      ·refine oS (eqF (h := h1)) ?_; refine oA (oZ hK21 ?_); refine cF (c_seq fun _ hK25 => ?_); refine cR fun _ hK26 => ?_
       by_cases h2 : t.op = 2
       ·refine oS (eqT (h := h2)) ?_; refine oA (oZ hK26 ?_); refine cTZ hK25 ?_; refine cT (cR fun _ hK27 => ?_); refine oM ?_; refine oS sD ?_; refine oS sL ?_; refine oS sC ?_
        by_cases he : (q : Int) + 1 = m.length
        ·refine oS eqT (oZ hK27 ?_); refine cT (cR fun _ hK28 => ?_); refine oA (oZ hK28 (c_ret ?_)); refine x_block_ret (x_then_ret (x_block_ret (x_then_ret (x_then_ret (x_block_ret (x_then_ret (?_)))))))
         exact xR rfl rfl ((by first | exact (congrArg Value.bool (mok_len (by omega)).symm) | exact (congrArg Value.bool (mok_last ht (by omega) (by omega)).symm) | exact (congrArg Value.bool (hU.all (by omega) (by omega)).symm) | exact (congrArg Value.bool (mok_in ht (fun h => hne (wantI_of h))).symm) | exact (congrArg Value.bool (mok_in ht (fun h => by have := InOk.bnd h; omega)).symm) | exact (congrArg Value.bool (mok_in ht (fun h => by obtain ⟨h, _⟩ := h; omega)).symm)))
        ·refine oS eqF (oZ hK27 ?_); refine cF (c_skip (x_block ?_))
         rw [show (⟨t.op, 0, 0, 0⟩ : In) = wantI t by rw [wantI, if_neg (by omega), if_neg (by omega), if_neg (by omega)]]
         exact x_then (hJ14 () _ _ ⟨by omega, fun _ => by omega⟩ sbA sbA hzB)
       ·refine oS (eqF (h := h2)) ?_; refine oA (oZ hK26 ?_); refine cF (c_region ?_)
        by_cases h3 : t.op = 3
        ·refine oS (eqT (h := h3)) ?_; refine oA (oZ hK25 ?_); refine cT (cR fun _ hK29 => ?_); refine oM ?_; refine oS sD ?_; refine oS sL ?_; refine oS sC ?_
         by_cases he : (q : Int) + 1 = m.length
         ·refine oS eqT (oZ hK29 ?_); refine cT (cR fun _ hK30 => ?_); refine oA (oZ hK30 (c_ret ?_)); refine x_block_ret (x_then_ret (x_block_ret (x_then_ret (x_then_ret (x_block_ret (x_then_ret (?_)))))))
          exact xR rfl rfl ((by first | exact (congrArg Value.bool (mok_len (by omega)).symm) | exact (congrArg Value.bool (mok_last ht (by omega) (by omega)).symm) | exact (congrArg Value.bool (hU.all (by omega) (by omega)).symm) | exact (congrArg Value.bool (mok_in ht (fun h => hne (wantI_of h))).symm) | exact (congrArg Value.bool (mok_in ht (fun h => by have := InOk.bnd h; omega)).symm) | exact (congrArg Value.bool (mok_in ht (fun h => by obtain ⟨h, _⟩ := h; omega)).symm)))
         ·refine oS eqF (oZ hK29 ?_); refine cF (c_skip (x_block ?_))
          rw [show (⟨t.op, 0, 0, 0⟩ : In) = wantI t by rw [wantI, if_neg (by omega), if_neg (by omega), if_neg (by omega)]]
          exact x_then (hJ14 () _ _ ⟨by omega, fun _ => by omega⟩ sbA sbA hzB)
        ·refine oS (eqF (h := h3)) ?_; refine oA (oZ hK25 ?_); refine cF (cR fun _ hK31 => ?_)
         by_cases h4 : t.op = 4
         ·refine oS (eqT (h := h4)) ?_; refine oA (oZ hK31 ?_); refine cT (c_region ?_); refine oS sF ?_; refine oS sL ?_; refine oS sF ?_; refine o_store rfl rfl rfl upA ltA rfl ?_
          rw [show (Ein (⟨t.op, 0, 0, 0⟩ : In)).set 5 (.int .i64 t.x) = Ein (⟨t.op, 0, t.x, 0⟩ : In) from rfl]
          refine o_nil (x_block ?_)
          rw [show (⟨t.op, 0, t.x, 0⟩ : In) = wantI t by rw [wantI, if_neg (by omega), if_pos (.inl h4), if_neg (by omega)]]
          exact x_then (hJ14 () _ _ ⟨by omega, fun h => absurd h (by omega)⟩ sbA sbA hzB)
         ·refine oS (eqF (h := h4)) ?_; refine oA (oZ hK31 ?_); refine cF (cR fun _ hK32 => ?_)
          by_cases h5 : t.op = 5
          ·refine oS (eqT (h := h5)) ?_; refine oA (oZ hK32 ?_); refine cT ?_; refine c_drawE ([(b5, .cells (Ein t).toArray 119 (0, 0))]) (fun i => false) ?_; refine eK 0 rfl sF ?_; refine eK 1 rfl sL ?_; refine eK 2 rfl sF ?_; refine eK 3 rfl sL ?_; refine eK 4 rfl sF (eO 5 rfl ?_); refine o_store rfl rfl rfl upA ltA rfl ?_
           rw [show (Ein (⟨t.op, 0, 0, 0⟩ : In)).set 5 (.int .i64 t.x) = Ein (⟨t.op, 0, t.x, 0⟩ : In) from rfl]
           refine oX ?_; refine eK 6 rfl sF (eO 7 rfl ?_); refine o_store rfl rfl rfl upA ltA rfl ?_
           rw [show (Ein (⟨t.op, 0, t.x, 0⟩ : In)).set 6 (.int .i64 t.y) = Ein (⟨t.op, 0, t.x, t.y⟩ : In) from rfl]
           refine oX ?_; refine e_done (by kernel_rfl) ?_; refine x_block ?_
           rw [show (⟨t.op, 0, t.x, t.y⟩ : In) = wantI t by rw [wantI, if_neg (by omega), if_pos (.inr h5), if_pos h5]]
           exact x_then (hJ14 () _ _ ⟨by omega, fun h => absurd h (by omega)⟩ sbA sbA hzB)
          ·refine oS (eqF (h := h5)) ?_; refine oA (oZ hK32 ?_); refine cF (cR fun _ hK33 => ?_)
           by_cases h6 : t.op = 6
           ·refine oS (eqT (h := h6)) ?_; refine oA (oZ hK33 ?_); refine cT (c_skip (x_block ?_))
            rw [show (⟨t.op, 0, 0, 0⟩ : In) = wantI t by rw [wantI, if_neg (by omega), if_neg (by omega), if_neg (by omega)]]
            exact x_then (hJ14 () _ _ ⟨by omega, fun h => absurd h (by omega)⟩ sbA sbA hzB)
           ·refine oS (eqF (h := h6)) ?_; refine oA (oZ hK33 ?_); refine cF (cR fun _ hK34 => ?_); refine oA (oZ hK34 (c_ret ?_)); refine x_block_ret (x_then_ret (x_block_ret (x_then_ret (x_then_ret (x_block_ret (x_then_ret (?_)))))))
            exact xR rfl rfl ((by first | exact (congrArg Value.bool (mok_len (by omega)).symm) | exact (congrArg Value.bool (mok_last ht (by omega) (by omega)).symm) | exact (congrArg Value.bool (hU.all (by omega) (by omega)).symm) | exact (congrArg Value.bool (mok_in ht (fun h => hne (wantI_of h))).symm) | exact (congrArg Value.bool (mok_in ht (fun h => by have := InOk.bnd h; omega)).symm) | exact (congrArg Value.bool (mok_in ht (fun h => by obtain ⟨h, _⟩ := h; omega)).symm)))
    ·obtain rfl : q = m.length := by omega
     refine oS lsF (oZ hK9 (c_seq fun _ hK35 => ?_)); refine cF ?_; refine c_exit ?_; refine x_then_exit (x_then_exit (x_block_exit (xZ hK7 (cR fun _ hK36 => ?_)))); refine oA (oZ hK36 (c_ret ?_)); refine ?_; exact xR rfl rfl ((by first | exact (congrArg Value.bool (mok_len (by omega)).symm) | exact (congrArg Value.bool (mok_last ht (by omega) (by omega)).symm) | exact (congrArg Value.bool (hU.all (by omega) (by omega)).symm) | exact (congrArg Value.bool (mok_in ht (fun h => hne (wantI_of h))).symm) | exact (congrArg Value.bool (mok_in ht (fun h => by have := InOk.bnd h; omega)).symm) | exact (congrArg Value.bool (mok_in ht (fun h => by obtain ⟨h, _⟩ := h; omega)).symm)))
end Go.Proofs.YtloepfcndglmmaaDoor
namespace Go.Proofs.YtloepfcndglmmaaDoor
open Go Go.HL Go.Proofs Go.HL.Kl Go.HL.Kl.Mc Go.HL.Kl.Mc.AskE
structure TalE where
  (bT : Nat) (ra : Option Addr) (rc : Nat) (re : List Nd) (n : Nat) (ha : Option Addr) (hc : Nat) (hl : List Nat) (N : Nat)
namespace TalE
def vre (K : TalE) : Value := .slice K.ra K.re.length K.rc
def vbh (K : TalE) : Value := .slice K.ha K.hl.length K.hc
abbrev obj (K : TalE) (left : Int) : Nat × Obj := (K.bT, .cells [.slice K.ra K.re.length K.rc, .int .i64 (K.n : Nat), .slice K.ha K.hl.length K.hc, .int .i64 left].toArray 144 (0, 0))
structure ok (K : TalE) : Prop where
  rng : ∀ x ∈ K.re, -128 ≤ x.op ∧ x.op < 128
  rl : K.re.length ≤ 1000000
  nl : K.n ≤ 1000000
  Nl : K.N ≤ 1000000
  grp : ∀ y ∈ K.re, y.op = 7 → 1 ≤ y.n ∧ y.n ≤ K.N
  ref : ∀ y ∈ K.re, y.op = 8 → 1 ≤ y.n ∧ y.n ≤ K.N
  beh : ∀ k y js r i1, Part K.re (.nd y js r) k i1 → K.hl[k]? = some (k + 1 + js.size)
structure Env (K : TalE) (W : World) (S : Hp) : Prop where
  d1 : Rd En W (.slice K.ra K.re.length K.rc) K.re
  a1 : Apart (keys S) (.slice K.ra K.re.length K.rc)
  d2 : Rd Eix W (.slice K.ha K.hl.length K.hc) K.hl
  a2 : Apart (keys S) (.slice K.ha K.hl.length K.hc)
def Post (K : TalE) (left : Int) (d : Int) (Pool : Hp) (v : Value) (S' : Hp) : Prop := ∃ (a : Option Addr) (c : Nat) (zs : List (Sl Sp)) (Sz New : Hp) (lf : Int), v = .slice a zs.length c ∧ S' = K.obj lf :: (Sz ++ (New ++ Pool)) ∧
  OwnS Esl 1 32 (.slice a zs.length c) zs Sz ∧ PoolR zs K.N (New ++ Pool) ∧ (zs.length : Int) + lf ≤ left + d ∧ lf ≤ left ∧ -700000 ≤ lf
def NodeT (K : TalE) (L : Nat) : Prop := ∀ (x : Nd) (ks : F) (at_ i1 : Nat), Part K.re (.nd x ks .nil) at_ i1 → ∀ (i j : Nat), i ≤ j → j ≤ K.n → ∀ (c : Sl Sp) (Pool : Hp), RowP K.N Pool c → ∀ left : Int, 0 ≤ left → left < L → left ≤ 500000 →
  HL.Fn Tryd.prog 90 [pt K.bT, .int .i64 at_, .int .i64 i, .int .i64 j, .slice c.a c.xs.length c.c] (fun W => K.Env W (K.obj left :: Pool)) (K.obj left :: Pool) (K.Post left 0 Pool)
def RowT (K : TalE) (L : Nat) (f : F) : Prop := ∀ (at_ i1 : Nat), Part K.re f at_ i1 → ∀ (i j : Nat), i ≤ j → j ≤ K.n → ∀ (c : Sl Sp) (Pool : Hp), RowP K.N Pool c → ∀ left : Int, 0 ≤ left → left < L → left ≤ 500000 →
  HL.Fn Tryd.prog 107 [pt K.bT, .int .i64 at_, .int .i64 (f.num : Nat), .int .i64 i, .int .i64 j, .slice c.a c.xs.length c.c] (fun W => K.Env W (K.obj left :: Pool)) (K.obj left :: Pool) (K.Post left 1 Pool)
def RoundsT (K : TalE) (L : Nat) : Prop := ∀ (x y : Nd) (js : F) (at_ i1 : Nat), x.op = 6 → Part K.re (.nd x (.nd y js .nil) .nil) at_ i1 → ∀ (had : Nat), had ≤ 600000 → ∀ (i j : Nat), i ≤ j → j ≤ K.n → ∀ (c : Sl Sp) (Pool : Hp), RowP K.N Pool c → ∀ left : Int, 0 ≤ left → left < L → left ≤ 500000 → (had : Int) + left ≤ 600000 →
  HL.Fn Tryd.prog 109 [pt K.bT, .int .i64 at_, .int .i64 had, .int .i64 i, .int .i64 j, .slice c.a c.xs.length c.c] (fun W => K.Env W (K.obj left :: Pool)) (K.obj left :: Pool) (K.Post left 0 Pool)
end TalE
end Go.Proofs.YtloepfcndglmmaaDoor
namespace Go.Proofs.YtloepfcndglmmaaDoor
open Go Go.HL Go.Proofs Go.HL.Kl Go.HL.Kl.Mc Go.HL.Kl.Mc.AskE
namespace TalE
def PostV (K : TalE) (left : Int) (d : Int) (Pool : Hp) (C : List Caps → Int → Prop) (v : Value) (S' : Hp) : Prop := ∃ (a : Option Addr) (c : Nat) (zs : List (Sl Sp)) (Sz New : Hp) (lf : Int), v = .slice a zs.length c ∧ S' = K.obj lf :: (Sz ++ (New ++ Pool)) ∧
  OwnS Esl 1 32 (.slice a zs.length c) zs Sz ∧ PoolR zs K.N (New ++ Pool) ∧ (zs.length : Int) + lf ≤ left + d ∧ lf ≤ left ∧ -700000 ≤ lf ∧ (0 ≤ lf → C (zs.map Sl.xs) (left - lf))
def NodeV (K : TalE) (L : Nat) : Prop := ∀ (x : Nd) (ks : F) (at_ i1 : Nat), Part K.re (.nd x ks .nil) at_ i1 → ∀ (i j : Nat), i ≤ j → j ≤ K.n → ∀ (c : Sl Sp) (Pool : Hp), RowP K.N Pool c → ∀ left : Int, 0 ≤ left → left < L → left ≤ 500000 →
  HL.Fn Tryd.prog 90 [pt K.bT, .int .i64 at_, .int .i64 i, .int .i64 j, .slice c.a c.xs.length c.c] (fun W => K.Env W (K.obj left :: Pool)) (K.obj left :: Pool) (K.PostV left 0 Pool (NodeC' K.n x ks i j c.xs))
def RowV (K : TalE) (L : Nat) (f : F) : Prop := ∀ (at_ i1 : Nat), Part K.re f at_ i1 → ∀ (i j : Nat), i ≤ j → j ≤ K.n → ∀ (c : Sl Sp) (Pool : Hp), RowP K.N Pool c → ∀ left : Int, 0 ≤ left → left < L → left ≤ 500000 →
  HL.Fn Tryd.prog 107 [pt K.bT, .int .i64 at_, .int .i64 (f.num : Nat), .int .i64 i, .int .i64 j, .slice c.a c.xs.length c.c] (fun W => K.Env W (K.obj left :: Pool)) (K.obj left :: Pool) (K.PostV left 1 Pool (RowC K.n f i j c.xs))
def RoundsV (K : TalE) (L : Nat) : Prop := ∀ (x y : Nd) (js : F) (at_ i1 : Nat), x.op = 6 → Part K.re (.nd x (.nd y js .nil) .nil) at_ i1 → ∀ (had : Nat), had ≤ 600000 → ∀ (i j : Nat), i ≤ j → j ≤ K.n → ∀ (c : Sl Sp) (Pool : Hp), RowP K.N Pool c → ∀ left : Int, 0 ≤ left → left < L → left ≤ 500000 → (had : Int) + left ≤ 600000 →
  HL.Fn Tryd.prog 109 [pt K.bT, .int .i64 at_, .int .i64 had, .int .i64 i, .int .i64 j, .slice c.a c.xs.length c.c] (fun W => K.Env W (K.obj left :: Pool)) (K.obj left :: Pool) (K.PostV left 0 Pool (RndC K.n x y js had i j c.xs))
end TalE
end Go.Proofs.YtloepfcndglmmaaDoor
namespace Go.Proofs.YtloepfcndglmmaaDoor
open Go Go.HL Go.Proofs Go.HL.Kl Go.HL.Kl.Mc Go.HL.Kl.Mc.AskE
open TalE
set_option maxHeartbeats 4000000 in
theorem row_stepV (K : TalE) (hK : K.ok) (L : Nat) (hN : K.NodeV L) (f : F) (ih : ∀ g, g.size < f.size → K.RowV L g) (at_ i1 : Nat) (hp : Part K.re f at_ i1) (i j : Nat) (hij : i ≤ j) (hjn : j ≤ K.n) (c : Sl Sp) (Pool : Hp) (hc : RowP K.N Pool c) (left : Int) (h0 : 0 ≤ left) (hL : left < L) (h5 : left ≤ 500000) : HL.Fn Tryd.prog 107 [pt K.bT, .int .i64 at_, .int .i64 (f.num : Nat), .int .i64 i, .int .i64 j, .slice c.a c.xs.length c.c] (fun W => K.Env W (K.obj left :: Pool)) (K.obj left :: Pool) (K.PostV left 1 Pool (RowC K.n f i j c.xs)) := by
  refine fn_of Tryd.func107 rfl rfl rfl fun w0 hw => ?_
  have hnl := hK.nl
  have hNl := hK.Nl
  have hrl := hK.rl
  have hhs := hw.d2.sl
  have hple := hp.le
  have hnum := F.num_le f
  have hpl := hp.len
  refine cR fun _ hK1 => ?_; refine oA (oZ hK1 (c_seq fun _ hK2 => ?_)); refine cR fun _ hK3 => ?_; refine oM ?_
  by_cases hf0 : (f.num : Int) = 0
  ·refine oS eqT (oZ hK3 ?_); refine cT (c_seq fun _ hK4 => ?_); refine cR fun _ hK5 => ?_; refine oM (oM ?_)
   by_cases hne : (i : Int) ≠ j
   ·refine oS nqT (oZ hK5 ?_); refine cT (cR fun _ hK6 => ?_); refine oA (oZ hK6 (c_ret ?_)); refine x_then_ret (x_then_ret (?_))
    obtain rfl : f = F.nil := F.num_nil (by omega)
    exact xR rfl rfl (⟨none, 0, [], [], [], left, rfl, rfl, .nil, fun s hs => (by cases hs), by simp; omega, Int.le_refl _, by omega, fun _ => RowC.nilN (by omega) (by omega)⟩)
   ·refine oS nqF (oZ hK5 ?_); refine cFZ hK4 (cR fun _ hK7 => ?_); refine oM ?_; refine o_bs (E := Esl) (xs := [c]) (vs := [_]) rfl rfl rfl rfl rfl (by decide) (by decide) fun b23 S23 hS23 => ?_; refine oA (oZ hK7 (c_ret ?_)); refine x_then_ret (?_)
    obtain rfl : f = F.nil := F.num_nil (by omega)
    refine x_sub (Sub.refl _) (H' := K.obj left :: (S23 ++ ([] ++ Pool))) (by simpa using hzB) ?_; exact xR rfl rfl (⟨_, _, [c], S23, [], left, rfl, rfl, hS23, fun s hs => (by rw [List.mem_singleton.1 hs]; exact hc), by simp; omega, Int.le_refl _, by omega, fun _ => RowC.nilE (by omega) (List.mem_singleton_self _)⟩)
  ·obtain ⟨y, js, r, rfl⟩ : ∃ y js r, f = F.nd y js r := by cases f with | nil => exact absurd rfl hf0 | nd y a b => exact ⟨y, a, b, rfl⟩
   obtain ⟨hy, hpk, hpr⟩ := hp.head
   have hby := hK.beh _ _ _ _ _ hp
   have hp1 := hp.one
   have hbl := (List.getElem?_eq_some_iff.1 hby).1
   have hnm : (F.nd y js r).num = r.num + 1 := by simp [F.num]; try omega
   refine oS eqF (oZ hK3 ?_); refine cFZ hK2 (cR fun _ hK8 => ?_); refine oA (oZ hK8 (c_seq fun _ hK9 => ?_)); refine cR fun _ hK10 => ?_; refine oM (oA (oZ hK10 (c_block ?_))); refine c_loop7 (fun (e : Int) (ao : Option Addr) (co : Nat) (os : List (Sl Sp)) (So : Hp) (New : Hp) (lf : Int) => (i : Int) - 1 ≤ e ∧ e ≤ j ∧ OwnS Esl 1 32 (.slice ao os.length co) os So ∧ PoolR os K.N (New ++ Pool) ∧ (os.length : Int) + lf ≤ left ∧ lf ≤ left ∧ -700000 ≤ lf ∧ (r.num = 0 → (j : Int) - 1 ≤ e) ∧ (0 ≤ lf → GRow K.n y js r i j c.xs (ends (e + 1).toNat j) (os.map Sl.xs) (left - lf))) (fun (e : Int) (ao : Option Addr) (co : Nat) (os : List (Sl Sp)) (So : Hp) (New : Hp) (lf : Int) => [(14, .int .i64 e), (13, .slice ao os.length co)]) [(0, _), (1, _), (2, _), (3, _), (4, _), (5, _), (12, _)] (fun (e : Int) (ao : Option Addr) (co : Nat) (os : List (Sl Sp)) (So : Hp) (New : Hp) (lf : Int) => K.obj lf :: (So ++ (New ++ Pool))) (fun (e : Int) (ao : Option Addr) (co : Nat) (os : List (Sl Sp)) (So : Hp) (New : Hp) (lf : Int) => (e + 1 - i).toNat) (j : Int) none 0 [] [] [] left ⟨by omega, Int.le_refl _, .nil, fun s hs => (by cases hs), by simp, Int.le_refl _, by omega, fun _ => by omega, fun _ => by rw [show ((j : Int) + 1).toNat = j + 1 by omega, ends_none]; exact .nil (by omega)⟩ sbA sbA hzB ?_
   rintro e ao co os So New lf ⟨he1, he2, hO, hPo, hko, hlf, hlo, he3, hG⟩
   refine c_seq fun _ hK11 => ?_; refine cR fun _ hK12 => ?_; refine oM (oM ?_)
   by_cases hei : e ≥ (i : Int)
   ·obtain ⟨e, rfl⟩ : ∃ n : Nat, e = n := ⟨e.toNat, by omega⟩
    have hen : ((e : Int) + 1).toNat = e + 1 := by omega
    refine oS geT (oM ?_); refine oY (oM ?_); refine oY ?_; refine oS sN ?_; refine oY ?_; refine oS sF ?_; refine oY ?_; refine oS sL ?_; refine oY ?_
    by_cases hlf0 : lf ≥ 0
    ·refine oS geT ?_; refine oS sT (oZ hK12 ?_); refine cTZ hK11 (c_seq fun _ hK13 => ?_); refine c_block (c_seq fun _ hK14 => ?_); refine cR fun _ hK15 => ?_; refine oM ?_
     by_cases hn1 : ((F.nd y js r).num : Int) = 1
     ·refine oS eqT (oM ?_); refine oY (oM ?_); refine oY (oM ?_); refine oY ?_
      by_cases hejl : (e : Int) < j
      ·refine oS lsT ?_; refine oS sT (oZ hK15 ?_); refine cT ?_; refine c_exit ?_; refine x_then_exit ?_; refine x_block_pass rfl ?_; refine x_then_exit (x_then_exit (x_block_exit (xZ hK9 (cR fun _ hK16 => ?_)))); refine oM (oA (oZ hK16 (c_ret ?_))); refine ?_; refine x_sub (Sub.refl _) (H' := K.obj lf :: (So ++ (New ++ Pool))) hzB ?_
       have hfin : 0 ≤ lf → RowC K.n (F.nd y js r) i j c.xs (os.map Sl.xs) (left - lf) := fun h0 => by first | exact absurd h0 (by omega) | exact RowC.cons (hG h0) (ends_fin (fun h => by have := he3 h; omega) (fun h => by omega)) hij
       exact xR rfl rfl (⟨ao, co, os, So, New, lf, rfl, rfl, hO, hPo, by omega, hlf, hlo, hfin⟩)
      ·have hrj : r.num = 0 → e = j := by omega
       refine oS lsF ?_; refine oS sT (oZ hK15 ?_); refine cFZ hK14 (cR fun _ hK17 => ?_); refine oM (oM (oM (oM (oM ?_)))); refine o_call (hN y js at_ _ hp1 i e (by omega) (by omega) c (New ++ Pool) (hc.mono hiA) lf (by omega) (by omega) (by omega)) rfl rfl rfl ((Pick.takeC pkA pkA)) (fun _ st => ⟨(RdK.old hw.d1 hw.a1).out _ st, St.apart_M st (by exact hiB) hw.d1 hw.a1 (by decide), (RdK.old hw.d2 hw.a2).out _ st, St.apart_M st (by exact hiB) hw.d2 hw.a2 (by decide)⟩) (fun v49 S49 ⟨a49, c49, zs49, Sz49, New49, lf49, hv49, hS49, hO49, hP49, hk49, hl49, hb49, hC49⟩ => ?_)
       subst hv49; subst hS49
       refine oA (oZ hK17 (cR fun _ hK18 => ?_)); refine oA (oZ hK18 (c_block ?_)); refine c_loop7 (fun (k : Nat) (a2 : Option Addr) (c2 : Nat) (ws : List (Sl Sp)) (Sw : Hp) (New2 : Hp) (lk : Int) => k ≤ zs49.length ∧ OwnS Esl 1 32 (.slice a2 ws.length c2) ws Sw ∧ PoolR ws K.N (New2 ++ Pool) ∧ (ws.length : Int) + lk ≤ left ∧ lk ≤ left ∧ -700000 ≤ lk ∧ PoolR zs49 K.N (New2 ++ Pool) ∧ lk ≤ lf49 ∧ (0 ≤ lk → GRow K.n y js r i j c.xs (ends (e + 1) j) (ws.map Sl.xs) (left - lf) ∧ IAcc (fun c1 R k => Ct K.n (.row r e j c1) R k) ((zs49.take k).map Sl.xs) (ws.map Sl.xs) (lf49 - lk))) (fun (k : Nat) (a2 : Option Addr) (c2 : Nat) (ws : List (Sl Sp)) (Sw : Hp) (New2 : Hp) (lk : Int) => [(16, .int .i64 k), (13, .slice a2 ws.length c2)]) [(0, _), (1, _), (2, _), (3, _), (4, _), (5, _), (12, _), (14, _), (15, _), (25, _), (26, _), (27, _), (28, _), (29, _), (30, _), (31, _), (32, _), (33, _), (34, _), (37, _), (38, _), (39, _), (40, _), (41, _), (42, _), (43, _), (44, _), (45, _), (46, _), (47, _), (48, _), (49, _)] (fun (k : Nat) (a2 : Option Addr) (c2 : Nat) (ws : List (Sl Sp)) (Sw : Hp) (New2 : Hp) (lk : Int) => K.obj lk :: (Sw ++ (Sz49 ++ (New2 ++ Pool)))) (fun (k : Nat) (a2 : Option Addr) (c2 : Nat) (ws : List (Sl Sp)) (Sw : Hp) (New2 : Hp) (lk : Int) => zs49.length - k) 0 ao co os So (New49 ++ New) lf49 ⟨Nat.zero_le _, hO, by rw [List.append_assoc]; exact hPo.mono (HIn.app HIn.all), by omega, by omega, hb49, by rw [List.append_assoc]; exact hP49, Int.le_refl _, fun h => ⟨by rw [← hen]; exact hG (by omega), .nil (by omega)⟩⟩ sbA sbA (by simp only [List.append_assoc]; exact hzB) ?_
       rintro k a2 c2 ws Sw New2 lk ⟨hk, hOw, hPw, hkw, hlw, hbw, hPz, hlk9, hI2⟩
       refine c_seq fun _ hK19 => ?_; refine cR fun _ hK20 => ?_; refine oM (oM ?_); refine oS sC ?_
       by_cases hkl : (k : Int) < zs49.length
       ·obtain ⟨z, hzk⟩ : ∃ z, zs49[k]? = some z := gE
        have hzm := hP49 z (List.mem_of_getElem? hzk)
        have htk : zs49.take (k + 1) = zs49.take k ++ [z] := by rw [List.take_add_one, hzk]; rfl
        refine oS lsT (oM ?_); refine oY (oM ?_); refine oY ?_; refine oS sN ?_; refine oY ?_; refine oS sF ?_; refine oY ?_; refine oS sL ?_; refine oY ?_
        by_cases hlk0 : lk ≥ 0
        ·refine oS geT ?_; refine oS sT (oZ hK20 ?_); refine cTZ hK19 (c_seq fun _ hK21 => ?_); refine c_block ?_; refine c_drawE (Sz49) (fun i => false) ?_; refine eP 0 rfl sM ?_; refine eP 1 rfl sM ?_; refine eP 2 rfl sM ?_; refine eP 3 rfl sM ?_; refine eP 4 rfl sN ?_; refine eP 5 rfl sF ?_; refine eP 7 rfl sM ?_; refine eP 10 rfl sM ?_; refine eP 11 rfl (step_cast (v' := .int .i64 (r.num : Nat)) (s_sub rfl rfl (by omega)) (congrArg _ (by omega))) ?_; refine eP 12 rfl sM ?_; refine eP 13 rfl sM ?_; refine eP 14 rfl sM ?_; refine eP 15 rfl sM ?_; refine eP 16 rfl (s_idx rfl rfl hO49.sl (by omega)) ?_; refine eK 17 rfl (s_ld rfl ((hO49.rdk hiA).ld k 0 hzk rfl (by decide) (by omega))) ?_; refine eO 6 rfl ?_; refine oS sL (oX (eO 8 rfl ?_)); refine oS (s_idx rfl rfl hhs (by omega)) ?_; refine oX (eO 9 rfl ?_); refine oS (s_ld rfl ((RdK.old hw.d2 hw.a2).ld at_ 0 hby rfl (by decide) (by omega))) ?_; refine oX (eO 18 rfl ?_); refine o_call (ih r (by simp [F.size]; omega) _ _ hpr e j (by omega) hjn z (New2 ++ Pool) (hPz z (List.mem_of_getElem? hzk)) lk (by omega) (by omega) (by omega)) rfl rfl rfl ((Pick.takeC pkA pkA)) (fun _ st => ⟨(RdK.old hw.d1 hw.a1).out _ st, St.apart_M st (by exact hiB) hw.d1 hw.a1 (by decide), (RdK.old hw.d2 hw.a2).out _ st, St.apart_M st (by exact hiB) hw.d2 hw.a2 (by decide)⟩) (fun v81 S81 ⟨a81, c81, zs81, Sz81, New81, lf81, hv81, hS81, hO81, hP81, hk81, hl81, hb81, hC81⟩ => ?_)
         subst hv81; subst hS81
         refine oX (eO 19 rfl ?_); refine o_call (tAllV_fn K.bT K.ra K.rc K.re K.n K.ha K.hc K.hl lf81 a2 c2 ws Sw hOw a81 c81 zs81 Sz81 (New81 ++ (New2 ++ Pool)) hO81 K.N (hPw.mono hiB) hP81 hNl (by omega) hb81 (by omega) (by omega)) rfl rfl rfl ((Pick.takeC pkA (Pick.takeA pkA pkA))) (fun _ _ => trivial) (fun v82 S82 ⟨a82, c82, zs82, SL82, lf82, hv82, hS82, hO82, hP82, hk82, hl82, hb82, hC82⟩ => ?_); subst hv82
         subst hS82; refine oX (eO 20 rfl (oA (oX ?_))); refine e_done (by kernel_rfl) ?_; refine x_block (xZ hK21 (c_region (oM ?_))); refine oS sD (oA (o_nil ?_))
         have hIn : 0 ≤ lf82 → GRow K.n y js r i j c.xs (ends (e + 1) j) (zs82.map Sl.xs) (left - lf) ∧ IAcc (fun c1 R k => Ct K.n (.row r e j c1) R k) ((zs49.take (k + 1)).map Sl.xs) (zs82.map Sl.xs) (lf49 - lf82) := fun h0 => by
           obtain ⟨u1, u2, u3⟩ := hC82 h0
           have um : ∀ d ∈ ws.map Sl.xs, d ∈ zs82.map Sl.xs := fun d hd => by obtain ⟨s, s1, s2⟩ := List.mem_map.1 hd; exact List.mem_map.2 ⟨s, u1 s s1, s2⟩
           obtain ⟨v1, v2⟩ := hI2 (by omega)
           obtain ⟨kk, w1, w2⟩ := row_step (t2 := lk - lf82) (hC81 (by omega)) hrj (by rw [List.length_map]; omega)
           refine ⟨v1.mono um (Int.le_refl _), ?_⟩
           rw [htk, List.map_append, show lf49 - lf82 = (lf49 - lk) + (lk - lf82) by omega]
           exact (v2.mono um (Int.le_refl _)).snoc w1 (fun d hd => by obtain ⟨s, s1, s2⟩ := List.mem_map.1 hd; rw [← s2]; exact u2 s s1) w2
         exact x_then (x_inv (k + 1, a82, c82, zs82, SL82, New81 ++ New2, lf82) ⟨by dsimp only; omega, hO82, by rw [List.append_assoc]; exact hP82, by dsimp only; omega, by dsimp only; omega, hb82, by rw [List.append_assoc]; exact hPz.mono hiB, by dsimp only; omega, hIn⟩ (by first | omega | (dsimp only; omega)) sbA (by simp only [List.append_assoc]; exact hzB))
        ·refine oS geF ?_; refine oS sT (oZ hK20 ?_); refine cF ?_; refine c_exit ?_; refine x_then_exit (x_then_exit (x_block_exit (x_block (xZ hK13 (c_region (oM ?_)))))); refine oS sU (oA (o_nil ?_))
         have hGn : 0 ≤ lk → GRow K.n y js r i j c.xs (ends ((e : Int) - 1 + 1).toNat j) (ws.map Sl.xs) (left - lk) := fun h0 => by
           first
           | exact absurd h0 (by omega)
           | rw [show ((e : Int) - 1 + 1).toNat = e by omega, ends_snoc (by omega), show left - lk = (left - lf) + (lf - lf49) + (lf49 - lk) by omega]; obtain ⟨kn, hn1, hn2⟩ := hC49 (by omega); rw [htk] at hI2; exact GAcc.snoc (hI2 h0).1 ends_out hn1 hn2 (hI2 h0).2
         exact x_then (x_inv ((e : Int) - 1, a2, c2, ws, Sw, New2, lk) ⟨by dsimp only; omega, by dsimp only; omega, hOw, hPw, hkw, hlw, hbw, fun h => by have := hrj h; dsimp only; omega, hGn⟩ (by dsimp only; omega) sbA hzB)
       ·have htk : zs49.take k = zs49 := List.take_of_length_le (by omega)
        refine oS lsF (oM ?_); refine oN ?_; refine oN ?_; refine oN ?_; refine oN ?_; refine oN ?_; refine oS sP (oZ hK20 ?_); refine cF ?_; refine c_exit ?_; refine x_then_exit (x_then_exit (x_block_exit (x_block (xZ hK13 (c_region (oM ?_)))))); refine oS sU (oA (o_nil ?_))
        have hGn : 0 ≤ lk → GRow K.n y js r i j c.xs (ends ((e : Int) - 1 + 1).toNat j) (ws.map Sl.xs) (left - lk) := fun h0 => by
          first
          | exact absurd h0 (by omega)
          | rw [show ((e : Int) - 1 + 1).toNat = e by omega, ends_snoc (by omega), show left - lk = (left - lf) + (lf - lf49) + (lf49 - lk) by omega]; obtain ⟨kn, hn1, hn2⟩ := hC49 (by omega); rw [htk] at hI2; exact GAcc.snoc (hI2 h0).1 ends_out hn1 hn2 (hI2 h0).2
        exact x_then (x_inv ((e : Int) - 1, a2, c2, ws, Sw, New2, lk) ⟨by dsimp only; omega, by dsimp only; omega, hOw, hPw, hkw, hlw, hbw, fun h => by have := hrj h; dsimp only; omega, hGn⟩ (by dsimp only; omega) sbA hzB)
     ·have hrj : r.num = 0 → e = j := by omega
      refine oS eqF (oM ?_); refine oN ?_; refine oN ?_; refine oN ?_; refine oS sP (oZ hK15 ?_); refine cFZ hK14 (cR fun _ hK22 => ?_); refine oM (oM (oM (oM (oM ?_)))); refine o_call (hN y js at_ _ hp1 i e (by omega) (by omega) c (New ++ Pool) (hc.mono hiA) lf (by omega) (by omega) (by omega)) rfl rfl rfl ((Pick.takeC pkA pkA)) (fun _ st => ⟨(RdK.old hw.d1 hw.a1).out _ st, St.apart_M st (by exact hiB) hw.d1 hw.a1 (by decide), (RdK.old hw.d2 hw.a2).out _ st, St.apart_M st (by exact hiB) hw.d2 hw.a2 (by decide)⟩) (fun v49 S49 ⟨a49, c49, zs49, Sz49, New49, lf49, hv49, hS49, hO49, hP49, hk49, hl49, hb49, hC49⟩ => ?_)
      subst hv49; subst hS49
      refine oA (oZ hK22 (cR fun _ hK23 => ?_)); refine oA (oZ hK23 (c_block ?_)); refine c_loop7 (fun (k : Nat) (a2 : Option Addr) (c2 : Nat) (ws : List (Sl Sp)) (Sw : Hp) (New2 : Hp) (lk : Int) => k ≤ zs49.length ∧ OwnS Esl 1 32 (.slice a2 ws.length c2) ws Sw ∧ PoolR ws K.N (New2 ++ Pool) ∧ (ws.length : Int) + lk ≤ left ∧ lk ≤ left ∧ -700000 ≤ lk ∧ PoolR zs49 K.N (New2 ++ Pool) ∧ lk ≤ lf49 ∧ (0 ≤ lk → GRow K.n y js r i j c.xs (ends (e + 1) j) (ws.map Sl.xs) (left - lf) ∧ IAcc (fun c1 R k => Ct K.n (.row r e j c1) R k) ((zs49.take k).map Sl.xs) (ws.map Sl.xs) (lf49 - lk))) (fun (k : Nat) (a2 : Option Addr) (c2 : Nat) (ws : List (Sl Sp)) (Sw : Hp) (New2 : Hp) (lk : Int) => [(16, .int .i64 k), (13, .slice a2 ws.length c2)]) [(0, _), (1, _), (2, _), (3, _), (4, _), (5, _), (12, _), (14, _), (15, _), (25, _), (26, _), (27, _), (28, _), (29, _), (30, _), (31, _), (32, _), (33, _), (34, _), (37, _), (38, _), (39, _), (40, _), (41, _), (42, _), (43, _), (44, _), (45, _), (46, _), (47, _), (48, _), (49, _)] (fun (k : Nat) (a2 : Option Addr) (c2 : Nat) (ws : List (Sl Sp)) (Sw : Hp) (New2 : Hp) (lk : Int) => K.obj lk :: (Sw ++ (Sz49 ++ (New2 ++ Pool)))) (fun (k : Nat) (a2 : Option Addr) (c2 : Nat) (ws : List (Sl Sp)) (Sw : Hp) (New2 : Hp) (lk : Int) => zs49.length - k) 0 ao co os So (New49 ++ New) lf49 ⟨Nat.zero_le _, hO, by rw [List.append_assoc]; exact hPo.mono (HIn.app HIn.all), by omega, by omega, hb49, by rw [List.append_assoc]; exact hP49, Int.le_refl _, fun h => ⟨by rw [← hen]; exact hG (by omega), .nil (by omega)⟩⟩ sbA sbA (by simp only [List.append_assoc]; exact hzB) ?_
      rintro k a2 c2 ws Sw New2 lk ⟨hk, hOw, hPw, hkw, hlw, hbw, hPz, hlk9, hI2⟩
      refine c_seq fun _ hK24 => ?_; refine cR fun _ hK25 => ?_; refine oM (oM ?_); refine oS sC ?_
      by_cases hkl : (k : Int) < zs49.length
      ·obtain ⟨z, hzk⟩ : ∃ z, zs49[k]? = some z := gE
       have hzm := hP49 z (List.mem_of_getElem? hzk)
       have htk : zs49.take (k + 1) = zs49.take k ++ [z] := by rw [List.take_add_one, hzk]; rfl
       refine oS lsT (oM ?_); refine oY (oM ?_); refine oY ?_; refine oS sN ?_; refine oY ?_; refine oS sF ?_; refine oY ?_; refine oS sL ?_; refine oY ?_
       by_cases hlk0 : lk ≥ 0
       ·refine oS geT ?_; refine oS sT (oZ hK25 ?_); refine cTZ hK24 (c_seq fun _ hK26 => ?_); refine c_block ?_; refine c_drawE (Sz49) (fun i => false) ?_; refine eP 0 rfl sM ?_; refine eP 1 rfl sM ?_; refine eP 2 rfl sM ?_; refine eP 3 rfl sM ?_; refine eP 4 rfl sN ?_; refine eP 5 rfl sF ?_; refine eP 7 rfl sM ?_; refine eP 10 rfl sM ?_; refine eP 11 rfl (step_cast (v' := .int .i64 (r.num : Nat)) (s_sub rfl rfl (by omega)) (congrArg _ (by omega))) ?_; refine eP 12 rfl sM ?_; refine eP 13 rfl sM ?_; refine eP 14 rfl sM ?_; refine eP 15 rfl sM ?_; refine eP 16 rfl (s_idx rfl rfl hO49.sl (by omega)) ?_; refine eK 17 rfl (s_ld rfl ((hO49.rdk hiA).ld k 0 hzk rfl (by decide) (by omega))) ?_; refine eO 6 rfl ?_; refine oS sL (oX (eO 8 rfl ?_)); refine oS (s_idx rfl rfl hhs (by omega)) ?_; refine oX (eO 9 rfl ?_); refine oS (s_ld rfl ((RdK.old hw.d2 hw.a2).ld at_ 0 hby rfl (by decide) (by omega))) ?_; refine oX (eO 18 rfl ?_); refine o_call (ih r (by simp [F.size]; omega) _ _ hpr e j (by omega) hjn z (New2 ++ Pool) (hPz z (List.mem_of_getElem? hzk)) lk (by omega) (by omega) (by omega)) rfl rfl rfl ((Pick.takeC pkA pkA)) (fun _ st => ⟨(RdK.old hw.d1 hw.a1).out _ st, St.apart_M st (by exact hiB) hw.d1 hw.a1 (by decide), (RdK.old hw.d2 hw.a2).out _ st, St.apart_M st (by exact hiB) hw.d2 hw.a2 (by decide)⟩) (fun v81 S81 ⟨a81, c81, zs81, Sz81, New81, lf81, hv81, hS81, hO81, hP81, hk81, hl81, hb81, hC81⟩ => ?_)
        subst hv81; subst hS81
        refine oX (eO 19 rfl ?_); refine o_call (tAllV_fn K.bT K.ra K.rc K.re K.n K.ha K.hc K.hl lf81 a2 c2 ws Sw hOw a81 c81 zs81 Sz81 (New81 ++ (New2 ++ Pool)) hO81 K.N (hPw.mono hiB) hP81 hNl (by omega) hb81 (by omega) (by omega)) rfl rfl rfl ((Pick.takeC pkA (Pick.takeA pkA pkA))) (fun _ _ => trivial) (fun v82 S82 ⟨a82, c82, zs82, SL82, lf82, hv82, hS82, hO82, hP82, hk82, hl82, hb82, hC82⟩ => ?_); subst hv82
        subst hS82; refine oX (eO 20 rfl (oA (oX ?_))); refine e_done (by kernel_rfl) ?_; refine x_block (xZ hK26 (c_region (oM ?_))); refine oS sD (oA (o_nil ?_))
        have hIn : 0 ≤ lf82 → GRow K.n y js r i j c.xs (ends (e + 1) j) (zs82.map Sl.xs) (left - lf) ∧ IAcc (fun c1 R k => Ct K.n (.row r e j c1) R k) ((zs49.take (k + 1)).map Sl.xs) (zs82.map Sl.xs) (lf49 - lf82) := fun h0 => by
          obtain ⟨u1, u2, u3⟩ := hC82 h0
          have um : ∀ d ∈ ws.map Sl.xs, d ∈ zs82.map Sl.xs := fun d hd => by obtain ⟨s, s1, s2⟩ := List.mem_map.1 hd; exact List.mem_map.2 ⟨s, u1 s s1, s2⟩
          obtain ⟨v1, v2⟩ := hI2 (by omega)
          obtain ⟨kk, w1, w2⟩ := row_step (t2 := lk - lf82) (hC81 (by omega)) hrj (by rw [List.length_map]; omega)
          refine ⟨v1.mono um (Int.le_refl _), ?_⟩
          rw [htk, List.map_append, show lf49 - lf82 = (lf49 - lk) + (lk - lf82) by omega]
          exact (v2.mono um (Int.le_refl _)).snoc w1 (fun d hd => by obtain ⟨s, s1, s2⟩ := List.mem_map.1 hd; rw [← s2]; exact u2 s s1) w2
        exact x_then (x_inv (k + 1, a82, c82, zs82, SL82, New81 ++ New2, lf82) ⟨by dsimp only; omega, hO82, by rw [List.append_assoc]; exact hP82, by dsimp only; omega, by dsimp only; omega, hb82, by rw [List.append_assoc]; exact hPz.mono hiB, by dsimp only; omega, hIn⟩ (by first | omega | (dsimp only; omega)) sbA (by simp only [List.append_assoc]; exact hzB))
       ·refine oS geF ?_; refine oS sT (oZ hK25 ?_); refine cF ?_; refine c_exit ?_; refine x_then_exit (x_then_exit (x_block_exit (x_block (xZ hK13 (c_region (oM ?_)))))); refine oS sU (oA (o_nil ?_))
        have hGn : 0 ≤ lk → GRow K.n y js r i j c.xs (ends ((e : Int) - 1 + 1).toNat j) (ws.map Sl.xs) (left - lk) := fun h0 => by
          first
          | exact absurd h0 (by omega)
          | rw [show ((e : Int) - 1 + 1).toNat = e by omega, ends_snoc (by omega), show left - lk = (left - lf) + (lf - lf49) + (lf49 - lk) by omega]; obtain ⟨kn, hn1, hn2⟩ := hC49 (by omega); rw [htk] at hI2; exact GAcc.snoc (hI2 h0).1 ends_out hn1 hn2 (hI2 h0).2
        exact x_then (x_inv ((e : Int) - 1, a2, c2, ws, Sw, New2, lk) ⟨by dsimp only; omega, by dsimp only; omega, hOw, hPw, hkw, hlw, hbw, fun h => by have := hrj h; dsimp only; omega, hGn⟩ (by dsimp only; omega) sbA hzB)
      ·have htk : zs49.take k = zs49 := List.take_of_length_le (by omega)
       refine oS lsF (oM ?_); refine oN ?_; refine oN ?_; refine oN ?_; refine oN ?_; refine oN ?_; refine oS sP (oZ hK25 ?_); refine cF ?_; refine c_exit ?_; refine x_then_exit (x_then_exit (x_block_exit (x_block (xZ hK13 (c_region (oM ?_)))))); refine oS sU (oA (o_nil ?_))
       have hGn : 0 ≤ lk → GRow K.n y js r i j c.xs (ends ((e : Int) - 1 + 1).toNat j) (ws.map Sl.xs) (left - lk) := fun h0 => by
         first
         | exact absurd h0 (by omega)
         | rw [show ((e : Int) - 1 + 1).toNat = e by omega, ends_snoc (by omega), show left - lk = (left - lf) + (lf - lf49) + (lf49 - lk) by omega]; obtain ⟨kn, hn1, hn2⟩ := hC49 (by omega); rw [htk] at hI2; exact GAcc.snoc (hI2 h0).1 ends_out hn1 hn2 (hI2 h0).2
       exact x_then (x_inv ((e : Int) - 1, a2, c2, ws, Sw, New2, lk) ⟨by dsimp only; omega, by dsimp only; omega, hOw, hPw, hkw, hlw, hbw, fun h => by have := hrj h; dsimp only; omega, hGn⟩ (by dsimp only; omega) sbA hzB)
    ·refine oS geF ?_; refine oS sT (oZ hK12 ?_); refine cF ?_; refine c_exit ?_; refine x_then_exit (x_then_exit (x_block_exit (xZ hK9 (cR fun _ hK27 => ?_)))); refine oM (oA (oZ hK27 (c_ret ?_))); refine ?_; refine x_sub (Sub.refl _) (H' := K.obj lf :: (So ++ (New ++ Pool))) hzB ?_
     have hfin : 0 ≤ lf → RowC K.n (F.nd y js r) i j c.xs (os.map Sl.xs) (left - lf) := fun h0 => by first | exact absurd h0 (by omega) | exact RowC.cons (hG h0) (ends_fin (fun h => by have := he3 h; omega) (fun h => by omega)) hij
     exact xR rfl rfl (⟨ao, co, os, So, New, lf, rfl, rfl, hO, hPo, by omega, hlf, hlo, hfin⟩)
   ·refine oS geF (oM ?_); refine oN ?_; refine oN ?_; refine oN ?_; refine oN ?_; refine oN ?_; refine oS sP (oZ hK12 ?_); refine cF ?_; refine c_exit ?_; refine x_then_exit (x_then_exit (x_block_exit (xZ hK9 (cR fun _ hK28 => ?_)))); refine oM (oA (oZ hK28 (c_ret ?_))); refine ?_; refine x_sub (Sub.refl _) (H' := K.obj lf :: (So ++ (New ++ Pool))) hzB ?_
    have hfin : 0 ≤ lf → RowC K.n (F.nd y js r) i j c.xs (os.map Sl.xs) (left - lf) := fun h0 => by first | exact absurd h0 (by omega) | exact RowC.cons (hG h0) (ends_fin (fun h => by have := he3 h; omega) (fun h => by omega)) hij
    exact xR rfl rfl (⟨ao, co, os, So, New, lf, rfl, rfl, hO, hPo, by omega, hlf, hlo, hfin⟩)
end Go.Proofs.YtloepfcndglmmaaDoor
namespace Go.Proofs.YtloepfcndglmmaaDoor
open Go Go.HL Go.Proofs Go.HL.Kl Go.HL.Kl.Mc Go.HL.Kl.Mc.AskE
structure TalJ where
  (a : Option Addr) (c : Nat) (zs : List (Sl Sp)) (S New : Hp) (lf : Int)
end Go.Proofs.YtloepfcndglmmaaDoor
