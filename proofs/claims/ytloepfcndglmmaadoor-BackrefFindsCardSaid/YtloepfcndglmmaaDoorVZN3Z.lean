/- Part of the proofs over this seat: see the text that holds the theorem. Conditions: each theorem bears its own. -/
import Derived.Test.YtloepfcndglmmaaDoorHTZ
import Derived.Test.YtloepfcndglmmaaDoorMT6Z
import Derived.Test.YtloepfcndglmmaaDoorHlB
import GoSem.Instr.MapUpdate
import GoSem.Instr.MakeMap
namespace Go.Proofs.YtloepfcndglmmaaDoor
open Go Go.HL Go.Proofs Go.HL.Kl Go.HL.Kl.Mc
set_option maxHeartbeats 1000000 in
theorem flds_fn (x : Nd) (hop : -128 ≤ x.op ∧ x.op < 128) : HL.Fn Tryd.prog 101 [.agg (En x).toArray] (fun _ => True) [] (fun v _ => v = .bool (flds x)) := by
  refine fn_of Tryd.func101 rfl rfl rfl fun w0 hw => ?_; refine cR fun _ hK1 => ?_; refine o_box rfl rfl rfl fun b1 => ?_; refine oA (oZ hK1 (cR fun _ hK2 => ?_)); refine oS sF ?_; refine oS sL ?_; refine oS (s_convI rfl (by omega)) ?_; refine oA (oZ hK2 (c_seq fun _ hK3 => ?_)); refine cR fun _ hK4 => ?_; refine oM ?_
  by_cases h1 : x.op < 1
  ·refine oS lsT (oM ?_); refine oN ?_; refine oN ?_; refine oS sT (oZ hK4 ?_); refine cT (cR fun _ hK5 => ?_); refine oA (oZ hK5 (c_ret ?_)); refine x_then_ret (?_); exact xR rfl rfl ((congrArg Value.bool (Eq.symm (Bool.eq_false_iff.2 (fun h => by obtain ⟨a, _, b, c, d⟩ := flds_iff.1 h; omega)))))
  ·refine oS lsF (oM ?_); refine oY (oM ?_); refine oY ?_
   by_cases h2 : x.op > 8
   ·refine oS gtT ?_; refine oS sP (oZ hK4 ?_); refine cT (cR fun _ hK6 => ?_); refine oA (oZ hK6 (c_ret ?_)); refine x_then_ret (?_); exact xR rfl rfl ((congrArg Value.bool (Eq.symm (Bool.eq_false_iff.2 (fun h => by obtain ⟨a, _, b, c, d⟩ := flds_iff.1 h; omega)))))
   ·refine oS gtF ?_; refine oS sP (oZ hK4 ?_); refine cFZ hK3 ?_; refine c_seqJ (ι := Unit) (fun g => x.op = 1 ∨ x.set = 0) (fun g => []) [(1, _), (3, _)] (fun g => [(b1, .cells (En x).toArray 80 (0, 0))]) sbA ?_ ?_
    ·rintro g hset
     refine c_seqJ (ι := Unit) (fun g => x.op = 7 ∨ x.op = 8 ∨ x.n = 0) (fun g => []) [(1, _), (3, _)] (fun g => [(b1, .cells (En x).toArray 80 (0, 0))]) sbA ?_ ?_
     ·rintro g hgn
      refine c_seq fun _ hK9 => ?_; refine cR fun _ hK10 => ?_; refine oM ?_
      by_cases h8 : x.op ≠ 6
      ·refine oS nqT (oZ hK10 ?_); refine cT (cR fun _ hK11 => ?_); refine oS sF ?_; refine oS sL ?_
       by_cases h9 : x.mn = 0
       ·refine oS eqT (oM ?_); refine oY ?_; refine oS sF ?_; refine oY ?_; refine oS sL ?_; refine oY ?_
        by_cases h10 : x.mx = 0
        ·refine oS eqT ?_; refine oS sT (oA (oZ hK11 (c_ret ?_))); refine x_then_ret (?_); exact xR rfl rfl ((congrArg Value.bool (Eq.symm (flds_iff.2 ⟨by omega, hset, hgn, fun _ => by omega, fun _ => by omega⟩))))
        ·refine oS eqF ?_; refine oS sT (oA (oZ hK11 (c_ret ?_))); refine x_then_ret (?_); exact xR rfl rfl ((congrArg Value.bool (Eq.symm (Bool.eq_false_iff.2 (fun h => by obtain ⟨a, _, b, c, d⟩ := flds_iff.1 h; omega)))))
       ·refine oS eqF (oM ?_); refine oN ?_; refine oN ?_; refine oN ?_; refine oS sP (oA (oZ hK11 (c_ret ?_))); refine x_then_ret (?_); exact xR rfl rfl ((congrArg Value.bool (Eq.symm (Bool.eq_false_iff.2 (fun h => by obtain ⟨a, _, b, c, d⟩ := flds_iff.1 h; omega)))))
      ·refine oS nqF (oZ hK10 ?_); refine cFZ hK9 (cR fun _ hK12 => ?_); refine oS sF ?_; refine oS sL ?_
       by_cases k1 : x.mn ≥ 0
       ·refine oS geT (oM ?_); refine oY ?_; refine oS sF ?_; refine oY ?_; refine oS sL ?_; refine oY ?_
        by_cases k2 : x.mn ≤ 255
        ·refine oS leT ?_; refine oS sT (oM ?_); refine oY ?_; refine oS sF ?_; refine oY ?_; refine oS sL ?_; refine oY ?_
         by_cases k3 : x.mx = -1
         ·refine oS eqT ?_; refine oY (oM ?_); refine oN ?_; refine oN ?_; refine oN ?_; refine oN ?_; refine oN ?_; refine oN ?_; refine oU ?_; refine oU ?_; refine oU ?_; refine oN ?_; refine oY ?_; refine oS sT ?_; refine oS sT (oA (oZ hK12 (c_ret ?_))); refine ?_; exact xR rfl rfl ((congrArg Value.bool (Eq.symm (flds_iff.2 ⟨by omega, hset, hgn, fun _ => by omega, fun _ => by omega⟩))))
         ·refine oS eqF ?_; refine oY (oM ?_); refine oY ?_; refine oS sF ?_; refine oY ?_; refine oS sL ?_; refine oY ?_; refine oS sF ?_; refine oY ?_; refine oS sL ?_; refine oY ?_
          by_cases k4 : x.mx ≥ x.mn
          ·refine oS geT ?_; refine oY (oM ?_); refine oY ?_; refine oS sF ?_; refine oY ?_; refine oS sL ?_; refine oY ?_
           by_cases k5 : x.mx ≤ 255
           ·refine oS leT ?_; refine oY ?_; refine oS sT ?_; refine oY ?_; refine oS sP ?_; refine oS sT (oA (oZ hK12 (c_ret ?_))); refine ?_; exact xR rfl rfl ((congrArg Value.bool (Eq.symm (flds_iff.2 ⟨by omega, hset, hgn, fun _ => by omega, fun _ => by omega⟩))))
           ·refine oS leF ?_; refine oY ?_; refine oS sT ?_; refine oY ?_; refine oS sP ?_; refine oS sT (oA (oZ hK12 (c_ret ?_))); refine ?_; exact xR rfl rfl ((congrArg Value.bool (Eq.symm (Bool.eq_false_iff.2 (fun h => by obtain ⟨a, _, b, c, d⟩ := flds_iff.1 h; omega)))))
          ·refine oS geF ?_; refine oY (oM ?_); refine oN ?_; refine oN ?_; refine oN ?_; refine oY ?_; refine oS sP ?_; refine oY ?_; refine oS sP ?_; refine oS sT (oA (oZ hK12 (c_ret ?_))); refine ?_; exact xR rfl rfl ((congrArg Value.bool (Eq.symm (Bool.eq_false_iff.2 (fun h => by obtain ⟨a, _, b, c, d⟩ := flds_iff.1 h; omega)))))
        ·refine oS leF ?_; refine oS sT (oM ?_); refine oN ?_; refine oN ?_; refine oN ?_; refine oN ?_; refine oU ?_; refine oU ?_; refine oU ?_; refine oU ?_; refine oU ?_; refine oU ?_; refine oU ?_; refine oU ?_; refine oU ?_; refine oU ?_; refine oN ?_; refine oS sP (oA (oZ hK12 (c_ret ?_))); refine ?_; exact xR rfl rfl ((congrArg Value.bool (Eq.symm (Bool.eq_false_iff.2 (fun h => by obtain ⟨a, _, b, c, d⟩ := flds_iff.1 h; omega)))))
       ·refine oS geF (oM ?_); refine oN ?_; refine oN ?_; refine oN ?_; refine oS sP (oM ?_); refine oN ?_; refine oN ?_; refine oN ?_; refine oN ?_; refine oU ?_; refine oU ?_; refine oU ?_; refine oU ?_; refine oU ?_; refine oU ?_; refine oU ?_; refine oU ?_; refine oU ?_; refine oU ?_; refine oN ?_; refine oS sP (oA (oZ hK12 (c_ret ?_))); refine ?_; exact xR rfl rfl ((congrArg Value.bool (Eq.symm (Bool.eq_false_iff.2 (fun h => by obtain ⟨a, _, b, c, d⟩ := flds_iff.1 h; omega)))))
     ·intro _ hJ8
      refine cR fun _ hK13 => ?_; refine oM ?_
      by_cases h5 : x.op ≠ 7
      ·refine oS nqT (oM ?_); refine oY (oM ?_); refine oY ?_
       by_cases h6 : x.op ≠ 8
       ·refine oS nqT ?_; refine oS sT (oM ?_); refine oY ?_; refine oS sF ?_; refine oY ?_; refine oS sL ?_; refine oY ?_
        by_cases h7 : x.n ≠ 0
        ·refine oS nqT ?_; refine oS sT (oZ hK13 ?_); refine cT (cR fun _ hK14 => ?_); refine oA (oZ hK14 (c_ret ?_)); refine x_then_ret (?_); exact xR rfl rfl ((congrArg Value.bool (Eq.symm (Bool.eq_false_iff.2 (fun h => by obtain ⟨a, _, b, c, d⟩ := flds_iff.1 h; omega)))))
        ·refine oS nqF ?_; refine oS sT (oZ hK13 ?_); refine cF (c_skip ?_); exact x_then (hJ8 () _ _ (by omega) sbA sbA hzB)
       ·refine oS nqF ?_; refine oS sT (oM ?_); refine oN ?_; refine oN ?_; refine oN ?_; refine oS sP (oZ hK13 ?_); refine cF (c_skip ?_); exact x_then (hJ8 () _ _ (by omega) sbA sbA hzB)
      ·refine oS nqF (oM ?_); refine oN ?_; refine oN ?_; refine oS sP (oM ?_); refine oN ?_; refine oN ?_; refine oN ?_; refine oS sP (oZ hK13 ?_); refine cF (c_skip ?_); exact x_then (hJ8 () _ _ (by omega) sbA sbA hzB)
    ·intro _ hJ7
     refine cR fun _ hK15 => ?_; refine oM ?_
     by_cases h3 : x.op ≠ 1
     ·refine oS nqT (oM ?_); refine oY ?_; refine oS sF ?_; refine oY ?_; refine oS (s_ldB rfl (RdPK.cels (RdPK.own' (cs := Ec x.set) meA nd_set)) (Ec_lenM _)) ?_; refine oY ?_; refine oS (step_cast (v' := .agg (Ec 0#256).toArray) (s_build0 rfl) (by rw [Ec_zero]; rfl)) ?_; refine oY ?_
      by_cases h4 : x.set ≠ 0#256
      ·refine oS (step_cast (v' := .bool true) (s_neq_cl rfl rfl) (by rw [decide_eq_true h4])) ?_; refine oS sT (oZ hK15 ?_); refine cT (cR fun _ hK16 => ?_); refine oA (oZ hK16 (c_ret ?_)); refine x_then_ret (?_); exact xR rfl rfl ((congrArg Value.bool (Eq.symm (Bool.eq_false_iff.2 (fun h => by obtain ⟨_, a, _⟩ := flds_iff.1 h; exact a.elim h3 h4)))))
      ·refine oS (step_cast (v' := .bool false) (s_neq_cl rfl rfl) (by rw [decide_eq_false h4])) ?_; refine oS sT (oZ hK15 ?_); refine cF (c_skip ?_); exact x_then (hJ7 () _ _ (.inr (Decidable.not_not.1 h4)) sbA sbA hzB)
     ·refine oS nqF (oM ?_); refine oN ?_; refine oN ?_; refine oN ?_; refine oN ?_; refine oS sP (oZ hK15 ?_); refine cF (c_skip ?_); exact x_then (hJ7 () _ _ (.inl (by omega)) sbA sbA hzB)
theorem kids_fn (x : Nd) (hop : -128 ≤ x.op ∧ x.op < 128) : HL.Fn Tryd.prog 102 [.agg (En x).toArray] (fun _ => True) [] (fun v _ => v = .bool (kidsOk x)) := by
  refine fn_of Tryd.func102 rfl rfl rfl fun w0 hw => ?_; refine cR fun _ hK1 => ?_; refine o_box rfl rfl rfl fun b1 => ?_; refine oA (oZ hK1 (c_seq fun _ hK2 => ?_)); refine cR fun _ hK3 => ?_; refine oS sF ?_; refine oS sL ?_; refine oS (s_convI rfl (by omega)) ?_; refine oZ hK3 (c_block (c_seq fun _ hK4 => ?_)); refine cR fun _ hK5 => ?_
  by_cases k6 : x.op = 6
  ·refine oS (eqT (h := k6)) ?_; refine oA (oZ hK5 ?_); refine cTZ hK4 ?_; refine cT (cR fun _ hK6 => ?_); refine oS sF ?_; refine oS sL ?_; refine oS (s_eql rfl rfl) ?_; refine oA (oZ hK6 (c_ret ?_)); refine x_block_ret (x_then_ret (?_))
   exact xR rfl rfl ((congrArg Value.bool (by rw [kidsOk, if_pos (.inl k6)])))
  ·refine oS (eqF (h := k6)) ?_; refine oA (oZ hK5 ?_); refine cF (c_region ?_)
   by_cases k7 : x.op = 7
   ·refine oS (eqT (h := k7)) ?_; refine oA (oZ hK4 ?_); refine cT (cR fun _ hK7 => ?_); refine oS sF ?_; refine oS sL ?_; refine oS (s_eql rfl rfl) ?_; refine oA (oZ hK7 (c_ret ?_)); refine x_block_ret (x_then_ret (?_))
    exact xR rfl rfl ((congrArg Value.bool (by rw [kidsOk, if_pos (.inr k7)])))
   ·refine oS (eqF (h := k7)) ?_; refine oA (oZ hK4 ?_); refine cF (cR fun _ hK8 => ?_)
    by_cases k4 : x.op = 4
    ·refine oS (eqT (h := k4)) ?_; refine oA (oZ hK8 ?_); refine cT (cR fun _ hK9 => ?_); refine oS sF ?_; refine oS sL ?_
     by_cases k0 : x.kids = 0
     ·refine oS eqT (oM ?_); refine oN ?_; refine oN ?_; refine oN ?_; refine oS sT (oA (oZ hK9 (c_ret ?_))); refine x_block_ret (x_then_ret (?_))
      exact xR rfl rfl ((congrArg Value.bool (by rw [kidsOk, if_neg (by omega), if_pos k4, decide_eq_true (by omega)])))
     ·refine oS eqF (oM ?_); refine oY ?_; refine oS sF ?_; refine oY ?_; refine oS sL ?_; refine oY ?_; refine oS (s_geq rfl rfl) ?_; refine oS sP (oA (oZ hK9 (c_ret ?_))); refine x_block_ret (x_then_ret (?_))
      exact xR rfl rfl ((congrArg Value.bool (by rw [kidsOk, if_neg (by omega), if_pos k4]; exact decide_eq_decide.2 (by omega))))
    ·refine oS (eqF (h := k4)) ?_; refine oA (oZ hK8 ?_); refine cF (cR fun _ hK10 => ?_)
     by_cases k5 : x.op = 5
     ·refine oS (eqT (h := k5)) ?_; refine oA (oZ hK10 ?_); refine cT (cR fun _ hK11 => ?_); refine oS sF ?_; refine oS sL ?_; refine oS (s_geq rfl rfl) ?_; refine oA (oZ hK11 (c_ret ?_)); refine x_block_ret (x_then_ret (?_))
      exact xR rfl rfl ((congrArg Value.bool (by rw [kidsOk, if_neg (by omega), if_neg (by omega), if_pos k5])))
     ·refine oS (eqF (h := k5)) ?_; refine oA (oZ hK10 ?_); refine cF (c_skip (x_block (xZ hK2 (cR fun _ hK12 => ?_)))); refine oS sF ?_; refine oS sL ?_; refine oS (s_eql rfl rfl) ?_; refine oA (oZ hK12 (c_ret ?_)); refine ?_; exact xR rfl rfl ((congrArg Value.bool (by rw [kidsOk, if_neg (by omega), if_neg (by omega), if_neg (by omega)])))
set_option maxHeartbeats 2000000 in
theorem rNode_step (f : Nat) (ih : ∀ f1, f = f1 + 1 → NodeC Tryd.prog 80 132 f1) (bx : Nat) (ra : Option Addr) (rc : Nat) (re : List Nd) (i wi gr : Nat) (ea : Option Addr) (ec : Nat) (en : List Bool) (Se : Hp) (hre : ∀ x ∈ re, -128 ≤ x.op ∧ x.op < 128) (hwi : wi + f = 260) (hi : i ≤ re.length) (hel : en.length ≤ 255) (hg : gr ≤ 64) (hO : OwnS Ebo 1 4 (.slice ea en.length ec) en Se) : HL.Fn Tryd.prog 80 [.pointer (some ⟨bx, 0, none⟩), .int .i64 wi, .int .i64 gr] (fun w => Rd En w (.slice ra re.length rc) re ∧ Apart (keys ((bx, .cells [.slice ra re.length rc, .int .i64 i, .slice ea en.length ec].toArray 132 (0, 0)) :: Se)) (.slice ra re.length rc)) ((bx, .cells [.slice ra re.length rc, .int .i64 i, .slice ea en.length ec].toArray 132 (0, 0)) :: Se) (NodeP 132 bx ra rc re (shN re f i en gr)) := by
  refine fn_of Tryd.func80 rfl rfl rfl fun w0 hw => ?_
  have hsl := hw.1.sl
  have hbl := hsl.le
  have hOs := hO.sl
  refine cR fun _ hK1 => ?_; refine oA (oZ hK1 (c_seq fun _ hK2 => ?_)); refine c_seq fun _ hK3 => ?_; refine c_drawE ((bx, .cells [.slice ra re.length rc, .int .i64 i, .slice ea en.length ec].toArray 132 (0, 0)) :: Se) (fun i => false) ?_; refine eK 0 rfl sM ?_; refine eK 1 rfl sN ?_; refine eK 2 rfl sF ?_; refine eK 3 rfl sL ?_; refine eK 4 rfl sM ?_; refine eK 5 rfl sN ?_; refine eK 6 rfl sF ?_; refine eK 7 rfl sL ?_; refine eK 8 rfl sC ?_
  by_cases hend : (i : Int) ≥ re.length
  ·have hN : shN re f i en gr = none := shN_end (by omega)
   refine eK 9 rfl geT ?_; refine eK 10 rfl sM ?_; refine eS 11 rfl (eS 12 rfl ?_); refine eK 13 rfl sT (eZ hK3 ?_); refine cT (cR fun _ hK4 => ?_); refine oA (oZ hK4 (c_ret ?_)); refine x_then_ret (?_); exact xR rfl rfl ((by rw [hN]; rfl))
  ·refine eK 9 rfl geF ?_; refine eK 10 rfl sM ?_; refine eG 11 rfl sM ?_
   by_cases hf : (wi : Int) > 259
   ·obtain rfl : f = 0 := by omega
    have hN : shN re 0 i en gr = none := rfl
    refine eG 12 rfl gtT ?_; refine eK 13 rfl sP (eZ hK3 ?_); refine cT (cR fun _ hK5 => ?_); refine oA (oZ hK5 (c_ret ?_)); refine x_then_ret (?_); exact xR rfl rfl ((by rw [hN]; rfl))
   ·obtain ⟨f1, rfl⟩ : ∃ f1, f = f1 + 1 := ⟨f - 1, by omega⟩
    obtain ⟨x, hx⟩ : ∃ x, re[i]? = some x := ⟨_, List.getElem?_eq_getElem (show i < re.length by omega)⟩
    have hop := hre x (List.mem_of_getElem? hx)
    refine eG 12 rfl gtF ?_; refine eK 13 rfl sP (eZ hK3 ?_); refine cFZ hK2 (c_seq fun _ hK6 => ?_); refine c_drawE ((bx, .cells [.slice ra re.length rc, .int .i64 i, .slice ea en.length ec].toArray 132 (0, 0)) :: Se) (fun i => Nat.beq i 11) ?_; refine eK 0 rfl sM ?_; refine eK 1 rfl sN ?_; refine eK 2 rfl sF ?_; refine eK 3 rfl sL ?_; refine eK 4 rfl sM ?_; refine eK 5 rfl sN ?_; refine eK 6 rfl sF ?_; refine eK 7 rfl sL ?_; refine eK 8 rfl (s_idx rfl rfl hsl (by omega)) ?_; refine eK 9 rfl (s_ldB rfl ((RdK.old hw.1 hw.2).lds i hx rfl) (by rfl)) ?_; refine eO 10 rfl ?_; refine o_alloc (l := En zN) (by rw [En_zero]; rfl) rfl fun b7 => ?_; refine oX (eO 11 rfl ?_); refine o_stW rfl rfl upA lnA lnA onA ?_; refine o_nil ?_; refine x_oneL rfl ?_; refine eZ hK6 (cR fun _ hK7 => ?_); refine oM ?_; refine oS sN ?_; refine oS sF ?_; refine oS sL ?_; refine oS sD ?_; refine oS sN ?_; refine oS sF ?_; refine o_store rfl rfl rfl upA ltA rfl ?_
    dsimp only [List.set]
    refine oZ hK7 (c_seq fun _ hK8 => ?_); refine cR fun _ hK9 => ?_; refine oS (s_ldB rfl (RdPK.cels (.own meA)) (by rfl)) ?_; refine o_callP (flds_fn x hop) rfl rfl rfl (fun _ _ => trivial) (fun v42 hv42 => ?_); subst hv42
    cases hfl : flds x
    ·have hN : shN re (f1 + 1) i en gr = none := shN_bad hx (by rw [ndOk, hfl]; simp)
     refine oS (s_not rfl) ?_; refine oM ?_; refine oN ?_; refine oN ?_; refine oN ?_; refine oS sT (oZ hK9 ?_); refine cT (cR fun _ hK10 => ?_); refine oA (oZ hK10 (c_ret ?_)); refine x_then_ret (?_); exact xR rfl rfl ((by rw [hN]; rfl))
    ·refine oS (s_not rfl) ?_; refine oM ?_; refine oY ?_; refine oS (s_ldB rfl (RdPK.cels (.own meA)) (by rfl)) ?_; refine oY ?_; refine o_callP (kids_fn x hop) rfl rfl rfl (fun _ _ => trivial) (fun v46 hv46 => ?_); subst hv46
     cases hko : kidsOk x
     ·have hN : shN re (f1 + 1) i en gr = none := shN_bad hx (by rw [ndOk, hko]; simp)
      refine oY ?_; refine oS (s_not rfl) ?_; refine oS sP (oZ hK9 ?_); refine cT (cR fun _ hK11 => ?_); refine oA (oZ hK11 (c_ret ?_)); refine x_then_ret (?_); exact xR rfl rfl ((by rw [hN]; rfl))
     ·have hok : ndOk x = true := by rw [ndOk, hfl, hko]; rfl
      have hk0 := ndOk_kids hok
      refine oY ?_; refine oS (s_not rfl) ?_; refine oS sP (oZ hK9 ?_); refine cFZ hK8 (cR fun _ hK12 => ?_); refine oS sF ?_; refine oS sL ?_; refine oS (s_convI rfl (by omega)) ?_; refine oA (oZ hK12 ?_); refine c_seqJ (ι := Unit) (fun g => x.op = 8 → 1 ≤ x.n ∧ x.n ≤ en.length ∧ en[x.n.toNat - 1]? = some true) (fun g => []) [(0, _), (1, _), (2, _), (7, _), (8, _)] (fun g => (bx, .cells [.slice ra re.length rc, .int .i64 (i + 1 : Nat), .slice ea en.length ec].toArray 132 (0, 0)) :: (b7, .cells (En x).toArray 80 (0, 0)) :: Se) sbA ?_ ?_
      ·rintro g hg8
       refine c_seqJ (ι := (List Bool × Nat × Option Addr × Nat × Hp)) (fun g => gate x en gr = some (g.1, g.2.1) ∧ OwnS Ebo 1 4 (.slice g.2.2.1 g.1.length g.2.2.2.1) g.1 g.2.2.2.2) (fun g => [(2, .int .i64 g.2.1)]) [(0, _), (1, _), (7, _), (8, _)] (fun g => (bx, .cells [.slice ra re.length rc, .int .i64 (i + 1 : Nat), .slice g.2.2.1 g.1.length g.2.2.2.1].toArray 132 (0, 0)) :: (b7, .cells (En x).toArray 80 (0, 0)) :: g.2.2.2.2) sbA ?_ ?_
       ·rintro ⟨en1, g1, ea1, ec1, Se1⟩ ⟨hgt, hO1⟩
        dsimp only at hgt hO1
        dsimp only
        have hgl := gate_len hgt hel hg
        refine c_seq fun _ hK15 => ?_; refine cR fun _ hK16 => ?_; refine oA (oZ hK16 (c_block ?_)); refine c_loop6 (fun (k : Nat) (i2 : Nat) (en2 : List Bool) (ea2 : Option Addr) (ec2 : Nat) (Se2 : Hp) => (k : Int) ≤ x.kids ∧ kidsN (fun i en => shN re f1 i en g1) k (i + 1) en1 = some (i2, en2) ∧ i + 1 + k ≤ i2 ∧ i2 ≤ re.length ∧ en2.length ≤ 255 ∧ en1.length ≤ en2.length ∧ OwnS Ebo 1 4 (.slice ea2 en2.length ec2) en2 Se2) (fun (k : Nat) (i2 : Nat) (en2 : List Bool) (ea2 : Option Addr) (ec2 : Nat) (Se2 : Hp) => [(9, .int .i64 k)]) [(0, _), (1, _), (2, _), (7, _), (8, _)] (fun (k : Nat) (i2 : Nat) (en2 : List Bool) (ea2 : Option Addr) (ec2 : Nat) (Se2 : Hp) => (bx, .cells [.slice ra re.length rc, .int .i64 i2, .slice ea2 en2.length ec2].toArray 132 (0, 0)) :: (b7, .cells (En x).toArray 80 (0, 0)) :: Se2) (fun (k : Nat) (i2 : Nat) (en2 : List Bool) (ea2 : Option Addr) (ec2 : Nat) (Se2 : Hp) => x.kids.toNat - k) 0 (i + 1) en1 ea1 ec1 Se1 ⟨by omega, rfl, by omega, by omega, hgl.2.1, Nat.le_refl _, hO1⟩ sbA sbA hzB ?_
        rintro k i2 en2 ea2 ec2 Se2 ⟨hk, hkn, hki, hi2, hel2, hel3, hO2⟩
        refine c_seq fun _ hK17 => ?_; refine cR fun _ hK18 => ?_; refine oM ?_; refine oS sF ?_; refine oS sL ?_
        by_cases hkl : (k : Int) < x.kids
        ·refine oS lsT (oZ hK18 ?_); refine cTZ hK17 (c_seq fun _ hK19 => ?_); refine c_block (cR fun _ hK20 => ?_); refine oM (oM ?_); refine oS sD (oM ?_); refine o_call (ih f1 rfl bx ra rc re i2 (wi + 1) g1 ea2 ec2 en2 Se2 hre (by omega) hi2 hel2 hgl.2.2.1 hO2) rfl rfl rfl ((Pick.takeC pkA pkA)) (fun w st => ⟨(RdK.old hw.1 hw.2).out w st, St.apart_M st (by exact hin_node) hw.1 hw.2 (by decide)⟩) (fun v122 S122 hv122 => ?_)
         rcases hst : shN re f1 i2 en2 g1 with _ | ⟨i3, en3⟩
         ·obtain rfl : v122 = .bool false := by rw [hst] at hv122; exact hv122
          have hN : shN re (f1 + 1) i en gr = none := shN_kids hx hgt (kidsN_none (kidsN_snoc hkn hst) (by omega))
          refine oS (s_not rfl) ?_; refine oZ hK20 ?_; refine cT (cR fun _ hK21 => ?_); refine oA (oZ hK21 (c_ret ?_)); refine x_block_ret (x_then_ret (x_then_ret (x_block_ret (x_then_ret (?_)))))
          exact xR rfl rfl ((by rw [hN]; rfl))
         ·obtain ⟨hu122, ea3, ec3, Se3, rfl, hO3⟩ : v122 = .bool true ∧ ∃ ea3 ec3 Se3, S122 = LookB 132 bx ra rc re i3 ea3 ec3 en3 :: Se3 ∧ OwnS Ebo 1 4 (.slice ea3 en3.length ec3) en3 Se3 := by rw [hst] at hv122; exact hv122
          subst hu122
          unfold LookB
          refine oS (s_not rfl) ?_; refine oZ hK20 ?_; refine cF (c_skip (x_block (xZ hK19 (c_region (oM ?_))))); refine oS sD (oA (o_nil ?_)); exact xI (k + 1, i3, en3, ea3, ec3, Se3) ⟨by omega, kidsN_snoc hkn hst, by have := shN_lt hst; dsimp only; omega, shN_le hst, (shN_len hel2 hgl.2.2.1 hst).2, by have := (shN_len hel2 hgl.2.2.1 hst).1; dsimp only; omega, hO3⟩
        ·obtain rfl : k = x.kids.toNat := by omega
         have hN := shN_some hx hok hgt hkn
         have hO2s := hO2.sl
         refine oS lsF (oZ hK18 ?_); refine cF ?_; refine c_exit ?_; refine x_then_exit (x_then_exit (x_block_exit (xZ hK15 (c_seq fun _ hK22 => ?_)))); refine cR fun _ hK23 => ?_; refine oM ?_
         by_cases k7 : x.op = 7
         ·have hg7 := hgl.2.2.2 k7
          refine oS eqT (oZ hK23 ?_); refine cT ?_; refine c_drawE ((bx, .cells [.slice ra re.length rc, .int .i64 i2, .slice ea2 en2.length ec2].toArray 132 (0, 0)) :: (b7, .cells (En x).toArray 80 (0, 0)) :: Se2) (fun i => Nat.beq i 8) ?_; refine eK 0 rfl sM ?_; refine eK 1 rfl sN ?_; refine eK 2 rfl sF ?_; refine eK 3 rfl sL ?_; refine eK 4 rfl sF ?_; refine eK 5 rfl sL ?_; refine eK 6 rfl sU ?_; refine eK 7 rfl (s_idx rfl rfl hO2s (by omega)) ?_; refine eO 8 rfl ?_; refine o_stS1 (x.n.toNat - 1) true hO2 pkA rfl rfl rfl (by omega) (by omega) fun S' hS' => ?_; refine o_nil ?_; refine x_oneL rfl ?_; refine eZ hK22 (cR fun _ hK24 => ?_); refine oA (oZ hK24 (c_ret ?_)); refine ?_; refine x_sub (Sub.refl _) (H' := (bx, .cells [.slice ra re.length rc, .int .i64 i2, .slice ea2 en2.length ec2].toArray 132 (0, 0)) :: S') hzB ?_; exact xR rfl rfl ((by rw [hN, if_pos k7]; exact ⟨rfl, ea2, ec2, S', by unfold LookB; rw [List.length_set], by rw [List.length_set]; exact hS'⟩))
         ·refine oS eqF (oZ hK23 ?_); refine cFZ hK22 (cR fun _ hK25 => ?_); refine oA (oZ hK25 (c_ret ?_)); refine ?_; refine x_sub (Sub.refl _) (H' := (bx, .cells [.slice ra re.length rc, .int .i64 i2, .slice ea2 en2.length ec2].toArray 132 (0, 0)) :: Se2) hzB ?_; exact xR rfl rfl ((by rw [hN, if_neg k7]; exact ⟨rfl, _, _, _, rfl, hO2⟩))
       ·intro _ hJ14
        refine cR fun _ hK26 => ?_; refine oM ?_
        by_cases h7 : x.op = 7
        ·refine oS eqT (oZ hK26 ?_); refine cT (c_seq fun _ hK27 => ?_); refine c_seq fun _ hK28 => ?_; refine c_drawE ((bx, .cells [.slice ra re.length rc, .int .i64 (i + 1 : Nat), .slice ea en.length ec].toArray 132 (0, 0)) :: (b7, .cells (En x).toArray 80 (0, 0)) :: Se) (fun i => false) ?_; refine eK 0 rfl sF ?_; refine eK 1 rfl sL ?_; refine eK 2 rfl sM ?_; refine eK 3 rfl sN ?_; refine eK 4 rfl sF ?_; refine eK 5 rfl sL ?_; refine eK 6 rfl sC ?_; refine eK 7 rfl sD ?_
         by_cases hn1 : x.n ≠ en.length + 1
         ·have hN : shN re (f1 + 1) i en gr = none := shN_gate hx (gate_no7 h7 (by omega))
          refine eK 8 rfl nqT ?_; refine eK 9 rfl sM ?_; refine eS 10 rfl (eS 11 rfl (eS 12 rfl ?_)); refine eK 13 rfl sT ?_; refine eK 14 rfl sM ?_; refine eS 15 rfl (eS 16 rfl ?_); refine eK 17 rfl sT (eZ hK28 ?_); refine cT (cR fun _ hK29 => ?_); refine oA (oZ hK29 (c_ret ?_)); refine x_then_ret (x_then_ret (?_))
          exact xR rfl rfl ((by rw [hN]; rfl))
         ·refine eK 8 rfl nqF ?_; refine eK 9 rfl sM ?_; refine eG 10 rfl sF ?_; refine eG 11 rfl sL ?_
          by_cases hn2 : x.n > 255
          ·have hN : shN re (f1 + 1) i en gr = none := shN_gate hx (gate_no7 h7 (by omega))
           refine eG 12 rfl gtT ?_; refine eK 13 rfl sP ?_; refine eK 14 rfl sM ?_; refine eS 15 rfl (eS 16 rfl ?_); refine eK 17 rfl sT (eZ hK28 ?_); refine cT (cR fun _ hK30 => ?_); refine oA (oZ hK30 (c_ret ?_)); refine x_then_ret (x_then_ret (?_))
           exact xR rfl rfl ((by rw [hN]; rfl))
          ·refine eG 12 rfl gtF ?_; refine eK 13 rfl sP ?_; refine eK 14 rfl sM ?_; refine eG 15 rfl sM ?_
           by_cases hn3 : (gr : Int) ≥ 64
           ·have hN : shN re (f1 + 1) i en gr = none := shN_gate hx (gate_no7 h7 (by omega))
            refine eG 16 rfl geT ?_; refine eK 17 rfl sP (eZ hK28 ?_); refine cT (cR fun _ hK31 => ?_); refine oA (oZ hK31 (c_ret ?_)); refine x_then_ret (x_then_ret (?_))
            exact xR rfl rfl ((by rw [hN]; rfl))
           ·refine eG 16 rfl geF ?_; refine eK 17 rfl sP (eZ hK28 ?_); refine cFZ hK27 (cR fun _ hK32 => ?_); refine oM (oM ?_); refine oS sN ?_; refine oS sF ?_; refine oS sL ?_; refine o_bs (E := Ebo) (xs := [false]) (vs := [_]) rfl rfl rfl rfl rfl (by decide) (by decide) fun b106 S106 hS106 => ?_; refine o_app hO (hS106.rdk hiA) rfl rfl rfl rfl (by simp only [List.length_singleton]; omega) (by simp only [List.length_singleton]; omega) rfl pkA fun a107 c107 S107 hS107 => ?_; refine oS sN ?_; refine oS sF ?_; refine o_store rfl rfl rfl upA ltA rfl ?_
            dsimp only [List.set]
            refine oZ hK32 (c_region (oM ?_)); refine oS sD (oA (o_nil ?_)); exact x_then (hJ14 (en ++ [false], gr + 1, a107, c107, S107) _ _ ⟨gate_grp h7 ⟨by omega, by omega, by omega⟩, hS107⟩ sbA sbA hzB)
        ·refine oS eqF (oZ hK26 ?_); refine cF (c_skip ?_); exact x_then (hJ14 (en, gr, ea, ec, Se) _ _ ⟨gate_not7 h7 hg8, hO⟩ sbA sbA hzB)
      ·intro _ hJ13
       refine c_seq fun _ hK33 => ?_; refine c_drawE ((bx, .cells [.slice ra re.length rc, .int .i64 (i + 1 : Nat), .slice ea en.length ec].toArray 132 (0, 0)) :: (b7, .cells (En x).toArray 80 (0, 0)) :: Se) (fun i => false) ?_; refine eK 0 rfl sM ?_
       by_cases h8 : x.op = 8
       ·refine eK 1 rfl eqT ?_; refine eK 2 rfl sM ?_; refine eG 3 rfl sF ?_; refine eG 4 rfl sL ?_
        by_cases hn1 : x.n < 1
        ·have hN : shN re (f1 + 1) i en gr = none := shN_gate hx (gate_no8 h8 (by omega))
         refine eG 5 rfl lsT ?_; refine eG 6 rfl sM ?_; refine eS 7 rfl (eS 8 rfl (eS 9 rfl (eS 10 rfl (eS 11 rfl (eS 12 rfl (eS 13 rfl (eS 14 rfl ?_))))))); refine eG 15 rfl sT ?_; refine eG 16 rfl sM ?_; refine eS 17 rfl (eS 18 rfl (eS 19 rfl (eS 20 rfl (eS 21 rfl (eS 22 rfl (eS 23 rfl (eS 24 rfl (eS 25 rfl (eS 26 rfl ?_))))))))); refine eG 27 rfl sT ?_; refine eK 28 rfl sT (eZ hK33 ?_); refine cT (cR fun _ hK34 => ?_); refine oA (oZ hK34 (c_ret ?_)); refine x_then_ret (?_); exact xR rfl rfl ((by rw [hN]; rfl))
        ·refine eG 5 rfl lsF ?_; refine eG 6 rfl sM ?_; refine eG 7 rfl sF ?_; refine eG 8 rfl sL ?_; refine eG 9 rfl sM ?_; refine eG 10 rfl sN ?_; refine eG 11 rfl sF ?_; refine eG 12 rfl sL ?_; refine eG 13 rfl sC ?_
         by_cases hn2 : x.n > en.length
         ·have hN : shN re (f1 + 1) i en gr = none := shN_gate hx (gate_no8 h8 (by omega))
          refine eG 14 rfl gtT ?_; refine eG 15 rfl sP ?_; refine eG 16 rfl sM ?_; refine eS 17 rfl (eS 18 rfl (eS 19 rfl (eS 20 rfl (eS 21 rfl (eS 22 rfl (eS 23 rfl (eS 24 rfl (eS 25 rfl (eS 26 rfl ?_))))))))); refine eG 27 rfl sT ?_; refine eK 28 rfl sT (eZ hK33 ?_); refine cT (cR fun _ hK35 => ?_); refine oA (oZ hK35 (c_ret ?_)); refine x_then_ret (?_); exact xR rfl rfl ((by rw [hN]; rfl))
         ·refine eG 14 rfl gtF ?_; refine eG 15 rfl sP ?_; refine eG 16 rfl sM ?_; refine eG 17 rfl sM ?_; refine eG 18 rfl sN ?_; refine eG 19 rfl sF ?_; refine eG 20 rfl sL ?_; refine eG 21 rfl sF ?_; refine eG 22 rfl sL ?_; refine eG 23 rfl sU ?_; refine eG 24 rfl (s_idx rfl rfl hOs (by omega)) ?_
          by_cases hb : en[x.n.toNat - 1]? = some true
          ·refine eG 25 rfl (s_ld rfl ((hO.rdk hiA).ld (x.n.toNat - 1) 0 hb rfl (by decide) (by omega))) ?_; refine eG 26 rfl (s_not rfl) ?_; refine eG 27 rfl sP ?_; refine eK 28 rfl sT (eZ hK33 ?_); refine cF (c_skip ?_); exact x_then (hJ13 () _ _ (fun _ => ⟨by omega, by omega, hb⟩) sbA sbA hzB)
          ·have hN : shN re (f1 + 1) i en gr = none := shN_gate hx (gate_no8 h8 (fun h => hb h.2.2))
           have hb2 := get_false hb (by omega)
           refine eG 25 rfl (s_ld rfl ((hO.rdk hiA).ld (x.n.toNat - 1) 0 hb2 rfl (by decide) (by omega))) ?_; refine eG 26 rfl (s_not rfl) ?_; refine eG 27 rfl sP ?_; refine eK 28 rfl sT (eZ hK33 ?_); refine cT (cR fun _ hK36 => ?_); refine oA (oZ hK36 (c_ret ?_)); refine x_then_ret (?_); exact xR rfl rfl ((by rw [hN]; rfl))
       ·refine eK 1 rfl eqF ?_; refine eK 2 rfl sM ?_; refine eS 3 rfl (eS 4 rfl (eS 5 rfl (eS 6 rfl (eU 7 rfl (eU 8 rfl (eU 9 rfl (eU 10 rfl (eU 11 rfl (eU 12 rfl (eU 13 rfl (eU 14 rfl (eS 15 rfl (eS 16 rfl (eU 17 rfl (eU 18 rfl (eU 19 rfl (eU 20 rfl (eU 21 rfl (eU 22 rfl (eU 23 rfl (eU 24 rfl (eU 25 rfl (eU 26 rfl ?_)))))))))))))))))))))))
        refine eS 27 rfl ?_; refine eK 28 rfl sP (eZ hK33 ?_); refine cF (c_skip ?_); exact x_then (hJ13 () _ _ (fun h => absurd h h8) sbA sbA hzB)
theorem node_fn : ∀ f, NodeC Tryd.prog 50 107 f := by
  intro f
  induction f with
  | zero => exact fun bx ra rc re i wi g ea ec en Se h1 h2 h3 h4 h5 h6 => node_step 0 (fun f1 h => by omega) bx ra rc re i wi g ea ec en Se h1 h2 h3 h4 h5 h6
  | succ f ih => exact fun bx ra rc re i wi g ea ec en Se h1 h2 h3 h4 h5 h6 => node_step (f + 1) (fun f1 h => (Nat.succ.inj h) ▸ ih) bx ra rc re i wi g ea ec en Se h1 h2 h3 h4 h5 h6
theorem rNode_fn : ∀ f, NodeC Tryd.prog 80 132 f := by
  intro f
  induction f with
  | zero => exact fun bx ra rc re i wi g ea ec en Se h1 h2 h3 h4 h5 h6 => rNode_step 0 (fun f1 h => by omega) bx ra rc re i wi g ea ec en Se h1 h2 h3 h4 h5 h6
  | succ f ih => exact fun bx ra rc re i wi g ea ec en Se h1 h2 h3 h4 h5 h6 => rNode_step (f + 1) (fun f1 h => (Nat.succ.inj h) ▸ ih) bx ra rc re i wi g ea ec en Se h1 h2 h3 h4 h5 h6
set_option maxHeartbeats 1000000 in
theorem weigh_step (x : Nd) (ks : F) (ih : ∀ y ks1, ks1.size < ks.size → WeighC Tryd.prog 51 y ks1) (ra : Option Addr) (rc : Nat) (re : List Nd) (i i1 : Nat) (hre : ∀ x ∈ re, -128 ≤ x.op ∧ x.op < 128) (hp : Part re (.nd x ks .nil) i i1) : HL.Fn Tryd.prog 51 [.slice ra re.length rc, .int .i64 i] (fun w => Rd En w (.slice ra re.length rc) re) [] (fun v _ => v = .tuple #[.int .i64 (cut (F.nd x ks .nil).weight), .int .i64 i1]) := by
  refine fn_of Tryd.func51 rfl rfl rfl fun w0 hw => ?_
  have hsl := hw.sl
  have hbl := hsl.le
  obtain ⟨hx, hpk, hpn⟩ := hp.head
  have hii : i1 = i + 1 + ks.size := by simpa [F.size] using hpn.len
  have hile := hp.le
  have hok : ndOk x = true := hp.wf.1
  have hk0 := ndOk_kids hok
  have hkn : (ks.num : Int) = x.kids := hp.wf.2.1
  have hop := hre x (List.mem_of_getElem? hx)
  have hilt : i < re.length := (List.getElem?_eq_some_iff.1 hx).1
  have htl := times_le hok
  have htp := times_pos x
  have hns := F.num_le ks
  have hpkl := hpk.le
  rw [← hii] at hpk
  refine cR fun _ hK1 => ?_; refine oA (oA (oZ hK1 (cR fun _ hK2 => ?_))); refine oM (oM ?_); refine oS (s_idx rfl rfl hsl (by omega)) ?_; refine oS (s_ldB rfl ((RdK.old0 hw).lds i hx rfl) (by rfl)) ?_; refine o_alloc (l := En zN) (by rw [En_zero]; rfl) rfl fun b6 => ?_; refine o_stW rfl rfl upA lnA lnA onA ?_; refine oZ hK2 (cR fun _ hK3 => ?_); refine oM ?_; refine oS sD (oA (oA (oZ hK3 (c_seq fun _ hK4 => ?_)))); refine cR fun _ hK5 => ?_; refine oS sF ?_; refine oS sL (oM (oZ hK5 (c_block ?_))); refine c_loop4 (fun (k : Nat) (to : Nat) (dw : Nat) (r : F) => k + r.num = ks.num ∧ Part re r to i1 ∧ dw + r.weight = ks.weight ∧ r.size ≤ ks.size) (fun (k : Nat) (to : Nat) (dw : Nat) (r : F) => [(19, .int .i64 k), (7, .int .i64 (cut dw)), (8, .int .i64 to)]) [(0, _), (4, _), (5, _), (6, _), (18, _)] (fun (k : Nat) (to : Nat) (dw : Nat) (r : F) => [(b6, .cells (En x).toArray 80 (0, 0))]) (fun (k : Nat) (to : Nat) (dw : Nat) (r : F) => ks.num - k) 0 (i + 1) 0 ks ⟨by omega, hpk, by omega, Nat.le_refl _⟩ sbA sbA hzB ?_
  rintro k to dw r ⟨hkr, hpr, hdw, hrs⟩
  have hcl := cut_le dw
  refine cR fun _ hK6 => ?_
  by_cases hkl : (k : Int) < x.kids
  ·obtain ⟨y, ks1, r1, rfl⟩ : ∃ y ks1 r1, r = F.nd y ks1 r1 := by cases r with | nil => simp [F.num] at hkr; omega | nd y a b => exact ⟨y, a, b, rfl⟩
   obtain ⟨hy, hpy, hpt⟩ := hpr.head
   have hpy1 : Part re (.nd y ks1 .nil) to (to + 1 + ks1.size) := hpr.one
   have hrs2 : ks1.size < ks.size := by simp only [F.size] at hrs; omega
   have hcy := cut_le (F.nd y ks1 .nil).weight
   have hpyl := hpy1.le
   refine oS lsT (oZ hK6 (c_seq fun _ hK7 => ?_)); refine cTZ hK7 (c_seq fun _ hK8 => ?_); refine c_block (cR fun _ hK9 => ?_); refine oM (oM ?_); refine o_callP (ih y ks1 hrs2 ra rc re to (to + 1 + ks1.size) hre hpy1) rfl rfl rfl (fun w st => (RdK.old0 hw).out w st) (fun v24 hv24 => ?_); subst hv24
   refine oM ?_; refine oS sE ?_; refine oS sE (oA (oA (oZ hK9 (c_region (oM (oM ?_)))))); refine oS sD ?_; refine oS (step_cast (v' := .int .i64 (cut (dw + (F.nd y ks1 .nil).weight))) (s_min rfl rfl) (by rw [← cut_add]; unfold cut; congr 1; omega)) ?_; refine oM (oA (oA (o_nil (x_block (xZ hK8 (c_region ?_)))))); refine oS sD (oM (o_nil ?_)); exact xI (k + 1, to + 1 + ks1.size, dw + (F.nd y ks1 .nil).weight, r1) ⟨by simp only [F.num] at hkr; dsimp only; omega, hpt, by simp only [F.weight] at hdw ⊢; omega, by simp only [F.size] at hrs; dsimp only; omega⟩
  ·obtain rfl : r = F.nil := by cases r with | nil => rfl | nd y a b => simp only [F.num] at hkr; omega
   have hto : to = i1 := by have := hpr.len; simp [F.size] at this; omega
   obtain rfl : dw = ks.weight := by simpa [F.weight] using hdw
   subst hto; refine oS lsF (oZ hK6 (c_seq fun _ hK10 => ?_)); refine cF ?_; refine c_exit ?_; refine x_then_exit (x_then_exit (x_block_exit (xZ hK4 (c_seq fun _ hK11 => ?_)))); refine cR fun _ hK12 => ?_; refine oS sF ?_; refine oS sL ?_
   by_cases h6 : x.op = 6
   ·have hrf := rep_flds hok h6
    refine oS (eqT (h := h6)) ?_; refine oZ hK12 ?_; refine cT (cR fun _ hK13 => ?_); refine oS sF ?_; refine oS sL ?_
    by_cases hmx : x.mx < 0
    ·have ht1 : (times x : Int) = x.mn + 1 := by rw [times, if_pos h6, if_pos hmx]; omega
     have hclw := cut_le ks.weight
     have hm1 : (cut ks.weight : Int) * times x ≤ 4194560 := mul_leZ hclw htl
     have hm0 : 0 ≤ (cut ks.weight : Int) * times x := mul_0Z _ _
     have hfin := cut_fin (t := times x) (a := ks.weight) htp
     rw [ht1] at hfin hm1 hm0
     refine oS lsT (oZ hK13 ?_); refine cT (c_region (oM ?_)); refine oS sF ?_; refine oS sL ?_; refine oS sD ?_; refine oS (s_mul rfl rfl (by omega)) ?_; refine oA (oZ hK11 (cR fun _ hK14 => ?_)); refine oM ?_; refine oS sD ?_; refine oS (step_cast (v' := .int .i64 (cut (1 + times x * ks.weight) : Nat)) (s_min rfl rfl) (congrArg (Value.int .i64) hfin)) ?_; refine oM (oA (oA (oZ hK14 (c_ret ?_)))); refine ?_; exact x_ret rfl (.tmp rfl (.tmp rfl (.nil))) ((by rw [weight_one]; rfl))
    ·have ht1 : (times x : Int) = max x.mx 1 := by rw [times, if_pos h6, if_neg hmx]; omega
     have hclw := cut_le ks.weight
     have hm1 : (cut ks.weight : Int) * times x ≤ 4194560 := mul_leZ hclw htl
     have hm0 : 0 ≤ (cut ks.weight : Int) * times x := mul_0Z _ _
     have hfin := cut_fin (t := times x) (a := ks.weight) htp
     rw [ht1] at hfin hm1 hm0
     refine oS lsF (oZ hK13 ?_); refine cF (c_region (oM ?_)); refine oS sF ?_; refine oS sL ?_; refine oS (s_max rfl rfl) ?_; refine oS (s_mul rfl rfl (by omega)) ?_; refine oA (oZ hK11 (cR fun _ hK15 => ?_)); refine oM ?_; refine oS sD ?_; refine oS (step_cast (v' := .int .i64 (cut (1 + times x * ks.weight) : Nat)) (s_min rfl rfl) (congrArg (Value.int .i64) hfin)) ?_; refine oM (oA (oA (oZ hK15 (c_ret ?_)))); refine ?_; exact x_ret rfl (.tmp rfl (.tmp rfl (.nil))) ((by rw [weight_one]; rfl))
   ·have ht1 : (times x : Int) = 1 := by rw [times, if_neg h6]; rfl
    have hclw := cut_le ks.weight
    have hm1 : (cut ks.weight : Int) * times x ≤ 4194560 := mul_leZ hclw htl
    have hm0 : 0 ≤ (cut ks.weight : Int) * times x := mul_0Z _ _
    have hfin := cut_fin (t := times x) (a := ks.weight) htp
    rw [ht1] at hfin hm1 hm0
    rw [Int.mul_one] at hfin
    refine oS (eqF (h := h6)) ?_; refine oZ hK12 ?_; refine cFZ hK11 (cR fun _ hK16 => ?_); refine oM ?_; refine oS sD ?_; refine oS (step_cast (v' := .int .i64 (cut (1 + times x * ks.weight) : Nat)) (s_min rfl rfl) (congrArg (Value.int .i64) hfin)) ?_; refine oM (oA (oA (oZ hK16 (c_ret ?_)))); refine ?_; exact x_ret rfl (.tmp rfl (.tmp rfl (.nil))) ((by rw [weight_one]; rfl))
end Go.Proofs.YtloepfcndglmmaaDoor
namespace Go.HL.Kl.Mc
open Go Go.HL Go.HL.Kl
theorem flat_inj : ∀ (f g : F) (r s : List Nd), f.wf → g.wf → f.num = g.num → f.flat ++ r = g.flat ++ s → f = g ∧ r = s
  | .nil, .nil, r, s, _, _, _, h => ⟨rfl, h⟩
  | .nil, .nd _ _ _, _, _, _, _, hn, _ => by simp [F.num] at hn
  | .nd _ _ _, .nil, _, _, _, _, hn, _ => by simp [F.num] at hn
  | .nd x ks f, .nd y js g, r, s, hf, hg, hn, h => by
    simp only [F.flat, List.cons_append, List.append_assoc, List.cons.injEq] at h
    obtain ⟨rfl, h⟩ := h
    have hk : ks.num = js.num := by have := hf.2.1; have := hg.2.1; omega
    obtain ⟨e1, h1⟩ := flat_inj ks js _ _ hf.2.2.1 hg.2.2.1 hk h
    obtain ⟨e2, h2⟩ := flat_inj f g _ _ hf.2.2.2 hg.2.2.2 (by simpa [F.num] using hn) h1
    exact ⟨by rw [e1, e2], h2⟩
def ShpP (re : List Nd) : Prop := (∃ en, shN re 260 0 [] 0 = some (re.length, en)) ∧ ∃ x ks, Shp re x ks
noncomputable def shapedB (re : List Nd) : Bool := @decide (ShpP re) (Classical.propDecidable _)
theorem shapedB_iff {re : List Nd} : shapedB re = true ↔ ShpP re := by
  unfold shapedB
  constructor
  · intro h; exact @of_decide_eq_true _ (Classical.propDecidable _) h
  · intro h; exact @decide_eq_true _ (Classical.propDecidable _) h
theorem shapedB_no {re : List Nd} (h : ¬ ShpP re) : shapedB re = false := Bool.eq_false_iff.2 fun h' => h (shapedB_iff.1 h')
theorem shp_none {re : List Nd} (h : shN re 260 0 [] 0 = none) : shapedB re = false := shapedB_no fun ⟨⟨en, h'⟩, _⟩ => by rw [h] at h'; cases h'
theorem shp_end {re : List Nd} {j : Nat} {en : List Bool} (h : shN re 260 0 [] 0 = some (j, en)) (hj : j ≠ re.length) : shapedB re = false := shapedB_no fun ⟨⟨en', h'⟩, _⟩ => by
  rw [h] at h'; cases h'; exact hj rfl
theorem shp_tree {re : List Nd} {en : List Bool} (h : shN re 260 0 [] 0 = some (re.length, en)) : ∃ x ks, Part re (.nd x ks .nil) 0 re.length ∧ ks.depth + 1 ≤ 260 ∧ shapedB re = decide (cut (F.nd x ks .nil).weight ≤ 16384) := by
  obtain ⟨x, ks, ht⟩ := shN_tree _ _ _ _ _ _ h
  have hp := ht.part
  have hflat : re = x :: ks.flat := by simpa using ht.flat
  refine ⟨x, ks, hp, ht.dep, ?_⟩
  by_cases hw : (F.nd x ks .nil).weight ≤ 16384
  · rw [decide_eq_true (by unfold cut; omega)]
    exact shapedB_iff.2 ⟨⟨en, h⟩, x, ks, ⟨ht.wf, hflat, ht.dep, hw⟩⟩
  · rw [decide_eq_false (by unfold cut; omega)]
    refine shapedB_no fun ⟨_, y, js, hs⟩ => hw ?_
    have := flat_inj (.nd x ks .nil) (.nd y js .nil) [] [] ht.wf hs.wf rfl (by simp only [F.flat, List.append_nil]; rw [← hflat, ← hs.flat])
    rw [this.1]; exact hs.weight
noncomputable def refsB (re : List Nd) : Bool := shapedB re && re.any fun x => x.op == 8
theorem cut_fin2 {t a : Nat} (ht : 1 ≤ t) : min (1 + (t : Int) * (cut a : Int)) 16385 = (cut (1 + t * a) : Nat) := by
  rw [← cut_fin ht, Int.mul_comm, Int.add_comm]
end Go.HL.Kl.Mc
namespace Go.Proofs.YtloepfcndglmmaaDoor
open Go Go.HL Go.Proofs Go.HL.Kl Go.HL.Kl.Mc
set_option maxHeartbeats 1000000 in
theorem rWeigh_step (x : Nd) (ks : F) (ih : ∀ y ks1, ks1.size < ks.size → WeighC Tryd.prog 81 y ks1) (ra : Option Addr) (rc : Nat) (re : List Nd) (i i1 : Nat) (hre : ∀ x ∈ re, -128 ≤ x.op ∧ x.op < 128) (hp : Part re (.nd x ks .nil) i i1) : HL.Fn Tryd.prog 81 [.slice ra re.length rc, .int .i64 i] (fun w => Rd En w (.slice ra re.length rc) re) [] (fun v _ => v = .tuple #[.int .i64 (cut (F.nd x ks .nil).weight), .int .i64 i1]) := by
  refine fn_of Tryd.func81 rfl rfl rfl fun w0 hw => ?_
  have hsl := hw.sl
  have hbl := hsl.le
  obtain ⟨hx, hpk, hpn⟩ := hp.head
  have hii : i1 = i + 1 + ks.size := by simpa [F.size] using hpn.len
  have hile := hp.le
  have hok : ndOk x = true := hp.wf.1
  have hk0 := ndOk_kids hok
  have hkn : (ks.num : Int) = x.kids := hp.wf.2.1
  have hop := hre x (List.mem_of_getElem? hx)
  have hilt : i < re.length := (List.getElem?_eq_some_iff.1 hx).1
  have htl := times_le hok
  have htp := times_pos x
  have hns := F.num_le ks
  have hpkl := hpk.le
  rw [← hii] at hpk
  refine cR fun _ hK1 => ?_; refine oA (oA (oZ hK1 (cR fun _ hK2 => ?_))); refine oM (oM ?_); refine oS (s_idx rfl rfl hsl (by omega)) ?_; refine oS (s_ldB rfl ((RdK.old0 hw).lds i hx rfl) (by rfl)) ?_; refine o_alloc (l := En zN) (by rw [En_zero]; rfl) rfl fun b6 => ?_; refine o_stW rfl rfl upA lnA lnA onA ?_; refine oZ hK2 (cR fun _ hK3 => ?_); refine oA (oZ hK3 (cR fun _ hK4 => ?_)); refine oM ?_; refine oS sD (oA (oZ hK4 ?_))
  refine c_seq fun _ hK5 => ?_; refine cR fun _ hK6 => ?_; refine oA (oZ hK6 (c_block ?_)); refine c_loop4 (fun (k : Nat) (to : Nat) (dw : Nat) (r : F) => k + r.num = ks.num ∧ Part re r to i1 ∧ dw + r.weight = ks.weight ∧ r.size ≤ ks.size) (fun (k : Nat) (to : Nat) (dw : Nat) (r : F) => [(9, .int .i64 k), (7, .int .i64 (cut dw)), (8, .int .i64 to)]) [(0, _), (4, _), (5, _), (6, _)] (fun (k : Nat) (to : Nat) (dw : Nat) (r : F) => [(b6, .cells (En x).toArray 80 (0, 0))]) (fun (k : Nat) (to : Nat) (dw : Nat) (r : F) => ks.num - k) 0 (i + 1) 0 ks ⟨by omega, hpk, by omega, Nat.le_refl _⟩ sbA sbA hzB ?_
  rintro k to dw r ⟨hkr, hpr, hdw, hrs⟩
  have hcl := cut_le dw
  refine c_seq fun _ hK7 => ?_; refine cR fun _ hK8 => ?_; refine oM ?_; refine oS sF ?_; refine oS sL ?_
  by_cases hkl : (k : Int) < x.kids
  ·obtain ⟨y, ks1, r1, rfl⟩ : ∃ y ks1 r1, r = F.nd y ks1 r1 := by cases r with | nil => simp [F.num] at hkr; omega | nd y a b => exact ⟨y, a, b, rfl⟩
   obtain ⟨hy, hpy, hpt⟩ := hpr.head
   have hpy1 : Part re (.nd y ks1 .nil) to (to + 1 + ks1.size) := hpr.one
   have hrs2 : ks1.size < ks.size := by simp only [F.size] at hrs; omega
   have hcy := cut_le (F.nd y ks1 .nil).weight
   have hpyl := hpy1.le
   refine oS lsT (oZ hK8 ?_); refine cTZ hK7 (c_seq fun _ hK9 => ?_); refine c_block (cR fun _ hK10 => ?_); refine oM (oM ?_); refine o_callP (ih y ks1 hrs2 ra rc re to (to + 1 + ks1.size) hre hpy1) rfl rfl rfl (fun w st => (RdK.old0 hw).out w st) (fun v28 hv28 => ?_); subst hv28
   refine oM ?_; refine oS sE ?_; refine oS sE (oA (oA (oZ hK10 (cR fun _ hK11 => ?_)))); refine oM (oM ?_); refine oS sD ?_; refine oS (step_cast (v' := .int .i64 (cut (dw + (F.nd y ks1 .nil).weight))) (s_min rfl rfl) (by rw [← cut_add]; unfold cut; congr 1; omega)) ?_; refine oA (oZ hK11 (c_region (oM (oA (o_nil (x_block (xZ hK9 (c_region (oM ?_))))))))); refine oS sD (oA (o_nil ?_)); exact xI (k + 1, to + 1 + ks1.size, dw + (F.nd y ks1 .nil).weight, r1) ⟨by simp only [F.num] at hkr; dsimp only; omega, hpt, by simp only [F.weight] at hdw ⊢; omega, by simp only [F.size] at hrs; dsimp only; omega⟩
  ·obtain rfl : r = F.nil := by cases r with | nil => rfl | nd y a b => simp only [F.num] at hkr; omega
   have hto : to = i1 := by have := hpr.len; simp [F.size] at this; omega
   obtain rfl : dw = ks.weight := by simpa [F.weight] using hdw
   subst hto; refine oS lsF (oZ hK8 ?_); refine cF ?_; refine c_exit ?_; refine x_then_exit (x_then_exit (x_block_exit (xZ hK5 (cR fun _ hK12 => ?_)))); refine oA (oZ hK12 (c_seq fun _ hK13 => ?_)); refine cR fun _ hK14 => ?_; refine oS sF ?_; refine oS sL ?_; refine oS (s_convI rfl (by omega)) ?_
   by_cases h6 : x.op = 6
   ·have hrf := rep_flds hok h6
    refine oS eqT (oZ hK14 ?_); refine cT (cR fun _ hK15 => ?_); refine oS sF ?_; refine oS sL ?_; refine oS (s_max rfl rfl) ?_; refine oA (oZ hK15 (cR fun _ hK16 => ?_)); refine oS sF ?_; refine oS sL ?_
    by_cases hmx : x.mx < 0
    ·have ht1 : (times x : Int) = x.mn + 1 := by rw [times, if_pos h6, if_pos hmx]; omega
     have hclw := cut_le ks.weight
     have hm1 : (times x : Int) * (cut ks.weight : Int) ≤ 4194560 := by rw [Int.mul_comm]; exact mul_leZ hclw htl
     have hm0 : 0 ≤ (times x : Int) * (cut ks.weight : Int) := mul_0Z _ _
     have hfin := cut_fin2 (t := times x) (a := ks.weight) htp
     rw [ht1] at hfin hm1 hm0
     refine oS lsT (oZ hK16 ?_); refine cT (c_region ?_); refine oS sF ?_; refine oS sL ?_; refine oS sD (oA (oZ hK13 (cR fun _ hK17 => ?_))); refine oM (oM ?_); refine oS (s_mul rfl rfl (by omega)) ?_; refine oS sD ?_; refine oS (step_cast (v' := .int .i64 (cut (1 + times x * ks.weight) : Nat)) (s_min rfl rfl) (congrArg (Value.int .i64) hfin)) ?_; refine oM (oA (oA (oZ hK17 (c_ret ?_)))); refine ?_; exact x_ret rfl (.tmp rfl (.tmp rfl (.nil))) ((by rw [weight_one]; rfl))
    ·have ht1 : (times x : Int) = max x.mx 1 := by rw [times, if_pos h6, if_neg hmx]; omega
     have hclw := cut_le ks.weight
     have hm1 : (times x : Int) * (cut ks.weight : Int) ≤ 4194560 := by rw [Int.mul_comm]; exact mul_leZ hclw htl
     have hm0 : 0 ≤ (times x : Int) * (cut ks.weight : Int) := mul_0Z _ _
     have hfin := cut_fin2 (t := times x) (a := ks.weight) htp
     rw [ht1] at hfin hm1 hm0
     refine oS lsF (oZ hK16 ?_); refine cFZ hK13 (cR fun _ hK18 => ?_); refine oM (oM ?_); refine oS (s_mul rfl rfl (by omega)) ?_; refine oS sD ?_; refine oS (step_cast (v' := .int .i64 (cut (1 + times x * ks.weight) : Nat)) (s_min rfl rfl) (congrArg (Value.int .i64) hfin)) ?_; refine oM (oA (oA (oZ hK18 (c_ret ?_)))); refine ?_; exact x_ret rfl (.tmp rfl (.tmp rfl (.nil))) ((by rw [weight_one]; rfl))
   ·have ht1 : (times x : Int) = 1 := by rw [times, if_neg h6]; rfl
    have hclw := cut_le ks.weight
    have hm1 : (times x : Int) * (cut ks.weight : Int) ≤ 4194560 := by rw [Int.mul_comm]; exact mul_leZ hclw htl
    have hm0 : 0 ≤ (times x : Int) * (cut ks.weight : Int) := mul_0Z _ _
    have hfin := cut_fin2 (t := times x) (a := ks.weight) htp
    rw [ht1] at hfin hm1 hm0
    refine oS eqF (oZ hK14 ?_); refine cFZ hK13 (cR fun _ hK19 => ?_); refine oM (oM ?_); refine oS (s_mul rfl rfl (by omega)) ?_; refine oS sD ?_; refine oS (step_cast (v' := .int .i64 (cut (1 + times x * ks.weight) : Nat)) (s_min rfl rfl) (congrArg (Value.int .i64) hfin)) ?_; refine oM (oA (oA (oZ hK19 (c_ret ?_)))); refine ?_; exact x_ret rfl (.tmp rfl (.tmp rfl (.nil))) ((by rw [weight_one]; rfl))
theorem weigh_fn : ∀ (n : Nat) (x : Nd) (ks : F), ks.size < n → WeighC Tryd.prog 51 x ks := by
  intro n
  induction n with
  | zero => intro x ks h; omega
  | succ n ih => exact fun x ks h ra rc re i i1 h1 h2 => weigh_step x ks (fun y ks1 hs => ih y ks1 (by omega)) ra rc re i i1 h1 h2
theorem rWeigh_fn : ∀ (n : Nat) (x : Nd) (ks : F), ks.size < n → WeighC Tryd.prog 81 x ks := by
  intro n
  induction n with
  | zero => intro x ks h; omega
  | succ n ih => exact fun x ks h ra rc re i i1 h1 h2 => rWeigh_step x ks (fun y ks1 hs => ih y ks1 (by omega)) ra rc re i i1 h1 h2
theorem shaped_fn (ra : Option Addr) (rc : Nat) (re : List Nd) (hre : ∀ x ∈ re, -128 ≤ x.op ∧ x.op < 128) : HL.Fn Tryd.prog 26 [.slice ra re.length rc] (fun w => Rd En w (.slice ra re.length rc) re) [] (fun v _ => v = .bool (shapedB re)) := by
  refine fn_of Tryd.func26 rfl rfl rfl fun w0 hw => ?_
  have hsl := hw.sl
  have hbl := hsl.le
  refine cR fun _ hK1 => ?_; refine oA (oZ hK1 (cR fun _ hK2 => ?_)); refine oM ?_; refine oS (s_build (cs := [_, _, _]) (vs := [_]) rfl rfl (.cons rfl rfl rfl rfl rfl (.nil))) ?_; refine o_box rfl rfl rfl fun b8 => ?_; refine oA (oZ hK2 (c_seq fun _ hK3 => ?_)); refine cR fun _ hK4 => ?_; refine oM ?_; refine o_call (node_fn 260 b8 ra rc re 0 0 0 none 0 [] [] hre rfl (Nat.zero_le _) (by decide) (by decide) .nil) rfl rfl rfl (by exact .one) (fun w st => ⟨(RdK.old0 hw).out w st, St.apart_M st (by exact HIn.one) hw (Apart.nil) (by decide)⟩) (fun v10 S10 hv10 => ?_)
  rcases hst : shN re 260 0 [] 0 with _ | ⟨j, enx⟩
  ·obtain rfl : v10 = .bool false := by rw [hst] at hv10; exact hv10
   have hN := shp_none hst
   refine oS (s_not rfl) ?_; refine oM ?_; refine oN ?_; refine oN ?_; refine oN ?_; refine oN ?_; refine oN ?_; refine oN ?_; refine oN ?_; refine oS sT (oZ hK4 ?_); refine cT (cR fun _ hK5 => ?_); refine oA (oZ hK5 (c_ret ?_)); refine x_then_ret (?_); exact xR rfl rfl ((congrArg Value.bool hN.symm))
  ·obtain ⟨hu10, ea3, ec3, Se3, rfl, hO3⟩ : v10 = .bool true ∧ ∃ ea3 ec3 Se3, S10 = LookB 107 b8 ra rc re j ea3 ec3 enx :: Se3 ∧ OwnS Ebo 1 4 (.slice ea3 enx.length ec3) enx Se3 := by rw [hst] at hv10; exact hv10
   subst hu10
   unfold LookB
   refine oS (s_not rfl) ?_; refine oM ?_; refine oY (oM ?_); refine oY ?_; refine oS sN ?_; refine oY ?_; refine oS sF ?_; refine oY ?_; refine oS sL ?_; refine oY (oM ?_); refine oY ?_; refine oS sC ?_; refine oY ?_
   by_cases hj : j ≠ re.length
   ·have hN := shp_end hst hj
    refine oS nqT ?_; refine oS sP (oZ hK4 ?_); refine cT (cR fun _ hK6 => ?_); refine oA (oZ hK6 (c_ret ?_)); refine x_then_ret (?_); exact xR rfl rfl ((congrArg Value.bool hN.symm))
   ·obtain rfl : j = re.length := Decidable.not_not.1 hj
    obtain ⟨x, ks, hpt, hdp, hshp⟩ := shp_tree hst
    refine oS nqF ?_; refine oS sP (oZ hK4 ?_); refine cFZ hK3 (cR fun _ hK7 => ?_); refine oM ?_; refine o_callP (weigh_fn (ks.size + 1) x ks (by omega) ra rc re 0 re.length hre hpt) rfl rfl rfl (fun w st => (RdK.old0 hw).out w st) (fun v23 hv23 => ?_); subst hv23
    refine oM ?_; refine oS sE ?_; refine oS sE (oA (oA (oZ hK7 (cR fun _ hK8 => ?_)))); refine oM ?_; refine oS (s_leq rfl rfl) ?_; refine oA (oZ hK8 (c_ret ?_)); refine ?_; exact xR rfl rfl ((congrArg Value.bool (by rw [hshp]; exact decide_eq_decide.2 (by omega))))
theorem rShaped_fn (ra : Option Addr) (rc : Nat) (re : List Nd) (hre : ∀ x ∈ re, -128 ≤ x.op ∧ x.op < 128) : HL.Fn Tryd.prog 42 [.slice ra re.length rc] (fun w => Rd En w (.slice ra re.length rc) re) [] (fun v _ => v = .bool (shapedB re)) := by
  refine fn_of Tryd.func42 rfl rfl rfl fun w0 hw => ?_
  have hsl := hw.sl
  have hbl := hsl.le
  refine cR fun _ hK1 => ?_; refine oA (oZ hK1 (cR fun _ hK2 => ?_)); refine oM ?_; refine oS (s_build (cs := [_, _, _]) (vs := [_]) rfl rfl (.cons rfl rfl rfl rfl rfl (.nil))) ?_; refine o_box rfl rfl rfl fun b8 => ?_; refine oA (oZ hK2 (c_seq fun _ hK3 => ?_)); refine cR fun _ hK4 => ?_; refine oM ?_; refine o_call (rNode_fn 260 b8 ra rc re 0 0 0 none 0 [] [] hre rfl (Nat.zero_le _) (by decide) (by decide) .nil) rfl rfl rfl (by exact .one) (fun w st => ⟨(RdK.old0 hw).out w st, St.apart_M st (by exact HIn.one) hw (Apart.nil) (by decide)⟩) (fun v10 S10 hv10 => ?_)
  rcases hst : shN re 260 0 [] 0 with _ | ⟨j, enx⟩
  ·obtain rfl : v10 = .bool false := by rw [hst] at hv10; exact hv10
   have hN := shp_none hst
   refine oS (s_not rfl) ?_; refine oM ?_; refine oN ?_; refine oN ?_; refine oN ?_; refine oN ?_; refine oN ?_; refine oN ?_; refine oN ?_; refine oS sT (oZ hK4 ?_); refine cT (cR fun _ hK5 => ?_); refine oA (oZ hK5 (c_ret ?_)); refine x_then_ret (?_); exact xR rfl rfl ((congrArg Value.bool hN.symm))
  ·obtain ⟨hu10, ea3, ec3, Se3, rfl, hO3⟩ : v10 = .bool true ∧ ∃ ea3 ec3 Se3, S10 = LookB 132 b8 ra rc re j ea3 ec3 enx :: Se3 ∧ OwnS Ebo 1 4 (.slice ea3 enx.length ec3) enx Se3 := by rw [hst] at hv10; exact hv10
   subst hu10
   unfold LookB
   refine oS (s_not rfl) ?_; refine oM ?_; refine oY (oM ?_); refine oY ?_; refine oS sN ?_; refine oY ?_; refine oS sF ?_; refine oY ?_; refine oS sL ?_; refine oY (oM ?_); refine oY ?_; refine oS sC ?_; refine oY ?_
   by_cases hj : j ≠ re.length
   ·have hN := shp_end hst hj
    refine oS nqT ?_; refine oS sP (oZ hK4 ?_); refine cT (cR fun _ hK6 => ?_); refine oA (oZ hK6 (c_ret ?_)); refine x_then_ret (?_); exact xR rfl rfl ((congrArg Value.bool hN.symm))
   ·obtain rfl : j = re.length := Decidable.not_not.1 hj
    obtain ⟨x, ks, hpt, hdp, hshp⟩ := shp_tree hst
    refine oS nqF ?_; refine oS sP (oZ hK4 ?_); refine cFZ hK3 (cR fun _ hK7 => ?_); refine oM ?_; refine o_callP (rWeigh_fn (ks.size + 1) x ks (by omega) ra rc re 0 re.length hre hpt) rfl rfl rfl (fun w st => (RdK.old0 hw).out w st) (fun v23 hv23 => ?_); subst hv23
    refine oM ?_; refine oS sE ?_; refine oS sE (oA (oA (oZ hK7 (cR fun _ hK8 => ?_)))); refine oM ?_; refine oS (s_leq rfl rfl) ?_; refine oA (oZ hK8 (c_ret ?_)); refine ?_; exact xR rfl rfl ((congrArg Value.bool (by rw [hshp]; exact decide_eq_decide.2 (by omega))))
end Go.Proofs.YtloepfcndglmmaaDoor
namespace Go.HL
open Go
structure Ky where
  a : Int
  b : Int
  c : Int
  d : Int
  deriving DecidableEq
def Ek (k : Ky) : List Value := [.int .i64 k.a, .int .i64 k.b, .int .i64 k.c, .int .i64 k.d]
instance : Enc Ek 4 := ⟨fun _ => rfl, fun x v hv => by
  simp only [Ek, List.mem_cons, List.not_mem_nil, or_false] at hv
  rcases hv with rfl | rfl | rfl | rfl <;> rfl⟩
structure Me where
  k : Ky
  v : Int
  born : Nat
def Me.enc (e : Me) : MapEntry := { key := .agg (Ek e.k).toArray, val := .int .i8 e.v, born := e.born }
def mpO (es : List Me) (c : Nat) : Obj := .map (es.map Me.enc).toArray c
def getK (es : List Me) (k : Ky) : Int := ((es.find? (fun e => decide (k = e.k))).map (·.v)).getD 0
def putAt (v : Int) : List Me → Ky → List Me
  | [], _ => []
  | e :: es, k => if k = e.k then { e with v := v } :: es else e :: putAt v es k
section
variable {P : Program} {κ : Cx} {Q : Pst} {L : Loc} {H H' : Hp} {ops : Array Oper} {rest : List Oper} {ty t t' : TypeId} {d : Nat} {pos : String} {af : Array Edge} {x y z : Operand}
theorem ky_struct {l : List (Nat × Nat)} [tq : TQ P t l] : ∃ fs : Array Field, P.underlying t = some (.struct fs) ∧ fs.toList.map (fun f => (f.type, f.offset)) = l := by
  have hq := tq.out
  cases hu : P.underlying t with
  | none => simp [hu] at hq
  | some D =>
    rw [hu] at hq
    cases D
    case struct fs =>
      simp only [Option.bind_some, fieldsOf] at hq
      split at hq
      case isFalse => cases hq
      case isTrue hc =>
        simp only [Option.some.injEq] at hq
        exact ⟨fs, rfl, hq⟩
    all_goals simp [fieldsOf] at hq
theorem forIn_ok {β : Type} {f : β → PUnit → Sem (ForInStep PUnit)} {w : World} : ∀ {l : List β}, (∀ x ∈ l, (f x ⟨⟩).run P w = .ok (.yield ⟨⟩) w) → (forIn (m := Sem) l PUnit.unit f).run P w = .ok ⟨⟩ w := by
  intro l
  induction l with
  | nil => intro _; simp
  | cons x l ih =>
    intro h
    rw [List.forIn_cons, Sem.run_bind, h x List.mem_cons_self, Result.andThen_ok]
    exact ih fun y hy => h y (List.mem_cons_of_mem _ hy)
theorem checkInt {e n : Nat} {b : Bool} {v : Value} [TU P e (.int .i64)] (w : World) : (Instr.checkKey b (n + 1) e v).run P w = .ok () w := by
  unfold Instr.checkKey
  rw [Sem.run_bind, run_u, Result.andThen_ok]
  cases v <;> simp
theorem o_mmap (hn : Nat.blt d κ.n = true) (h : ∀ b, O P κ ops Q rest ((d, .map (some b)) :: L) ((b, mpO [] 0) :: H)) : O P κ ops Q (⟨some d, .makeMap t none, ty, pos, af, none⟩ :: rest) L H :=
  o_gen (fun u H' => ∃ b, u = .map (some b) ∧ H' = (b, mpO [] 0) :: H) hn
    (fun ρ w pos af g hρ st => ⟨_, _, _, by simp [execOp, Instr.makeMap, newObj, Sem.run, mpO], ⟨_, rfl, rfl⟩, st.alloc _⟩)
    (fun u H' ⟨b, hu, hH⟩ => by subst hu; subst hH; exact h b)
end
end Go.HL
namespace Go.HL
open Go
section
variable {P : Program} {κ : Cx} {Q : Pst} {L L' : Loc} {H H' : Hp} {ops : Array Oper} {rest : List Oper} {ty t t' : TypeId} {d : Nat} {pos : String} {af : Array Edge} {v u : Value} {x y z : Operand} {α : Type} {E : α → List Value} {k : Nat}
theorem Fn.sub {f : FuncId} {args : List Value} {pre : World → Prop} {S : Hp} {post post' : Value → Hp → Prop} (h : Fn P f args pre S post) (hq : ∀ v S', post v S' → ∃ S2, HSub S' S2 ∧ post' v S2) : Fn P f args pre S post' :=
  ⟨h.enters, fun w hw hS => (h.calls w hw hS).mono fun e w' hpost => by
    obtain ⟨v, S', he, hv, hst⟩ := hpost.out
    obtain ⟨S2, h1, h2⟩ := hq _ _ hv
    exact ⟨v, S2, he, h2, hst.sub h1⟩⟩
end
end Go.HL
