/- Part of the proofs over this seat: see the text that holds the theorem. Conditions: each theorem bears its own. -/
import Derived.Test.YtmompllplidphaaDoorHTZ
import Derived.Test.YtmompllplidphaaDoorSN1Z
import Derived.Test.YtmompllplidphaaDoorSW1Z
namespace Go.Proofs.YtmompllplidphaaDoor
open Go Go.HL Go.Proofs Go.HL.Kl Go.HL.Kl.Mc
set_option maxHeartbeats 2000000 in
theorem rNode_step (f : Nat) (ih : ∀ f1, f = f1 + 1 → NodeC Tryd.prog 64 99 f1) (bx : Nat) (ra : Option Addr) (rc : Nat) (re : List Nd) (i wi gr : Nat) (ea : Option Addr) (ec : Nat) (en : List Bool) (Se : Hp) (hre : ∀ x ∈ re, -128 ≤ x.op ∧ x.op < 128) (hwi : wi + f = 260) (hi : i ≤ re.length) (hel : en.length ≤ 255) (hg : gr ≤ 64) (hO : OwnS Ebo 1 4 (.slice ea en.length ec) en Se) : HL.Fn Tryd.prog 64 [.pointer (some ⟨bx, 0, none⟩), .int .i64 wi, .int .i64 gr] (fun w => Rd En w (.slice ra re.length rc) re ∧ Apart (keys ((bx, .cells [.slice ra re.length rc, .int .i64 i, .slice ea en.length ec].toArray 99 (0, 0)) :: Se)) (.slice ra re.length rc)) ((bx, .cells [.slice ra re.length rc, .int .i64 i, .slice ea en.length ec].toArray 99 (0, 0)) :: Se) (NodeP 99 bx ra rc re (shN re f i en gr)) := by
  refine fn_of Tryd.func64 rfl rfl rfl fun w0 hw => ?_
  have hsl := hw.1.sl
  have hbl := hsl.le
  have hOs := hO.sl
  refine cR fun _ hK1 => ?_; refine oA (oZ hK1 (c_seq fun _ hK2 => ?_)); refine c_seq fun _ hK3 => ?_; refine c_drawE ((bx, .cells [.slice ra re.length rc, .int .i64 i, .slice ea en.length ec].toArray 99 (0, 0)) :: Se) (fun i => false) ?_; refine eK 0 rfl sM ?_; refine eK 1 rfl sN ?_; refine eK 2 rfl sF ?_; refine eK 3 rfl sL ?_; refine eK 4 rfl sM ?_; refine eK 5 rfl sN ?_; refine eK 6 rfl sF ?_; refine eK 7 rfl sL ?_; refine eK 8 rfl sC ?_
  by_cases hend : (i : Int) ≥ re.length
  ·have hN : shN re f i en gr = none := shN_end (by omega)
   refine eK 9 rfl geT ?_; refine eK 10 rfl sM ?_; refine eS 11 rfl (eS 12 rfl ?_); refine eK 13 rfl sT (eZ hK3 ?_); refine cT (cR fun _ hK4 => ?_); refine oA (oZ hK4 (c_ret ?_)); refine x_then_ret (?_); exact xR rfl rfl ((by rw [hN]; rfl))
  ·refine eK 9 rfl geF ?_; refine eK 10 rfl sM ?_; refine eG 11 rfl sM ?_
   by_cases hf : (wi : Int) > 259
   ·obtain rfl : f = 0 := by omega
    have hN : shN re 0 i en gr = none := rfl
    refine eG 12 rfl gtT ?_; refine eK 13 rfl sP (eZ hK3 ?_); refine cT (cR fun _ hK5 => ?_); refine oA (oZ hK5 (c_ret ?_)); refine x_then_ret (?_); exact xR rfl rfl ((by rw [hN]; rfl))
   ·obtain ⟨f1, rfl⟩ : ∃ f1, f = f1 + 1 := ⟨f - 1, by omega⟩
    obtain ⟨x, hx⟩ : ∃ x, re[i]? = some x := ⟨_, List.getElem?_eq_getElem (show i < re.length by omega)⟩
    have hop := hre x (List.mem_of_getElem? hx)
    refine eG 12 rfl gtF ?_; refine eK 13 rfl sP (eZ hK3 ?_); refine cFZ hK2 (c_seq fun _ hK6 => ?_); refine c_drawE ((bx, .cells [.slice ra re.length rc, .int .i64 i, .slice ea en.length ec].toArray 99 (0, 0)) :: Se) (fun i => Nat.beq i 11) ?_; refine eK 0 rfl sM ?_; refine eK 1 rfl sN ?_; refine eK 2 rfl sF ?_; refine eK 3 rfl sL ?_; refine eK 4 rfl sM ?_; refine eK 5 rfl sN ?_; refine eK 6 rfl sF ?_; refine eK 7 rfl sL ?_; refine eK 8 rfl (s_idx rfl rfl hsl (by omega)) ?_; refine eK 9 rfl (s_ldB rfl ((RdK.old hw.1 hw.2).lds i hx rfl) (by rfl)) ?_; refine eO 10 rfl ?_; refine o_alloc (l := En zN) (by rw [En_zero]; rfl) rfl fun b7 => ?_; refine oX (eO 11 rfl ?_); refine o_stW rfl rfl upA lnA lnA onA ?_; refine o_nil ?_; refine x_oneL rfl ?_; refine eZ hK6 (cR fun _ hK7 => ?_); refine oM ?_; refine oS sN ?_; refine oS sF ?_; refine oS sL ?_; refine oS sD ?_; refine oS sN ?_; refine oS sF ?_; refine o_store rfl rfl rfl upA ltA rfl ?_
    dsimp only [List.set]
    refine oZ hK7 (c_seq fun _ hK8 => ?_); refine cR fun _ hK9 => ?_; refine oS (s_ldB rfl (RdPK.cels (.own meA)) (by rfl)) ?_; refine o_callP (flds_fn x hop) rfl rfl rfl (fun _ _ => trivial) (fun v42 hv42 => ?_); subst hv42
    cases hfl : flds x
    ·have hN : shN re (f1 + 1) i en gr = none := shN_bad hx (by rw [ndOk, hfl]; simp)
     refine oS (s_not rfl) ?_; refine oM ?_; refine oN ?_; refine oN ?_; refine oN ?_; refine oS sT (oZ hK9 ?_); refine cT (cR fun _ hK10 => ?_); refine oA (oZ hK10 (c_ret ?_)); refine x_then_ret (?_); exact xR rfl rfl ((by rw [hN]; rfl))
    ·refine oS (s_not rfl) ?_; refine oM ?_; refine oY ?_; refine oS (s_ldB rfl (RdPK.cels (.own meA)) (by rfl)) ?_; refine oY ?_; refine o_callP (kids_fn x hop) rfl rfl rfl (fun _ _ => trivial) (fun v46 hv46 => ?_); subst hv46
     cases hko : kidsOk x
     ·have hN : shN re (f1 + 1) i en gr = none := shN_bad hx (by rw [ndOk, hko]; simp)
      refine oY ?_; refine oS (s_not rfl) ?_; refine oS sP (oZ hK9 ?_); refine cT (cR fun _ hK11 => ?_); refine oA (oZ hK11 (c_ret ?_)); refine x_then_ret (?_); exact xR rfl rfl ((by rw [hN]; rfl))
     ·have hok : ndOk x = true := by rw [ndOk, hfl, hko]; rfl
      have hk0 := ndOk_kids hok
      refine oY ?_; refine oS (s_not rfl) ?_; refine oS sP (oZ hK9 ?_); refine cFZ hK8 (cR fun _ hK12 => ?_); refine oS sF ?_; refine oS sL ?_; refine oS (s_convI rfl (by omega)) ?_; refine oA (oZ hK12 ?_); refine c_seqJ (ι := Unit) (fun g => x.op = 8 → 1 ≤ x.n ∧ x.n ≤ en.length ∧ en[x.n.toNat - 1]? = some true) (fun g => []) [(0, _), (1, _), (2, _), (7, _), (8, _)] (fun g => (bx, .cells [.slice ra re.length rc, .int .i64 (i + 1 : Nat), .slice ea en.length ec].toArray 99 (0, 0)) :: (b7, .cells (En x).toArray 57 (0, 0)) :: Se) sbA ?_ ?_
      ·rintro g hg8
       refine c_seqJ (ι := (List Bool × Nat × Option Addr × Nat × Hp)) (fun g => gate x en gr = some (g.1, g.2.1) ∧ OwnS Ebo 1 4 (.slice g.2.2.1 g.1.length g.2.2.2.1) g.1 g.2.2.2.2) (fun g => [(2, .int .i64 g.2.1)]) [(0, _), (1, _), (7, _), (8, _)] (fun g => (bx, .cells [.slice ra re.length rc, .int .i64 (i + 1 : Nat), .slice g.2.2.1 g.1.length g.2.2.2.1].toArray 99 (0, 0)) :: (b7, .cells (En x).toArray 57 (0, 0)) :: g.2.2.2.2) sbA ?_ ?_
       ·rintro ⟨en1, g1, ea1, ec1, Se1⟩ ⟨hgt, hO1⟩
        dsimp only at hgt hO1
        dsimp only
        have hgl := gate_len hgt hel hg
        refine c_seq fun _ hK15 => ?_; refine cR fun _ hK16 => ?_; refine oA (oZ hK16 (c_block ?_)); refine c_loop6 (fun (k : Nat) (i2 : Nat) (en2 : List Bool) (ea2 : Option Addr) (ec2 : Nat) (Se2 : Hp) => (k : Int) ≤ x.kids ∧ kidsN (fun i en => shN re f1 i en g1) k (i + 1) en1 = some (i2, en2) ∧ i + 1 + k ≤ i2 ∧ i2 ≤ re.length ∧ en2.length ≤ 255 ∧ en1.length ≤ en2.length ∧ OwnS Ebo 1 4 (.slice ea2 en2.length ec2) en2 Se2) (fun (k : Nat) (i2 : Nat) (en2 : List Bool) (ea2 : Option Addr) (ec2 : Nat) (Se2 : Hp) => [(9, .int .i64 k)]) [(0, _), (1, _), (2, _), (7, _), (8, _)] (fun (k : Nat) (i2 : Nat) (en2 : List Bool) (ea2 : Option Addr) (ec2 : Nat) (Se2 : Hp) => (bx, .cells [.slice ra re.length rc, .int .i64 i2, .slice ea2 en2.length ec2].toArray 99 (0, 0)) :: (b7, .cells (En x).toArray 57 (0, 0)) :: Se2) (fun (k : Nat) (i2 : Nat) (en2 : List Bool) (ea2 : Option Addr) (ec2 : Nat) (Se2 : Hp) => x.kids.toNat - k) 0 (i + 1) en1 ea1 ec1 Se1 ⟨by omega, rfl, by omega, by omega, hgl.2.1, Nat.le_refl _, hO1⟩ sbA sbA hzB ?_
        rintro k i2 en2 ea2 ec2 Se2 ⟨hk, hkn, hki, hi2, hel2, hel3, hO2⟩
        refine c_seq fun _ hK17 => ?_; refine cR fun _ hK18 => ?_; refine oM ?_; refine oS sF ?_; refine oS sL ?_
        by_cases hkl : (k : Int) < x.kids
        ·refine oS lsT (oZ hK18 ?_); refine cTZ hK17 (c_seq fun _ hK19 => ?_); refine c_block (cR fun _ hK20 => ?_); refine oM (oM ?_); refine oS sD (oM ?_); refine o_call (ih f1 rfl bx ra rc re i2 (wi + 1) g1 ea2 ec2 en2 Se2 hre (by omega) hi2 hel2 hgl.2.2.1 hO2) rfl rfl rfl ((Pick.takeC pkA pkA)) (fun w st => ⟨(RdK.old hw.1 hw.2).out w st, St.apart_M st (by exact hin_node) hw.1 hw.2 (by decide)⟩) (fun v122 S122 hv122 => ?_)
         rcases hst : shN re f1 i2 en2 g1 with _ | ⟨i3, en3⟩
         ·obtain rfl : v122 = .bool false := by rw [hst] at hv122; exact hv122
          have hN : shN re (f1 + 1) i en gr = none := shN_kids hx hgt (kidsN_none (kidsN_snoc hkn hst) (by omega))
          refine oS (s_not rfl) ?_; refine oZ hK20 ?_; refine cT (cR fun _ hK21 => ?_); refine oA (oZ hK21 (c_ret ?_)); refine x_block_ret (x_then_ret (x_then_ret (x_block_ret (x_then_ret (?_)))))
          exact xR rfl rfl ((by rw [hN]; rfl))
         ·obtain ⟨hu122, ea3, ec3, Se3, rfl, hO3⟩ : v122 = .bool true ∧ ∃ ea3 ec3 Se3, S122 = LookB 99 bx ra rc re i3 ea3 ec3 en3 :: Se3 ∧ OwnS Ebo 1 4 (.slice ea3 en3.length ec3) en3 Se3 := by rw [hst] at hv122; exact hv122
          subst hu122
          unfold LookB
          refine oS (s_not rfl) ?_; refine oZ hK20 ?_; refine cF (c_skip (x_block (xZ hK19 (c_region (oM ?_))))); refine oS sD (oA (o_nil ?_)); exact xI (k + 1, i3, en3, ea3, ec3, Se3) ⟨by omega, kidsN_snoc hkn hst, by have := shN_lt hst; dsimp only; omega, shN_le hst, (shN_len hel2 hgl.2.2.1 hst).2, by have := (shN_len hel2 hgl.2.2.1 hst).1; dsimp only; omega, hO3⟩
        ·obtain rfl : k = x.kids.toNat := by omega
         have hN := shN_some hx hok hgt hkn
         have hO2s := hO2.sl
         refine oS lsF (oZ hK18 ?_); refine cF ?_; refine c_exit ?_; refine x_then_exit (x_then_exit (x_block_exit (xZ hK15 (c_seq fun _ hK22 => ?_)))); refine cR fun _ hK23 => ?_; refine oM ?_
         by_cases k7 : x.op = 7
         ·have hg7 := hgl.2.2.2 k7
          refine oS eqT (oZ hK23 ?_); refine cT ?_; refine c_drawE ((bx, .cells [.slice ra re.length rc, .int .i64 i2, .slice ea2 en2.length ec2].toArray 99 (0, 0)) :: (b7, .cells (En x).toArray 57 (0, 0)) :: Se2) (fun i => Nat.beq i 8) ?_; refine eK 0 rfl sM ?_; refine eK 1 rfl sN ?_; refine eK 2 rfl sF ?_; refine eK 3 rfl sL ?_; refine eK 4 rfl sF ?_; refine eK 5 rfl sL ?_; refine eK 6 rfl sU ?_; refine eK 7 rfl (s_idx rfl rfl hO2s (by omega)) ?_; refine eO 8 rfl ?_; refine o_stS1 (x.n.toNat - 1) true hO2 pkA rfl rfl rfl (by omega) (by omega) fun S' hS' => ?_; refine o_nil ?_; refine x_oneL rfl ?_; refine eZ hK22 (cR fun _ hK24 => ?_); refine oA (oZ hK24 (c_ret ?_)); refine ?_; refine x_sub (Sub.refl _) (H' := (bx, .cells [.slice ra re.length rc, .int .i64 i2, .slice ea2 en2.length ec2].toArray 99 (0, 0)) :: S') hzB ?_; exact xR rfl rfl ((by rw [hN, if_pos k7]; exact ⟨rfl, ea2, ec2, S', by unfold LookB; rw [List.length_set], by rw [List.length_set]; exact hS'⟩))
         ·refine oS eqF (oZ hK23 ?_); refine cFZ hK22 (cR fun _ hK25 => ?_); refine oA (oZ hK25 (c_ret ?_)); refine ?_; refine x_sub (Sub.refl _) (H' := (bx, .cells [.slice ra re.length rc, .int .i64 i2, .slice ea2 en2.length ec2].toArray 99 (0, 0)) :: Se2) hzB ?_; exact xR rfl rfl ((by rw [hN, if_neg k7]; exact ⟨rfl, _, _, _, rfl, hO2⟩))
       ·intro _ hJ14
        refine cR fun _ hK26 => ?_; refine oM ?_
        by_cases h7 : x.op = 7
        ·refine oS eqT (oZ hK26 ?_); refine cT (c_seq fun _ hK27 => ?_); refine c_seq fun _ hK28 => ?_; refine c_drawE ((bx, .cells [.slice ra re.length rc, .int .i64 (i + 1 : Nat), .slice ea en.length ec].toArray 99 (0, 0)) :: (b7, .cells (En x).toArray 57 (0, 0)) :: Se) (fun i => false) ?_; refine eK 0 rfl sF ?_; refine eK 1 rfl sL ?_; refine eK 2 rfl sM ?_; refine eK 3 rfl sN ?_; refine eK 4 rfl sF ?_; refine eK 5 rfl sL ?_; refine eK 6 rfl sC ?_; refine eK 7 rfl sD ?_
         by_cases hn1 : x.n ≠ en.length + 1
         ·have hN : shN re (f1 + 1) i en gr = none := shN_gate hx (gate_no7 h7 (by omega))
          refine eK 8 rfl nqT ?_; refine eK 9 rfl sM ?_; refine eS 10 rfl (eS 11 rfl (eS 12 rfl ?_)); refine eK 13 rfl sT ?_; refine eK 14 rfl sM ?_; refine eS 15 rfl (eS 16 rfl ?_); refine eK 17 rfl sT (eZ hK28 ?_); refine cT (cR fun _ hK29 => ?_); refine oA (oZ hK29 (c_ret ?_)); refine x_then_ret (x_then_ret (?_))
          exact xR rfl rfl ((by rw [hN]; rfl))
         ·refine eK 8 rfl nqF ?_; refine eK 9 rfl sM ?_; refine eG 10 rfl sF ?_; refine eG 11 rfl sL ?_
          by_cases hn2 : x.n > 255
          ·have hN : shN re (f1 + 1) i en gr = none := shN_gate hx (gate_no7 h7 (by omega))
           refine eG 12 rfl gtT ?_; refine eK 13 rfl sP ?_; refine eK 14 rfl sM ?_; refine eS 15 rfl (eS 16 rfl ?_); refine eK 17 rfl sT (eZ hK28 ?_); refine cT (cR fun _ hK30 => ?_); refine oA (oZ hK30 (c_ret ?_)); refine x_then_ret (x_then_ret (?_))
           exact xR rfl rfl ((by rw [hN]; rfl))
          ·refine eG 12 rfl gtF ?_; refine eK 13 rfl sP ?_; refine eK 14 rfl sM ?_; refine eG 15 rfl sM ?_
           by_cases hn3 : (gr : Int) ≥ 64
           ·have hN : shN re (f1 + 1) i en gr = none := shN_gate hx (gate_no7 h7 (by omega))
            refine eG 16 rfl geT ?_; refine eK 17 rfl sP (eZ hK28 ?_); refine cT (cR fun _ hK31 => ?_); refine oA (oZ hK31 (c_ret ?_)); refine x_then_ret (x_then_ret (?_))
            exact xR rfl rfl ((by rw [hN]; rfl))
           ·refine eG 16 rfl geF ?_; refine eK 17 rfl sP (eZ hK28 ?_); refine cFZ hK27 (cR fun _ hK32 => ?_); refine oM (oM ?_); refine oS sN ?_; refine oS sF ?_; refine oS sL ?_; refine o_bs (E := Ebo) (xs := [false]) (vs := [_]) rfl rfl rfl rfl rfl (by decide) (by decide) fun b106 S106 hS106 => ?_; refine o_app hO (hS106.rdk hiA) rfl rfl rfl rfl (by simp only [List.length_singleton]; omega) (by simp only [List.length_singleton]; omega) rfl pkA fun a107 c107 S107 hS107 => ?_; refine oS sN ?_; refine oS sF ?_; refine o_store rfl rfl rfl upA ltA rfl ?_
            dsimp only [List.set]
            refine oZ hK32 (c_region (oM ?_)); refine oS sD (oA (o_nil ?_)); exact x_then (hJ14 (en ++ [false], gr + 1, a107, c107, S107) _ _ ⟨gate_grp h7 ⟨by omega, by omega, by omega⟩, hS107⟩ sbA sbA hzB)
        ·refine oS eqF (oZ hK26 ?_); refine cF (c_skip ?_); exact x_then (hJ14 (en, gr, ea, ec, Se) _ _ ⟨gate_not7 h7 hg8, hO⟩ sbA sbA hzB)
      ·intro _ hJ13
       refine c_seq fun _ hK33 => ?_; refine c_drawE ((bx, .cells [.slice ra re.length rc, .int .i64 (i + 1 : Nat), .slice ea en.length ec].toArray 99 (0, 0)) :: (b7, .cells (En x).toArray 57 (0, 0)) :: Se) (fun i => false) ?_; refine eK 0 rfl sM ?_
       by_cases h8 : x.op = 8
       ·refine eK 1 rfl eqT ?_; refine eK 2 rfl sM ?_; refine eG 3 rfl sF ?_; refine eG 4 rfl sL ?_
        by_cases hn1 : x.n < 1
        ·have hN : shN re (f1 + 1) i en gr = none := shN_gate hx (gate_no8 h8 (by omega))
         refine eG 5 rfl lsT ?_; refine eG 6 rfl sM ?_; refine eS 7 rfl (eS 8 rfl (eS 9 rfl (eS 10 rfl (eS 11 rfl (eS 12 rfl (eS 13 rfl (eS 14 rfl ?_))))))); refine eG 15 rfl sT ?_; refine eG 16 rfl sM ?_; refine eS 17 rfl (eS 18 rfl (eS 19 rfl (eS 20 rfl (eS 21 rfl (eS 22 rfl (eS 23 rfl (eS 24 rfl (eS 25 rfl (eS 26 rfl ?_))))))))); refine eG 27 rfl sT ?_; refine eK 28 rfl sT (eZ hK33 ?_); refine cT (cR fun _ hK34 => ?_); refine oA (oZ hK34 (c_ret ?_)); refine x_then_ret (?_); exact xR rfl rfl ((by rw [hN]; rfl))
        ·refine eG 5 rfl lsF ?_; refine eG 6 rfl sM ?_; refine eG 7 rfl sF ?_; refine eG 8 rfl sL ?_; refine eG 9 rfl sM ?_; refine eG 10 rfl sN ?_; refine eG 11 rfl sF ?_; refine eG 12 rfl sL ?_; refine eG 13 rfl sC ?_
         by_cases hn2 : x.n > en.length
         ·have hN : shN re (f1 + 1) i en gr = none := shN_gate hx (gate_no8 h8 (by omega))
          refine eG 14 rfl gtT ?_; refine eG 15 rfl sP ?_; refine eG 16 rfl sM ?_; refine eS 17 rfl (eS 18 rfl (eS 19 rfl (eS 20 rfl (eS 21 rfl (eS 22 rfl (eS 23 rfl (eS 24 rfl (eS 25 rfl (eS 26 rfl ?_))))))))); refine eG 27 rfl sT ?_; refine eK 28 rfl sT (eZ hK33 ?_); refine cT (cR fun _ hK35 => ?_); refine oA (oZ hK35 (c_ret ?_)); refine x_then_ret (?_); exact xR rfl rfl ((by rw [hN]; rfl))
         ·refine eG 14 rfl gtF ?_; refine eG 15 rfl sP ?_; refine eG 16 rfl sM ?_; refine eG 17 rfl sM ?_; refine eG 18 rfl sN ?_; refine eG 19 rfl sF ?_; refine eG 20 rfl sL ?_; refine eG 21 rfl sF ?_; refine eG 22 rfl sL ?_; refine eG 23 rfl sU ?_; refine eG 24 rfl (s_idx rfl rfl hOs (by omega)) ?_
          by_cases hb : en[x.n.toNat - 1]? = some true
          ·refine eG 25 rfl (s_ld rfl ((hO.rdk hiA).ld (x.n.toNat - 1) 0 hb rfl (by decide) (by omega))) ?_; refine eG 26 rfl (s_not rfl) ?_; refine eG 27 rfl sP ?_; refine eK 28 rfl sT (eZ hK33 ?_); refine cF (c_skip ?_); exact x_then (hJ13 () _ _ (fun _ => ⟨by omega, by omega, hb⟩) sbA sbA hzB)
          ·have hN : shN re (f1 + 1) i en gr = none := shN_gate hx (gate_no8 h8 (fun h => hb h.2.2))
           have hb2 := get_false hb (by omega)
           refine eG 25 rfl (s_ld rfl ((hO.rdk hiA).ld (x.n.toNat - 1) 0 hb2 rfl (by decide) (by omega))) ?_; refine eG 26 rfl (s_not rfl) ?_; refine eG 27 rfl sP ?_; refine eK 28 rfl sT (eZ hK33 ?_); refine cT (cR fun _ hK36 => ?_); refine oA (oZ hK36 (c_ret ?_)); refine x_then_ret (?_); exact xR rfl rfl ((by rw [hN]; rfl))
       ·refine eK 1 rfl eqF ?_; refine eK 2 rfl sM ?_; refine eS 3 rfl (eS 4 rfl (eS 5 rfl (eS 6 rfl (eU 7 rfl (eU 8 rfl (eU 9 rfl (eU 10 rfl (eU 11 rfl (eU 12 rfl (eU 13 rfl (eU 14 rfl (eS 15 rfl (eS 16 rfl (eU 17 rfl (eU 18 rfl (eU 19 rfl (eU 20 rfl (eU 21 rfl (eU 22 rfl (eU 23 rfl (eU 24 rfl (eU 25 rfl (eU 26 rfl ?_)))))))))))))))))))))))
        refine eS 27 rfl ?_; refine eK 28 rfl sP (eZ hK33 ?_); refine cF (c_skip ?_); exact x_then (hJ13 () _ _ (fun h => absurd h h8) sbA sbA hzB)
theorem node_fn : ∀ f, NodeC Tryd.prog 78 125 f := by
  intro f
  induction f with
  | zero => exact fun bx ra rc re i wi g ea ec en Se h1 h2 h3 h4 h5 h6 => node_step 0 (fun f1 h => by omega) bx ra rc re i wi g ea ec en Se h1 h2 h3 h4 h5 h6
  | succ f ih => exact fun bx ra rc re i wi g ea ec en Se h1 h2 h3 h4 h5 h6 => node_step (f + 1) (fun f1 h => (Nat.succ.inj h) ▸ ih) bx ra rc re i wi g ea ec en Se h1 h2 h3 h4 h5 h6
theorem rNode_fn : ∀ f, NodeC Tryd.prog 64 99 f := by
  intro f
  induction f with
  | zero => exact fun bx ra rc re i wi g ea ec en Se h1 h2 h3 h4 h5 h6 => rNode_step 0 (fun f1 h => by omega) bx ra rc re i wi g ea ec en Se h1 h2 h3 h4 h5 h6
  | succ f ih => exact fun bx ra rc re i wi g ea ec en Se h1 h2 h3 h4 h5 h6 => rNode_step (f + 1) (fun f1 h => (Nat.succ.inj h) ▸ ih) bx ra rc re i wi g ea ec en Se h1 h2 h3 h4 h5 h6
set_option maxHeartbeats 1000000 in
theorem weigh_step (x : Nd) (ks : F) (ih : ∀ y ks1, ks1.size < ks.size → WeighC Tryd.prog 79 y ks1) (ra : Option Addr) (rc : Nat) (re : List Nd) (i i1 : Nat) (hre : ∀ x ∈ re, -128 ≤ x.op ∧ x.op < 128) (hp : Part re (.nd x ks .nil) i i1) : HL.Fn Tryd.prog 79 [.slice ra re.length rc, .int .i64 i] (fun w => Rd En w (.slice ra re.length rc) re) [] (fun v _ => v = .tuple #[.int .i64 (cut (F.nd x ks .nil).weight), .int .i64 i1]) := by
  refine fn_of Tryd.func79 rfl rfl rfl fun w0 hw => ?_
  have hsl := hw.sl
  have hbl := hsl.le
  obtain ⟨hx, hpk, hpn⟩ := hp.head
  have hii : i1 = i + 1 + ks.size := by simpa [F.size] using hpn.len
  have hile := hp.le
  have hok : ndOk x = true := hp.wf.1
  have hk0 := ndOk_kids hok
  have hkn : (ks.num : Int) = x.kids := hp.wf.2.1
  have hop := hre x (List.mem_of_getElem? hx)
  have hilt : i < re.length := (List.getElem?_eq_some_iff.1 hx).1
  have htl := times_le hok
  have htp := times_pos x
  have hns := F.num_le ks
  have hpkl := hpk.le
  rw [← hii] at hpk
  refine cR fun _ hK1 => ?_; refine oA (oA (oZ hK1 (cR fun _ hK2 => ?_))); refine oM (oM ?_); refine oS (s_idx rfl rfl hsl (by omega)) ?_; refine oS (s_ldB rfl ((RdK.old0 hw).lds i hx rfl) (by rfl)) ?_; refine o_alloc (l := En zN) (by rw [En_zero]; rfl) rfl fun b6 => ?_; refine o_stW rfl rfl upA lnA lnA onA ?_; refine oZ hK2 (cR fun _ hK3 => ?_); refine oM ?_; refine oS sD (oA (oA (oZ hK3 (c_seq fun _ hK4 => ?_)))); refine cR fun _ hK5 => ?_; refine oS sF ?_; refine oS sL (oM (oZ hK5 (c_block ?_))); refine c_loop4 (fun (k : Nat) (to : Nat) (dw : Nat) (r : F) => k + r.num = ks.num ∧ Part re r to i1 ∧ dw + r.weight = ks.weight ∧ r.size ≤ ks.size) (fun (k : Nat) (to : Nat) (dw : Nat) (r : F) => [(19, .int .i64 k), (7, .int .i64 (cut dw)), (8, .int .i64 to)]) [(0, _), (4, _), (5, _), (6, _), (18, _)] (fun (k : Nat) (to : Nat) (dw : Nat) (r : F) => [(b6, .cells (En x).toArray 57 (0, 0))]) (fun (k : Nat) (to : Nat) (dw : Nat) (r : F) => ks.num - k) 0 (i + 1) 0 ks ⟨by omega, hpk, by omega, Nat.le_refl _⟩ sbA sbA hzB ?_
  rintro k to dw r ⟨hkr, hpr, hdw, hrs⟩
  have hcl := cut_le dw
  refine cR fun _ hK6 => ?_
  by_cases hkl : (k : Int) < x.kids
  ·obtain ⟨y, ks1, r1, rfl⟩ : ∃ y ks1 r1, r = F.nd y ks1 r1 := by cases r with | nil => simp [F.num] at hkr; omega | nd y a b => exact ⟨y, a, b, rfl⟩
   obtain ⟨hy, hpy, hpt⟩ := hpr.head
   have hpy1 : Part re (.nd y ks1 .nil) to (to + 1 + ks1.size) := hpr.one
   have hrs2 : ks1.size < ks.size := by simp only [F.size] at hrs; omega
   have hcy := cut_le (F.nd y ks1 .nil).weight
   have hpyl := hpy1.le
   refine oS lsT (oZ hK6 (c_seq fun _ hK7 => ?_)); refine cTZ hK7 (c_seq fun _ hK8 => ?_); refine c_block (cR fun _ hK9 => ?_); refine oM (oM ?_); refine o_callP (ih y ks1 hrs2 ra rc re to (to + 1 + ks1.size) hre hpy1) rfl rfl rfl (fun w st => (RdK.old0 hw).out w st) (fun v24 hv24 => ?_); subst hv24
   refine oM ?_; refine oS sE ?_; refine oS sE (oA (oA (oZ hK9 (c_region (oM (oM ?_)))))); refine oS sD ?_; refine oS (step_cast (v' := .int .i64 (cut (dw + (F.nd y ks1 .nil).weight))) (s_min rfl rfl) (by rw [← cut_add]; unfold cut; congr 1; omega)) ?_; refine oM (oA (oA (o_nil (x_block (xZ hK8 (c_region ?_)))))); refine oS sD (oM (o_nil ?_)); exact xI (k + 1, to + 1 + ks1.size, dw + (F.nd y ks1 .nil).weight, r1) ⟨by simp only [F.num] at hkr; dsimp only; omega, hpt, by simp only [F.weight] at hdw ⊢; omega, by simp only [F.size] at hrs; dsimp only; omega⟩
  ·obtain rfl : r = F.nil := by cases r with | nil => rfl | nd y a b => simp only [F.num] at hkr; omega
   have hto : to = i1 := by have := hpr.len; simp [F.size] at this; omega
   obtain rfl : dw = ks.weight := by simpa [F.weight] using hdw
   subst hto; refine oS lsF (oZ hK6 (c_seq fun _ hK10 => ?_)); refine cF ?_; refine c_exit ?_; refine x_then_exit (x_then_exit (x_block_exit (xZ hK4 (c_seq fun _ hK11 => ?_)))); refine cR fun _ hK12 => ?_; refine oS sF ?_; refine oS sL ?_
   by_cases h6 : x.op = 6
   ·have hrf := rep_flds hok h6
    refine oS (eqT (h := h6)) ?_; refine oZ hK12 ?_; refine cT (cR fun _ hK13 => ?_); refine oS sF ?_; refine oS sL ?_
    by_cases hmx : x.mx < 0
    ·have ht1 : (times x : Int) = x.mn + 1 := by rw [times, if_pos h6, if_pos hmx]; omega
     have hclw := cut_le ks.weight
     have hm1 : (cut ks.weight : Int) * times x ≤ 4194560 := mul_leZ hclw htl
     have hm0 : 0 ≤ (cut ks.weight : Int) * times x := mul_0Z _ _
     have hfin := cut_fin (t := times x) (a := ks.weight) htp
     rw [ht1] at hfin hm1 hm0
     refine oS lsT (oZ hK13 ?_); refine cT (c_region (oM ?_)); refine oS sF ?_; refine oS sL ?_; refine oS sD ?_; refine oS (s_mul rfl rfl (by omega)) ?_; refine oA (oZ hK11 (cR fun _ hK14 => ?_)); refine oM ?_; refine oS sD ?_; refine oS (step_cast (v' := .int .i64 (cut (1 + times x * ks.weight) : Nat)) (s_min rfl rfl) (congrArg (Value.int .i64) hfin)) ?_; refine oM (oA (oA (oZ hK14 (c_ret ?_)))); refine ?_; exact x_ret rfl (.tmp rfl (.tmp rfl (.nil))) ((by rw [weight_one]; rfl))
    ·have ht1 : (times x : Int) = max x.mx 1 := by rw [times, if_pos h6, if_neg hmx]; omega
     have hclw := cut_le ks.weight
     have hm1 : (cut ks.weight : Int) * times x ≤ 4194560 := mul_leZ hclw htl
     have hm0 : 0 ≤ (cut ks.weight : Int) * times x := mul_0Z _ _
     have hfin := cut_fin (t := times x) (a := ks.weight) htp
     rw [ht1] at hfin hm1 hm0
     refine oS lsF (oZ hK13 ?_); refine cF (c_region (oM ?_)); refine oS sF ?_; refine oS sL ?_; refine oS (s_max rfl rfl) ?_; refine oS (s_mul rfl rfl (by omega)) ?_; refine oA (oZ hK11 (cR fun _ hK15 => ?_)); refine oM ?_; refine oS sD ?_; refine oS (step_cast (v' := .int .i64 (cut (1 + times x * ks.weight) : Nat)) (s_min rfl rfl) (congrArg (Value.int .i64) hfin)) ?_; refine oM (oA (oA (oZ hK15 (c_ret ?_)))); refine ?_; exact x_ret rfl (.tmp rfl (.tmp rfl (.nil))) ((by rw [weight_one]; rfl))
   ·have ht1 : (times x : Int) = 1 := by rw [times, if_neg h6]; rfl
    have hclw := cut_le ks.weight
    have hm1 : (cut ks.weight : Int) * times x ≤ 4194560 := mul_leZ hclw htl
    have hm0 : 0 ≤ (cut ks.weight : Int) * times x := mul_0Z _ _
    have hfin := cut_fin (t := times x) (a := ks.weight) htp
    rw [ht1] at hfin hm1 hm0
    rw [Int.mul_one] at hfin
    refine oS (eqF (h := h6)) ?_; refine oZ hK12 ?_; refine cFZ hK11 (cR fun _ hK16 => ?_); refine oM ?_; refine oS sD ?_; refine oS (step_cast (v' := .int .i64 (cut (1 + times x * ks.weight) : Nat)) (s_min rfl rfl) (congrArg (Value.int .i64) hfin)) ?_; refine oM (oA (oA (oZ hK16 (c_ret ?_)))); refine ?_; exact x_ret rfl (.tmp rfl (.tmp rfl (.nil))) ((by rw [weight_one]; rfl))
set_option maxHeartbeats 1000000 in
theorem rWeigh_step (x : Nd) (ks : F) (ih : ∀ y ks1, ks1.size < ks.size → WeighC Tryd.prog 65 y ks1) (ra : Option Addr) (rc : Nat) (re : List Nd) (i i1 : Nat) (hre : ∀ x ∈ re, -128 ≤ x.op ∧ x.op < 128) (hp : Part re (.nd x ks .nil) i i1) : HL.Fn Tryd.prog 65 [.slice ra re.length rc, .int .i64 i] (fun w => Rd En w (.slice ra re.length rc) re) [] (fun v _ => v = .tuple #[.int .i64 (cut (F.nd x ks .nil).weight), .int .i64 i1]) := by
  refine fn_of Tryd.func65 rfl rfl rfl fun w0 hw => ?_
  have hsl := hw.sl
  have hbl := hsl.le
  obtain ⟨hx, hpk, hpn⟩ := hp.head
  have hii : i1 = i + 1 + ks.size := by simpa [F.size] using hpn.len
  have hile := hp.le
  have hok : ndOk x = true := hp.wf.1
  have hk0 := ndOk_kids hok
  have hkn : (ks.num : Int) = x.kids := hp.wf.2.1
  have hop := hre x (List.mem_of_getElem? hx)
  have hilt : i < re.length := (List.getElem?_eq_some_iff.1 hx).1
  have htl := times_le hok
  have htp := times_pos x
  have hns := F.num_le ks
  have hpkl := hpk.le
  rw [← hii] at hpk
  refine cR fun _ hK1 => ?_; refine oA (oA (oZ hK1 (cR fun _ hK2 => ?_))); refine oM (oM ?_); refine oS (s_idx rfl rfl hsl (by omega)) ?_; refine oS (s_ldB rfl ((RdK.old0 hw).lds i hx rfl) (by rfl)) ?_; refine o_alloc (l := En zN) (by rw [En_zero]; rfl) rfl fun b6 => ?_; refine o_stW rfl rfl upA lnA lnA onA ?_; refine oZ hK2 (cR fun _ hK3 => ?_); refine oA (oZ hK3 (cR fun _ hK4 => ?_)); refine oM ?_; refine oS sD (oA (oZ hK4 ?_))
  refine c_seq fun _ hK5 => ?_; refine cR fun _ hK6 => ?_; refine oA (oZ hK6 (c_block ?_)); refine c_loop4 (fun (k : Nat) (to : Nat) (dw : Nat) (r : F) => k + r.num = ks.num ∧ Part re r to i1 ∧ dw + r.weight = ks.weight ∧ r.size ≤ ks.size) (fun (k : Nat) (to : Nat) (dw : Nat) (r : F) => [(9, .int .i64 k), (7, .int .i64 (cut dw)), (8, .int .i64 to)]) [(0, _), (4, _), (5, _), (6, _)] (fun (k : Nat) (to : Nat) (dw : Nat) (r : F) => [(b6, .cells (En x).toArray 57 (0, 0))]) (fun (k : Nat) (to : Nat) (dw : Nat) (r : F) => ks.num - k) 0 (i + 1) 0 ks ⟨by omega, hpk, by omega, Nat.le_refl _⟩ sbA sbA hzB ?_
  rintro k to dw r ⟨hkr, hpr, hdw, hrs⟩
  have hcl := cut_le dw
  refine c_seq fun _ hK7 => ?_; refine cR fun _ hK8 => ?_; refine oM ?_; refine oS sF ?_; refine oS sL ?_
  by_cases hkl : (k : Int) < x.kids
  ·obtain ⟨y, ks1, r1, rfl⟩ : ∃ y ks1 r1, r = F.nd y ks1 r1 := by cases r with | nil => simp [F.num] at hkr; omega | nd y a b => exact ⟨y, a, b, rfl⟩
   obtain ⟨hy, hpy, hpt⟩ := hpr.head
   have hpy1 : Part re (.nd y ks1 .nil) to (to + 1 + ks1.size) := hpr.one
   have hrs2 : ks1.size < ks.size := by simp only [F.size] at hrs; omega
   have hcy := cut_le (F.nd y ks1 .nil).weight
   have hpyl := hpy1.le
   refine oS lsT (oZ hK8 ?_); refine cTZ hK7 (c_seq fun _ hK9 => ?_); refine c_block (cR fun _ hK10 => ?_); refine oM (oM ?_); refine o_callP (ih y ks1 hrs2 ra rc re to (to + 1 + ks1.size) hre hpy1) rfl rfl rfl (fun w st => (RdK.old0 hw).out w st) (fun v28 hv28 => ?_); subst hv28
   refine oM ?_; refine oS sE ?_; refine oS sE (oA (oA (oZ hK10 (cR fun _ hK11 => ?_)))); refine oM (oM ?_); refine oS sD ?_; refine oS (step_cast (v' := .int .i64 (cut (dw + (F.nd y ks1 .nil).weight))) (s_min rfl rfl) (by rw [← cut_add]; unfold cut; congr 1; omega)) ?_; refine oA (oZ hK11 (c_region (oM (oA (o_nil (x_block (xZ hK9 (c_region (oM ?_))))))))); refine oS sD (oA (o_nil ?_)); exact xI (k + 1, to + 1 + ks1.size, dw + (F.nd y ks1 .nil).weight, r1) ⟨by simp only [F.num] at hkr; dsimp only; omega, hpt, by simp only [F.weight] at hdw ⊢; omega, by simp only [F.size] at hrs; dsimp only; omega⟩
  ·obtain rfl : r = F.nil := by cases r with | nil => rfl | nd y a b => simp only [F.num] at hkr; omega
   have hto : to = i1 := by have := hpr.len; simp [F.size] at this; omega
   obtain rfl : dw = ks.weight := by simpa [F.weight] using hdw
   subst hto; refine oS lsF (oZ hK8 ?_); refine cF ?_; refine c_exit ?_; refine x_then_exit (x_then_exit (x_block_exit (xZ hK5 (cR fun _ hK12 => ?_)))); refine oA (oZ hK12 (c_seq fun _ hK13 => ?_)); refine cR fun _ hK14 => ?_; refine oS sF ?_; refine oS sL ?_; refine oS (s_convI rfl (by omega)) ?_
   by_cases h6 : x.op = 6
   ·have hrf := rep_flds hok h6
    refine oS eqT (oZ hK14 ?_); refine cT (cR fun _ hK15 => ?_); refine oS sF ?_; refine oS sL ?_; refine oS (s_max rfl rfl) ?_; refine oA (oZ hK15 (cR fun _ hK16 => ?_)); refine oS sF ?_; refine oS sL ?_
    by_cases hmx : x.mx < 0
    ·have ht1 : (times x : Int) = x.mn + 1 := by rw [times, if_pos h6, if_pos hmx]; omega
     have hclw := cut_le ks.weight
     have hm1 : (times x : Int) * (cut ks.weight : Int) ≤ 4194560 := by rw [Int.mul_comm]; exact mul_leZ hclw htl
     have hm0 : 0 ≤ (times x : Int) * (cut ks.weight : Int) := mul_0Z _ _
     have hfin := cut_fin2 (t := times x) (a := ks.weight) htp
     rw [ht1] at hfin hm1 hm0
     refine oS lsT (oZ hK16 ?_); refine cT (c_region ?_); refine oS sF ?_; refine oS sL ?_; refine oS sD (oA (oZ hK13 (cR fun _ hK17 => ?_))); refine oM (oM ?_); refine oS (s_mul rfl rfl (by omega)) ?_; refine oS sD ?_; refine oS (step_cast (v' := .int .i64 (cut (1 + times x * ks.weight) : Nat)) (s_min rfl rfl) (congrArg (Value.int .i64) hfin)) ?_; refine oM (oA (oA (oZ hK17 (c_ret ?_)))); refine ?_; exact x_ret rfl (.tmp rfl (.tmp rfl (.nil))) ((by rw [weight_one]; rfl))
    ·have ht1 : (times x : Int) = max x.mx 1 := by rw [times, if_pos h6, if_neg hmx]; omega
     have hclw := cut_le ks.weight
     have hm1 : (times x : Int) * (cut ks.weight : Int) ≤ 4194560 := by rw [Int.mul_comm]; exact mul_leZ hclw htl
     have hm0 : 0 ≤ (times x : Int) * (cut ks.weight : Int) := mul_0Z _ _
     have hfin := cut_fin2 (t := times x) (a := ks.weight) htp
     rw [ht1] at hfin hm1 hm0
     refine oS lsF (oZ hK16 ?_); refine cFZ hK13 (cR fun _ hK18 => ?_); refine oM (oM ?_); refine oS (s_mul rfl rfl (by omega)) ?_; refine oS sD ?_; refine oS (step_cast (v' := .int .i64 (cut (1 + times x * ks.weight) : Nat)) (s_min rfl rfl) (congrArg (Value.int .i64) hfin)) ?_; refine oM (oA (oA (oZ hK18 (c_ret ?_)))); refine ?_; exact x_ret rfl (.tmp rfl (.tmp rfl (.nil))) ((by rw [weight_one]; rfl))
   ·have ht1 : (times x : Int) = 1 := by rw [times, if_neg h6]; rfl
    have hclw := cut_le ks.weight
    have hm1 : (times x : Int) * (cut ks.weight : Int) ≤ 4194560 := by rw [Int.mul_comm]; exact mul_leZ hclw htl
    have hm0 : 0 ≤ (times x : Int) * (cut ks.weight : Int) := mul_0Z _ _
    have hfin := cut_fin2 (t := times x) (a := ks.weight) htp
    rw [ht1] at hfin hm1 hm0
    refine oS eqF (oZ hK14 ?_); refine cFZ hK13 (cR fun _ hK19 => ?_); refine oM (oM ?_); refine oS (s_mul rfl rfl (by omega)) ?_; refine oS sD ?_; refine oS (step_cast (v' := .int .i64 (cut (1 + times x * ks.weight) : Nat)) (s_min rfl rfl) (congrArg (Value.int .i64) hfin)) ?_; refine oM (oA (oA (oZ hK19 (c_ret ?_)))); refine ?_; exact x_ret rfl (.tmp rfl (.tmp rfl (.nil))) ((by rw [weight_one]; rfl))
theorem weigh_fn : ∀ (n : Nat) (x : Nd) (ks : F), ks.size < n → WeighC Tryd.prog 79 x ks := by
  intro n
  induction n with
  | zero => intro x ks h; omega
  | succ n ih => exact fun x ks h ra rc re i i1 h1 h2 => weigh_step x ks (fun y ks1 hs => ih y ks1 (by omega)) ra rc re i i1 h1 h2
theorem rWeigh_fn : ∀ (n : Nat) (x : Nd) (ks : F), ks.size < n → WeighC Tryd.prog 65 x ks := by
  intro n
  induction n with
  | zero => intro x ks h; omega
  | succ n ih => exact fun x ks h ra rc re i i1 h1 h2 => rWeigh_step x ks (fun y ks1 hs => ih y ks1 (by omega)) ra rc re i i1 h1 h2
theorem shaped_fn (ra : Option Addr) (rc : Nat) (re : List Nd) (hre : ∀ x ∈ re, -128 ≤ x.op ∧ x.op < 128) : HL.Fn Tryd.prog 56 [.slice ra re.length rc] (fun w => Rd En w (.slice ra re.length rc) re) [] (fun v _ => v = .bool (shapedB re)) := by
  refine fn_of Tryd.func56 rfl rfl rfl fun w0 hw => ?_
  have hsl := hw.sl
  have hbl := hsl.le
  refine cR fun _ hK1 => ?_; refine oA (oZ hK1 (cR fun _ hK2 => ?_)); refine oM ?_; refine oS (s_build (cs := [_, _, _]) (vs := [_]) rfl rfl (.cons rfl rfl rfl rfl rfl (.nil))) ?_; refine o_box rfl rfl rfl fun b8 => ?_; refine oA (oZ hK2 (c_seq fun _ hK3 => ?_)); refine cR fun _ hK4 => ?_; refine oM ?_; refine o_call (node_fn 260 b8 ra rc re 0 0 0 none 0 [] [] hre rfl (Nat.zero_le _) (by decide) (by decide) .nil) rfl rfl rfl (by exact .one) (fun w st => ⟨(RdK.old0 hw).out w st, St.apart_M st (by exact HIn.one) hw (Apart.nil) (by decide)⟩) (fun v10 S10 hv10 => ?_)
  rcases hst : shN re 260 0 [] 0 with _ | ⟨j, enx⟩
  ·obtain rfl : v10 = .bool false := by rw [hst] at hv10; exact hv10
   have hN := shp_none hst
   refine oS (s_not rfl) ?_; refine oM ?_; refine oN ?_; refine oN ?_; refine oN ?_; refine oN ?_; refine oN ?_; refine oN ?_; refine oN ?_; refine oS sT (oZ hK4 ?_); refine cT (cR fun _ hK5 => ?_); refine oA (oZ hK5 (c_ret ?_)); refine x_then_ret (?_); exact xR rfl rfl ((congrArg Value.bool hN.symm))
  ·obtain ⟨hu10, ea3, ec3, Se3, rfl, hO3⟩ : v10 = .bool true ∧ ∃ ea3 ec3 Se3, S10 = LookB 125 b8 ra rc re j ea3 ec3 enx :: Se3 ∧ OwnS Ebo 1 4 (.slice ea3 enx.length ec3) enx Se3 := by rw [hst] at hv10; exact hv10
   subst hu10
   unfold LookB
   refine oS (s_not rfl) ?_; refine oM ?_; refine oY (oM ?_); refine oY ?_; refine oS sN ?_; refine oY ?_; refine oS sF ?_; refine oY ?_; refine oS sL ?_; refine oY (oM ?_); refine oY ?_; refine oS sC ?_; refine oY ?_
   by_cases hj : j ≠ re.length
   ·have hN := shp_end hst hj
    refine oS nqT ?_; refine oS sP (oZ hK4 ?_); refine cT (cR fun _ hK6 => ?_); refine oA (oZ hK6 (c_ret ?_)); refine x_then_ret (?_); exact xR rfl rfl ((congrArg Value.bool hN.symm))
   ·obtain rfl : j = re.length := Decidable.not_not.1 hj
    obtain ⟨x, ks, hpt, hdp, hshp⟩ := shp_tree hst
    refine oS nqF ?_; refine oS sP (oZ hK4 ?_); refine cFZ hK3 (cR fun _ hK7 => ?_); refine oM ?_; refine o_callP (weigh_fn (ks.size + 1) x ks (by omega) ra rc re 0 re.length hre hpt) rfl rfl rfl (fun w st => (RdK.old0 hw).out w st) (fun v23 hv23 => ?_); subst hv23
    refine oM ?_; refine oS sE ?_; refine oS sE (oA (oA (oZ hK7 (cR fun _ hK8 => ?_)))); refine oM ?_; refine oS (s_leq rfl rfl) ?_; refine oA (oZ hK8 (c_ret ?_)); refine ?_; exact xR rfl rfl ((congrArg Value.bool (by rw [hshp]; exact decide_eq_decide.2 (by omega))))
theorem rShaped_fn (ra : Option Addr) (rc : Nat) (re : List Nd) (hre : ∀ x ∈ re, -128 ≤ x.op ∧ x.op < 128) : HL.Fn Tryd.prog 24 [.slice ra re.length rc] (fun w => Rd En w (.slice ra re.length rc) re) [] (fun v _ => v = .bool (shapedB re)) := by
  refine fn_of Tryd.func24 rfl rfl rfl fun w0 hw => ?_
  have hsl := hw.sl
  have hbl := hsl.le
  refine cR fun _ hK1 => ?_; refine oA (oZ hK1 (cR fun _ hK2 => ?_)); refine oM ?_; refine oS (s_build (cs := [_, _, _]) (vs := [_]) rfl rfl (.cons rfl rfl rfl rfl rfl (.nil))) ?_; refine o_box rfl rfl rfl fun b8 => ?_; refine oA (oZ hK2 (c_seq fun _ hK3 => ?_)); refine cR fun _ hK4 => ?_; refine oM ?_; refine o_call (rNode_fn 260 b8 ra rc re 0 0 0 none 0 [] [] hre rfl (Nat.zero_le _) (by decide) (by decide) .nil) rfl rfl rfl (by exact .one) (fun w st => ⟨(RdK.old0 hw).out w st, St.apart_M st (by exact HIn.one) hw (Apart.nil) (by decide)⟩) (fun v10 S10 hv10 => ?_)
  rcases hst : shN re 260 0 [] 0 with _ | ⟨j, enx⟩
  ·obtain rfl : v10 = .bool false := by rw [hst] at hv10; exact hv10
   have hN := shp_none hst
   refine oS (s_not rfl) ?_; refine oM ?_; refine oN ?_; refine oN ?_; refine oN ?_; refine oN ?_; refine oN ?_; refine oN ?_; refine oN ?_; refine oS sT (oZ hK4 ?_); refine cT (cR fun _ hK5 => ?_); refine oA (oZ hK5 (c_ret ?_)); refine x_then_ret (?_); exact xR rfl rfl ((congrArg Value.bool hN.symm))
  ·obtain ⟨hu10, ea3, ec3, Se3, rfl, hO3⟩ : v10 = .bool true ∧ ∃ ea3 ec3 Se3, S10 = LookB 99 b8 ra rc re j ea3 ec3 enx :: Se3 ∧ OwnS Ebo 1 4 (.slice ea3 enx.length ec3) enx Se3 := by rw [hst] at hv10; exact hv10
   subst hu10
   unfold LookB
   refine oS (s_not rfl) ?_; refine oM ?_; refine oY (oM ?_); refine oY ?_; refine oS sN ?_; refine oY ?_; refine oS sF ?_; refine oY ?_; refine oS sL ?_; refine oY (oM ?_); refine oY ?_; refine oS sC ?_; refine oY ?_
   by_cases hj : j ≠ re.length
   ·have hN := shp_end hst hj
    refine oS nqT ?_; refine oS sP (oZ hK4 ?_); refine cT (cR fun _ hK6 => ?_); refine oA (oZ hK6 (c_ret ?_)); refine x_then_ret (?_); exact xR rfl rfl ((congrArg Value.bool hN.symm))
   ·obtain rfl : j = re.length := Decidable.not_not.1 hj
    obtain ⟨x, ks, hpt, hdp, hshp⟩ := shp_tree hst
    refine oS nqF ?_; refine oS sP (oZ hK4 ?_); refine cFZ hK3 (cR fun _ hK7 => ?_); refine oM ?_; refine o_callP (rWeigh_fn (ks.size + 1) x ks (by omega) ra rc re 0 re.length hre hpt) rfl rfl rfl (fun w st => (RdK.old0 hw).out w st) (fun v23 hv23 => ?_); subst hv23
    refine oM ?_; refine oS sE ?_; refine oS sE (oA (oA (oZ hK7 (cR fun _ hK8 => ?_)))); refine oM ?_; refine oS (s_leq rfl rfl) ?_; refine oA (oZ hK8 (c_ret ?_)); refine ?_; exact xR rfl rfl ((congrArg Value.bool (by rw [hshp]; exact decide_eq_decide.2 (by omega))))
theorem refs_fn (ra : Option Addr) (rc : Nat) (re : List Nd) (hre : ∀ x ∈ re, -128 ≤ x.op ∧ x.op < 128) : HL.Fn Tryd.prog 57 [.slice ra re.length rc] (fun w => Rd En w (.slice ra re.length rc) re) [] (fun v _ => v = .bool (refsB re)) := by
  refine fn_of Tryd.func57 rfl rfl rfl fun w0 hw => ?_
  have hsl := hw.sl
  have hbl := hsl.le
  refine cR fun _ hK1 => ?_; refine oA (oZ hK1 (c_seq fun _ hK2 => ?_)); refine cR fun _ hK3 => ?_; refine oM ?_; refine o_callP (shaped_fn ra rc re hre) rfl rfl rfl (fun w st => (RdK.old0 hw).out w st) (fun v6 hv6 => ?_); subst hv6
  cases hs : shapedB re
  ·refine oZ hK3 ?_; refine cFZ hK2 (cR fun _ hK4 => ?_); refine oA (oZ hK4 (c_ret ?_)); refine ?_; exact xR rfl rfl ((congrArg Value.bool (refs_shp hs).symm))
  ·refine oZ hK3 ?_; refine cT (cR fun _ hK5 => ?_); refine oM ?_; refine oS sC (oM (oZ hK5 (c_block ?_)))
   -- not carried: 2
   refine c_loopB (fun (j : Nat) => j ≤ re.length ∧ ∀ q (x : Nd), q < j → re[q]? = some x → ¬ x.op = 8) (fun (j : Nat) => [(9, .int .i64 j)]) [(7, _), (8, _)] (fun (j : Nat) => []) (fun (j : Nat) => re.length - j) 0 ⟨by omega, fun q x h => by omega⟩ sbA sbA hzB ?_
   rintro j ⟨hj, hjn⟩
   refine cR fun _ hK6 => ?_
   by_cases hjl : j < re.length
   ·obtain ⟨x, hx⟩ : ∃ x, re[j]? = some x := ⟨_, List.getElem?_eq_getElem hjl⟩
    refine oS lsT (oZ hK6 (c_seq fun _ hK7 => ?_)); refine cTZ hK7 (c_seq fun _ hK8 => ?_); refine c_block (cR fun _ hK9 => ?_); refine oS (s_idx rfl rfl hsl (by omega)) ?_; refine oS (s_ldB rfl ((RdK.old0 hw).lds j hx rfl) (by rfl)) ?_; refine o_alloc (l := En zN) (by rw [En_zero]; rfl) rfl fun b4 => ?_; refine o_stW rfl rfl upA lnA lnA onA ?_; refine oZ hK9 (cR fun _ hK10 => ?_); refine oS sF ?_; refine oS sL ?_
    by_cases h8 : x.op = 8
    ·refine oS (eqT (h := h8)) ?_; refine oZ hK10 ?_; refine cT (cR fun _ hK11 => ?_); refine oA (oZ hK11 (c_ret ?_)); refine x_block_ret (x_then_ret (x_then_ret (x_block_ret (x_then_ret (?_)))))
     exact xR rfl rfl ((congrArg Value.bool (refs_yes hs (List.mem_of_getElem? hx) h8).symm))
    ·refine oS (eqF (h := h8)) ?_; refine oZ hK10 ?_; refine cF (c_skip (x_block (xZ hK8 (c_region ?_)))); refine oS sD (oM (o_nil ?_)); exact xI (j + 1) ⟨by omega, refs_step hjn hx h8⟩
   ·obtain rfl : j = re.length := by omega
    refine oS lsF (oZ hK6 (c_seq fun _ hK12 => ?_)); refine cF ?_; refine c_exit ?_; refine x_then_exit (x_then_exit (x_block_exit (xZ hK2 (cR fun _ hK13 => ?_)))); refine oA (oZ hK13 (c_ret ?_)); refine ?_; exact xR rfl rfl ((congrArg Value.bool (refs_no hjn).symm))
end Go.Proofs.YtmompllplidphaaDoor
namespace Go.Proofs.YtmompllplidphaaDoor
open Go Go.HL Go.Proofs Go.HL.Kl Go.HL.Kl.Mc Go.HL.Sts
def PlS (bx : Nat) (ra : Option Addr) (rc rn : Nat) (X : Plc) (S : Hp) : Prop := ∃ (sa : Option Addr) (sc : Nat) (fa : Option Addr) (fc : Nat) (Ss Sf : Hp), S = (bx, .cells [.slice ra rn rc, .slice sa X.sets.length sc, .slice fa X.fol.length fc].toArray 80 (0, 0)) :: (Sf ++ Ss) ∧ OwnS Ec 4 54 (.slice sa X.sets.length sc) X.sets Ss ∧ OwnS E3 3 84 (.slice fa X.fol.length fc) X.fol Sf
theorem PlS.cel0 {bx : Nat} {ra : Option Addr} {rc rn : Nat} {X : Plc} {S H : Hp} {κ : Cx} (h : PlS bx ra rc rn X S) (hi : HIn S H) : Cel κ H ⟨bx, 0, none⟩ (.slice ra rn rc) := by
  obtain ⟨sa, sc, fa, fc, Ss, Sf, rfl, _, _⟩ := h
  exact (RdPK.own (hi _ List.mem_cons_self)).cel (j := 0) rfl rfl
theorem joinsS_fn (bx : Nat) (ra : Option Addr) (rc rn : Nat) (X : Plc) (S : Hp) (h : PlS bx ra rc rn X S) (a b : Sp) (hl : X.fol.length ≤ 24) : HL.Fn Tryd.prog 103 [.pointer (some ⟨bx, 0, none⟩), .agg (E3 (a)).toArray, .agg (E3 (b)).toArray] (fun _ => True) S (fun _ S' => PlS bx ra rc rn (X.join a b) S') := by
  obtain ⟨sa, sc, fa, fc, Ss, Sf, rfl, hs, hf⟩ := h
  refine ((joins_fn bx ra rc rn sa sc X.sets.length fa fc X.fol Sf hf a b hl).frame (R := Ss)).weaken (fun _ h => h) fun v S' ⟨S1, h1, Sf', h2, h3⟩ => ?_; subst h2
  exact ⟨sa, sc, fa, fc, Ss, Sf', h1, hs, h3⟩
theorem catS_fn (bx : Nat) (ra : Option Addr) (rc rn : Nat) (X : Plc) (S : Hp) (h : PlS bx ra rc rn X S) (a b : Pt) (hl : X.fol.length ≤ 24) : HL.Fn Tryd.prog 83 [.pointer (some ⟨bx, 0, none⟩), .agg (Ep4 (a)).toArray, .agg (Ep4 (b)).toArray] (fun _ => True) S (fun v S' => v = .agg (Ep4 (catP a b)).toArray ∧ PlS bx ra rc rn (X.join a.l0 b.f0) S') := by
  obtain ⟨sa, sc, fa, fc, Ss, Sf, rfl, hs, hf⟩ := h
  refine ((cat_fn bx ra rc rn sa sc X.sets.length fa fc X.fol Sf hf a b hl).frame (R := Ss)).weaken (fun _ h => h) fun v S' ⟨S1, h1, hv, Sf', h2, h3⟩ => ?_; subst h2
  exact ⟨hv, sa, sc, fa, fc, Ss, Sf', h1, hs, h3⟩
def PartC (P : Program) (n : Nd) (ks : F) : Prop := ∀ (bx : Nat) (ra : Option Addr) (rc : Nat) (re : List Nd) (i i' : Nat) (X : Plc) (S : Hp), PlS bx ra rc re.length X S → Part re (.nd n ks .nil) i i' → shapedB re = true → (∀ x ∈ re, -128 ≤ x.op ∧ x.op < 128) → X.sets.length + cnt1 n ks ≤ 20 → X.fol.length = X.sets.length →
  HL.Fn P 59 [.pointer (some ⟨bx, 0, none⟩), .int .i64 i] (fun w => Rd En w (.slice ra re.length rc) re ∧ Apart (keys S) (.slice ra re.length rc)) S (fun v S' => v = .agg (Ep4 ((partM n ks X).1)).toArray ∧ PlS bx ra rc re.length (partM n ks X).2 S')
theorem behind_fn (ra : Option Addr) (rc : Nat) (re : List Nd) (hre : ∀ x ∈ re, -128 ≤ x.op ∧ x.op < 128) (hsb : shapedB re = true) (x : Nd) (ks : F) (i i1 : Nat) (hp : Part re (.nd x ks .nil) i i1) : HL.Fn Tryd.prog 84 [.slice ra re.length rc, .int .i64 i] (fun w => Rd En w (.slice ra re.length rc) re) [] (fun v _ => v = .int .i64 i1) := by
  refine fn_of Tryd.func84 rfl rfl rfl fun w0 hw => ?_
  have hil := (List.getElem?_eq_some_iff.1 hp.head.1).1
  have hsl := hw.sl
  have hbl := hsl.le
  refine cR fun _ hK1 => ?_; refine oA (oZ hK1 (c_seq fun _ hK2 => ?_)); refine cR fun _ hK3 => ?_; refine oM ?_; refine o_callP (shaped_fn ra rc re hre) rfl rfl rfl (fun _ st => (RdK.old0 hw).out _ st) (fun v8 hv8 => ?_)
  rw [hsb] at hv8
  subst hv8; refine oS (s_not rfl) ?_; refine oM ?_; refine oY (oM ?_); refine oY ?_; refine oS (s_lss_f rfl rfl (by omega)) ?_; refine oS sP (oM ?_); refine oY (oM ?_); refine oY (oM ?_); refine oY ?_; refine oS sC ?_; refine oY ?_; refine oS (s_geq_f rfl rfl (by omega)) ?_; refine oS sP (oZ hK3 ?_); refine cFZ hK2 (cR fun _ hK4 => ?_); refine oM (oM ?_); refine o_callP (weigh_fn (ks.size + 1) x ks (Nat.lt_succ_self _) ra rc re i i1 hre hp) rfl rfl rfl (fun _ st => (RdK.old0 hw).out _ st) (fun v23 hv23 => ?_)
  subst hv23; refine oM ?_; refine oS sE ?_; refine oS sE (oA (oA (oZ hK4 (cR fun _ hK5 => ?_)))); refine oM (oA (oZ hK5 (c_ret ?_))); refine ?_; exact xR rfl rfl (rfl)
set_option maxHeartbeats 1000000 in
theorem repO_fn (y : Nd) (js : F) (ih : PartC Tryd.prog y js) (hwf : (F.nd y js .nil).wf) (bx : Nat) (ra : Option Addr) (rc : Nat) (re : List Nd) (i i1 : Nat) (X : Plc) (S : Hp) (hP : PlS bx ra rc re.length X S) (hp : Part re (.nd y js .nil) i i1) (hsb : shapedB re = true) (hre : ∀ x ∈ re, -128 ≤ x.op ∧ x.op < 128) (mn : Nat) (mx : Int) (hmn : mn ≤ 255) (hmx : mx = -1 ∨ ((mn : Int) ≤ mx ∧ mx ≤ 255)) (hc : X.sets.length + (if mx < 0 then mn + 1 else mx.toNat) * cnt1 y js ≤ 20) (hxl : X.fol.length = X.sets.length) : HL.Fn Tryd.prog 81 [.pointer (some ⟨bx, 0, none⟩), .int .i64 i, .int .i64 mn, .int .i64 mx] (fun w => Rd En w (.slice ra re.length rc) re ∧ Apart (keys S) (.slice ra re.length rc)) S (fun v S' => ∃ S2, HSub S' S2 ∧ v = .agg (Ep4 ((repM (partM y js) mn mx X).1)).toArray ∧ PlS bx ra rc re.length (repM (partM y js) mn mx X).2 S2) := by
  refine fn_of Tryd.func81 rfl rfl rfl fun w0 hw => ?_
  have hA := part_adds hwf
  have hL := iter_len hA X hxl
  have hmk : ∀ k, k ≤ mn → k * cnt1 y js ≤ mn * cnt1 y js := fun k hk => Nat.mul_le_mul_right _ hk
  have hmc : mn * cnt1 y js ≤ (if mx < 0 then mn + 1 else mx.toNat) * cnt1 y js := Nat.mul_le_mul_right _ (by split <;> omega)
  refine cR fun _ hK1 => ?_; refine o_alloc (l := Ep4 zeroP) (by rfl) rfl fun b8 => ?_; refine oZ hK1 (cR fun _ hK2 => ?_); refine o_callP (nothing_fn) rfl rfl rfl (fun _ _ => trivial) (fun v12 hv12 => ?_); subst hv12
  refine o_alloc (l := Ep4 zeroP) (by rfl) rfl fun b9 => ?_; refine o_stW rfl rfl upA lnA lnA onA ?_; refine oZ hK2 (c_seq fun _ hK3 => ?_); refine cR fun _ hK4 => ?_; refine oM (oM (oZ hK4 (c_block ?_))); refine c_loop2 (fun (k : Nat) (Sk : Hp) => k ≤ mn ∧ PlS bx ra rc re.length (iterM (fun c => catM c (partM y js)) k nothP X).2 Sk) (fun (k : Nat) (Sk : Hp) => [(14, .int .i64 k)]) [(0, _), (1, _), (2, _), (3, _), (8, _), (9, _), (13, _)] (fun (k : Nat) (Sk : Hp) => (b9, .cells (Ep4 ((iterM (fun c => catM c (partM y js)) k nothP X).1)).toArray 87 (0, 0)) :: (b8, .cells (Ep4 zeroP).toArray 87 (0, 0)) :: Sk) (fun (k : Nat) (Sk : Hp) => mn - k) 0 S ⟨Nat.zero_le _, hP⟩ sbA sbA hzB ?_
  rintro k Sk ⟨hk, hPk⟩
  obtain ⟨hl1, hl2⟩ := hL k
  have hmk1 := hmk k hk
  refine cR fun _ hK5 => ?_; refine oS (s_lss rfl rfl) ?_; refine oZ hK5 (c_seq fun _ hK6 => ?_); refine c_if rfl (fun hlt => ?_) (fun hlt => ?_)
  ·have hmk2 := hmk (k + 1) (by omega)
   rw [Nat.succ_mul] at hmk2
   refine c_skip (xZ hK6 (c_seq fun _ hK7 => ?_)); refine c_block ?_; refine c_drawE ([(b9, .cells (Ep4 ((iterM (fun c => catM c (partM y js)) k nothP X).1)).toArray 87 (0, 0))]) (fun i => Nat.beq i 6) ?_; refine eP 0 rfl sM ?_; refine eK 1 rfl (s_ldB rfl (RdPK.cels (.own meA)) lnA) ?_; refine eP 2 rfl sM ?_; refine eP 3 rfl sM (eO 4 rfl ?_); refine o_call (ih bx ra rc re i i1 _ _ hPk hp hsb hre (by omega) (by omega)) rfl rfl rfl (pkA) (fun w st => ⟨(RdK.old hw.1 hw.2).out w st, St.apart_M st (by exact hiB) hw.1 hw.2 (by decide)⟩) (fun v20 S20 ⟨hv20, hP20⟩ => ?_); subst hv20
   have hq20 := (hA _ hl2)
   refine oX (eO 5 rfl ?_); refine o_call (catS_fn bx ra rc re.length _ _ hP20 (iterM (fun c => catM c (partM y js)) k nothP X).1 _ (by omega)) rfl rfl rfl (pkA) (fun _ _ => trivial) (fun v21 S21 ⟨hv21, hP21⟩ => ?_); subst hv21
   refine oX (eO 6 rfl ?_); refine o_stW rfl rfl upA lnA lnA onA ?_; refine o_nil ?_; refine x_oneL rfl ?_; refine e_done (by kernel_rfl) ?_; refine x_block (xZ hK7 (c_region ?_)); refine oS sD (oM (o_nil ?_))
   rw [show catP (iterM (fun c => catM c (partM y js)) k nothP X).1 ((partM y js) (iterM (fun c => catM c (partM y js)) k nothP X).2).1 = (iterM (fun c => catM c (partM y js)) (k + 1) nothP X).1 by rw [iterM_succ]; rfl]
   exact xI (k + 1, _) ⟨by omega, by rw [iterM_succ]; exact hP21⟩
  ·obtain rfl : mn = k := by omega
   refine c_exit ?_; refine x_then_exit (x_then_exit (x_block_exit (xZ hK3 (c_seq fun _ hK8 => ?_)))); refine cR fun _ hK9 => ?_; refine oM ?_
   by_cases hneg : mx < 0
   ·rw [if_pos hneg, Nat.succ_mul] at hc
    refine oS (lsT (h := hneg)) ?_; refine oZ hK9 ?_; refine cT (cR fun _ hK10 => ?_); refine oM (oM ?_); refine o_call (ih bx ra rc re i i1 _ _ hPk hp hsb hre (by omega) (by omega)) rfl rfl rfl (pkA) (fun w st => ⟨(RdK.old hw.1 hw.2).out w st, St.apart_M st (by exact hiB) hw.1 hw.2 (by decide)⟩) (fun v27 S27 ⟨hv27, hP27⟩ => ?_); subst hv27
    have hq27 := (hA _ hl2)
    refine o_alloc (l := Ep4 zeroP) (by rfl) rfl fun b10 => ?_; refine o_stW rfl rfl upA lnA lnA onA ?_; refine oZ hK10 (cR fun _ hK11 => ?_); refine oM ?_; refine oS sF ?_; refine oS (s_indexA rfl rfl (by omega)) ?_; refine oS (s_ldB rfl ((RdPK.cels (RdPK.own' meA (Ep4_L (i := 0) (by omega) (by omega))))) lnA) ?_; refine oS sF ?_; refine oS (s_indexA rfl rfl (by omega)) ?_; refine oS (s_ldB rfl ((RdPK.cels (RdPK.own' meA (Ep4_F (i := 0) (by omega) (by omega))))) lnA) ?_; refine o_call (joinsS_fn bx ra rc re.length _ _ hP27 _ _ (by omega)) rfl rfl rfl (pkA) (fun _ _ => trivial) (fun v35 S35 hP35 => ?_); refine oZ hK11 (c_seq fun _ hK12 => ?_); refine c_drawE ([(b10, .cells (Ep4 (((partM y js) (iterM (fun c => catM c (partM y js)) mn nothP X).2).1)).toArray 87 (0, 0)), (b9, .cells (Ep4 ((iterM (fun c => catM c (partM y js)) mn nothP X).1)).toArray 87 (0, 0))]) (fun i => false) ?_; refine eP 0 rfl sM ?_; refine eK 1 rfl (s_ldB rfl (RdPK.cels (.own meA)) lnA) ?_; refine eK 3 rfl (s_ldB rfl (RdPK.cels (.own meA)) lnA) ?_; refine eO 2 rfl ?_; refine o_callP (nothing_fn) rfl rfl rfl (fun _ _ => trivial) (fun v38 hv38 => ?_); subst hv38
    refine oX (eO 4 rfl ?_); refine o_callP (alt_fn nothP ((partM y js) (iterM (fun c => catM c (partM y js)) mn nothP X).2).1) rfl rfl rfl (fun _ _ => trivial) (fun v40 hv40 => ?_); subst hv40
    refine oX (eO 5 rfl ?_); refine o_call (catS_fn bx ra rc re.length _ _ hP35 (iterM (fun c => catM c (partM y js)) mn nothP X).1 _ (by simp only [Plc.join, joinF_len]; omega)) rfl rfl rfl (pkA) (fun _ _ => trivial) (fun v41 S41 ⟨hv41, hP41⟩ => ?_); subst hv41
    refine oX (eO 6 rfl ?_); refine o_stW rfl rfl upA lnA lnA onA ?_; refine oX (eZ hK12 (c_ret ?_)); refine x_then_ret (?_); exact x_ret rfl (.agg inferInstance inferInstance rfl (RdPK.cels (.own meA)) lnA (.nil)) (⟨S41, by exact hzB, by rw [repM_neg hneg]; rfl, by rw [repM_neg hneg]; exact hP41⟩)
   ·rw [if_neg hneg] at hc
    have hsum : mn * cnt1 y js + (mx - mn).toNat * cnt1 y js = mx.toNat * cnt1 y js := by rw [← Nat.add_mul]; congr 1; omega
    refine oS (lsF (h := hneg)) ?_; refine oZ hK9 ?_; refine cFZ hK8 (cR fun _ hK13 => ?_); refine o_callP (nothing_fn) rfl rfl rfl (fun _ _ => trivial) (fun v42 hv42 => ?_); subst hv42
    refine o_alloc (l := Ep4 zeroP) (by rfl) rfl fun b11 => ?_; refine o_stW rfl rfl upA lnA lnA onA ?_; refine oZ hK13 (c_seq fun _ hK14 => ?_); refine cR fun _ hK15 => ?_; refine oM (oM ?_); refine oS sU (oM (oZ hK15 (c_block ?_))); refine c_loop2 (fun (k : Nat) (Sk : Hp) => k ≤ (mx - mn).toNat ∧ PlS bx ra rc re.length (iterM (moreM (partM y js)) k nothP (iterM (fun c => catM c (partM y js)) mn nothP X).2).2 Sk) (fun (k : Nat) (Sk : Hp) => [(46, .int .i64 k)]) [(0, _), (1, _), (8, _), (9, _), (11, _), (45, _)] (fun (k : Nat) (Sk : Hp) => (b11, .cells (Ep4 ((iterM (moreM (partM y js)) k nothP (iterM (fun c => catM c (partM y js)) mn nothP X).2).1)).toArray 87 (0, 0)) :: (b9, .cells (Ep4 ((iterM (fun c => catM c (partM y js)) mn nothP X).1)).toArray 87 (0, 0)) :: (b8, .cells (Ep4 zeroP).toArray 87 (0, 0)) :: Sk) (fun (k : Nat) (Sk : Hp) => (mx - mn).toNat - k) 0 Sk ⟨Nat.zero_le _, hPk⟩ sbA sbA hzB ?_
    rintro k Sk ⟨hk, hPk⟩
    obtain ⟨hl3, hl4⟩ := more_len hA (iterM (fun c => catM c (partM y js)) mn nothP X).2 hl2 k
    have hmk1 : k * cnt1 y js ≤ (mx - mn).toNat * cnt1 y js := Nat.mul_le_mul_right _ hk
    refine cR fun _ hK16 => ?_; refine oS (s_lss rfl rfl) ?_; refine oZ hK16 (c_seq fun _ hK17 => ?_); refine c_if rfl (fun hlt2 => ?_) (fun hlt2 => ?_)
    ·have hmk2 := mul_lt (n := cnt1 y js) (show k < (mx - mn).toNat by omega)
     refine c_skip (xZ hK17 (c_seq fun _ hK18 => ?_)); refine c_block ?_; refine c_drawE ([(b11, .cells (Ep4 ((iterM (moreM (partM y js)) k nothP (iterM (fun c => catM c (partM y js)) mn nothP X).2).1)).toArray 87 (0, 0))]) (fun i => Nat.beq i 8) ?_; refine eP 1 rfl sM ?_; refine eP 2 rfl sM ?_; refine eP 3 rfl sM ?_; refine eK 5 rfl (s_ldB rfl (RdPK.cels (.own meA)) lnA) ?_; refine eO 0 rfl ?_; refine o_callP (nothing_fn) rfl rfl rfl (fun _ _ => trivial) (fun v48 hv48 => ?_); subst hv48
     refine oX (eO 4 rfl ?_); refine o_call (ih bx ra rc re i i1 _ _ hPk hp hsb hre (by omega) (by omega)) rfl rfl rfl (pkA) (fun w st => ⟨(RdK.old hw.1 hw.2).out w st, St.apart_M st (by exact hiB) hw.1 hw.2 (by decide)⟩) (fun v52 S52 ⟨hv52, hP52⟩ => ?_); subst hv52
     have hq52 := (hA _ hl4)
     refine oX (eO 6 rfl ?_); refine o_call (catS_fn bx ra rc re.length _ _ hP52 _ (iterM (moreM (partM y js)) k nothP (iterM (fun c => catM c (partM y js)) mn nothP X).2).1 (by omega)) rfl rfl rfl (pkA) (fun _ _ => trivial) (fun v54 S54 ⟨hv54, hP54⟩ => ?_); subst hv54
     refine oX (eO 7 rfl ?_); refine o_callP (alt_fn nothP _) rfl rfl rfl (fun _ _ => trivial) (fun v55 hv55 => ?_); subst hv55
     refine oX (eO 8 rfl ?_); refine o_stW rfl rfl upA lnA lnA onA ?_; refine o_nil ?_; refine x_oneL rfl ?_; refine e_done (by kernel_rfl) ?_; refine x_block (xZ hK18 (c_region ?_)); refine oS sD (oM (o_nil ?_))
     rw [show altP nothP (catP ((partM y js) (iterM (moreM (partM y js)) k nothP (iterM (fun c => catM c (partM y js)) mn nothP X).2).2).1 (iterM (moreM (partM y js)) k nothP (iterM (fun c => catM c (partM y js)) mn nothP X).2).1) = (iterM (moreM (partM y js)) (k + 1) nothP (iterM (fun c => catM c (partM y js)) mn nothP X).2).1 by rw [iterM_succ]; rfl]
     exact xI (k + 1, _) ⟨by omega, by rw [iterM_succ]; exact hP54⟩
    ·obtain rfl : k = (mx - mn).toNat := by omega
     refine c_exit ?_; refine x_then_exit (x_then_exit (x_block_exit (xZ hK14 (cR fun _ hK19 => ?_)))); refine oM ?_; refine oS (s_ldB rfl (RdPK.cels (.own meA)) lnA) ?_; refine oS (s_ldB rfl (RdPK.cels (.own meA)) lnA) ?_; refine o_call (catS_fn bx ra rc re.length _ _ hPk (iterM (fun c => catM c (partM y js)) mn nothP X).1 (iterM (moreM (partM y js)) (mx - mn).toNat nothP (iterM (fun c => catM c (partM y js)) mn nothP X).2).1 (by omega)) rfl rfl rfl (pkA) (fun _ _ => trivial) (fun v60 S60 ⟨hv60, hP60⟩ => ?_); subst hv60
     refine o_stW rfl rfl upA lnA lnA onA ?_; refine oZ hK19 (c_ret ?_); refine ?_; exact x_ret rfl (.agg inferInstance inferInstance rfl (RdPK.cels (.own meA)) lnA (.nil)) (⟨S60, by exact hzB, by rw [repM_pos hneg]; rfl, by rw [repM_pos hneg]; exact hP60⟩)
theorem rep_fn (y : Nd) (js : F) (ih : PartC Tryd.prog y js) (hwf : (F.nd y js .nil).wf) (bx : Nat) (ra : Option Addr) (rc : Nat) (re : List Nd) (i i1 : Nat) (X : Plc) (S : Hp) (hP : PlS bx ra rc re.length X S) (hp : Part re (.nd y js .nil) i i1) (hsb : shapedB re = true) (hre : ∀ x ∈ re, -128 ≤ x.op ∧ x.op < 128) (mn : Nat) (mx : Int) (hmn : mn ≤ 255) (hmx : mx = -1 ∨ ((mn : Int) ≤ mx ∧ mx ≤ 255)) (hc : X.sets.length + (if mx < 0 then mn + 1 else mx.toNat) * cnt1 y js ≤ 20) (hxl : X.fol.length = X.sets.length) : HL.Fn Tryd.prog 81 [.pointer (some ⟨bx, 0, none⟩), .int .i64 i, .int .i64 mn, .int .i64 mx] (fun w => Rd En w (.slice ra re.length rc) re ∧ Apart (keys S) (.slice ra re.length rc)) S (fun v S' => v = .agg (Ep4 ((repM (partM y js) mn mx X).1)).toArray ∧ PlS bx ra rc re.length (repM (partM y js) mn mx X).2 S') :=
  HL.Fn.sub (repO_fn y js ih hwf bx ra rc re i i1 X S hP hp hsb hre mn mx hmn hmx hc hxl) fun v S' ⟨S2, h1, h2⟩ => ⟨S2, h1, h2⟩
end Go.Proofs.YtmompllplidphaaDoor
namespace Go.HL.Kl.Mc
open Go Go.HL Go.HL.Kl
noncomputable def mokB (m : List In) : Bool := @decide (MOk m) (Classical.propDecidable _)
def MUp (m : List In) (q : Nat) : Prop := ∀ i t, i < q → m[i]? = some t → InOk (m.length - 1) t ∧ (t.op ≤ 3 → i + 1 < m.length)
def wantI (t : In) : In := ⟨t.op, if t.op = 1 then t.set else 0, if t.op = 4 ∨ t.op = 5 then t.x else 0, if t.op = 5 then t.y else 0⟩
end Go.HL.Kl.Mc
