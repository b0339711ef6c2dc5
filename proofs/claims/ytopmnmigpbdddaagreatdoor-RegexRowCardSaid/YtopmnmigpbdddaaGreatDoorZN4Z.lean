/- Part of the proofs over this seat: see the text that holds the theorem. Conditions: each theorem bears its own. -/
import Derived.Test.YtopmnmigpbdddaaGreatDoorHTZ
import Derived.Test.YtopmnmigpbdddaaGreatDoorZW3Z
import Derived.Test.YtopmnmigpbdddaaGreatDoorMT8Z
import Derived.Test.YtopmnmigpbdddaaGreatDoorMK3Z
namespace Go.Proofs.YtopmnmigpbdddaaGreatDoor
open Go Go.HL Go.Proofs Go.HL.Kl Go.HL.Kl.Mc
set_option maxHeartbeats 2000000 in
theorem rNode_step (f : Nat) (ih : ∀ f1, f = f1 + 1 → NodeC Tryz.prog 56 119 f1) (bx : Nat) (ra : Option Addr) (rc : Nat) (re : List Nd) (i wi gr : Nat) (ea : Option Addr) (ec : Nat) (en : List Bool) (Se : Hp) (hre : ∀ x ∈ re, -128 ≤ x.op ∧ x.op < 128) (hwi : wi + f = 260) (hi : i ≤ re.length) (hel : en.length ≤ 255) (hg : gr ≤ 64) (hO : OwnS Ebo 1 4 (.slice ea en.length ec) en Se) : HL.Fn Tryz.prog 56 [.pointer (some ⟨bx, 0, none⟩), .int .i64 wi, .int .i64 gr] (fun w => Rd En w (.slice ra re.length rc) re ∧ Apart (keys ((bx, .cells [.slice ra re.length rc, .int .i64 i, .slice ea en.length ec].toArray 119 (0, 0)) :: Se)) (.slice ra re.length rc)) ((bx, .cells [.slice ra re.length rc, .int .i64 i, .slice ea en.length ec].toArray 119 (0, 0)) :: Se) (NodeP 119 bx ra rc re (shN re f i en gr)) := by
  refine fn_of Tryz.func56 rfl rfl rfl fun w0 hw => ?_
  have hsl := hw.1.sl
  have hbl := hsl.le
  have hOs := hO.sl
  refine cR fun _ hK1 => ?_; refine oA (oZ hK1 (c_seq fun _ hK2 => ?_)); refine c_seq fun _ hK3 => ?_; refine c_drawE ((bx, .cells [.slice ra re.length rc, .int .i64 i, .slice ea en.length ec].toArray 119 (0, 0)) :: Se) (fun i => false) ?_; refine eK 0 rfl sM ?_; refine eK 1 rfl sN ?_; refine eK 2 rfl sF ?_; refine eK 3 rfl sL ?_; refine eK 4 rfl sM ?_; refine eK 5 rfl sN ?_; refine eK 6 rfl sF ?_; refine eK 7 rfl sL ?_; refine eK 8 rfl sC ?_
  by_cases hend : (i : Int) ≥ re.length
  ·have hN : shN re f i en gr = none := shN_end (by omega)
   refine eK 9 rfl geT ?_; refine eK 10 rfl sM ?_; refine eS 11 rfl (eS 12 rfl ?_); refine eK 13 rfl sT (eZ hK3 ?_); refine cT (cR fun _ hK4 => ?_); refine oA (oZ hK4 (c_ret ?_)); refine x_then_ret (?_); exact xR rfl rfl ((by rw [hN]; rfl))
  ·refine eK 9 rfl geF ?_; refine eK 10 rfl sM ?_; refine eG 11 rfl sM ?_
   by_cases hf : (wi : Int) > 259
   ·obtain rfl : f = 0 := by omega
    have hN : shN re 0 i en gr = none := rfl
    refine eG 12 rfl gtT ?_; refine eK 13 rfl sP (eZ hK3 ?_); refine cT (cR fun _ hK5 => ?_); refine oA (oZ hK5 (c_ret ?_)); refine x_then_ret (?_); exact xR rfl rfl ((by rw [hN]; rfl))
   ·obtain ⟨f1, rfl⟩ : ∃ f1, f = f1 + 1 := ⟨f - 1, by omega⟩
    obtain ⟨x, hx⟩ : ∃ x, re[i]? = some x := ⟨_, List.getElem?_eq_getElem (show i < re.length by omega)⟩
    have hop := hre x (List.mem_of_getElem? hx)
    refine eG 12 rfl gtF ?_; refine eK 13 rfl sP (eZ hK3 ?_); refine cFZ hK2 (c_seq fun _ hK6 => ?_); refine c_drawE ((bx, .cells [.slice ra re.length rc, .int .i64 i, .slice ea en.length ec].toArray 119 (0, 0)) :: Se) (fun i => Nat.beq i 11) ?_; refine eK 0 rfl sM ?_; refine eK 1 rfl sN ?_; refine eK 2 rfl sF ?_; refine eK 3 rfl sL ?_; refine eK 4 rfl sM ?_; refine eK 5 rfl sN ?_; refine eK 6 rfl sF ?_; refine eK 7 rfl sL ?_; refine eK 8 rfl (s_idx rfl rfl hsl (by omega)) ?_; refine eK 9 rfl (s_ldB rfl ((RdK.old hw.1 hw.2).lds i hx rfl) (by rfl)) ?_; refine eO 10 rfl ?_; refine o_alloc (l := En zN) (by rw [En_zero]; rfl) rfl fun b7 => ?_; refine oX (eO 11 rfl ?_); refine o_stW rfl rfl upA lnA lnA onA ?_; refine o_nil ?_; refine x_oneL rfl ?_; refine eZ hK6 (cR fun _ hK7 => ?_); refine oM ?_; refine oS sN ?_; refine oS sF ?_; refine oS sL ?_; refine oS sD ?_; refine oS sN ?_; refine oS sF ?_; refine o_store rfl rfl rfl upA ltA rfl ?_
    dsimp only [List.set]
    refine oZ hK7 (c_seq fun _ hK8 => ?_); refine cR fun _ hK9 => ?_; refine oS (s_ldB rfl (RdPK.cels (.own meA)) (by rfl)) ?_; refine o_callP (flds_fn x hop) rfl rfl rfl (fun _ _ => trivial) (fun v42 hv42 => ?_); subst hv42
    cases hfl : flds x
    ·have hN : shN re (f1 + 1) i en gr = none := shN_bad hx (by rw [ndOk, hfl]; simp)
     refine oS (s_not rfl) ?_; refine oM ?_; refine oN ?_; refine oN ?_; refine oN ?_; refine oS sT (oZ hK9 ?_); refine cT (cR fun _ hK10 => ?_); refine oA (oZ hK10 (c_ret ?_)); refine x_then_ret (?_); exact xR rfl rfl ((by rw [hN]; rfl))
    ·refine oS (s_not rfl) ?_; refine oM ?_; refine oY ?_; refine oS (s_ldB rfl (RdPK.cels (.own meA)) (by rfl)) ?_; refine oY ?_; refine o_callP (kids_fn x hop) rfl rfl rfl (fun _ _ => trivial) (fun v46 hv46 => ?_); subst hv46
     cases hko : kidsOk x
     ·have hN : shN re (f1 + 1) i en gr = none := shN_bad hx (by rw [ndOk, hko]; simp)
      refine oY ?_; refine oS (s_not rfl) ?_; refine oS sP (oZ hK9 ?_); refine cT (cR fun _ hK11 => ?_); refine oA (oZ hK11 (c_ret ?_)); refine x_then_ret (?_); exact xR rfl rfl ((by rw [hN]; rfl))
     ·have hok : ndOk x = true := by rw [ndOk, hfl, hko]; rfl
      have hk0 := ndOk_kids hok
      refine oY ?_; refine oS (s_not rfl) ?_; refine oS sP (oZ hK9 ?_); refine cFZ hK8 (cR fun _ hK12 => ?_); refine oS sF ?_; refine oS sL ?_; refine oS (s_convI rfl (by omega)) ?_; refine oA (oZ hK12 ?_); refine c_seqJ (ι := Unit) (fun g => x.op = 8 → 1 ≤ x.n ∧ x.n ≤ en.length ∧ en[x.n.toNat - 1]? = some true) (fun g => []) [(0, _), (1, _), (2, _), (7, _), (8, _)] (fun g => (bx, .cells [.slice ra re.length rc, .int .i64 (i + 1 : Nat), .slice ea en.length ec].toArray 119 (0, 0)) :: (b7, .cells (En x).toArray 108 (0, 0)) :: Se) sbA ?_ ?_
      ·rintro g hg8
       refine c_seqJ (ι := (List Bool × Nat × Option Addr × Nat × Hp)) (fun g => gate x en gr = some (g.1, g.2.1) ∧ OwnS Ebo 1 4 (.slice g.2.2.1 g.1.length g.2.2.2.1) g.1 g.2.2.2.2) (fun g => [(2, .int .i64 g.2.1)]) [(0, _), (1, _), (7, _), (8, _)] (fun g => (bx, .cells [.slice ra re.length rc, .int .i64 (i + 1 : Nat), .slice g.2.2.1 g.1.length g.2.2.2.1].toArray 119 (0, 0)) :: (b7, .cells (En x).toArray 108 (0, 0)) :: g.2.2.2.2) sbA ?_ ?_
       ·rintro ⟨en1, g1, ea1, ec1, Se1⟩ ⟨hgt, hO1⟩
        dsimp only at hgt hO1
        dsimp only
        have hgl := gate_len hgt hel hg
        refine c_seq fun _ hK15 => ?_; refine cR fun _ hK16 => ?_; refine oA (oZ hK16 (c_block ?_)); refine c_loop6 (fun (k : Nat) (i2 : Nat) (en2 : List Bool) (ea2 : Option Addr) (ec2 : Nat) (Se2 : Hp) => (k : Int) ≤ x.kids ∧ kidsN (fun i en => shN re f1 i en g1) k (i + 1) en1 = some (i2, en2) ∧ i + 1 + k ≤ i2 ∧ i2 ≤ re.length ∧ en2.length ≤ 255 ∧ en1.length ≤ en2.length ∧ OwnS Ebo 1 4 (.slice ea2 en2.length ec2) en2 Se2) (fun (k : Nat) (i2 : Nat) (en2 : List Bool) (ea2 : Option Addr) (ec2 : Nat) (Se2 : Hp) => [(9, .int .i64 k)]) [(0, _), (1, _), (2, _), (7, _), (8, _)] (fun (k : Nat) (i2 : Nat) (en2 : List Bool) (ea2 : Option Addr) (ec2 : Nat) (Se2 : Hp) => (bx, .cells [.slice ra re.length rc, .int .i64 i2, .slice ea2 en2.length ec2].toArray 119 (0, 0)) :: (b7, .cells (En x).toArray 108 (0, 0)) :: Se2) (fun (k : Nat) (i2 : Nat) (en2 : List Bool) (ea2 : Option Addr) (ec2 : Nat) (Se2 : Hp) => x.kids.toNat - k) 0 (i + 1) en1 ea1 ec1 Se1 ⟨by omega, rfl, by omega, by omega, hgl.2.1, Nat.le_refl _, hO1⟩ sbA sbA hzB ?_
        rintro k i2 en2 ea2 ec2 Se2 ⟨hk, hkn, hki, hi2, hel2, hel3, hO2⟩
        refine c_seq fun _ hK17 => ?_; refine cR fun _ hK18 => ?_; refine oM ?_; refine oS sF ?_; refine oS sL ?_
        by_cases hkl : (k : Int) < x.kids
        ·refine oS lsT (oZ hK18 ?_); refine cTZ hK17 (c_seq fun _ hK19 => ?_); refine c_block (cR fun _ hK20 => ?_); refine oM (oM ?_); refine oS sD (oM ?_); refine o_call (ih f1 rfl bx ra rc re i2 (wi + 1) g1 ea2 ec2 en2 Se2 hre (by omega) hi2 hel2 hgl.2.2.1 hO2) rfl rfl rfl ((Pick.takeC pkA pkA)) (fun w st => ⟨(RdK.old hw.1 hw.2).out w st, St.apart_M st (by exact hin_node) hw.1 hw.2 (by decide)⟩) (fun v122 S122 hv122 => ?_)
         rcases hst : shN re f1 i2 en2 g1 with _ | ⟨i3, en3⟩
         ·obtain rfl : v122 = .bool false := by rw [hst] at hv122; exact hv122
          have hN : shN re (f1 + 1) i en gr = none := shN_kids hx hgt (kidsN_none (kidsN_snoc hkn hst) (by omega))
          refine oS (s_not rfl) ?_; refine oZ hK20 ?_; refine cT (cR fun _ hK21 => ?_); refine oA (oZ hK21 (c_ret ?_)); refine x_block_ret (x_then_ret (x_then_ret (x_block_ret (x_then_ret (?_)))))
          exact xR rfl rfl ((by rw [hN]; rfl))
         ·obtain ⟨hu122, ea3, ec3, Se3, rfl, hO3⟩ : v122 = .bool true ∧ ∃ ea3 ec3 Se3, S122 = LookB 119 bx ra rc re i3 ea3 ec3 en3 :: Se3 ∧ OwnS Ebo 1 4 (.slice ea3 en3.length ec3) en3 Se3 := by rw [hst] at hv122; exact hv122
          subst hu122
          unfold LookB
          refine oS (s_not rfl) ?_; refine oZ hK20 ?_; refine cF (c_skip (x_block (xZ hK19 (c_region (oM ?_))))); refine oS sD (oA (o_nil ?_)); exact xI (k + 1, i3, en3, ea3, ec3, Se3) ⟨by omega, kidsN_snoc hkn hst, by have := shN_lt hst; dsimp only; omega, shN_le hst, (shN_len hel2 hgl.2.2.1 hst).2, by have := (shN_len hel2 hgl.2.2.1 hst).1; dsimp only; omega, hO3⟩
        ·obtain rfl : k = x.kids.toNat := by omega
         have hN := shN_some hx hok hgt hkn
         have hO2s := hO2.sl
         refine oS lsF (oZ hK18 ?_); refine cF ?_; refine c_exit ?_; refine x_then_exit (x_then_exit (x_block_exit (xZ hK15 (c_seq fun _ hK22 => ?_)))); refine cR fun _ hK23 => ?_; refine oM ?_
         by_cases k7 : x.op = 7
         ·have hg7 := hgl.2.2.2 k7
          refine oS eqT (oZ hK23 ?_); refine cT ?_; refine c_drawE ((bx, .cells [.slice ra re.length rc, .int .i64 i2, .slice ea2 en2.length ec2].toArray 119 (0, 0)) :: (b7, .cells (En x).toArray 108 (0, 0)) :: Se2) (fun i => Nat.beq i 8) ?_; refine eK 0 rfl sM ?_; refine eK 1 rfl sN ?_; refine eK 2 rfl sF ?_; refine eK 3 rfl sL ?_; refine eK 4 rfl sF ?_; refine eK 5 rfl sL ?_; refine eK 6 rfl sU ?_; refine eK 7 rfl (s_idx rfl rfl hO2s (by omega)) ?_; refine eO 8 rfl ?_; refine o_stS1 (x.n.toNat - 1) true hO2 pkA rfl rfl rfl (by omega) (by omega) fun S' hS' => ?_; refine o_nil ?_; refine x_oneL rfl ?_; refine eZ hK22 (cR fun _ hK24 => ?_); refine oA (oZ hK24 (c_ret ?_)); refine ?_; refine x_sub (Sub.refl _) (H' := (bx, .cells [.slice ra re.length rc, .int .i64 i2, .slice ea2 en2.length ec2].toArray 119 (0, 0)) :: S') hzB ?_; exact xR rfl rfl ((by rw [hN, if_pos k7]; exact ⟨rfl, ea2, ec2, S', by unfold LookB; rw [List.length_set], by rw [List.length_set]; exact hS'⟩))
         ·refine oS eqF (oZ hK23 ?_); refine cFZ hK22 (cR fun _ hK25 => ?_); refine oA (oZ hK25 (c_ret ?_)); refine ?_; refine x_sub (Sub.refl _) (H' := (bx, .cells [.slice ra re.length rc, .int .i64 i2, .slice ea2 en2.length ec2].toArray 119 (0, 0)) :: Se2) hzB ?_; exact xR rfl rfl ((by rw [hN, if_neg k7]; exact ⟨rfl, _, _, _, rfl, hO2⟩))
       ·intro _ hJ14
        refine cR fun _ hK26 => ?_; refine oM ?_
        by_cases h7 : x.op = 7
        ·refine oS eqT (oZ hK26 ?_); refine cT (c_seq fun _ hK27 => ?_); refine c_seq fun _ hK28 => ?_; refine c_drawE ((bx, .cells [.slice ra re.length rc, .int .i64 (i + 1 : Nat), .slice ea en.length ec].toArray 119 (0, 0)) :: (b7, .cells (En x).toArray 108 (0, 0)) :: Se) (fun i => false) ?_; refine eK 0 rfl sF ?_; refine eK 1 rfl sL ?_; refine eK 2 rfl sM ?_; refine eK 3 rfl sN ?_; refine eK 4 rfl sF ?_; refine eK 5 rfl sL ?_; refine eK 6 rfl sC ?_; refine eK 7 rfl sD ?_
         by_cases hn1 : x.n ≠ en.length + 1
         ·have hN : shN re (f1 + 1) i en gr = none := shN_gate hx (gate_no7 h7 (by omega))
          refine eK 8 rfl nqT ?_; refine eK 9 rfl sM ?_; refine eS 10 rfl (eS 11 rfl (eS 12 rfl ?_)); refine eK 13 rfl sT ?_; refine eK 14 rfl sM ?_; refine eS 15 rfl (eS 16 rfl ?_); refine eK 17 rfl sT (eZ hK28 ?_); refine cT (cR fun _ hK29 => ?_); refine oA (oZ hK29 (c_ret ?_)); refine x_then_ret (x_then_ret (?_))
          exact xR rfl rfl ((by rw [hN]; rfl))
         ·refine eK 8 rfl nqF ?_; refine eK 9 rfl sM ?_; refine eG 10 rfl sF ?_; refine eG 11 rfl sL ?_
          by_cases hn2 : x.n > 255
          ·have hN : shN re (f1 + 1) i en gr = none := shN_gate hx (gate_no7 h7 (by omega))
           refine eG 12 rfl gtT ?_; refine eK 13 rfl sP ?_; refine eK 14 rfl sM ?_; refine eS 15 rfl (eS 16 rfl ?_); refine eK 17 rfl sT (eZ hK28 ?_); refine cT (cR fun _ hK30 => ?_); refine oA (oZ hK30 (c_ret ?_)); refine x_then_ret (x_then_ret (?_))
           exact xR rfl rfl ((by rw [hN]; rfl))
          ·refine eG 12 rfl gtF ?_; refine eK 13 rfl sP ?_; refine eK 14 rfl sM ?_; refine eG 15 rfl sM ?_
           by_cases hn3 : (gr : Int) ≥ 64
           ·have hN : shN re (f1 + 1) i en gr = none := shN_gate hx (gate_no7 h7 (by omega))
            refine eG 16 rfl geT ?_; refine eK 17 rfl sP (eZ hK28 ?_); refine cT (cR fun _ hK31 => ?_); refine oA (oZ hK31 (c_ret ?_)); refine x_then_ret (x_then_ret (?_))
            exact xR rfl rfl ((by rw [hN]; rfl))
           ·refine eG 16 rfl geF ?_; refine eK 17 rfl sP (eZ hK28 ?_); refine cFZ hK27 (cR fun _ hK32 => ?_); refine oM (oM ?_); refine oS sN ?_; refine oS sF ?_; refine oS sL ?_; refine o_bs (E := Ebo) (xs := [false]) (vs := [_]) rfl rfl rfl rfl rfl (by decide) (by decide) fun b106 S106 hS106 => ?_; refine o_app hO (hS106.rdk hiA) rfl rfl rfl rfl (by simp only [List.length_singleton]; omega) (by simp only [List.length_singleton]; omega) rfl pkA fun a107 c107 S107 hS107 => ?_; refine oS sN ?_; refine oS sF ?_; refine o_store rfl rfl rfl upA ltA rfl ?_
            dsimp only [List.set]
            refine oZ hK32 (c_region (oM ?_)); refine oS sD (oA (o_nil ?_)); exact x_then (hJ14 (en ++ [false], gr + 1, a107, c107, S107) _ _ ⟨gate_grp h7 ⟨by omega, by omega, by omega⟩, hS107⟩ sbA sbA hzB)
        ·refine oS eqF (oZ hK26 ?_); refine cF (c_skip ?_); exact x_then (hJ14 (en, gr, ea, ec, Se) _ _ ⟨gate_not7 h7 hg8, hO⟩ sbA sbA hzB)
      ·intro _ hJ13
       refine c_seq fun _ hK33 => ?_; refine c_drawE ((bx, .cells [.slice ra re.length rc, .int .i64 (i + 1 : Nat), .slice ea en.length ec].toArray 119 (0, 0)) :: (b7, .cells (En x).toArray 108 (0, 0)) :: Se) (fun i => false) ?_; refine eK 0 rfl sM ?_
       by_cases h8 : x.op = 8
       ·refine eK 1 rfl eqT ?_; refine eK 2 rfl sM ?_; refine eG 3 rfl sF ?_; refine eG 4 rfl sL ?_
        by_cases hn1 : x.n < 1
        ·have hN : shN re (f1 + 1) i en gr = none := shN_gate hx (gate_no8 h8 (by omega))
         refine eG 5 rfl lsT ?_; refine eG 6 rfl sM ?_; refine eS 7 rfl (eS 8 rfl (eS 9 rfl (eS 10 rfl (eS 11 rfl (eS 12 rfl (eS 13 rfl (eS 14 rfl ?_))))))); refine eG 15 rfl sT ?_; refine eG 16 rfl sM ?_; refine eS 17 rfl (eS 18 rfl (eS 19 rfl (eS 20 rfl (eS 21 rfl (eS 22 rfl (eS 23 rfl (eS 24 rfl (eS 25 rfl (eS 26 rfl ?_))))))))); refine eG 27 rfl sT ?_; refine eK 28 rfl sT (eZ hK33 ?_); refine cT (cR fun _ hK34 => ?_); refine oA (oZ hK34 (c_ret ?_)); refine x_then_ret (?_); exact xR rfl rfl ((by rw [hN]; rfl))
        ·refine eG 5 rfl lsF ?_; refine eG 6 rfl sM ?_; refine eG 7 rfl sF ?_; refine eG 8 rfl sL ?_; refine eG 9 rfl sM ?_; refine eG 10 rfl sN ?_; refine eG 11 rfl sF ?_; refine eG 12 rfl sL ?_; refine eG 13 rfl sC ?_
         by_cases hn2 : x.n > en.length
         ·have hN : shN re (f1 + 1) i en gr = none := shN_gate hx (gate_no8 h8 (by omega))
          refine eG 14 rfl gtT ?_; refine eG 15 rfl sP ?_; refine eG 16 rfl sM ?_; refine eS 17 rfl (eS 18 rfl (eS 19 rfl (eS 20 rfl (eS 21 rfl (eS 22 rfl (eS 23 rfl (eS 24 rfl (eS 25 rfl (eS 26 rfl ?_))))))))); refine eG 27 rfl sT ?_; refine eK 28 rfl sT (eZ hK33 ?_); refine cT (cR fun _ hK35 => ?_); refine oA (oZ hK35 (c_ret ?_)); refine x_then_ret (?_); exact xR rfl rfl ((by rw [hN]; rfl))
         ·refine eG 14 rfl gtF ?_; refine eG 15 rfl sP ?_; refine eG 16 rfl sM ?_; refine eG 17 rfl sM ?_; refine eG 18 rfl sN ?_; refine eG 19 rfl sF ?_; refine eG 20 rfl sL ?_; refine eG 21 rfl sF ?_; refine eG 22 rfl sL ?_; refine eG 23 rfl sU ?_; refine eG 24 rfl (s_idx rfl rfl hOs (by omega)) ?_
          by_cases hb : en[x.n.toNat - 1]? = some true
          ·refine eG 25 rfl (s_ld rfl ((hO.rdk hiA).ld (x.n.toNat - 1) 0 hb rfl (by decide) (by omega))) ?_; refine eG 26 rfl (s_not rfl) ?_; refine eG 27 rfl sP ?_; refine eK 28 rfl sT (eZ hK33 ?_); refine cF (c_skip ?_); exact x_then (hJ13 () _ _ (fun _ => ⟨by omega, by omega, hb⟩) sbA sbA hzB)
          ·have hN : shN re (f1 + 1) i en gr = none := shN_gate hx (gate_no8 h8 (fun h => hb h.2.2))
           have hb2 := get_false hb (by omega)
           refine eG 25 rfl (s_ld rfl ((hO.rdk hiA).ld (x.n.toNat - 1) 0 hb2 rfl (by decide) (by omega))) ?_; refine eG 26 rfl (s_not rfl) ?_; refine eG 27 rfl sP ?_; refine eK 28 rfl sT (eZ hK33 ?_); refine cT (cR fun _ hK36 => ?_); refine oA (oZ hK36 (c_ret ?_)); refine x_then_ret (?_); exact xR rfl rfl ((by rw [hN]; rfl))
       ·refine eK 1 rfl eqF ?_; refine eK 2 rfl sM ?_; refine eS 3 rfl (eS 4 rfl (eS 5 rfl (eS 6 rfl (eU 7 rfl (eU 8 rfl (eU 9 rfl (eU 10 rfl (eU 11 rfl (eU 12 rfl (eU 13 rfl (eU 14 rfl (eS 15 rfl (eS 16 rfl (eU 17 rfl (eU 18 rfl (eU 19 rfl (eU 20 rfl (eU 21 rfl (eU 22 rfl (eU 23 rfl (eU 24 rfl (eU 25 rfl (eU 26 rfl ?_)))))))))))))))))))))))
        refine eS 27 rfl ?_; refine eK 28 rfl sP (eZ hK33 ?_); refine cF (c_skip ?_); exact x_then (hJ13 () _ _ (fun h => absurd h h8) sbA sbA hzB)
theorem node_fn : ∀ f, NodeC Tryz.prog 112 172 f := by
  intro f
  induction f with
  | zero => exact fun bx ra rc re i wi g ea ec en Se h1 h2 h3 h4 h5 h6 => node_step 0 (fun f1 h => by omega) bx ra rc re i wi g ea ec en Se h1 h2 h3 h4 h5 h6
  | succ f ih => exact fun bx ra rc re i wi g ea ec en Se h1 h2 h3 h4 h5 h6 => node_step (f + 1) (fun f1 h => (Nat.succ.inj h) ▸ ih) bx ra rc re i wi g ea ec en Se h1 h2 h3 h4 h5 h6
theorem rNode_fn : ∀ f, NodeC Tryz.prog 56 119 f := by
  intro f
  induction f with
  | zero => exact fun bx ra rc re i wi g ea ec en Se h1 h2 h3 h4 h5 h6 => rNode_step 0 (fun f1 h => by omega) bx ra rc re i wi g ea ec en Se h1 h2 h3 h4 h5 h6
  | succ f ih => exact fun bx ra rc re i wi g ea ec en Se h1 h2 h3 h4 h5 h6 => rNode_step (f + 1) (fun f1 h => (Nat.succ.inj h) ▸ ih) bx ra rc re i wi g ea ec en Se h1 h2 h3 h4 h5 h6
set_option maxHeartbeats 1000000 in
theorem weigh_step (x : Nd) (ks : F) (ih : ∀ y ks1, ks1.size < ks.size → WeighC Tryz.prog 113 y ks1) (ra : Option Addr) (rc : Nat) (re : List Nd) (i i1 : Nat) (hre : ∀ x ∈ re, -128 ≤ x.op ∧ x.op < 128) (hp : Part re (.nd x ks .nil) i i1) : HL.Fn Tryz.prog 113 [.slice ra re.length rc, .int .i64 i] (fun w => Rd En w (.slice ra re.length rc) re) [] (fun v _ => v = .tuple #[.int .i64 (cut (F.nd x ks .nil).weight), .int .i64 i1]) := by
  refine fn_of Tryz.func113 rfl rfl rfl fun w0 hw => ?_
  have hsl := hw.sl
  have hbl := hsl.le
  obtain ⟨hx, hpk, hpn⟩ := hp.head
  have hii : i1 = i + 1 + ks.size := by simpa [F.size] using hpn.len
  have hile := hp.le
  have hok : ndOk x = true := hp.wf.1
  have hk0 := ndOk_kids hok
  have hkn : (ks.num : Int) = x.kids := hp.wf.2.1
  have hop := hre x (List.mem_of_getElem? hx)
  have hilt : i < re.length := (List.getElem?_eq_some_iff.1 hx).1
  have htl := times_le hok
  have htp := times_pos x
  have hns := F.num_le ks
  have hpkl := hpk.le
  rw [← hii] at hpk
  refine cR fun _ hK1 => ?_; refine oA (oA (oZ hK1 (cR fun _ hK2 => ?_))); refine oM (oM ?_); refine oS (s_idx rfl rfl hsl (by omega)) ?_; refine oS (s_ldB rfl ((RdK.old0 hw).lds i hx rfl) (by rfl)) ?_; refine o_alloc (l := En zN) (by rw [En_zero]; rfl) rfl fun b6 => ?_; refine o_stW rfl rfl upA lnA lnA onA ?_; refine oZ hK2 (cR fun _ hK3 => ?_); refine oM ?_; refine oS sD (oA (oA (oZ hK3 (c_seq fun _ hK4 => ?_)))); refine cR fun _ hK5 => ?_; refine oS sF ?_; refine oS sL (oM (oZ hK5 (c_block ?_))); refine c_loop4 (fun (k : Nat) (to : Nat) (dw : Nat) (r : F) => k + r.num = ks.num ∧ Part re r to i1 ∧ dw + r.weight = ks.weight ∧ r.size ≤ ks.size) (fun (k : Nat) (to : Nat) (dw : Nat) (r : F) => [(19, .int .i64 k), (7, .int .i64 (cut dw)), (8, .int .i64 to)]) [(0, _), (4, _), (5, _), (6, _), (18, _)] (fun (k : Nat) (to : Nat) (dw : Nat) (r : F) => [(b6, .cells (En x).toArray 108 (0, 0))]) (fun (k : Nat) (to : Nat) (dw : Nat) (r : F) => ks.num - k) 0 (i + 1) 0 ks ⟨by omega, hpk, by omega, Nat.le_refl _⟩ sbA sbA hzB ?_
  rintro k to dw r ⟨hkr, hpr, hdw, hrs⟩
  have hcl := cut_le dw
  refine cR fun _ hK6 => ?_
  by_cases hkl : (k : Int) < x.kids
  ·obtain ⟨y, ks1, r1, rfl⟩ : ∃ y ks1 r1, r = F.nd y ks1 r1 := by cases r with | nil => simp [F.num] at hkr; omega | nd y a b => exact ⟨y, a, b, rfl⟩
   obtain ⟨hy, hpy, hpt⟩ := hpr.head
   have hpy1 : Part re (.nd y ks1 .nil) to (to + 1 + ks1.size) := hpr.one
   have hrs2 : ks1.size < ks.size := by simp only [F.size] at hrs; omega
   have hcy := cut_le (F.nd y ks1 .nil).weight
   have hpyl := hpy1.le
   refine oS lsT (oZ hK6 (c_seq fun _ hK7 => ?_)); refine cTZ hK7 (c_seq fun _ hK8 => ?_); refine c_block (cR fun _ hK9 => ?_); refine oM (oM ?_); refine o_callP (ih y ks1 hrs2 ra rc re to (to + 1 + ks1.size) hre hpy1) rfl rfl rfl (fun w st => (RdK.old0 hw).out w st) (fun v24 hv24 => ?_); subst hv24
   refine oM ?_; refine oS sE ?_; refine oS sE (oA (oA (oZ hK9 (c_region (oM (oM ?_)))))); refine oS sD ?_; refine oS (step_cast (v' := .int .i64 (cut (dw + (F.nd y ks1 .nil).weight))) (s_min rfl rfl) (by rw [← cut_add]; unfold cut; congr 1; omega)) ?_; refine oM (oA (oA (o_nil (x_block (xZ hK8 (c_region ?_)))))); refine oS sD (oM (o_nil ?_)); exact xI (k + 1, to + 1 + ks1.size, dw + (F.nd y ks1 .nil).weight, r1) ⟨by simp only [F.num] at hkr; dsimp only; omega, hpt, by simp only [F.weight] at hdw ⊢; omega, by simp only [F.size] at hrs; dsimp only; omega⟩
  ·obtain rfl : r = F.nil := by cases r with | nil => rfl | nd y a b => simp only [F.num] at hkr; omega
   have hto : to = i1 := by have := hpr.len; simp [F.size] at this; omega
   obtain rfl : dw = ks.weight := by simpa [F.weight] using hdw
   subst hto; refine oS lsF (oZ hK6 (c_seq fun _ hK10 => ?_)); refine cF ?_; refine c_exit ?_; refine x_then_exit (x_then_exit (x_block_exit (xZ hK4 (c_seq fun _ hK11 => ?_)))); refine cR fun _ hK12 => ?_; refine oS sF ?_; refine oS sL ?_
   by_cases h6 : x.op = 6
   ·have hrf := rep_flds hok h6
    refine oS (eqT (h := h6)) ?_; refine oZ hK12 ?_; refine cT (cR fun _ hK13 => ?_); refine oS sF ?_; refine oS sL ?_
    by_cases hmx : x.mx < 0
    ·have ht1 : (times x : Int) = x.mn + 1 := by rw [times, if_pos h6, if_pos hmx]; omega
     have hclw := cut_le ks.weight
     have hm1 : (cut ks.weight : Int) * times x ≤ 4194560 := mul_leZ hclw htl
     have hm0 : 0 ≤ (cut ks.weight : Int) * times x := mul_0Z _ _
     have hfin := cut_fin (t := times x) (a := ks.weight) htp
     rw [ht1] at hfin hm1 hm0
     refine oS lsT (oZ hK13 ?_); refine cT (c_region (oM ?_)); refine oS sF ?_; refine oS sL ?_; refine oS sD ?_; refine oS (s_mul rfl rfl (by omega)) ?_; refine oA (oZ hK11 (cR fun _ hK14 => ?_)); refine oM ?_; refine oS sD ?_; refine oS (step_cast (v' := .int .i64 (cut (1 + times x * ks.weight) : Nat)) (s_min rfl rfl) (congrArg (Value.int .i64) hfin)) ?_; refine oM (oA (oA (oZ hK14 (c_ret ?_)))); refine ?_; exact x_ret rfl (.tmp rfl (.tmp rfl (.nil))) ((by rw [weight_one]; rfl))
    ·have ht1 : (times x : Int) = max x.mx 1 := by rw [times, if_pos h6, if_neg hmx]; omega
     have hclw := cut_le ks.weight
     have hm1 : (cut ks.weight : Int) * times x ≤ 4194560 := mul_leZ hclw htl
     have hm0 : 0 ≤ (cut ks.weight : Int) * times x := mul_0Z _ _
     have hfin := cut_fin (t := times x) (a := ks.weight) htp
     rw [ht1] at hfin hm1 hm0
     refine oS lsF (oZ hK13 ?_); refine cF (c_region (oM ?_)); refine oS sF ?_; refine oS sL ?_; refine oS (s_max rfl rfl) ?_; refine oS (s_mul rfl rfl (by omega)) ?_; refine oA (oZ hK11 (cR fun _ hK15 => ?_)); refine oM ?_; refine oS sD ?_; refine oS (step_cast (v' := .int .i64 (cut (1 + times x * ks.weight) : Nat)) (s_min rfl rfl) (congrArg (Value.int .i64) hfin)) ?_; refine oM (oA (oA (oZ hK15 (c_ret ?_)))); refine ?_; exact x_ret rfl (.tmp rfl (.tmp rfl (.nil))) ((by rw [weight_one]; rfl))
   ·have ht1 : (times x : Int) = 1 := by rw [times, if_neg h6]; rfl
    have hclw := cut_le ks.weight
    have hm1 : (cut ks.weight : Int) * times x ≤ 4194560 := mul_leZ hclw htl
    have hm0 : 0 ≤ (cut ks.weight : Int) * times x := mul_0Z _ _
    have hfin := cut_fin (t := times x) (a := ks.weight) htp
    rw [ht1] at hfin hm1 hm0
    rw [Int.mul_one] at hfin
    refine oS (eqF (h := h6)) ?_; refine oZ hK12 ?_; refine cFZ hK11 (cR fun _ hK16 => ?_); refine oM ?_; refine oS sD ?_; refine oS (step_cast (v' := .int .i64 (cut (1 + times x * ks.weight) : Nat)) (s_min rfl rfl) (congrArg (Value.int .i64) hfin)) ?_; refine oM (oA (oA (oZ hK16 (c_ret ?_)))); refine ?_; exact x_ret rfl (.tmp rfl (.tmp rfl (.nil))) ((by rw [weight_one]; rfl))
set_option maxHeartbeats 1000000 in
theorem rWeigh_step (x : Nd) (ks : F) (ih : ∀ y ks1, ks1.size < ks.size → WeighC Tryz.prog 57 y ks1) (ra : Option Addr) (rc : Nat) (re : List Nd) (i i1 : Nat) (hre : ∀ x ∈ re, -128 ≤ x.op ∧ x.op < 128) (hp : Part re (.nd x ks .nil) i i1) : HL.Fn Tryz.prog 57 [.slice ra re.length rc, .int .i64 i] (fun w => Rd En w (.slice ra re.length rc) re) [] (fun v _ => v = .tuple #[.int .i64 (cut (F.nd x ks .nil).weight), .int .i64 i1]) := by
  refine fn_of Tryz.func57 rfl rfl rfl fun w0 hw => ?_
  have hsl := hw.sl
  have hbl := hsl.le
  obtain ⟨hx, hpk, hpn⟩ := hp.head
  have hii : i1 = i + 1 + ks.size := by simpa [F.size] using hpn.len
  have hile := hp.le
  have hok : ndOk x = true := hp.wf.1
  have hk0 := ndOk_kids hok
  have hkn : (ks.num : Int) = x.kids := hp.wf.2.1
  have hop := hre x (List.mem_of_getElem? hx)
  have hilt : i < re.length := (List.getElem?_eq_some_iff.1 hx).1
  have htl := times_le hok
  have htp := times_pos x
  have hns := F.num_le ks
  have hpkl := hpk.le
  rw [← hii] at hpk
  refine cR fun _ hK1 => ?_; refine oA (oA (oZ hK1 (cR fun _ hK2 => ?_))); refine oM (oM ?_); refine oS (s_idx rfl rfl hsl (by omega)) ?_; refine oS (s_ldB rfl ((RdK.old0 hw).lds i hx rfl) (by rfl)) ?_; refine o_alloc (l := En zN) (by rw [En_zero]; rfl) rfl fun b6 => ?_; refine o_stW rfl rfl upA lnA lnA onA ?_; refine oZ hK2 (cR fun _ hK3 => ?_); refine oA (oZ hK3 (cR fun _ hK4 => ?_)); refine oM ?_; refine oS sD (oA (oZ hK4 ?_))
  refine c_seq fun _ hK5 => ?_; refine cR fun _ hK6 => ?_; refine oA (oZ hK6 (c_block ?_)); refine c_loop4 (fun (k : Nat) (to : Nat) (dw : Nat) (r : F) => k + r.num = ks.num ∧ Part re r to i1 ∧ dw + r.weight = ks.weight ∧ r.size ≤ ks.size) (fun (k : Nat) (to : Nat) (dw : Nat) (r : F) => [(9, .int .i64 k), (7, .int .i64 (cut dw)), (8, .int .i64 to)]) [(0, _), (4, _), (5, _), (6, _)] (fun (k : Nat) (to : Nat) (dw : Nat) (r : F) => [(b6, .cells (En x).toArray 108 (0, 0))]) (fun (k : Nat) (to : Nat) (dw : Nat) (r : F) => ks.num - k) 0 (i + 1) 0 ks ⟨by omega, hpk, by omega, Nat.le_refl _⟩ sbA sbA hzB ?_
  rintro k to dw r ⟨hkr, hpr, hdw, hrs⟩
  have hcl := cut_le dw
  refine c_seq fun _ hK7 => ?_; refine cR fun _ hK8 => ?_; refine oM ?_; refine oS sF ?_; refine oS sL ?_
  by_cases hkl : (k : Int) < x.kids
  ·obtain ⟨y, ks1, r1, rfl⟩ : ∃ y ks1 r1, r = F.nd y ks1 r1 := by cases r with | nil => simp [F.num] at hkr; omega | nd y a b => exact ⟨y, a, b, rfl⟩
   obtain ⟨hy, hpy, hpt⟩ := hpr.head
   have hpy1 : Part re (.nd y ks1 .nil) to (to + 1 + ks1.size) := hpr.one
   have hrs2 : ks1.size < ks.size := by simp only [F.size] at hrs; omega
   have hcy := cut_le (F.nd y ks1 .nil).weight
   have hpyl := hpy1.le
   refine oS lsT (oZ hK8 ?_); refine cTZ hK7 (c_seq fun _ hK9 => ?_); refine c_block (cR fun _ hK10 => ?_); refine oM (oM ?_); refine o_callP (ih y ks1 hrs2 ra rc re to (to + 1 + ks1.size) hre hpy1) rfl rfl rfl (fun w st => (RdK.old0 hw).out w st) (fun v28 hv28 => ?_); subst hv28
   refine oM ?_; refine oS sE ?_; refine oS sE (oA (oA (oZ hK10 (cR fun _ hK11 => ?_)))); refine oM (oM ?_); refine oS sD ?_; refine oS (step_cast (v' := .int .i64 (cut (dw + (F.nd y ks1 .nil).weight))) (s_min rfl rfl) (by rw [← cut_add]; unfold cut; congr 1; omega)) ?_; refine oA (oZ hK11 (c_region (oM (oA (o_nil (x_block (xZ hK9 (c_region (oM ?_))))))))); refine oS sD (oA (o_nil ?_)); exact xI (k + 1, to + 1 + ks1.size, dw + (F.nd y ks1 .nil).weight, r1) ⟨by simp only [F.num] at hkr; dsimp only; omega, hpt, by simp only [F.weight] at hdw ⊢; omega, by simp only [F.size] at hrs; dsimp only; omega⟩
  ·obtain rfl : r = F.nil := by cases r with | nil => rfl | nd y a b => simp only [F.num] at hkr; omega
   have hto : to = i1 := by have := hpr.len; simp [F.size] at this; omega
   obtain rfl : dw = ks.weight := by simpa [F.weight] using hdw
   subst hto; refine oS lsF (oZ hK8 ?_); refine cF ?_; refine c_exit ?_; refine x_then_exit (x_then_exit (x_block_exit (xZ hK5 (cR fun _ hK12 => ?_)))); refine oA (oZ hK12 (c_seq fun _ hK13 => ?_)); refine cR fun _ hK14 => ?_; refine oS sF ?_; refine oS sL ?_; refine oS (s_convI rfl (by omega)) ?_
   by_cases h6 : x.op = 6
   ·have hrf := rep_flds hok h6
    refine oS eqT (oZ hK14 ?_); refine cT (cR fun _ hK15 => ?_); refine oS sF ?_; refine oS sL ?_; refine oS (s_max rfl rfl) ?_; refine oA (oZ hK15 (cR fun _ hK16 => ?_)); refine oS sF ?_; refine oS sL ?_
    by_cases hmx : x.mx < 0
    ·have ht1 : (times x : Int) = x.mn + 1 := by rw [times, if_pos h6, if_pos hmx]; omega
     have hclw := cut_le ks.weight
     have hm1 : (times x : Int) * (cut ks.weight : Int) ≤ 4194560 := by rw [Int.mul_comm]; exact mul_leZ hclw htl
     have hm0 : 0 ≤ (times x : Int) * (cut ks.weight : Int) := mul_0Z _ _
     have hfin := cut_fin2 (t := times x) (a := ks.weight) htp
     rw [ht1] at hfin hm1 hm0
     refine oS lsT (oZ hK16 ?_); refine cT (c_region ?_); refine oS sF ?_; refine oS sL ?_; refine oS sD (oA (oZ hK13 (cR fun _ hK17 => ?_))); refine oM (oM ?_); refine oS (s_mul rfl rfl (by omega)) ?_; refine oS sD ?_; refine oS (step_cast (v' := .int .i64 (cut (1 + times x * ks.weight) : Nat)) (s_min rfl rfl) (congrArg (Value.int .i64) hfin)) ?_; refine oM (oA (oA (oZ hK17 (c_ret ?_)))); refine ?_; exact x_ret rfl (.tmp rfl (.tmp rfl (.nil))) ((by rw [weight_one]; rfl))
    ·have ht1 : (times x : Int) = max x.mx 1 := by rw [times, if_pos h6, if_neg hmx]; omega
     have hclw := cut_le ks.weight
     have hm1 : (times x : Int) * (cut ks.weight : Int) ≤ 4194560 := by rw [Int.mul_comm]; exact mul_leZ hclw htl
     have hm0 : 0 ≤ (times x : Int) * (cut ks.weight : Int) := mul_0Z _ _
     have hfin := cut_fin2 (t := times x) (a := ks.weight) htp
     rw [ht1] at hfin hm1 hm0
     refine oS lsF (oZ hK16 ?_); refine cFZ hK13 (cR fun _ hK18 => ?_); refine oM (oM ?_); refine oS (s_mul rfl rfl (by omega)) ?_; refine oS sD ?_; refine oS (step_cast (v' := .int .i64 (cut (1 + times x * ks.weight) : Nat)) (s_min rfl rfl) (congrArg (Value.int .i64) hfin)) ?_; refine oM (oA (oA (oZ hK18 (c_ret ?_)))); refine ?_; exact x_ret rfl (.tmp rfl (.tmp rfl (.nil))) ((by rw [weight_one]; rfl))
   ·have ht1 : (times x : Int) = 1 := by rw [times, if_neg h6]; rfl
    have hclw := cut_le ks.weight
    have hm1 : (times x : Int) * (cut ks.weight : Int) ≤ 4194560 := by rw [Int.mul_comm]; exact mul_leZ hclw htl
    have hm0 : 0 ≤ (times x : Int) * (cut ks.weight : Int) := mul_0Z _ _
    have hfin := cut_fin2 (t := times x) (a := ks.weight) htp
    rw [ht1] at hfin hm1 hm0
    refine oS eqF (oZ hK14 ?_); refine cFZ hK13 (cR fun _ hK19 => ?_); refine oM (oM ?_); refine oS (s_mul rfl rfl (by omega)) ?_; refine oS sD ?_; refine oS (step_cast (v' := .int .i64 (cut (1 + times x * ks.weight) : Nat)) (s_min rfl rfl) (congrArg (Value.int .i64) hfin)) ?_; refine oM (oA (oA (oZ hK19 (c_ret ?_)))); refine ?_; exact x_ret rfl (.tmp rfl (.tmp rfl (.nil))) ((by rw [weight_one]; rfl))
theorem weigh_fn : ∀ (n : Nat) (x : Nd) (ks : F), ks.size < n → WeighC Tryz.prog 113 x ks := by
  intro n
  induction n with
  | zero => intro x ks h; omega
  | succ n ih => exact fun x ks h ra rc re i i1 h1 h2 => weigh_step x ks (fun y ks1 hs => ih y ks1 (by omega)) ra rc re i i1 h1 h2
theorem rWeigh_fn : ∀ (n : Nat) (x : Nd) (ks : F), ks.size < n → WeighC Tryz.prog 57 x ks := by
  intro n
  induction n with
  | zero => intro x ks h; omega
  | succ n ih => exact fun x ks h ra rc re i i1 h1 h2 => rWeigh_step x ks (fun y ks1 hs => ih y ks1 (by omega)) ra rc re i i1 h1 h2
theorem shaped_fn (ra : Option Addr) (rc : Nat) (re : List Nd) (hre : ∀ x ∈ re, -128 ≤ x.op ∧ x.op < 128) : HL.Fn Tryz.prog 58 [.slice ra re.length rc] (fun w => Rd En w (.slice ra re.length rc) re) [] (fun v _ => v = .bool (shapedB re)) := by
  refine fn_of Tryz.func58 rfl rfl rfl fun w0 hw => ?_
  have hsl := hw.sl
  have hbl := hsl.le
  refine cR fun _ hK1 => ?_; refine oA (oZ hK1 (cR fun _ hK2 => ?_)); refine oM ?_; refine oS (s_build (cs := [_, _, _]) (vs := [_]) rfl rfl (.cons rfl rfl rfl rfl rfl (.nil))) ?_; refine o_box rfl rfl rfl fun b8 => ?_; refine oA (oZ hK2 (c_seq fun _ hK3 => ?_)); refine cR fun _ hK4 => ?_; refine oM ?_; refine o_call (node_fn 260 b8 ra rc re 0 0 0 none 0 [] [] hre rfl (Nat.zero_le _) (by decide) (by decide) .nil) rfl rfl rfl (by exact .one) (fun w st => ⟨(RdK.old0 hw).out w st, St.apart_M st (by exact HIn.one) hw (Apart.nil) (by decide)⟩) (fun v10 S10 hv10 => ?_)
  rcases hst : shN re 260 0 [] 0 with _ | ⟨j, enx⟩
  ·obtain rfl : v10 = .bool false := by rw [hst] at hv10; exact hv10
   have hN := shp_none hst
   refine oS (s_not rfl) ?_; refine oM ?_; refine oN ?_; refine oN ?_; refine oN ?_; refine oN ?_; refine oN ?_; refine oN ?_; refine oN ?_; refine oS sT (oZ hK4 ?_); refine cT (cR fun _ hK5 => ?_); refine oA (oZ hK5 (c_ret ?_)); refine x_then_ret (?_); exact xR rfl rfl ((congrArg Value.bool hN.symm))
  ·obtain ⟨hu10, ea3, ec3, Se3, rfl, hO3⟩ : v10 = .bool true ∧ ∃ ea3 ec3 Se3, S10 = LookB 172 b8 ra rc re j ea3 ec3 enx :: Se3 ∧ OwnS Ebo 1 4 (.slice ea3 enx.length ec3) enx Se3 := by rw [hst] at hv10; exact hv10
   subst hu10
   unfold LookB
   refine oS (s_not rfl) ?_; refine oM ?_; refine oY (oM ?_); refine oY ?_; refine oS sN ?_; refine oY ?_; refine oS sF ?_; refine oY ?_; refine oS sL ?_; refine oY (oM ?_); refine oY ?_; refine oS sC ?_; refine oY ?_
   by_cases hj : j ≠ re.length
   ·have hN := shp_end hst hj
    refine oS nqT ?_; refine oS sP (oZ hK4 ?_); refine cT (cR fun _ hK6 => ?_); refine oA (oZ hK6 (c_ret ?_)); refine x_then_ret (?_); exact xR rfl rfl ((congrArg Value.bool hN.symm))
   ·obtain rfl : j = re.length := Decidable.not_not.1 hj
    obtain ⟨x, ks, hpt, hdp, hshp⟩ := shp_tree hst
    refine oS nqF ?_; refine oS sP (oZ hK4 ?_); refine cFZ hK3 (cR fun _ hK7 => ?_); refine oM ?_; refine o_callP (weigh_fn (ks.size + 1) x ks (by omega) ra rc re 0 re.length hre hpt) rfl rfl rfl (fun w st => (RdK.old0 hw).out w st) (fun v23 hv23 => ?_); subst hv23
    refine oM ?_; refine oS sE ?_; refine oS sE (oA (oA (oZ hK7 (cR fun _ hK8 => ?_)))); refine oM ?_; refine oS (s_leq rfl rfl) ?_; refine oA (oZ hK8 (c_ret ?_)); refine ?_; exact xR rfl rfl ((congrArg Value.bool (by rw [hshp]; exact decide_eq_decide.2 (by omega))))
theorem rShaped_fn (ra : Option Addr) (rc : Nat) (re : List Nd) (hre : ∀ x ∈ re, -128 ≤ x.op ∧ x.op < 128) : HL.Fn Tryz.prog 10 [.slice ra re.length rc] (fun w => Rd En w (.slice ra re.length rc) re) [] (fun v _ => v = .bool (shapedB re)) := by
  refine fn_of Tryz.func10 rfl rfl rfl fun w0 hw => ?_
  have hsl := hw.sl
  have hbl := hsl.le
  refine cR fun _ hK1 => ?_; refine oA (oZ hK1 (cR fun _ hK2 => ?_)); refine oM ?_; refine oS (s_build (cs := [_, _, _]) (vs := [_]) rfl rfl (.cons rfl rfl rfl rfl rfl (.nil))) ?_; refine o_box rfl rfl rfl fun b8 => ?_; refine oA (oZ hK2 (c_seq fun _ hK3 => ?_)); refine cR fun _ hK4 => ?_; refine oM ?_; refine o_call (rNode_fn 260 b8 ra rc re 0 0 0 none 0 [] [] hre rfl (Nat.zero_le _) (by decide) (by decide) .nil) rfl rfl rfl (by exact .one) (fun w st => ⟨(RdK.old0 hw).out w st, St.apart_M st (by exact HIn.one) hw (Apart.nil) (by decide)⟩) (fun v10 S10 hv10 => ?_)
  rcases hst : shN re 260 0 [] 0 with _ | ⟨j, enx⟩
  ·obtain rfl : v10 = .bool false := by rw [hst] at hv10; exact hv10
   have hN := shp_none hst
   refine oS (s_not rfl) ?_; refine oM ?_; refine oN ?_; refine oN ?_; refine oN ?_; refine oN ?_; refine oN ?_; refine oN ?_; refine oN ?_; refine oS sT (oZ hK4 ?_); refine cT (cR fun _ hK5 => ?_); refine oA (oZ hK5 (c_ret ?_)); refine x_then_ret (?_); exact xR rfl rfl ((congrArg Value.bool hN.symm))
  ·obtain ⟨hu10, ea3, ec3, Se3, rfl, hO3⟩ : v10 = .bool true ∧ ∃ ea3 ec3 Se3, S10 = LookB 119 b8 ra rc re j ea3 ec3 enx :: Se3 ∧ OwnS Ebo 1 4 (.slice ea3 enx.length ec3) enx Se3 := by rw [hst] at hv10; exact hv10
   subst hu10
   unfold LookB
   refine oS (s_not rfl) ?_; refine oM ?_; refine oY (oM ?_); refine oY ?_; refine oS sN ?_; refine oY ?_; refine oS sF ?_; refine oY ?_; refine oS sL ?_; refine oY (oM ?_); refine oY ?_; refine oS sC ?_; refine oY ?_
   by_cases hj : j ≠ re.length
   ·have hN := shp_end hst hj
    refine oS nqT ?_; refine oS sP (oZ hK4 ?_); refine cT (cR fun _ hK6 => ?_); refine oA (oZ hK6 (c_ret ?_)); refine x_then_ret (?_); exact xR rfl rfl ((congrArg Value.bool hN.symm))
   ·obtain rfl : j = re.length := Decidable.not_not.1 hj
    obtain ⟨x, ks, hpt, hdp, hshp⟩ := shp_tree hst
    refine oS nqF ?_; refine oS sP (oZ hK4 ?_); refine cFZ hK3 (cR fun _ hK7 => ?_); refine oM ?_; refine o_callP (rWeigh_fn (ks.size + 1) x ks (by omega) ra rc re 0 re.length hre hpt) rfl rfl rfl (fun w st => (RdK.old0 hw).out w st) (fun v23 hv23 => ?_); subst hv23
    refine oM ?_; refine oS sE ?_; refine oS sE (oA (oA (oZ hK7 (cR fun _ hK8 => ?_)))); refine oM ?_; refine oS (s_leq rfl rfl) ?_; refine oA (oZ hK8 (c_ret ?_)); refine ?_; exact xR rfl rfl ((congrArg Value.bool (by rw [hshp]; exact decide_eq_decide.2 (by omega))))
theorem refs_fn (ra : Option Addr) (rc : Nat) (re : List Nd) (hre : ∀ x ∈ re, -128 ≤ x.op ∧ x.op < 128) : HL.Fn Tryz.prog 61 [.slice ra re.length rc] (fun w => Rd En w (.slice ra re.length rc) re) [] (fun v _ => v = .bool (refsB re)) := by
  refine fn_of Tryz.func61 rfl rfl rfl fun w0 hw => ?_
  have hsl := hw.sl
  have hbl := hsl.le
  refine cR fun _ hK1 => ?_; refine oA (oZ hK1 (c_seq fun _ hK2 => ?_)); refine cR fun _ hK3 => ?_; refine oM ?_; refine o_callP (shaped_fn ra rc re hre) rfl rfl rfl (fun w st => (RdK.old0 hw).out w st) (fun v6 hv6 => ?_); subst hv6
  cases hs : shapedB re
  ·refine oZ hK3 ?_; refine cFZ hK2 (cR fun _ hK4 => ?_); refine oA (oZ hK4 (c_ret ?_)); refine ?_; exact xR rfl rfl ((congrArg Value.bool (refs_shp hs).symm))
  ·refine oZ hK3 ?_; refine cT (cR fun _ hK5 => ?_); refine oM ?_; refine oS sC (oM (oZ hK5 (c_block ?_)))
   refine c_loopB (fun (j : Nat) => j ≤ re.length ∧ ∀ q (x : Nd), q < j → re[q]? = some x → ¬ x.op = 8) (fun (j : Nat) => [(9, .int .i64 j)]) [(7, _), (8, _)] (fun (j : Nat) => []) (fun (j : Nat) => re.length - j) 0 ⟨by omega, fun q x h => by omega⟩ sbA sbA hzB ?_
   rintro j ⟨hj, hjn⟩
   refine cR fun _ hK6 => ?_
   by_cases hjl : j < re.length
   ·obtain ⟨x, hx⟩ : ∃ x, re[j]? = some x := ⟨_, List.getElem?_eq_getElem hjl⟩
    refine oS lsT (oZ hK6 (c_seq fun _ hK7 => ?_)); refine cTZ hK7 (c_seq fun _ hK8 => ?_); refine c_block (cR fun _ hK9 => ?_); refine oS (s_idx rfl rfl hsl (by omega)) ?_; refine oS (s_ldB rfl ((RdK.old0 hw).lds j hx rfl) (by rfl)) ?_; refine o_alloc (l := En zN) (by rw [En_zero]; rfl) rfl fun b4 => ?_; refine o_stW rfl rfl upA lnA lnA onA ?_; refine oZ hK9 (cR fun _ hK10 => ?_); refine oS sF ?_; refine oS sL ?_
    by_cases h8 : x.op = 8
    ·refine oS (eqT (h := h8)) ?_; refine oZ hK10 ?_; refine cT (cR fun _ hK11 => ?_); refine oA (oZ hK11 (c_ret ?_)); refine x_block_ret (x_then_ret (x_then_ret (x_block_ret (x_then_ret (?_)))))
     exact xR rfl rfl ((congrArg Value.bool (refs_yes hs (List.mem_of_getElem? hx) h8).symm))
    ·refine oS (eqF (h := h8)) ?_; refine oZ hK10 ?_; refine cF (c_skip (x_block (xZ hK8 (c_region ?_)))); refine oS sD (oM (o_nil ?_)); exact xI (j + 1) ⟨by omega, refs_step hjn hx h8⟩
   ·obtain rfl : j = re.length := by omega
    refine oS lsF (oZ hK6 (c_seq fun _ hK12 => ?_)); refine cF ?_; refine c_exit ?_; refine x_then_exit (x_then_exit (x_block_exit (xZ hK2 (cR fun _ hK13 => ?_)))); refine oA (oZ hK13 (c_ret ?_)); refine ?_; exact xR rfl rfl ((congrArg Value.bool (refs_no hjn).symm))
theorem rRefs_fn (ra : Option Addr) (rc : Nat) (re : List Nd) (hre : ∀ x ∈ re, -128 ≤ x.op ∧ x.op < 128) : HL.Fn Tryz.prog 11 [.slice ra re.length rc] (fun w => Rd En w (.slice ra re.length rc) re) [] (fun v _ => v = .bool (refsB re)) := by
  refine fn_of Tryz.func11 rfl rfl rfl fun w0 hw => ?_
  have hsl := hw.sl
  have hbl := hsl.le
  refine cR fun _ hK1 => ?_; refine oA (oZ hK1 (c_seq fun _ hK2 => ?_)); refine cR fun _ hK3 => ?_; refine oM ?_; refine o_callP (rShaped_fn ra rc re hre) rfl rfl rfl (fun w st => (RdK.old0 hw).out w st) (fun v5 hv5 => ?_); subst hv5
  cases hs : shapedB re
  ·refine oS (s_not rfl) ?_; refine oZ hK3 ?_; refine cT (cR fun _ hK4 => ?_); refine oA (oZ hK4 (c_ret ?_)); refine x_then_ret (?_); exact xR rfl rfl ((congrArg Value.bool (refs_shp hs).symm))
  ·refine oS (s_not rfl) ?_; refine oZ hK3 ?_; refine cFZ hK2 (c_seq fun _ hK5 => ?_); refine cR fun _ hK6 => ?_; refine oA (oZ hK6 (c_block ?_))
   refine c_loopB (fun (j : Nat) => j ≤ re.length ∧ ∀ q (x : Nd), q < j → re[q]? = some x → ¬ x.op = 8) (fun (j : Nat) => [(3, .int .i64 j)]) [(0, _)] (fun (j : Nat) => []) (fun (j : Nat) => re.length - j) 0 ⟨by omega, fun q x h => by omega⟩ sbA sbA hzB ?_
   rintro j ⟨hj, hjn⟩
   refine c_seq fun _ hK7 => ?_; refine cR fun _ hK8 => ?_; refine oM (oM ?_); refine oS sC ?_
   by_cases hjl : j < re.length
   ·obtain ⟨x, hx⟩ : ∃ x, re[j]? = some x := ⟨_, List.getElem?_eq_getElem hjl⟩
    have hop := hre x (List.mem_of_getElem? hx)
    refine oS lsT (oZ hK8 ?_); refine cTZ hK7 (c_seq fun _ hK9 => ?_); refine c_block (cR fun _ hK10 => ?_); refine oM (oM ?_); refine oS (s_idx rfl rfl hsl (by omega)) ?_; refine oS sF ?_; refine oS (s_ld rfl ((RdK.old0 hw).ld j 0 hx rfl (by decide) rfl)) ?_; refine oS (s_convI rfl (by omega)) ?_
    by_cases h8 : x.op = 8
    ·refine oS eqT (oZ hK10 ?_); refine cT (cR fun _ hK11 => ?_); refine oA (oZ hK11 (c_ret ?_)); refine x_block_ret (x_then_ret (x_then_ret (x_block_ret (x_then_ret (?_)))))
     exact xR rfl rfl ((congrArg Value.bool (refs_yes hs (List.mem_of_getElem? hx) h8).symm))
    ·refine oS eqF (oZ hK10 ?_); refine cF (c_skip (x_block (xZ hK9 (c_region (oM ?_))))); refine oS sD (oA (o_nil ?_)); exact xI (j + 1) ⟨by omega, refs_step hjn hx h8⟩
   ·obtain rfl : j = re.length := by omega
    refine oS lsF (oZ hK8 ?_); refine cF ?_; refine c_exit ?_; refine x_then_exit (x_then_exit (x_block_exit (xZ hK5 (cR fun _ hK12 => ?_)))); refine oA (oZ hK12 (c_ret ?_)); refine ?_; exact xR rfl rfl ((congrArg Value.bool (refs_no hjn).symm))
end Go.Proofs.YtopmnmigpbdddaaGreatDoor
namespace Go.Proofs.YtopmnmigpbdddaaGreatDoor
open Go Go.HL Go.Proofs Go.HL.Kl Go.HL.Kl.Mc Go.HL.Kl.Mc.AskE
set_option maxHeartbeats 1000000 in
theorem forget_fn (K : AskE) (hK : K.ok) (y : Nd) (js : F) (a i1 : Nat) (hpa : Part K.re (.nd y js .nil) a i1) (ca : Option Addr) (cc N : Nat) (cs : List Sp) (Sc : Hp) (hcl : cs.length = N) (hsl8 : Slots K.re N) (hO : OwnS Esp 2 40 (.slice ca N cc) cs Sc) : HL.Fn Tryz.prog 145 [pt K.bS, .int .i64 a, .slice ca N cc] (fun W => Env W K (keys Sc)) Sc (fun _ S' => OwnS Esp 2 40 (.slice ca N cc) (fgt (F.nd y js .nil).flat cs) S') := by
  refine fn_of Tryz.func145 rfl rfl rfl fun w0 hw => ?_
  have hsl := hw.d1.sl
  have hse := hw.d3.sl
  have hrl := hK.len
  rw [hK.ends.1] at hse
  have hell := hK.ends.1
  have hal := hpa.le
  have hpl := hpa.len
  simp only [F.size] at hpl
  have hei := hK.ends.2 a y js .nil _ (Nat.zero_le _) hpa
  refine cR fun _ hK1 => ?_; refine oM (oA (oZ hK1 (c_block ?_))); refine c_loop3 (fun (j : Nat) (l : List Sp) (S : Hp) => a ≤ j ∧ j ≤ a + 1 + js.size ∧ l = fgtTo K.re a j cs ∧ OwnS Esp 2 40 (.slice ca N cc) l S) (fun (j : Nat) (l : List Sp) (S : Hp) => [(6, .int .i64 j)]) [(0, _), (1, _), (2, _)] (fun (j : Nat) (l : List Sp) (S : Hp) => S) (fun (j : Nat) (l : List Sp) (S : Hp) => a + 1 + js.size - j) a cs Sc ⟨Nat.le_refl _, by omega, fgtTo_start.symm, hO⟩ sbA sbA hzB ?_
  rintro j l S ⟨hj1, hj2, hl, hS⟩
  have hll : l.length = N := by rw [hl, fgtTo_len, hcl]
  have hls := hS.sl
  rw [hll] at hls
  refine c_seq fun _ hK2 => ?_; refine cR fun _ hK3 => ?_; refine oM (oM ?_); refine oS sN ?_; refine oS sF ?_; refine oS (s_ld rfl ((RdPK.old hw.p4 hw.n4).cel (j := 1) rfl rfl)) ?_; refine oM ?_; refine oS (s_idx rfl rfl hse (by omega)) ?_; refine oS (s_ld rfl ((RdK.old hw.d3 hw.a3).ld a 0 hei rfl (by decide) (by omega))) ?_
  by_cases hjl : (j : Int) < a + 1 + js.size
  ·obtain ⟨x, hxj⟩ : ∃ x, K.re[j]? = some x := gE
   have hxm := List.mem_of_getElem? hxj
   refine oS lsT (oZ hK3 ?_); refine cTZ hK2 (c_seq fun _ hK4 => ?_); refine c_block (cR fun _ hK5 => ?_); refine oM ?_; refine oS sN ?_; refine oS sF ?_; refine oS (s_ld rfl ((RdPK.old hw.p4 hw.n4).cel (j := 0) rfl rfl)) ?_; refine oM ?_; refine oS (s_idx rfl rfl hsl (by omega)) ?_; refine oS sF ?_; refine oS (s_ld rfl ((RdK.old hw.d1 hw.a1).ld j 0 hxj rfl (by decide) (by omega))) ?_
   by_cases h7 : x.op = 7
   ·have hx7 := hsl8 x hxm h7
    refine oS (eqT (h := h7)) ?_; refine oZ hK5 ?_; refine cT (c_region (oM (oM ?_))); refine oS sN ?_; refine oS sF ?_; refine oS (s_ld rfl ((RdPK.old hw.p4 hw.n4).cel (j := 0) rfl rfl)) ?_; refine oM ?_; refine oS (s_idx rfl rfl hsl (by omega)) ?_; refine oS sF ?_; refine oS (s_ld rfl ((RdK.old hw.d1 hw.a1).ld j 5 hxj rfl (by decide) (by omega))) ?_; refine oS (step_cast (v' := .agg (Esp noS).toArray) (s_build (cs := [_, _]) (vs := [_, _]) rfl rfl (.cons rfl rfl rfl rfl rfl (.cons rfl rfl rfl rfl rfl (.nil)))) rfl) ?_; refine oS (s_idx rfl rfl hls (by omega)) ?_; refine o_stSE x.n.toNat noS hS pkA rfl rfl (by omega) (by rfl) fun S' hS' => ?_; refine o_nil (x_block (xZ hK4 (c_region (oM ?_)))); refine oS sD (oA (o_nil ?_)); exact xI (j + 1, _, _) ⟨by omega, by omega, by dsimp only; rw [fgtTo_step hxj hj1, ← hl, fg1, if_pos h7], hS'⟩
   ·refine oS (eqF (h := h7)) ?_; refine oZ hK5 ?_; refine cF (c_skip (x_block (xZ hK4 (c_region (oM ?_))))); refine oS sD (oA (o_nil ?_)); exact xI (j + 1, _, _) ⟨by omega, by omega, by dsimp only; rw [fgtTo_step hxj hj1, ← hl, fg1, if_neg h7], hS⟩
  ·obtain rfl : j = a + 1 + js.size := by omega
   refine oS lsF (oZ hK3 ?_); refine cF ?_; refine c_exit ?_; refine x_then_exit (x_then_exit (x_block_exit ?_)); refine x_sub (Sub.refl _) (H' := S) hzB ?_; exact x_end rfl (.nil) ((by rw [hl, fgtTo_part (by have h := hpa; rw [show i1 = a + 1 + js.size by omega] at h; exact h)] at hS; exact hS))
theorem groups_fn (ra : Option Addr) (rc : Nat) (re : List Nd) (hre : ∀ x ∈ re, -128 ≤ x.op ∧ x.op < 128) : HL.Fn Tryz.prog 60 [.slice ra re.length rc] (fun w => Rd En w (.slice ra re.length rc) re) [] (fun v _ => v = .int .i64 ((if shapedB re = true then gcn re else 0 : Nat) : Int)) := by
  refine fn_of Tryz.func60 rfl rfl rfl fun w0 hw => ?_
  have hsl := hw.sl
  have hbl := hsl.le
  refine cR fun _ hK1 => ?_; refine oA (oZ hK1 (cR fun _ hK2 => ?_)); refine oA (oZ hK2 (c_seq fun _ hK3 => ?_)); refine cR fun _ hK4 => ?_; refine oM ?_; refine o_callP (shaped_fn ra rc re hre) rfl rfl rfl (fun w st => (RdK.old0 hw).out w st) (fun v7 hv7 => ?_); subst hv7
  cases hsb : shapedB re
  ·refine oZ hK4 ?_; refine cFZ hK3 (cR fun _ hK5 => ?_); refine oM (oA (oZ hK5 (c_ret ?_))); refine ?_; exact xR rfl rfl ((by rw [hsb]; rfl))
  ·refine oZ hK4 ?_; refine cT (cR fun _ hK6 => ?_); refine oM ?_; refine oS sC (oM (oZ hK6 (c_block ?_))); refine c_loopB (fun (j : Nat) => j ≤ re.length) (fun (j : Nat) => [(10, .int .i64 j), (3, .int .i64 (gcn (re.take j) : Nat))]) [(2, _), (8, _), (9, _)] (fun (j : Nat) => _) (fun (j : Nat) => re.length - j) 0 (Nat.zero_le _) sbA sbA hzB ?_
   rintro j hj
   refine cR fun _ hK7 => ?_
   by_cases hjl : j < re.length
   ·obtain ⟨x, hx⟩ : ∃ x, re[j]? = some x := ⟨_, List.getElem?_eq_getElem hjl⟩
    have hxo := hre x (List.mem_of_getElem? hx)
    have hgl : gcn (re.take j) ≤ j := by have h1 := List.countP_le_length (p := fun x => decide (x.op = 7)) (l := re.take j); rw [List.length_take] at h1; unfold gcn; omega
    refine oS lsT (oZ hK7 (c_seq fun _ hK8 => ?_)); refine cTZ hK8 (c_seq fun _ hK9 => ?_); refine c_block (cR fun _ hK10 => ?_); refine oS (s_idx rfl rfl hsl (by omega)) ?_; refine oS (s_ldB rfl ((RdK.old0 hw).lds j hx rfl) (by rfl)) ?_; refine o_alloc (l := En zN) (by rw [En_zero]; rfl) rfl fun b5 => ?_; refine o_stW rfl rfl upA lnA lnA onA ?_; refine oZ hK10 (cR fun _ hK11 => ?_); refine oS sF ?_; refine oS sL ?_
    by_cases h7 : x.op = 7
    ·refine oS (eqT (h := h7)) ?_; refine oZ hK11 ?_; refine cT (c_region (oM ?_)); refine oS sD (oA (o_nil (x_block (xZ hK9 (c_region ?_))))); refine oS sD (oM (o_nil ?_)); exact x_then (x_inv (j + 1) (by omega) (by first | omega | (dsimp only; omega)) (by exact Sub.cons rfl (Sub.cons' rfl (by rw [gcn_take hx, if_pos h7]; rfl) sbA)) hzB)
    ·refine oS (eqF (h := h7)) ?_; refine oZ hK11 ?_; refine cF (c_skip (x_block (xZ hK9 (c_region ?_)))); refine oS sD (oM (o_nil ?_)); exact x_then (x_inv (j + 1) (by omega) (by first | omega | (dsimp only; omega)) (by exact Sub.cons rfl (Sub.cons' rfl (by rw [gcn_take hx, if_neg h7]; rfl) sbA)) hzB)
   ·obtain rfl : j = re.length := by omega
    refine oS lsF (oZ hK7 (c_seq fun _ hK12 => ?_)); refine cF ?_; refine c_exit ?_; refine x_then_exit (x_then_exit (x_block_exit (xZ hK3 (cR fun _ hK13 => ?_)))); refine oM (oA (oZ hK13 (c_ret ?_))); refine ?_; exact xR rfl rfl ((by rw [hsb, List.take_length]; rfl))
end Go.Proofs.YtopmnmigpbdddaaGreatDoor
