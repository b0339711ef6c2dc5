/- Part of the proofs over this seat: see the text that holds the theorem. Conditions: each theorem bears its own. -/
import Derived.Test.YtloepfcndglmmaaDoorHTZ
import Derived.Test.YtloepfcndglmmaaDoorVZT5Z
import Derived.Test.YtloepfcndglmmaaDoorMT25Z
import Derived.Test.YtloepfcndglmmaaDoorBT2Z
import Derived.Test.YtloepfcndglmmaaDoorVZN4Z
import Derived.Test.YtloepfcndglmmaaDoorVZW4Z
import Derived.Test.YtloepfcndglmmaaDoorBS7Z
import Derived.Test.YtloepfcndglmmaaDoorHM2Z
namespace Go.Proofs.YtloepfcndglmmaaDoor
open Go Go.HL Go.Proofs Go.HL.Kl Go.HL.Kl.Mc Go.HL.Kl.Mc.AskE
open TalE
set_option maxHeartbeats 4000000 in
theorem node_stepV (K : TalE) (hK : K.ok) (L : Nat) (hN : K.NodeV L) (hR : ∀ f, K.RowV L f) (hRo : K.RoundsV L) (x : Nd) (ks : F) (at_ i1 : Nat) (hp : Part K.re (.nd x ks .nil) at_ i1) (i j : Nat) (hij : i ≤ j) (hjn : j ≤ K.n) (c : Sl Sp) (Pool : Hp) (hc : RowP K.N Pool c) (left : Int) (h0 : 0 ≤ left) (hL : left < L + 1) (h5 : left ≤ 500000) : HL.Fn Tryd.prog 90 [pt K.bT, .int .i64 at_, .int .i64 i, .int .i64 j, .slice c.a c.xs.length c.c] (fun W => K.Env W (K.obj left :: Pool)) (K.obj left :: Pool) (K.PostV left 0 Pool (NodeC' K.n x ks i j c.xs)) := by
  refine fn_of Tryd.func90 rfl rfl rfl fun w0 hw => ?_
  have hnl := hK.nl
  have hNl := hK.Nl
  have hrl := hK.rl
  have hhs := hw.d2.sl
  have hres := hw.d1.sl
  have hple := hp.le
  have hpl := hp.len
  obtain ⟨hx, hpk, _⟩ := hp.head
  have hxm := List.mem_of_getElem? hx
  have hxr := hK.rng x hxm
  have hby := hK.beh _ _ _ _ _ hp
  have hbl := (List.getElem?_eq_some_iff.1 hby).1
  have hbz : at_ + 1 + ks.size ≤ K.re.length := hpk.le
  have hat := (List.getElem?_eq_some_iff.1 hx).1
  have hcx := hc.1
  have hnks := F.num_le ks
  have hkn0 : (ks.num : Int) = x.kids := hp.wf.2.1
  have hok : ndOk x = true := hp.wf.1
  have hop : 1 ≤ x.op ∧ x.op ≤ 8 := (flds_iff.1 (by simp only [ndOk, Bool.and_eq_true] at hok; exact hok.1)).1
  refine cR fun _ hK1 => ?_; refine oA (oZ hK1 (cR fun _ hK2 => ?_)); refine oM ?_; refine oS sN ?_; refine oS sF ?_; refine oS sL ?_; refine oS sU ?_; refine oS sN ?_; refine oS sF ?_; refine o_store rfl rfl rfl upA ltA rfl ?_; refine oZ hK2 (c_seq fun _ hK3 => ?_); refine cR fun _ hK4 => ?_; refine oM ?_; refine oS sN ?_; refine oS sF ?_; refine oS sL ?_
  by_cases hl0 : left - 1 < 0
  ·refine oS lsT (oZ hK4 ?_); refine cT (cR fun _ hK5 => ?_); refine oA (oZ hK5 (c_ret ?_)); refine x_then_ret (?_); refine x_sub (Sub.refl _) (H' := K.obj (left - 1) :: ([] ++ ([] ++ Pool))) (by simpa using hzB) ?_; exact xR rfl rfl (⟨none, 0, [], [], [], left - 1, rfl, rfl, .nil, fun s hs => (by cases hs), by simp; omega, by omega, by omega, fun h0 => absurd h0 (by omega)⟩)
  ·refine oS lsF (oZ hK4 ?_); refine cFZ hK3 (cR fun _ hK6 => ?_); refine oM ?_; refine oS sN ?_; refine oS sF ?_; refine oS sL (oM ?_); refine oS (s_idx rfl rfl hres (by omega)) ?_; refine oS (s_ldB rfl ((RdK.old hw.d1 hw.a1).lds at_ hx rfl) (by rfl)) ?_; refine o_alloc (l := En zN) (by rw [En_zero]; rfl) rfl fun b11 => ?_; refine o_stW rfl rfl upA lnA lnA onA ?_; refine oZ hK6 (cR fun _ hK7 => ?_); refine oA (oZ hK7 ?_)
   refine c_seqJ (ι := Bool) (fun gd => (x.op = 1 ∨ x.op = 2 ∨ x.op = 3 ∨ x.op = 8) ∧ (goodT K.n x c.xs i j → gd = true)) (fun gd => [(12, .bool gd)]) [(4, _)] (fun gd => K.obj (left - 1) :: Pool) sbA ?_ ?_
   ·rintro gd ⟨hop4, hgT⟩
    refine c_seq fun _ hK9 => ?_; refine cR fun _ hK10 => ?_
    by_cases hgd : gd = true
    ·refine oS (step_cast (v' := .bool true) (s_move rfl) (by rw [hgd])) ?_; refine oS (s_not rfl) ?_; refine oZ hK10 ?_; refine cFZ hK9 (cR fun _ hK11 => ?_); refine oM ?_; refine o_bs (E := Esl) (xs := [c]) (vs := [_]) rfl rfl rfl rfl rfl (by decide) (by decide) fun b204 S204 hS204 => ?_; refine oA (oZ hK11 (c_ret ?_)); refine ?_; refine x_sub (Sub.refl _) (H' := K.obj (left - 1) :: (S204 ++ ([] ++ Pool))) (by simpa using hzB) ?_; exact xR rfl rfl (⟨_, _, [c], S204, [], left - 1, rfl, rfl, hS204, fun s hs => (by rw [List.mem_singleton.1 hs]; exact hc), by simp; omega, by omega, by omega, fun _ => ⟨1, .leaf hop4 (fun _ => List.mem_singleton_self _) (Nat.le_refl _), by omega⟩⟩)
    ·refine oS (step_cast (v' := .bool false) (s_move rfl) (by rw [Bool.eq_false_iff.2 hgd])) ?_; refine oS (s_not rfl) ?_; refine oZ hK10 ?_; refine cT (cR fun _ hK12 => ?_); refine oA (oZ hK12 (c_ret ?_)); refine x_then_ret (?_); refine x_sub (Sub.refl _) (H' := K.obj (left - 1) :: ([] ++ ([] ++ Pool))) (by simpa using hzB) ?_; exact xR rfl rfl (⟨none, 0, [], [], [], left - 1, rfl, rfl, .nil, fun s hs => (by cases hs), by simp; omega, by omega, by omega, fun _ => ⟨1, .leaf hop4 (fun h => absurd (hgT h) hgd) (Nat.le_refl _), by omega⟩⟩)
   ·intro _ hJ8
    refine cR fun _ hK13 => ?_; refine oS sF ?_; refine oS sL ?_; refine oS (s_convI rfl (by omega)) ?_; refine oZ hK13 (c_block (cR fun _ hK14 => ?_))
    by_cases o1 : x.op = 1
    ·refine oS (eqT (h := o1)) ?_; refine oA (oZ hK14 ?_); refine cT (c_region (oM (oM ?_))); refine oS sD ?_; refine oS (s_eql rfl rfl) ?_; refine oA (o_nil (x_block ?_)); exact x_then (hJ8 (decide ((j : Int) = (i : Int) + 1)) _ _ ⟨.inl o1, fun h => decide_eq_true (by have := gT1 h o1; omega)⟩ sbA sbA hzB)
    ·refine oS (eqF (h := o1)) ?_; refine oA (oZ hK14 ?_); refine cF (cR fun _ hK15 => ?_)
     by_cases o2 : x.op = 2
     ·refine oS (eqT (h := o2)) ?_; refine oA (oZ hK15 ?_); refine cT (c_region (oM ?_))
      by_cases hi0 : (i : Int) = 0
      ·refine oS eqT (oM ?_); refine oY (oM ?_); refine oY ?_; refine oS (s_eql rfl rfl) ?_; refine oS sT (oA (o_nil (x_block ?_))); exact x_then (hJ8 (decide ((j : Int) = 0)) _ _ ⟨.inr (.inl o2), fun h => decide_eq_true (by have := gT2 h o2; omega)⟩ sbA sbA hzB)
      ·refine oS eqF (oM ?_); refine oN ?_; refine oN ?_; refine oS sP (oA (o_nil (x_block ?_))); exact x_then (hJ8 false _ _ ⟨.inr (.inl o2), fun h => (by have := gT2 h o2; exfalso; omega)⟩ sbA sbA hzB)
     ·refine oS (eqF (h := o2)) ?_; refine oA (oZ hK15 ?_); refine cF (cR fun _ hK16 => ?_)
      by_cases o3 : x.op = 3
      ·refine oS (eqT (h := o3)) ?_; refine oA (oZ hK16 ?_); refine cT (c_region (oM (oM ?_))); refine oS sN ?_; refine oS sF ?_; refine oS sL ?_
       by_cases hin : (i : Int) = (K.n : Nat)
       ·refine oS eqT (oM ?_); refine oY (oM ?_); refine oY (oM ?_); refine oY ?_; refine oS sN ?_; refine oY ?_; refine oS sF ?_; refine oY ?_; refine oS sL ?_; refine oY ?_; refine oS (s_eql rfl rfl) ?_; refine oS sT (oA (o_nil (x_block ?_))); exact x_then (hJ8 (decide ((j : Int) = (K.n : Nat))) _ _ ⟨.inr (.inr (.inl o3)), fun h => decide_eq_true (by have := gT3 h o3; omega)⟩ sbA sbA hzB)
       ·refine oS eqF (oM ?_); refine oN ?_; refine oN ?_; refine oN ?_; refine oN ?_; refine oN ?_; refine oN ?_; refine oS sP (oA (o_nil (x_block ?_))); exact x_then (hJ8 false _ _ ⟨.inr (.inr (.inl o3)), fun h => (by have := gT3 h o3; exfalso; omega)⟩ sbA sbA hzB)
      ·refine oS (eqF (h := o3)) ?_; refine oA (oZ hK16 ?_); refine cF (cR fun _ hK17 => ?_)
       by_cases o8 : x.op = 8
       ·have hrf := hK.ref x hxm o8
        obtain ⟨s, hsp⟩ : ∃ s, c.xs[(x.n - 1).toNat]? = some s := gE
        have hcs := hc.2.1
        refine oS (eqT (h := o8)) ?_; refine oA (oZ hK17 ?_); refine cT (cR fun _ hK18 => ?_); refine oM ?_; refine oS sF ?_; refine oS sL ?_; refine oS sU ?_; refine oS (s_idx rfl rfl hcs (by omega)) ?_; refine oS (s_ldB rfl ((hc.2.2.rdk hiA).lds (x.n - 1).toNat hsp rfl) (by rfl)) ?_; refine o_alloc (l := Esp ⟨0, 0⟩) rfl rfl fun b13 => ?_; refine o_stW rfl rfl upA lnA lnA onA ?_; refine oZ hK18 (c_region ?_); refine oS sF ?_; refine oS sL ?_
        by_cases hsf : s.fr ≥ 0
        ·refine oS geT (oM ?_); refine oY ?_; refine oS sF ?_; refine oY ?_; refine oS sL ?_; refine oY ?_; refine oS sF ?_; refine oY ?_; refine oS sL ?_; refine oY ?_; refine oS (s_subw rfl rfl) ?_; refine oY (oM ?_); refine oY (oM ?_); refine oY ?_; refine oS sU ?_; refine oY ?_; refine oS (s_eql rfl rfl) ?_; refine oS sT (oA (o_nil (x_block ?_))); exact x_then (hJ8 (decide (IntKind.wrap .i64 (s.to - s.fr) = (j : Int) - (i : Int))) _ _ ⟨.inr (.inr (.inr o8)), fun h => decide_eq_true (by obtain ⟨g1, g2⟩ := gT8 h o8 hrf.1 hsp; rw [g2]; exact wrap_i64z (by omega) (by omega))⟩ sbA sbA hzB)
        ·refine oS geF (oM ?_); refine oN ?_; refine oN ?_; refine oN ?_; refine oN ?_; refine oN ?_; refine oN ?_; refine oN ?_; refine oN ?_; refine oN ?_; refine oS sP (oA (o_nil (x_block ?_))); exact x_then (hJ8 false _ _ ⟨.inr (.inr (.inr o8)), fun h => (by have := (gT8 h o8 hrf.1 hsp).1; exfalso; omega)⟩ sbA sbA hzB)
       ·refine oS (eqF (h := o8)) ?_; refine oA (oZ hK17 ?_); refine cF (cR fun _ hK19 => ?_)
        by_cases o4 : x.op = 4
        ·refine oS (eqT (h := o4)) ?_; refine oA (oZ hK19 ?_); refine cT (cR fun _ hK20 => ?_); refine oM (oM ?_); refine oS sD ?_; refine oS sF ?_; refine oS (step_cast (v' := .int .i64 (ks.num : Nat)) (s_ld rfl (.own meA rfl)) (by rw [hkn0])) ?_; refine oM (oM (oM ?_)); refine o_call (hR ks (at_ + 1) _ hpk i j hij hjn c Pool hc (left - 1) (by omega) (by omega) (by omega)) rfl rfl rfl ((Pick.takeC pkA pkA)) (fun _ st => ⟨(RdK.old hw.d1 hw.a1).out _ st, St.apart_M st (by exact hiB) hw.d1 hw.a1 (by decide), (RdK.old hw.d2 hw.a2).out _ st, St.apart_M st (by exact hiB) hw.d2 hw.a2 (by decide)⟩) (fun v105 S105 ⟨a105, c105, zs105, Sz105, New105, lf105, hv105, hS105, hO105, hP105, hk105, hl105, hb105, hC105⟩ => ?_)
         subst hv105; subst hS105
         refine oA (oZ hK20 (c_ret ?_)); refine x_block_ret (x_then_ret (?_))
         refine x_sub (Sub.refl _) (H' := K.obj lf105 :: (Sz105 ++ (New105 ++ Pool))) hzB ?_; exact xR rfl rfl (⟨a105, c105, zs105, Sz105, New105, lf105, rfl, rfl, hO105, hP105, by omega, by omega, hb105, fun h0 => (by obtain ⟨k0, w1, w2⟩ := hC105 h0; refine ⟨k0 + 2, .cat o4 w1 (Nat.le_refl _), ?_⟩; rcases w2 with ⟨_, w3, _⟩ | w3 <;> omega)⟩)
        ·refine oS (eqF (h := o4)) ?_; refine oA (oZ hK19 ?_); refine cF (cR fun _ hK21 => ?_)
         by_cases o5 : x.op = 5
         ·refine oS (eqT (h := o5)) ?_; refine oA (oZ hK21 ?_); refine cT (cR fun _ hK22 => ?_); refine oA (oZ hK22 (cR fun _ hK23 => ?_)); refine oM ?_; refine oS sD (oA (oZ hK23 (c_seq fun _ hK24 => ?_))); refine cR fun _ hK25 => ?_; refine oA (oZ hK25 (c_block ?_)); refine c_loop9 (fun (k : Nat) (kp : Nat) (g : F) (ao : Option Addr) (co : Nat) (os : List (Sl Sp)) (So : Hp) (New : Hp) (lf : Int) => Part K.re g kp (at_ + 1 + ks.size) ∧ k + g.num = ks.num ∧ OwnS Esl 1 32 (.slice ao os.length co) os So ∧ PoolR os K.N (New ++ Pool) ∧ (os.length : Int) + lf ≤ left - 1 ∧ lf ≤ left - 1 ∧ -700000 ≤ lf ∧ (0 ≤ lf → ∃ kk, AltPre K.n ks g i j c.xs (os.map Sl.xs) kk ∧ (kk : Int) ≤ 3 * (left - 1 - lf))) (fun (k : Nat) (kp : Nat) (g : F) (ao : Option Addr) (co : Nat) (os : List (Sl Sp)) (So : Hp) (New : Hp) (lf : Int) => [(16, .int .i64 k), (15, .int .i64 kp), (14, .slice ao os.length co)]) [(0, _), (2, _), (3, _), (4, _), (10, _), (11, _), (12, _)] (fun (k : Nat) (kp : Nat) (g : F) (ao : Option Addr) (co : Nat) (os : List (Sl Sp)) (So : Hp) (New : Hp) (lf : Int) => (b11, .cells (En x).toArray 80 (0, 0)) :: K.obj lf :: (So ++ (New ++ Pool))) (fun (k : Nat) (kp : Nat) (g : F) (ao : Option Addr) (co : Nat) (os : List (Sl Sp)) (So : Hp) (New : Hp) (lf : Int) => g.size) 0 (at_ + 1) ks none 0 [] [] [] (left - 1) ⟨hpk, by simp, .nil, fun s hs => (by cases hs), by simp, Int.le_refl _, by omega, fun _ => ⟨0, AltPre.start, by omega⟩⟩ sbA sbA hzB ?_
          rintro k kp g ao co os So New lf ⟨hpg, hkn, hO, hPo, hko, hlf, hlo, hAc⟩
          refine c_seq fun _ hK26 => ?_; refine cR fun _ hK27 => ?_; refine oM ?_; refine oS sF ?_; refine oS sL ?_
          by_cases hkk : (k : Int) < x.kids
          ·obtain ⟨y, js, r, rfl⟩ : ∃ y js r, g = F.nd y js r := by cases g with | nil => simp [F.num] at hkn; omega | nd y a b => exact ⟨y, a, b, rfl⟩
           obtain ⟨hy, hpy, hpr⟩ := hpg.head
           have hby2 := hK.beh _ _ _ _ _ hpg
           have hp1 := hpg.one
           have hbl2 := (List.getElem?_eq_some_iff.1 hby2).1
           have hgl := hpg.le
           have hgn := hpg.len
           refine oS lsT (oM ?_); refine oY (oM ?_); refine oY ?_; refine oS sN ?_; refine oY ?_; refine oS sF ?_; refine oY ?_; refine oS sL ?_; refine oY ?_
           by_cases hlf0 : lf ≥ 0
           ·refine oS geT ?_; refine oS sT (oZ hK27 ?_); refine cTZ hK26 (c_seq fun _ hK28 => ?_); refine c_block (cR fun _ hK29 => ?_); refine oM (oM (oM (oM (oM (oM (oM ?_)))))); refine o_call (hN y js kp _ hp1 i j hij hjn c (New ++ Pool) (hc.mono hiA) lf (by omega) (by omega) (by omega)) rfl rfl rfl ((Pick.takeC pkA pkA)) (fun _ st => ⟨(RdK.old hw.d1 hw.a1).out _ st, St.apart_M st (by exact hiB) hw.d1 hw.a1 (by decide), (RdK.old hw.d2 hw.a2).out _ st, St.apart_M st (by exact hiB) hw.d2 hw.a2 (by decide)⟩) (fun v130 S130 ⟨a130, c130, zs130, Sz130, New130, lf130, hv130, hS130, hO130, hP130, hk130, hl130, hb130, hC130⟩ => ?_)
            subst hv130; subst hS130
            refine o_call (tAllV_fn K.bT K.ra K.rc K.re K.n K.ha K.hc K.hl lf130 ao co os So hO a130 c130 zs130 Sz130 (New130 ++ (New ++ Pool)) hO130 K.N (hPo.mono hiB) hP130 hNl (by omega) hb130 (by omega) (by omega)) rfl rfl rfl ((Pick.takeC pkA (Pick.takeA pkA pkA))) (fun _ _ => trivial) (fun v131 S131 ⟨a131, c131, zs131, SL131, lf131, hv131, hS131, hO131, hP131, hk131, hl131, hb131, hC131⟩ => ?_); subst hv131
            subst hS131; refine oA (oZ hK29 (c_region (oM ?_))); refine oS sN ?_; refine oS sF ?_; refine oS sL (oM ?_); refine oS (s_idx rfl rfl hhs (by omega)) ?_; refine oS (s_ld rfl ((RdK.old hw.d2 hw.a2).ld kp 0 hby2 rfl (by decide) (by omega))) ?_; refine oA (o_nil (x_block (xZ hK28 (c_region (oM ?_))))); refine oS sD (oA (o_nil ?_))
            have hAn : 0 ≤ lf131 → ∃ kk, AltPre K.n ks r i j c.xs (zs131.map Sl.xs) kk ∧ (kk : Int) ≤ 3 * (left - 1 - lf131) := fun h0 => by
              obtain ⟨u1, u2, u3⟩ := hC131 h0
              obtain ⟨kk, w1, w2⟩ := hAc (by omega)
              obtain ⟨kn, n1, n2⟩ := hC130 (by omega)
              refine ⟨kk + kn, w1.step n1 (fun d hd => by obtain ⟨s, s1, s2⟩ := List.mem_map.1 hd; exact List.mem_map.2 ⟨s, u1 s s1, s2⟩) (fun d hd => by obtain ⟨s, s1, s2⟩ := List.mem_map.1 hd; rw [← s2]; exact u2 s s1), by omega⟩
            exact x_then (x_inv (k + 1, (kp + 1 + js.size), r, a131, c131, zs131, SL131, New130 ++ New, lf131) ⟨hpr, by simp only [F.num] at hkn; dsimp only; omega, hO131, by rw [List.append_assoc]; exact hP131, by dsimp only; omega, by dsimp only; omega, hb131, hAn⟩ (by simp only [F.size]; omega) sbA (by simp only [List.append_assoc]; exact hzB))
           ·refine oS geF ?_; refine oS sT (oZ hK27 ?_); refine cF ?_; refine c_exit ?_; refine x_then_exit (x_then_exit (x_block_exit (xZ hK24 (cR fun _ hK30 => ?_)))); refine oM (oA (oZ hK30 (c_ret ?_))); refine x_block_ret (x_then_ret (?_))
            refine x_sub (Sub.refl _) (H' := K.obj lf :: (So ++ (New ++ Pool))) hzB ?_; exact xR rfl rfl (⟨ao, co, os, So, New, lf, rfl, rfl, hO, hPo, by omega, by omega, hlo, fun h0 => (by first | exact absurd h0 (by omega) | (obtain ⟨kk, w1, w2⟩ := hAc h0; exact ⟨kk + 1, .altC o5 w1.done (Nat.le_refl _), by omega⟩))⟩)
          ·obtain rfl : g = F.nil := F.num_nil (by omega)
           refine oS lsF (oM ?_); refine oN ?_; refine oN ?_; refine oN ?_; refine oN ?_; refine oN ?_; refine oS sP (oZ hK27 ?_); refine cF ?_; refine c_exit ?_; refine x_then_exit (x_then_exit (x_block_exit (xZ hK24 (cR fun _ hK31 => ?_)))); refine oM (oA (oZ hK31 (c_ret ?_))); refine x_block_ret (x_then_ret (?_))
           refine x_sub (Sub.refl _) (H' := K.obj lf :: (So ++ (New ++ Pool))) hzB ?_; exact xR rfl rfl (⟨ao, co, os, So, New, lf, rfl, rfl, hO, hPo, by omega, by omega, hlo, fun h0 => (by first | exact absurd h0 (by omega) | (obtain ⟨kk, w1, w2⟩ := hAc h0; exact ⟨kk + 1, .altC o5 w1.done (Nat.le_refl _), by omega⟩))⟩)
         ·refine oS (eqF (h := o5)) ?_; refine oA (oZ hK21 ?_); refine cF (cR fun _ hK32 => ?_)
          by_cases o6 : x.op = 6
          ·obtain ⟨y, js, rfl⟩ := one_kid hp.wf (.inl o6)
           refine oS (eqT (h := o6)) ?_; refine oA (oZ hK32 ?_); refine cT (cR fun _ hK33 => ?_); refine oM (oM (oM (oM (oM ?_)))); refine o_call (hRo x y js at_ i1 o6 hp 0 (by omega) i j hij hjn c Pool hc (left - 1) (by omega) (by omega) (by omega) (by omega)) rfl rfl rfl ((Pick.takeC pkA pkA)) (fun _ st => ⟨(RdK.old hw.d1 hw.a1).out _ st, St.apart_M st (by exact hiB) hw.d1 hw.a1 (by decide), (RdK.old hw.d2 hw.a2).out _ st, St.apart_M st (by exact hiB) hw.d2 hw.a2 (by decide)⟩) (fun v147 S147 ⟨a147, c147, zs147, Sz147, New147, lf147, hv147, hS147, hO147, hP147, hk147, hl147, hb147, hC147⟩ => ?_)
           subst hv147; subst hS147
           refine oA (oZ hK33 (c_ret ?_)); refine x_block_ret (x_then_ret (?_))
           refine x_sub (Sub.refl _) (H' := K.obj lf147 :: (Sz147 ++ (New147 ++ Pool))) hzB ?_; exact xR rfl rfl (⟨a147, c147, zs147, Sz147, New147, lf147, rfl, rfl, hO147, hP147, by omega, by omega, hb147, fun h0 => (by obtain ⟨k0, w1, w2⟩ := hC147 h0; exact ⟨k0 + 2, .rep o6 w1 (Nat.le_refl _), by omega⟩)⟩)
          ·refine oS (eqF (h := o6)) ?_; refine oA (oZ hK32 ?_); refine cF (cR fun _ hK34 => ?_)
           by_cases o7 : x.op = 7
           ·obtain ⟨y, js, rfl⟩ := one_kid hp.wf (.inr o7)
            have hp1 := hpk.one
            have hgr := hK.grp x hxm o7
            refine oS (eqT (h := o7)) ?_; refine oA (oZ hK34 ?_); refine cT (cR fun _ hK35 => ?_); refine oM (oM ?_); refine oS sD (oM (oM (oM (oM (oM ?_))))); refine oS sD (oM ?_); refine oS sN ?_; refine oS sF ?_; refine oS sL (oM ?_); refine oS (s_idx rfl rfl hhs (by omega)) ?_; refine oS (s_ld rfl ((RdK.old hw.d2 hw.a2).ld at_ 0 hby rfl (by decide) (by omega))) ?_; refine o_call (tEmptiedV_fn K.bT _ K.ra K.rc K.re hK.rng hrl K.N hNl hK.grp c.a c.c c.xs hc.1 (at_ + 1) (at_ + 1 + (F.nd y js .nil).size) hbz) rfl rfl rfl (by exact .nil) (fun _ st => ⟨(RdPK.own meA).out _ st, (RdK.old hw.d1 hw.a1).out _ st, (hc.2.2.rdk hiA).out _ st⟩) (fun v166 S166 ⟨a166, c166, hv166, hO166⟩ => ?_); subst hv166
            rw [empTo_part hpk] at hO166
            have hx166 : (emp (F.nd y js .nil).flat c.xs).length = K.N := by rw [emp_len]; exact hc.1
            generalize hE : emp (F.nd y js .nil).flat c.xs = xs166 at hO166 hx166
            rw [← hx166] at hO166
            rw [← hx166]
            refine o_call (hN y js (at_ + 1) _ hp1 i j hij hjn ⟨a166, c166, xs166⟩ (S166 ++ Pool) ⟨hx166, hO166.sl, hO166.rds.mono hiA⟩ (left - 1) (by omega) (by omega) (by omega)) rfl rfl rfl ((Pick.takeC pkA (Pick.takeA pkA pkA))) (fun _ st => ⟨(RdK.old hw.d1 hw.a1).out _ st, St.apart_M st (by exact hiB) hw.d1 hw.a1 (by decide), (RdK.old hw.d2 hw.a2).out _ st, St.apart_M st (by exact hiB) hw.d2 hw.a2 (by decide)⟩) (fun v167 S167 ⟨a167, c167, zs167, Sz167, New167, lf167, hv167, hS167, hO167, hP167, hk167, hl167, hb167, hC167⟩ => ?_); subst hv167
            subst hS167; refine oA (oZ hK35 (cR fun _ hK36 => ?_)); refine oA (oZ hK36 (c_seq fun _ hK37 => ?_)); refine cR fun _ hK38 => ?_; refine oA (oZ hK38 (c_block ?_)); refine c_loop7 (fun (k : Nat) (ao : Option Addr) (co : Nat) (os : List (Sl Sp)) (So : Hp) (New : Hp) (lf : Int) => k ≤ zs167.length ∧ OwnS Esl 1 32 (.slice ao os.length co) os So ∧ PoolR os K.N (New ++ Pool) ∧ (os.length : Int) + lf ≤ left - 1 ∧ lf ≤ left - 1 ∧ -700000 ≤ lf ∧ PoolR zs167 K.N (New ++ Pool) ∧ (0 ≤ lf → (∀ (m : Nat) s, m < k → zs167[m]? = some s → s.xs.set (x.n - 1).toNat ⟨i, j⟩ ∈ os.map Sl.xs) ∧ lf + k ≤ lf167)) (fun (k : Nat) (ao : Option Addr) (co : Nat) (os : List (Sl Sp)) (So : Hp) (New : Hp) (lf : Int) => [(19, .int .i64 k), (18, .slice ao os.length co)]) [(0, _), (2, _), (3, _), (4, _), (10, _), (11, _), (12, _), (17, _)] (fun (k : Nat) (ao : Option Addr) (co : Nat) (os : List (Sl Sp)) (So : Hp) (New : Hp) (lf : Int) => (b11, .cells (En x).toArray 80 (0, 0)) :: K.obj lf :: (So ++ (Sz167 ++ (New ++ Pool)))) (fun (k : Nat) (ao : Option Addr) (co : Nat) (os : List (Sl Sp)) (So : Hp) (New : Hp) (lf : Int) => zs167.length - k) 0 none 0 [] [] (New167 ++ S166) lf167 ⟨Nat.zero_le _, .nil, fun s hs => (by cases hs), by simp; omega, by omega, hb167, by rw [List.append_assoc]; exact hP167, fun _ => ⟨fun m s h => absurd h (Nat.not_lt_zero _), by omega⟩⟩ sbA sbA (by simp only [List.append_assoc]; exact hzB) ?_
            rintro k ao co os So New lf ⟨hk, hO, hPo, hko, hlf, hlo, hPz, hAc⟩
            refine c_seq fun _ hK39 => ?_; refine cR fun _ hK40 => ?_; refine oM (oM ?_); refine oS sC ?_
            by_cases hkl : (k : Int) < zs167.length
            ·obtain ⟨z, hzk⟩ : ∃ z, zs167[k]? = some z := gE
             have hzp := hPz z (List.mem_of_getElem? hzk)
             have hzN := hzp.1
             have hzs := hzp.2.1
             refine oS lsT (oM ?_); refine oY (oM ?_); refine oY ?_; refine oS sN ?_; refine oY ?_; refine oS sF ?_; refine oY ?_; refine oS sL ?_; refine oY ?_
             by_cases hlf1 : lf ≥ 0
             ·refine oS geT ?_; refine oS sT (oZ hK40 ?_); refine cTZ hK39 (c_seq fun _ hK41 => ?_); refine c_block (cR fun _ hK42 => ?_); refine oA (oZ hK42 (cR fun _ hK43 => ?_)); refine oM (oM (oM ?_)); refine oS (s_idx rfl rfl hO167.sl (by omega)) ?_; refine oS (s_ld rfl ((hO167.rdk hiA).ld k 0 hzk rfl (by decide) (by omega))) ?_; refine o_app (OwnS.nil : OwnS Esp 2 45 (.slice none 0 0) [] []) (hzp.2.2.rdk hiA) rfl rfl rfl rfl (by simp; omega) (by simp; omega) rfl (by exact .nil) fun a186 c186 S186 hS186 => ?_
              rw [List.nil_append] at hS186
              rw [List.nil_append]
              refine oA (oZ hK43 (cR fun _ hK44 => ?_)); refine oM ?_; refine oS sF ?_; refine oS sL ?_; refine oS sU (oM (oM ?_)); refine oS (s_build (cs := [_, _]) (vs := [_, _]) rfl rfl (.cons rfl rfl rfl rfl rfl (.cons rfl rfl rfl rfl rfl (.nil)))) ?_; refine oS (s_idx rfl rfl hS186.sl (by omega)) ?_; refine o_stSE (x.n - 1).toNat ⟨i, j⟩ hS186 pkA rfl rfl (by omega) (by rfl) fun S' hS' => ?_
              have hrow : RowP K.N S' ⟨a186, c186, z.xs.set (x.n - 1).toNat ⟨i, j⟩⟩ := ⟨by rw [List.length_set]; exact hzN, by have h := hS'.sl; simpa [Sl.v] using h, by have h := hS'.rds; simpa [Sl.v] using h⟩
              refine oZ hK44 (c_region (oM (oM ?_))); refine oS (step_cast (v' := .slice a186 (z.xs.set (x.n - 1).toNat ⟨i, j⟩).length c186) (s_move rfl) (by rw [List.length_set])) ?_; refine o_bs (E := Esl) (xs := [(⟨a186, c186, z.xs.set (x.n - 1).toNat ⟨i, j⟩⟩ : Sl Sp)]) (vs := [_]) rfl rfl rfl rfl rfl (by decide) (by decide) fun b198 S198 hS198 => ?_; refine o_call (tAllV_fn K.bT K.ra K.rc K.re K.n K.ha K.hc K.hl lf ao co os So hO _ _ [(⟨a186, c186, z.xs.set (x.n - 1).toNat ⟨i, j⟩⟩ : Sl Sp)] S198 (S' ++ (New ++ Pool)) hS198 K.N (hPo.mono hiA) (fun s hs => by rw [List.mem_singleton.1 hs]; exact hrow.mono hiA) hNl (by omega) hlo (by simp) (by omega)) rfl rfl rfl ((Pick.takeC pkA (Pick.takeA pkA (Pick.takeA pkA pkA)))) (fun _ _ => trivial) (fun v199 S199 ⟨a199, c199, zs199, SL199, lf199, hv199, hS199, hO199, hP199, hk199, hl199, hb199, hC199⟩ => ?_)
              subst hv199; subst hS199
              refine oA (o_nil (x_block (xZ hK41 (c_region (oM ?_))))); refine oS sD (oA (o_nil ?_))
              have hAn : 0 ≤ lf199 → (∀ (m : Nat) s, m < k + 1 → zs167[m]? = some s → s.xs.set (x.n - 1).toNat ⟨i, j⟩ ∈ zs199.map Sl.xs) ∧ lf199 + (k + 1 : Nat) ≤ lf167 := fun h0 => by
                obtain ⟨u1, u2, u3⟩ := hC199 h0
                obtain ⟨q1, q2⟩ := hAc (by omega)
                refine ⟨fun m s hm hs => ?_, by simp only [List.length_singleton] at u3; omega⟩
                by_cases e : m = k
                · subst e; rw [hzk] at hs; cases hs; exact u2 _ (List.mem_singleton_self _)
                · obtain ⟨s2, s3, s4⟩ := List.mem_map.1 (q1 m s (by omega) hs); exact List.mem_map.2 ⟨s2, u1 s2 s3, s4⟩
              exact x_then (x_inv (k + 1, a199, c199, zs199, SL199, S' ++ New, lf199) ⟨by dsimp only; omega, hO199, by rw [List.append_assoc]; exact hP199, by dsimp only; (try simp only [List.length_singleton] at hk199); omega, by dsimp only; omega, hb199, by rw [List.append_assoc]; exact hPz.mono (HIn.app HIn.all), hAn⟩ (by first | omega | (dsimp only; omega)) sbA (by simp only [List.append_assoc]; exact hzB))
             ·refine oS geF ?_; refine oS sT (oZ hK40 ?_); refine cF ?_; refine c_exit ?_; refine x_then_exit (x_then_exit (x_block_exit (xZ hK37 (cR fun _ hK45 => ?_)))); refine oM (oA (oZ hK45 (c_ret ?_))); refine x_block_ret (x_then_ret (?_))
              refine x_sub (Sub.refl _) (H' := K.obj lf :: (So ++ (New ++ Pool))) hzB ?_; exact xR rfl rfl (⟨ao, co, os, So, New, lf, rfl, rfl, hO, hPo, by omega, by omega, hlo, fun h0 => (by first | exact absurd h0 (by omega) | (obtain ⟨q1, q2⟩ := hAc h0; subst hE; obtain ⟨kk, w1, w2⟩ := hC167 (by omega); exact ⟨_, .grp o7 w1 (fun d hd => by obtain ⟨s, s1, s2⟩ := List.mem_map.1 hd; obtain ⟨m, hm⟩ := List.mem_iff_getElem?.1 s1; rw [← s2, show x.n.toNat - 1 = (x.n - 1).toNat by omega]; exact q1 m s (by have := (List.getElem?_eq_some_iff.1 hm).1; omega) hm) (Nat.le_refl _), by rw [List.length_map]; omega⟩))⟩)
            ·refine oS lsF (oM ?_); refine oN ?_; refine oN ?_; refine oN ?_; refine oN ?_; refine oN ?_; refine oS sP (oZ hK40 ?_); refine cF ?_; refine c_exit ?_; refine x_then_exit (x_then_exit (x_block_exit (xZ hK37 (cR fun _ hK46 => ?_)))); refine oM (oA (oZ hK46 (c_ret ?_))); refine x_block_ret (x_then_ret (?_))
             refine x_sub (Sub.refl _) (H' := K.obj lf :: (So ++ (New ++ Pool))) hzB ?_; exact xR rfl rfl (⟨ao, co, os, So, New, lf, rfl, rfl, hO, hPo, by omega, by omega, hlo, fun h0 => (by first | exact absurd h0 (by omega) | (obtain ⟨q1, q2⟩ := hAc h0; subst hE; obtain ⟨kk, w1, w2⟩ := hC167 (by omega); exact ⟨_, .grp o7 w1 (fun d hd => by obtain ⟨s, s1, s2⟩ := List.mem_map.1 hd; obtain ⟨m, hm⟩ := List.mem_iff_getElem?.1 s1; rw [← s2, show x.n.toNat - 1 = (x.n - 1).toNat by omega]; exact q1 m s (by have := (List.getElem?_eq_some_iff.1 hm).1; omega) hm) (Nat.le_refl _), by rw [List.length_map]; omega⟩))⟩)
           ·refine oS (eqF (h := o7)) ?_; refine oA (oZ hK34 ?_); refine cF (c_skip (x_block ?_)); exact x_then (hJ8 false _ _ (by exfalso; omega) sbA sbA hzB)
end Go.Proofs.YtloepfcndglmmaaDoor
namespace Go.Proofs.YtloepfcndglmmaaDoor
open Go Go.HL Go.Proofs Go.HL.Kl Go.HL.Kl.Mc Go.HL.Kl.Mc.AskE
theorem row_allV (K : TalE) (hK : K.ok) (L : Nat) (hN : K.NodeV L) (f : F) : K.RowV L f := by
  obtain ⟨n, hn⟩ : ∃ n, f.size = n := ⟨_, rfl⟩
  induction n using Nat.strongRecOn generalizing f with
  | ind n ih => exact fun at_ i1 hp i j hij hjn c Pool hc left h0 hL h5 => row_stepV K hK L hN f (fun g hg => ih g.size (by omega) g rfl) at_ i1 hp i j hij hjn c Pool hc left h0 hL h5
theorem tally_allV (K : TalE) (hK : K.ok) : ∀ L, K.NodeV L ∧ K.RoundsV L
  | 0 => ⟨fun _ _ _ _ _ _ _ _ _ _ _ _ left h0 hL _ => absurd hL (by omega), fun _ _ _ _ _ _ _ _ _ _ _ _ _ _ _ _ left h0 hL _ _ => absurd hL (by omega)⟩
  | L + 1 => by
    obtain ⟨hN, hRo⟩ := tally_allV K hK L
    exact ⟨fun x ks at_ i1 hp i j hij hjn c Pool hc left h0 hL h5 => node_stepV K hK L hN (row_allV K hK L hN) hRo x ks at_ i1 hp i j hij hjn c Pool hc left h0 (by omega) h5,
      fun x y js at_ i1 h6 hp had hhd i j hij hjn c Pool hc left h0 hL h5 hhl => rounds_stepV K hK L hN hRo x y js at_ i1 h6 hp had hhd i j hij hjn c Pool hc left h0 (by omega) h5 hhl⟩
def Fits (re : List Nd) (n : Int) : Prop := ∀ m : Nat, n = m → m ≤ 60 ∧ ∃ x ks, Shp re x ks ∧ LAcc m x ks (List.replicate (gcn re) noS) (prs m (m + 1)) 262144
set_option maxHeartbeats 4000000 in
theorem lookedV_fn (ra : Option Addr) (rc : Nat) (re : List Nd) (hre : ∀ x ∈ re, -128 ≤ x.op ∧ x.op < 128) (n : Int) : HL.Fn Tryd.prog 49 [.slice ra re.length rc, .int .i64 n] (fun W => Rd En W (.slice ra re.length rc) re) [] (fun v _ => ∃ k : Int, v = .int .i64 k ∧ (shapedB re = true → 0 ≤ n → k ≤ 262144 → Fits re n)) := by
  refine fn_of Tryd.func49 rfl rfl rfl fun w0 hw => ?_
  have hsl := hw.sl
  have hbl := hsl.le
  refine cR fun _ hK1 => ?_; refine oA (oZ hK1 (c_seq fun _ hK2 => ?_)); refine cR fun _ hK3 => ?_; refine oM ?_; refine o_callP (rShaped_fn ra rc re hre) rfl rfl rfl (fun _ st => (RdK.old0 hw).out _ st) (fun v15 hv15 => ?_); subst hv15
  cases hsb : shapedB re
  ·refine oS (s_not rfl) ?_; refine oM ?_; refine oN ?_; refine oN ?_; refine oS sT (oZ hK3 ?_); refine cT (cR fun _ hK4 => ?_); refine oA (oZ hK4 (c_ret ?_)); refine x_then_ret (?_); exact xR rfl rfl (⟨_, rfl, fun h => absurd h (by rw [hsb]; decide)⟩)
  ·obtain ⟨_, x, ks, hS⟩ := shapedB_iff.1 hsb
   have hroot : Part re (.nd x ks .nil) 0 re.length := hS.part
   have hlen := hS.len
   have hgc : gcn re ≤ re.length := List.countP_le_length
   refine oS (s_not rfl) ?_; refine oM ?_; refine oY (oM ?_); refine oY ?_
   by_cases hn0 : n < 0
   ·refine oS lsT ?_; refine oS sP (oZ hK3 ?_); refine cT (cR fun _ hK5 => ?_); refine oA (oZ hK5 (c_ret ?_)); refine x_then_ret (?_); exact xR rfl rfl (⟨_, rfl, fun _ h => absurd h (by omega)⟩)
   ·obtain ⟨n, rfl⟩ : ∃ m : Nat, n = m := ⟨n.toNat, by omega⟩
    refine oS lsF ?_; refine oS sP (oZ hK3 ?_); refine cFZ hK2 (c_seq fun _ hK6 => ?_); refine cR fun _ hK7 => ?_; refine oM ?_
    by_cases hn60 : (n : Int) > 60
    ·refine oS gtT (oZ hK7 ?_); refine cT (cR fun _ hK8 => ?_); refine oA (oZ hK8 (c_ret ?_)); refine x_then_ret (?_); exact xR rfl rfl (⟨_, rfl, fun _ _ h => absurd h (by decide)⟩)
    ·refine oS gtF (oZ hK7 ?_); refine cFZ hK6 (cR fun _ hK9 => ?_); refine oM (oM ?_); refine oS (step_cast (v' := .agg [.slice ra re.length rc, .int .i64 (n : Nat), .slice none 0 0, .int .i64 262144].toArray) (s_build (cs := [_, _, _, _]) (vs := [_, _, _]) rfl rfl (.cons rfl rfl rfl rfl rfl (.cons rfl rfl rfl rfl rfl (.cons rfl rfl rfl rfl rfl .nil)))) rfl) ?_; refine o_box rfl rfl rfl fun b26 => ?_; refine oA (oZ hK9 (cR fun _ hK10 => ?_)); refine oA (oZ hK10 (c_seq fun _ hK11 => ?_)); refine cR fun _ hK12 => ?_; refine oA (oZ hK12 (c_block ?_)); refine c_loop5 (fun (q : Nat) (ha : Option Addr) (hc : Nat) (hl : List Nat) (Sh : Hp) => q ≤ re.length ∧ BehI re hl q ∧ OwnS Eix 1 3 (.slice ha hl.length hc) hl Sh) (fun (q : Nat) (ha : Option Addr) (hc : Nat) (hl : List Nat) (Sh : Hp) => [(7, .int .i64 q), (6, .int .i64 (gcn (re.take q) : Nat))]) [(0, _), (1, _), (4, _), (5, _)] (fun (q : Nat) (ha : Option Addr) (hc : Nat) (hl : List Nat) (Sh : Hp) => (b26, .cells [.slice ra re.length rc, .int .i64 (n : Nat), .slice ha hl.length hc, .int .i64 262144].toArray 144 (0, 0)) :: Sh) (fun (q : Nat) (ha : Option Addr) (hc : Nat) (hl : List Nat) (Sh : Hp) => re.length - q) 0 none 0 [] [] ⟨Nat.zero_le _, BehI.nil, .nil⟩ sbA sbA hzB ?_
     rintro q ha hc hl Sh ⟨hql, hB, hOh⟩
     have hBl := hB.1
     refine c_seq fun _ hK13 => ?_; refine cR fun _ hK14 => ?_; refine oM (oM ?_); refine oS sC ?_; refine oS (s_lss rfl rfl) ?_; refine oZ hK14 ?_; refine c_if rfl (fun hq => ?_) (fun hq => ?_)
     ·obtain ⟨y, js, r, e, hp⟩ := part_at _ _ _ hroot q (Nat.zero_le _) (by omega)
      obtain ⟨hy, _, _⟩ := hp.head
      have hgt := gcn_take hy
      have hgq : gcn (re.take q) ≤ re.length := Nat.le_trans List.countP_le_length (by rw [List.length_take]; omega)
      have hyr := hre y (List.mem_of_getElem? hy)
      have hpe := hp.le
      have hpn := hp.len
      refine c_skip (xZ hK13 (c_seq fun _ hK15 => ?_)); refine c_block (cR fun _ hK16 => ?_); refine oA (oZ hK16 (cR fun _ hK17 => ?_)); refine oM (oA (oZ hK17 (c_seq fun _ hK18 => ?_))); refine c_block ?_; refine c_loop2 (fun (h : F) (k : Nat) => Part re h k (q + 1 + js.size)) (fun (h : F) (k : Nat) => [(8, .int .i64 (h.num : Nat)), (9, .int .i64 k)]) [(0, _), (1, _), (4, _), (5, _), (6, _), (7, _), (27, _), (28, _), (29, _), (30, _), (33, _)] (fun (h : F) (k : Nat) => (b26, .cells [.slice ra re.length rc, .int .i64 (n : Nat), .slice ha hl.length hc, .int .i64 262144].toArray 144 (0, 0)) :: Sh) (fun (h : F) (k : Nat) => h.size) (F.nd y js .nil) q hp.one_end sbA sbA hzB ?_
      rintro h k hph
      refine c_seq fun _ hK19 => ?_; refine cR fun _ hK20 => ?_; refine oM ?_; refine oS (s_gtr rfl rfl) ?_; refine oZ hK20 ?_; refine c_if rfl (fun hleft => ?_) (fun hleft => ?_)
      ·obtain ⟨z, a, b, rfl⟩ : ∃ z a b, h = F.nd z a b := by cases h with | nil => exact absurd hleft (by simp [F.num]) | nd z a b => exact ⟨z, a, b, rfl⟩
       obtain ⟨hz, hpa, hpb⟩ := hph.head
       have hzw : (a.num : Int) = z.kids := hph.wf.2.1
       have hhl := hph.le
       have hhn := hph.len
       have hnn := F.num_le a
       have hnb := F.num_le b
       simp only [F.size] at hhn
       have hnm : (F.nd z a b).num = b.num + 1 := rfl
       refine c_skip (xZ hK19 (c_block (cR fun _ hK21 => ?_))); refine oM ?_; refine oS sU (oM (oM ?_)); refine oS (s_idx rfl rfl hsl (by omega)) ?_; refine oS sF ?_; refine oS (s_ld rfl ((RdK.old0 hw).ld k 8 hz rfl (by decide) (by omega))) ?_; refine oS (step_cast (v' := .int .i64 ((a.app b).num : Nat)) (s_add rfl rfl (by omega)) (congrArg _ (by rw [F.num_app]; omega))) ?_; refine oA (oZ hK21 (c_region (oM ?_))); refine oS sD (oA (o_nil (x_block ?_))); exact x_then (x_inv ((a.app b), k + 1) (hpa.app hpb) (by rw [F.size_app]; simp only [F.size]; omega) sbA hzB)
      ·obtain rfl := F.num_nil (f := h) (by omega)
       have hke := hph.len
       obtain rfl : k = q + 1 + js.size := by simp only [F.size] at hke; omega
       refine c_exit ?_; refine x_then_exit (x_then_exit (x_block_exit (xZ hK18 (cR fun _ hK22 => ?_)))); refine oM (oM ?_); refine oS sN ?_; refine oS sF ?_; refine oS sL (oM ?_); refine o_bs (E := Eix) (xs := [q + 1 + js.size]) (vs := [_]) rfl rfl rfl rfl rfl (by decide) (by decide) fun b52 S52 hS52 => ?_; refine o_app hOh (hS52.rdk hiA) rfl rfl rfl rfl (by simp only [List.length_singleton]; omega) (by simp only [List.length_singleton]; omega) rfl pkA fun a53 c53 S53 hS53 => ?_; refine oS sN ?_; refine oS sF ?_; refine o_store rfl rfl rfl upA ltA rfl ?_; refine oZ hK22 (cR fun _ hK23 => ?_); refine oM (oM ?_); refine oS (s_idx rfl rfl hsl (by omega)) ?_; refine oS sF ?_; refine oS (s_ld rfl ((RdK.old0 hw).ld q 0 hy rfl (by decide) (by omega))) ?_; refine oS (s_convI rfl (by omega)) ?_
       by_cases h7 : y.op = 7
       ·rw [if_pos h7] at hgt
        refine oS (eqT (h := h7)) ?_; refine oZ hK23 ?_; refine cT (c_region (oM ?_)); refine oS (step_cast (v' := .int .i64 (gcn (re.take (q + 1)) : Nat)) (s_add rfl rfl (by omega)) (congrArg _ (by omega))) ?_; refine oA (o_nil (x_block (xZ hK15 (c_region (oM ?_))))); refine oS sD (oA (o_nil ?_)); exact xI (q + 1, a53, c53, hl ++ [q + 1 + js.size], S53) ⟨by dsimp only; omega, hB.snoc hp, hS53⟩
       ·rw [if_neg h7] at hgt
        rw [show gcn (re.take q) = gcn (re.take (q + 1)) by omega]
        refine oS (eqF (h := h7)) ?_; refine oZ hK23 ?_; refine cF (c_skip (x_block (xZ hK15 (c_region (oM ?_))))); refine oS sD (oA (o_nil ?_)); exact xI (q + 1, a53, c53, hl ++ [q + 1 + js.size], S53) ⟨by dsimp only; omega, hB.snoc hp, hS53⟩
     ·obtain rfl : q = re.length := by omega
      rw [List.take_length]
      have hK : TalE.ok (⟨b26, ra, rc, re, n, ha, hc, hl, gcn re⟩ : TalE) := ⟨hre, by dsimp only; omega, by dsimp only; omega, by dsimp only; omega, fun y hy h7 => grp_le hsb hy h7, fun y hy h8 => ref_n hsb hy h8, fun k y js r e hp => hB.2 k y js r e (by have h1 := hp.le; have h2 := hp.len; simp only [F.size] at h2; dsimp only at h1; omega) hp⟩
      refine c_exit ?_; refine x_then_exit (x_then_exit (x_block_exit (xZ hK11 (c_seq fun _ hK24 => ?_)))); refine cR fun _ hK25 => ?_; refine oA (oZ hK25 (c_block ?_)); refine c_loop2 (fun (p : Nat) (lf : Int) => p ≤ n + 1 ∧ -700000 ≤ lf ∧ lf ≤ 262144 ∧ (0 ≤ lf → LAcc n x ks (List.replicate (gcn re) noS) (prs n p) (262144 - lf))) (fun (p : Nat) (lf : Int) => [(10, .int .i64 p)]) [(1, _), (4, _), (5, _), (6, _)] (fun (p : Nat) (lf : Int) => (b26, .cells [.slice ra re.length rc, .int .i64 (n : Nat), .slice ha hl.length hc, .int .i64 lf].toArray 144 (0, 0)) :: Sh) (fun (p : Nat) (lf : Int) => n + 1 - p) 0 262144 ⟨Nat.zero_le _, by decide, by decide, fun _ => .nil (by decide)⟩ sbA sbA hzB ?_
      rintro p lf ⟨hp1, hlo, hhi, hLA⟩
      refine c_seq fun _ hK26 => ?_; refine cR fun _ hK27 => ?_; refine oM (oM ?_); refine oS (s_leq rfl rfl) ?_; refine oZ hK27 ?_; refine c_if rfl (fun hpn => ?_) (fun hpn => ?_)
      ·refine c_skip (xZ hK26 (c_seq fun _ hK28 => ?_)); refine c_block (cR fun _ hK29 => ?_); refine oM (oA (oZ hK29 (c_block ?_))); refine c_loop2 (fun (jz : Int) (lf : Int) => (p : Int) - 1 ≤ jz ∧ jz ≤ n ∧ -700000 ≤ lf ∧ lf ≤ 262144 ∧ (0 ≤ lf → LAcc n x ks (List.replicate (gcn re) noS) (prs n p ++ rowP n p (ends (jz + 1).toNat n)) (262144 - lf))) (fun (jz : Int) (lf : Int) => [(11, .int .i64 jz)]) [(1, _), (4, _), (5, _), (6, _), (10, _), (65, _), (66, _), (67, _), (70, _)] (fun (jz : Int) (lf : Int) => (b26, .cells [.slice ra re.length rc, .int .i64 (n : Nat), .slice ha hl.length hc, .int .i64 lf].toArray 144 (0, 0)) :: Sh) (fun (jz : Int) (lf : Int) => (jz + 1 - p).toNat) (n : Int) lf ⟨by omega, Int.le_refl _, hlo, hhi, fun h0 => by rw [show ((n : Int) + 1).toNat = n + 1 by omega, rowP_none, List.append_nil]; exact hLA h0⟩ sbA sbA hzB ?_
       rintro jz lf ⟨hj1, hj2, hlo, hhi, hLB⟩
       refine c_seq fun _ hK30 => ?_; refine cR fun _ hK31 => ?_; refine oM (oM ?_)
       by_cases hjp : jz ≥ (p : Int)
       ·obtain ⟨j, rfl⟩ : ∃ m : Nat, jz = m := ⟨jz.toNat, by omega⟩
        refine oS geT (oM ?_); refine oY (oM ?_); refine oY ?_; refine oS sN ?_; refine oY ?_; refine oS sF ?_; refine oY ?_; refine oS sL ?_; refine oY ?_
        by_cases hlf0 : lf ≥ 0
        ·refine oS geT ?_; refine oS sT (oZ hK31 ?_); refine cTZ hK30 (c_seq fun _ hK32 => ?_); refine c_block (cR fun _ hK33 => ?_); refine oA (oZ hK33 (c_seq fun _ hK34 => ?_)); refine cR fun _ hK35 => ?_; refine oA (oZ hK35 (c_block ?_)); refine c_loop5 (fun (k : Nat) (ac : Option Addr) (cc : Nat) (cs : List Sp) (Sc : Hp) => k ≤ gcn re ∧ cs.length = k ∧ cs = List.replicate k noS ∧ OwnS Esp 2 45 (.slice ac cs.length cc) cs Sc) (fun (k : Nat) (ac : Option Addr) (cc : Nat) (cs : List Sp) (Sc : Hp) => [(13, .int .i64 k), (12, .slice ac cs.length cc)]) [(1, _), (4, _), (5, _), (6, _), (10, _), (11, _), (65, _), (66, _), (67, _), (70, _), (71, _), (72, _), (73, _), (74, _), (75, _), (76, _), (77, _), (78, _), (79, _), (80, _)] (fun (k : Nat) (ac : Option Addr) (cc : Nat) (cs : List Sp) (Sc : Hp) => (b26, .cells [.slice ra re.length rc, .int .i64 (n : Nat), .slice ha hl.length hc, .int .i64 lf].toArray 144 (0, 0)) :: (Sh ++ Sc)) (fun (k : Nat) (ac : Option Addr) (cc : Nat) (cs : List Sp) (Sc : Hp) => gcn re - k) 0 none 0 [] [] ⟨Nat.zero_le _, rfl, rfl, .nil⟩ sbA sbA hzB ?_
         rintro k ac cc cs Sc ⟨hk, hcl, hcR, hOc⟩
         refine c_seq fun _ hK36 => ?_; refine cR fun _ hK37 => ?_; refine oM (oM ?_); refine oS (s_lss rfl rfl) ?_; refine oZ hK37 ?_; refine c_if rfl (fun hkN => ?_) (fun hkN => ?_)
         ·refine c_skip (xZ hK36 (c_seq fun _ hK38 => ?_)); refine c_block (c_region (oM ?_)); refine oS (s_build (cs := [_, _]) (vs := [_, _]) rfl rfl (.cons rfl rfl rfl rfl rfl (.cons rfl rfl rfl rfl rfl (.nil)))) ?_; refine o_bs (E := Esp) (xs := [noS]) (vs := [_]) rfl rfl rfl rfl rfl (by decide) (by decide) fun b90 S90 hS90 => ?_; refine o_app hOc (hS90.rdk hiA) rfl rfl rfl rfl (by simp only [List.length_singleton]; omega) (by simp only [List.length_singleton]; omega) rfl pkA fun a91 c91 S91 hS91 => ?_; refine oA (o_nil (x_block (xZ hK38 (c_region (oM ?_))))); refine oS sD (oA (o_nil ?_)); exact xI (k + 1, a91, c91, cs ++ [noS], S91) ⟨by dsimp only; omega, by simp [hcl], by dsimp only; rw [hcR, ← List.replicate_succ'], hS91⟩
         ·obtain rfl : k = gcn re := by omega
          have hcN : cs.length = gcn re := hcl
          refine c_exit ?_; refine x_then_exit (x_then_exit (x_block_exit (xZ hK34 (c_region (oM (oM (oM (oM ?_)))))))); refine o_call ((tally_allV (⟨b26, ra, rc, re, n, ha, hc, hl, gcn re⟩ : TalE) hK 262145).1 x ks 0 _ hroot p j (by omega) (show j ≤ n by omega) ⟨ac, cc, cs⟩ Sc ⟨hcN, hOc.sl, hOc.rds⟩ lf (by omega) (by omega) (by omega)) rfl rfl rfl ((Pick.takeC pkA pkA)) (fun _ st => ⟨(RdK.old0 hw).out _ st, St.apart_M st (by exact hiB) hw Apart.nil (by decide), (hOh.rdk hiA).out _ st, St.apart st (Pick.takeC pkA pkA) hOh hiA⟩) (fun v96 S96 ⟨a96, c96, zs96, Sz96, New96, lf96, hv96, hS96, hO96, hP96, hk96, hl96, hb96, hC96⟩ => ?_); subst hv96
          subst hS96; refine o_nil (x_block (xZ hK32 (c_region (oM ?_)))); refine oS sU (oA (o_nil ?_))
          have hLn : 0 ≤ lf96 → LAcc n x ks (List.replicate (gcn re) noS) (prs n p ++ rowP n p (ends ((j : Int) - 1 + 1).toNat n)) (262144 - lf96) := fun h0 => by
            have h1 := hLB (by omega)
            rw [show ((j : Int) + 1).toNat = j + 1 by omega] at h1
            have h2 := hC96 h0
            have hcr : cs = List.replicate (gcn re) noS := hcR
            rw [hcr] at h2
            rw [show ((j : Int) - 1 + 1).toNat = j by omega, rowP_snoc (by omega), ← List.append_assoc, show 262144 - lf96 = (262144 - lf) + (lf - lf96) by omega]
            exact h1.snoc h2
          exact x_then (x_inv ((j : Int) - 1, lf96) ⟨by dsimp only; omega, by dsimp only; omega, hb96, by dsimp only; omega, hLn⟩ (by dsimp only; omega) sbA hzB)
        ·refine oS geF ?_; refine oS sT (oZ hK31 ?_); refine cF ?_; refine c_exit ?_; refine x_then_exit (x_then_exit (x_block_exit (x_block (xZ hK28 (c_region (oM ?_)))))); refine oS sD (oA (o_nil ?_))
         have hLn : 0 ≤ lf → LAcc n x ks (List.replicate (gcn re) noS) (prs n (p + 1)) (262144 - lf) := fun h0 => by first | exact absurd h0 (by omega) | (have h1 := hLB h0; rw [prs_succ]; rw [show (jz + 1).toNat = p by omega] at h1; exact h1)
         exact xI (p + 1, lf) ⟨by dsimp only; omega, hlo, hhi, hLn⟩
       ·refine oS geF (oM ?_); refine oN ?_; refine oN ?_; refine oN ?_; refine oN ?_; refine oN ?_; refine oS sP (oZ hK31 ?_); refine cF ?_; refine c_exit ?_; refine x_then_exit (x_then_exit (x_block_exit (x_block (xZ hK28 (c_region (oM ?_)))))); refine oS sD (oA (o_nil ?_))
        have hLn : 0 ≤ lf → LAcc n x ks (List.replicate (gcn re) noS) (prs n (p + 1)) (262144 - lf) := fun h0 => by first | exact absurd h0 (by omega) | (have h1 := hLB h0; rw [prs_succ]; rw [show (jz + 1).toNat = p by omega] at h1; exact h1)
        exact xI (p + 1, lf) ⟨by dsimp only; omega, hlo, hhi, hLn⟩
      ·refine c_exit ?_; refine x_then_exit (x_then_exit (x_block_exit (xZ hK24 (cR fun _ hK39 => ?_)))); refine oM ?_; refine oS sN ?_; refine oS sF ?_; refine oS sL ?_; refine oS (s_max rfl rfl) ?_; refine oS sU (oA (oZ hK39 (c_ret ?_))); refine ?_; exact xR rfl rfl (⟨_, rfl, fun _ _ hk m hm => ⟨by omega, x, ks, hS, by obtain rfl : n = m := (by omega); have h1 := hLA (by omega); rw [show p = n + 1 by omega] at h1; exact h1.mono (by omega)⟩⟩)
theorem costlyV_fn (ra : Option Addr) (rc : Nat) (re : List Nd) (hre : ∀ x ∈ re, -128 ≤ x.op ∧ x.op < 128) (n : Int) : HL.Fn Tryd.prog 23 [.slice ra re.length rc, .int .i64 n] (fun W => Rd En W (.slice ra re.length rc) re) [] (fun v _ => ∃ b : Bool, v = .bool b ∧ (b = false → shapedB re = true → 0 ≤ n → Fits re n)) := by
  refine fn_of Tryd.func23 rfl rfl rfl fun w0 hw => ?_; refine cR fun _ hK1 => ?_; refine oA (oZ hK1 (cR fun _ hK2 => ?_)); refine oM (oM ?_); refine o_callP (lookedV_fn ra rc re hre n) rfl rfl rfl (fun _ st => (RdK.old0 hw).out _ st) (fun v7 ⟨k, hv7, hF⟩ => ?_); subst hv7
  refine oS (s_gtr rfl rfl) ?_; refine oA (oZ hK2 (c_ret ?_)); refine ?_; exact xR rfl rfl (⟨_, rfl, fun hb hs hn => hF hs hn (by have h := of_decide_eq_false hb; omega)⟩)
def C0 (re : List Nd) : Caps := List.replicate (gcn re) noS
def BNone (w : List UInt8) (x : Nd) (ks : F) (c0 : Caps) (p : Nat) : Prop := ∀ i j, p ≤ i → i ≤ j → j ≤ w.length → LF1 w x ks i j c0 = []
structure BSome (w : List UInt8) (x : Nd) (ks : F) (c0 : Caps) (p i j : Nat) (c : Caps) : Prop where
  lo : p ≤ i
  ij : i ≤ j
  hi : j ≤ w.length
  hd : (LF1 w x ks i j c0).head? = some c
  fst : ∀ i' j', p ≤ i' → i' < i → i' ≤ j' → j' ≤ w.length → LF1 w x ks i' j' c0 = []
  lng : ∀ j', j < j' → j' ≤ w.length → LF1 w x ks i j' c0 = []
  len : c.length = c0.length
  ok : ∀ s ∈ c, s = noS ∨ (0 ≤ s.fr ∧ s.fr ≤ s.to ∧ s.to ≤ w.length)
def BkP (re : List Nd) (w : List UInt8) (p : Int) (v : Value) (S' : Hp) : Prop :=
  (shapedB re = false ∧ v = .tuple #[.slice none 0 0, .bool false, .int .i64 49] ∧ S' = []) ∨ (shapedB re = true ∧ ¬ (0 ≤ p ∧ p ≤ w.length) ∧ v = .tuple #[.slice none 0 0, .bool false, .int .i64 1] ∧ S' = []) ∨
  (shapedB re = true ∧ ∃ m : Nat, p = m ∧ m ≤ w.length ∧ ∃ x ks, Shp re x ks ∧ ((BNone w x ks (C0 re) m ∧ v = .tuple #[.slice none 0 0, .bool false, .int .i64 0] ∧ S' = []) ∨
    ∃ (i j : Nat) (c : Caps) (a : Option Addr) (cc : Nat), BSome w x ks (C0 re) m i j c ∧ v = .tuple #[.slice a (gcn re + 1) cc, .bool true, .int .i64 0] ∧ OwnS Esp 2 45 (.slice a (gcn re + 1) cc) (⟨(i : Nat), (j : Nat)⟩ :: c) S'))
structure QI (K : BkE) (f : Nat) (q : BkS) (rest : Nat) : Prop where
  rep : K.Rep q
  fin : Fin K.sr q.S
  inv : Inv K.sr K.N q.S
  cs : q.S.cs = noS :: C0 K.re
  wk : q.S.wk + rest ≤ 786432
  f1 : f ≤ q.S.fuel + q.S.wk
  f2 : q.S.fuel ≤ f
  sz : q.S.sz ≤ (K.sr.cR + 2) * q.S.wk
theorem qi_start {K : BkE} {s : BkS} {f rest : Nat} (hR : K.Rep s) (hN : K.N = gcn K.re) (hs : s.S = ⟨[], [], [], List.replicate (gcn K.re + 1) noS, f, 0⟩) (hr : rest ≤ 786432) : QI K f s rest := by
  refine ⟨hR, ?_, ?_, by rw [hs]; exact List.replicate_succ, by rw [hs]; show 0 + rest ≤ _; omega, by rw [hs]; exact Nat.le_refl _, by rw [hs]; exact Nat.le_refl _, by rw [hs]; exact Nat.zero_le _⟩
  · rw [hs]
    exact ⟨fun _ h => (by cases h), fun k g h => (by simp at h), fun z hz => .inl (List.eq_of_mem_replicate hz)⟩
  · rw [hs]
    exact ⟨fun k g h => (by simp at h), List.nodup_nil, fun _ h => (by cases h)⟩
theorem c0_ok {K : BkE} (hN : K.N = gcn K.re) : CapOk K.sr K.N (C0 K.re) := ⟨by rw [C0, List.length_replicate, hN], fun s hs => .inl (List.eq_of_mem_replicate hs)⟩
theorem sz_ok {K : BkE} (hK : K.ok) {S : SS} (h : S.sz ≤ (K.sr.cR + 2) * S.wk) (hw : S.wk ≤ 786432) : Sz S := by
  have h1 : K.sr.cR ≤ 250001 := by
    have h2 := hK.Rl
    show (K.R.length + 3) / 4 ≤ _
    omega
  have h2 : (K.sr.cR + 2) * S.wk ≤ 250003 * 786432 := Nat.mul_le_mul (by omega) hw
  unfold SS.sz at h
  exact ⟨by omega, by omega⟩
theorem qi_step {K : BkE} (hK : K.ok) (hN : K.N = gcn K.re) {f : Nat} {q : BkS} {rest k : Nat} (h : QI K f q (k + rest)) (hf : 786432 ≤ f) {x : Nd} {ks : F} {e0 i j : Nat} {Z : List Caps} (hp : Part K.re (.nd x ks .nil) 0 e0) (hij : i ≤ j) (hj : j ≤ K.w.length) (hc : Ct K.w.length (.node x ks i j (C0 K.re)) Z k) :
    ∃ b S', Ev K.sr q.S (.take 0 i j 0) b S' ∧ Sz S' ∧ (∀ q' : BkS, K.Rep q' → Fin K.sr q'.S → q'.S = S' → (b = true → ∃ r, (LF1 K.w x ks i j (C0 K.re)).head? = some r ∧ CapOk K.sr K.N r ∧ q'.S.cs = noS :: r) ∧ (b = false → LF1 K.w x ks i j (C0 K.re) = [] ∧ QI K f q' rest)) := by
  obtain ⟨hR, hF, hI, hcs, hwk, hf1, hf2, hsz⟩ := h
  obtain ⟨b, S', hE, hI', hw', hy, hn⟩ := take_ok hK.ok hc hp hij hj (c0_ok hN) hI hcs (by omega)
  obtain ⟨g1, g2, g3⟩ := hE.grow
  have hm := hE.mono
  have hsl : K.sr.slack (.take 0 i j 0) = 0 := rfl
  have hmul : (K.sr.cR + 2) * q.S.wk + (K.sr.cR + 2) * (S'.wk - q.S.wk) = (K.sr.cR + 2) * S'.wk := by rw [← Nat.mul_add, show q.S.wk + (S'.wk - q.S.wk) = S'.wk by omega]
  have hsz' : S'.sz ≤ (K.sr.cR + 2) * S'.wk := by omega
  refine ⟨b, S', hE, sz_ok hK hsz' (by omega), fun q' hR' hF' he => ⟨fun hb => ?_, fun hb => ?_⟩⟩
  · rw [he]; exact hy hb
  · obtain ⟨h1, h2⟩ := hn hb
    exact ⟨h1, hR', hF', by rw [he]; exact hI', by rw [he, h2]; exact hcs, by rw [he]; omega, by rw [he]; omega, by rw [he]; have := hm.fuel; omega, by rw [he]; exact hsz'⟩
set_option maxHeartbeats 4000000 in
theorem bFind_fn (ra : Option Addr) (rc : Nat) (re : List Nd) (hre : ∀ x ∈ re, -128 ≤ x.op ∧ x.op < 128) (ta : Option Addr) (tc : Nat) (w : List UInt8) (hrl : re.length ≤ 1000000) (hwl : w.length ≤ 1000000) (p : Int) (f : Nat) (hf : 786432 ≤ f) (hf2 : f ≤ 9223372036854775807) (hfit : shapedB re = true → Fits re w.length) : HL.Fn Tryd.prog 16 [.slice ra re.length rc, .slice ta w.length tc, .int .i64 p, .int .i64 (f : Nat)] (fun W => Rd En W (.slice ra re.length rc) re ∧ Rd Eb W (.slice ta w.length tc) w ∧ RdP W 0 0 (Esp noS)) [] (BkP re w p) := by
  refine fn_of Tryd.func16 rfl rfl rfl fun w0 hw => ?_; refine cR fun _ hK1 => ?_; refine oA (oA (oA (oZ hK1 (c_seq fun _ hK2 => ?_)))); refine cR fun _ hK3 => ?_; refine oM ?_; refine o_callP (shaped_fn ra rc re hre) rfl rfl rfl (fun w st => (RdK.old0 hw.1).out w st) (fun v16 hv16 => ?_); subst hv16
  cases hsb : shapedB re
  ·refine oS (s_not rfl) ?_; refine oZ hK3 ?_; refine cT (cR fun _ hK4 => ?_); refine oA (oA (oA (oZ hK4 (c_ret ?_)))); refine x_then_ret (?_); refine x_sub (Sub.refl _) (H' := []) hzB ?_; exact x_ret rfl (.tmp rfl (.tmp rfl (.tmp rfl (.nil)))) (.inl ⟨hsb, rfl, rfl⟩)
  ·obtain ⟨hw60, x, ks, hS, cost, hct, hsum⟩ := hfit hsb w.length rfl
   refine oS (s_not rfl) ?_; refine oZ hK3 ?_; refine cFZ hK2 (c_seq fun _ hK5 => ?_); refine cR fun _ hK6 => ?_; refine oM ?_
   by_cases hp0 : p < 0
   ·refine oS lsT (oM ?_); refine oN ?_; refine oN ?_; refine oN ?_; refine oN ?_; refine oS sT (oM ?_); refine oN ?_; refine oN ?_; refine oS sT (oZ hK6 ?_); refine cT (cR fun _ hK7 => ?_); refine oA (oA (oA (oZ hK7 (c_ret ?_)))); refine x_then_ret (?_); refine x_sub (Sub.refl _) (H' := []) hzB ?_; exact x_ret rfl (.tmp rfl (.tmp rfl (.tmp rfl (.nil)))) (.inr (.inl ⟨hsb, fun h => by omega, rfl, rfl⟩))
   ·obtain ⟨m, rfl⟩ : ∃ m : Nat, p = m := ⟨p.toNat, by omega⟩
    refine oS lsF (oM ?_); refine oY (oM ?_); refine oY (oM ?_); refine oY ?_; refine oS sC ?_; refine oY ?_
    by_cases hpl : (m : Int) > w.length
    ·refine oS gtT ?_; refine oS sP (oM ?_); refine oN ?_; refine oN ?_; refine oS sT (oZ hK6 ?_); refine cT (cR fun _ hK8 => ?_); refine oA (oA (oA (oZ hK8 (c_ret ?_)))); refine x_then_ret (?_); refine x_sub (Sub.refl _) (H' := []) hzB ?_; exact x_ret rfl (.tmp rfl (.tmp rfl (.tmp rfl (.nil)))) (.inr (.inl ⟨hsb, fun h => by omega, rfl, rfl⟩))
    ·refine oS gtF ?_; refine oS sP (oM ?_); refine oY (oM ?_); refine oY ?_; refine oS lsF ?_; refine oS sP (oZ hK6 ?_); refine cFZ hK5 (cR fun _ hK9 => ?_); refine oM (oM (oM ?_)); refine o_call (startK_fn ra rc re hre ta tc w hrl hwl hsb f) rfl rfl rfl (by exact .nil) (fun w st => ⟨(RdK.old0 hw.1).out w st, (RdPK.old0 hw.2.2).out w st⟩) (fun v33 S33 ⟨K, s0, Sb, SX, hv33, hS33, ⟨q1, q2, q3, q4, q5, q6, hN⟩, hOb, hOX, hK, hR0, hs0⟩ => ?_)
     subst q1; subst q2
     subst q3; subst q4
     subst q5; subst q6
     subst hv33; subst hS33
     have hroot : Part K.re (.nd x ks .nil) 0 K.re.length := hS.part
     have hat : 0 < K.re.length := (List.getElem?_eq_some_iff.1 hroot.head.1).1
     have hq0 : QI K f s0 (rsum cost K.w.length (K.w.length + 1 - m)) := qi_start hR0 hN hs0 (by have := rsum_le (cost := cost) (n := K.w.length) (m := K.w.length + 1 - m) (by omega); omega)
     refine oA (oZ hK9 (c_seq fun _ hK10 => ?_)); refine cR fun _ hK11 => ?_; refine oM (oA (oZ hK11 (c_block ?_)))
     -- not carried: 8 9 10
     refine c_loop2 (fun (q : BkS) (i : Nat) => QI K f q (rsum cost K.w.length (K.w.length + 1 - i)) ∧ m ≤ i ∧ i ≤ K.w.length + 1 ∧ (∀ i2 j2, m ≤ i2 → i2 < i → i2 ≤ j2 → j2 ≤ K.w.length → LF1 K.w x ks i2 j2 (C0 K.re) = [])) (fun (q : BkS) (i : Nat) => [(12, .int .i64 i)]) [(1, _), (11, _)] (fun (q : BkS) (i : Nat) => ((K.obj q) :: K.tl q) ++ (Sb ++ SX)) (fun (q : BkS) (i : Nat) => K.w.length + 1 - i) s0 m ⟨hq0, Nat.le_refl _, by omega, fun _ _ h1 h2 => absurd h2 (by omega)⟩ sbA sbA hzB ?_
     rintro q i ⟨hQ, hmi, hil, hno⟩
     refine c_seq fun _ hK12 => ?_; refine cR fun _ hK13 => ?_; refine oM (oM ?_); refine oS sC ?_
     by_cases hin : (i : Int) ≤ K.w.length
     ·refine oS leT (oZ hK13 ?_); refine cTZ hK12 (c_seq fun _ hK14 => ?_); refine c_block (cR fun _ hK15 => ?_); refine oM ?_; refine oS sC (oA (oZ hK15 (c_block ?_))); refine c_loop2 (fun (q : BkS) (e : Int) => QI K f q (((dwn i e).map (cost i)).sum + rsum cost K.w.length (K.w.length - i)) ∧ e ≤ K.w.length ∧ -1 ≤ e ∧ (∀ j2 : Nat, e < j2 → j2 ≤ K.w.length → LF1 K.w x ks i j2 (C0 K.re) = [])) (fun (q : BkS) (e : Int) => [(13, .int .i64 e)]) [(1, _), (11, _), (12, _), (35, _), (36, _), (37, _), (38, _), (41, _), (42, _)] (fun (q : BkS) (e : Int) => ((K.obj q) :: K.tl q) ++ (Sb ++ SX)) (fun (q : BkS) (e : Int) => (e + 1).toNat) q K.w.length ⟨by rw [dwn_ends]; rw [show K.w.length + 1 - i = (K.w.length - i) + 1 by omega, rsum, show K.w.length - (K.w.length - i) = i by omega] at hQ; exact hQ, Int.le_refl _, by omega, fun j2 h1 h2 => absurd h1 (by omega)⟩ sbA sbA hzB ?_
      rintro q e ⟨hQ, hel, hel1, hnj⟩
      refine c_seq fun _ hK16 => ?_; refine cR fun _ hK17 => ?_; refine oM (oM ?_)
      by_cases hei : e ≥ (i : Int)
      ·obtain ⟨j, rfl⟩ : ∃ m : Nat, e = (m : Int) := ⟨e.toNat, by omega⟩
       have hij : i ≤ j := by omega
       have hj : j ≤ K.w.length := by omega
       rw [dwn_cons hij, List.map_cons, List.sum_cons, Nat.add_assoc] at hQ
       obtain ⟨Z, hcz⟩ := hct (i, j) (mem_prs (by omega) hij hj)
       obtain ⟨b, S1, hE, hz1, hans⟩ := qi_step hK hN hQ hf hroot hij hj hcz
       refine oS geT (oZ hK17 ?_); refine cTZ hK16 (c_seq fun _ hK18 => ?_); refine c_block (cR fun _ hK19 => ?_); refine oM (oM (oM ?_)); refine oS (s_build (cs := [_, _]) (vs := [_, _]) rfl rfl (.cons rfl rfl rfl rfl rfl (.cons rfl rfl rfl rfl rfl (.nil)))) ?_; refine o_call (takeB_all hK 9223372036854775807 (Nat.le_refl _) q 0 i j 0 b S1 hQ.rep hQ.fin hat hij hj (Nat.zero_le _) hE (Nat.le_trans hQ.f2 hf2) hz1) rfl rfl rfl pkA (fun w st => ⟨(RdK.old0 hw.1).out w st, st.apart_M (hin_cons meA (hin_cons meA (hin_cons meA (hin_cons meA (hin_app hiA hiA))))) hw.1 Apart.nil (by decide), (RdK.old0 hw.2.1).out w st, st.apart_M (hin_cons meA (hin_cons meA (hin_cons meA (hin_cons meA (hin_app hiA hiA))))) hw.2.1 Apart.nil (by decide), (hOb.rdk hiA).out w st, st.apart (S := ((K.obj q) :: K.tl q)) pkA hOb hiA, (hOX.rdk hiA).out w st, st.apart (S := ((K.obj q) :: K.tl q)) pkA hOX hiA, (RdPK.old0 hw.2.2).out w st, st.notin (hin_cons meA (hin_cons meA (hin_cons meA (hin_cons meA (hin_app hiA hiA))))) hw.2.2 (by simp [Esp]) (by intro h; cases h)⟩) (fun v52 S52 ⟨q2, hv52, hS52, hR2, hF2, he2⟩ => ?_)
       subst hv52; subst hS52
       cases b
       ·obtain ⟨hlf, hQ2⟩ := (hans q2 hR2 hF2 he2).2 rfl
        refine oA (oZ hK19 (c_block (cR fun _ hK20 => ?_))); refine oM ?_; refine oS sN ?_; refine oS sF ?_; refine oS sL (oA (oZ hK20 ?_)); refine cF (cR fun _ hK21 => ?_); refine oM (oA (oZ hK21 ?_)); refine cF (c_skip (x_block (x_block (xZ hK18 (c_region (oM ?_)))))); refine oS sU (oA (o_nil ?_)); exact xI (q2, (j : Int) - 1) ⟨hQ2, by dsimp only; omega, by dsimp only; omega, fun j2 h1 h2 => if h : (j : Int) < j2 then hnj j2 h h2 else (by have e9 : j2 = j := (by dsimp only at h1; omega); subst e9; exact hlf)⟩
       ·obtain ⟨r, hhd, hcr, hcs2⟩ := (hans q2 hR2 hF2 he2).1 rfl
        have hO2 := hR2.sp
        rw [hcs2] at hO2
        have hsl2 := hO2.sl
        have hrl2 : (noS :: r).length = K.N + 1 := by rw [List.length_cons, hcr.len]
        rw [hrl2] at hsl2
        refine oA (oZ hK19 (c_block (cR fun _ hK22 => ?_))); refine oM ?_; refine oS sN ?_; refine oS sF ?_; refine oS sL (oA (oZ hK22 ?_)); refine cF (cR fun _ hK23 => ?_); refine oM (oA (oZ hK23 ?_)); refine cT (cR fun _ hK24 => ?_); refine oM ?_; refine oS sN ?_; refine oS sF ?_; refine oS sL (oM (oM ?_)); refine oS (s_build (cs := [_, _]) (vs := [_, _]) rfl rfl (.cons rfl rfl rfl rfl rfl (.cons rfl rfl rfl rfl rfl (.nil)))) ?_; refine oS (s_idx rfl rfl hsl2 (by omega)) ?_; refine o_stSE 0 ⟨(i : Nat), (j : Nat)⟩ hO2 pkA rfl rfl (by rw [hrl2]; omega) (by rfl) fun S' hS' => ?_; refine oZ hK24 (cR fun _ hK25 => ?_); refine oM ?_; refine oS sN ?_; refine oS sF ?_; refine oS sL (oA (oA (oA (oZ hK25 (c_ret ?_))))); refine x_block_ret (x_block_ret (x_then_ret (x_then_ret (x_block_ret (x_block_ret (x_then_ret (x_then_ret (x_block_ret (x_then_ret (?_))))))))))
        refine x_sub (Sub.refl _) (H' := S') hzB ?_; exact x_ret rfl (.tmp rfl (.tmp rfl (.tmp rfl (.nil)))) (.inr (.inr ⟨hsb, m, rfl, by omega, x, ks, hS, .inr ⟨i, j, r, K.sa, K.sc, ⟨hmi, hij, hj, hhd, hno, fun j2 h1 h2 => hnj j2 (by omega) h2, by rw [hcr.len, hN, C0, List.length_replicate], hcr.ok⟩, by rw [hN]; rfl, by rw [← hN]; exact hS'⟩⟩))
      ·rw [dwn_nil hei, List.map_nil, List.sum_nil, Nat.zero_add] at hQ
       refine oS geF (oZ hK17 ?_); refine cF ?_; refine c_exit ?_; refine x_then_exit (x_then_exit (x_block_exit (x_block (xZ hK14 (c_region (oM ?_)))))); refine oS sD (oA (o_nil ?_)); exact xI (q, i + 1) ⟨by dsimp only; rw [show K.w.length + 1 - (i + 1) = K.w.length - i by omega]; exact hQ, by dsimp only; omega, by dsimp only; omega, fun i2 j2 h1 h2 h3 h4 => if h : i2 < i then hno i2 j2 h1 h h3 h4 else (by have e9 : i2 = i := (by dsimp only at h2; omega); subst e9; exact hnj j2 (by omega) h4)⟩
     ·obtain rfl : i = K.w.length + 1 := by omega
      refine oS leF (oZ hK13 ?_); refine cF ?_; refine c_exit ?_; refine x_then_exit (x_then_exit (x_block_exit (xZ hK10 (cR fun _ hK26 => ?_)))); refine oA (oA (oA (oZ hK26 (c_ret ?_)))); refine ?_; refine x_sub (Sub.refl _) (H' := []) hzB ?_; exact x_ret rfl (.tmp rfl (.tmp rfl (.tmp rfl (.nil)))) (.inr (.inr ⟨hsb, m, rfl, by omega, x, ks, hS, .inl ⟨fun i2 j2 h1 h2 h3 => hno i2 j2 h1 (by omega) h2 h3, rfl, rfl⟩⟩))
end Go.Proofs.YtloepfcndglmmaaDoor
namespace Go.HL.Kl.Mc
open Go Go.HL Go.HL.Kl AskE
structure WalkE where
  (bW : Nat)
  (ra : Option Addr) (rc : Nat) (re : List Nd) (ta : Option Addr) (tc : Nat) (tx : List UInt8) (ca : Option Addr) (N cc : Nat)
namespace WalkE
abbrev vre (K : WalkE) : Value := .slice K.ra K.re.length K.rc
abbrev vtx (K : WalkE) : Value := .slice K.ta K.tx.length K.tc
abbrev vca (K : WalkE) : Value := .slice K.ca K.N K.cc
abbrev cells (K : WalkE) : List Value := [K.vre, K.vtx, K.vca]
end WalkE
structure EnvW (w : World) (K : WalkE) (M : List Nat) : Prop where
  p1 : RdP w K.bW 0 K.cells
  d1 : Rd En w K.vre K.re
  d2 : Rd Eb w K.vtx K.tx
  n1 : K.bW ∉ M
  a1 : Apart M K.vre
  a2 : Apart M K.vtx
structure WalkE.ok (K : WalkE) : Prop where
  rng : ∀ x ∈ K.re, -128 ≤ x.op ∧ x.op < 128
  no8 : ∀ x ∈ K.re, ¬ x.op = 8
  len : K.re.length ≤ 1000000
  tx : K.tx.length ≤ 1000000
def BestK (P : Program) (K : WalkE) (fn T : Nat) (x : Nd) (ks : F) : Prop := ∀ (i i1 p q : Nat) (cs : List Sp) (Sc : Hp), Part K.re (.nd x ks .nil) i i1 → p ≤ q → q ≤ K.tx.length → der1 K.tx x ks p q → cs.length = K.N → Slots K.re K.N → OwnS Esp 2 T K.vca cs Sc →
  Fn P fn [pt K.bW, .int .i64 i, .int .i64 p, .int .i64 q] (fun W => EnvW W K (keys Sc)) Sc (fun _ S' => OwnS Esp 2 T K.vca (bst1 K.tx x ks p q cs) S')
def CapR (x : Nd) (r s : Nat) : Prop := r = s ∨ (x.mx = -1 ∧ max x.mn.toNat 1 ≤ r ∧ s = max x.mn.toNat 1)
end Go.HL.Kl.Mc
