/- Part of the proofs over this seat: see the text that holds the theorem. Conditions: each theorem bears its own. -/
import Derived.Test.YtloepfcndglmmaaDoorHTZ
import Derived.Test.YtloepfcndglmmaaDoorBR1Z
import Derived.Test.YtloepfcndglmmaaDoorHM2Z
import Derived.Test.YtloepfcndglmmaaDoorVZV5Z
namespace Go.Proofs.YtloepfcndglmmaaDoor
open Go Go.HL Go.Proofs Go.HL.Kl Go.HL.Kl.Mc Go.HL.Kl.Mc.AskE
open FinE
theorem hin_apF {A B H : Hp} (h1 : HIn A H) (h2 : HIn B H) : HIn (A ++ B) H := fun p hp => (List.mem_append.1 hp).elim (h1 p) (h2 p)
structure FinJ where
  (a : Option Addr) (c : Nat) (zs : List (Sl Sp)) (S New : Hp)
set_option maxHeartbeats 4000000 in
theorem rounds_stepF (K : FinE) (hK : K.ok) (x y : Nd) (js : F) (n : Nat) (hN : K.NodeF y js) (ih : K.RndF x y js n) (h6 : x.op = 6) (at_ i1 : Nat) (hp : Part K.re (.nd x (.nd y js .nil) .nil) at_ i1) (had i j : Nat) (hij : i ≤ j) (hjn : j ≤ K.w.length) (c : Sl Sp) (Pool : Hp) (hc : RowP K.N Pool c) (hoc : OkC K.w.length c.xs) (Z : List Caps) (kk : Nat) (hCt : Ct K.w.length (.rnd x y js had i j c.xs) Z kk) (hkn : kk < n + 1) (hhk : had + kk ≤ 900000) (hkk : kk ≤ 800000) : HL.Fn Tryd.prog 118 [pt K.bF, .int .i64 at_, .int .i64 had, .int .i64 i, .int .i64 j, .slice c.a c.xs.length c.c] (fun W => K.Env W (keys Pool)) Pool (K.PostF Pool (semQ K.w (.rnd x y js had i j c.xs))) := by
  refine fn_of Tryd.func118 rfl rfl rfl fun w0 hw => ?_
  have hnl := hK.nl
  have hNl := hK.Nl
  have hrl := hK.rl
  have hhs := hw.d2.sl
  have hres := hw.d1.sl
  have hple := hp.le
  have hpl := hp.len
  obtain ⟨hx, hpk, _⟩ := hp.head
  have hp1 := hpk.one
  have hby := hK.beh _ _ _ _ _ hp
  have hbl := (List.getElem?_eq_some_iff.1 hby).1
  have hbz : at_ + 1 + (F.nd y js .nil).size ≤ K.re.length := hpk.le
  have hat := (List.getElem?_eq_some_iff.1 hx).1
  have hcx := hc.1
  have hrf := rep_flds hp.wf.1 h6
  have hlen : (ddp (semQ K.w (.rnd x y js had i j c.xs))).length ≤ 1000000 := Nat.le_trans (hCt.res hij).2 (by show kk + 1 ≤ _; omega)
  have hsem : semQ K.w (.rnd x y js had i j c.xs) = (gatS (rEs x had i j) (fun e => LF1 K.w y js i e (emp (F.nd y js .nil).flat c.xs)) (fun e c1 => semQ K.w (.rnd x y js (had + 1) e j c1))) ++ (if i = j ∧ x.mn ≤ (had : Int) then [c.xs] else []) := rnd_eq
  rw [hsem] at hlen
  refine cR fun _ hK1 => ?_; refine oA (oZ hK1 (cR fun _ hK2 => ?_)); refine oM ?_; refine oS sN ?_; refine oS sF ?_; refine oS (s_ld rfl ((RdPK.old hw.d0 hw.a0).cel (j := 0) rfl rfl)) ?_; refine oM ?_; refine oS (s_idx rfl rfl hres (by omega)) ?_; refine oS (s_ldB rfl ((RdK.old hw.d1 hw.a1).lds at_ hx rfl) (by rfl)) ?_; refine o_alloc (l := En zN) (by rw [En_zero]; rfl) rfl fun b13 => ?_; refine o_stW rfl rfl upA lnA lnA onA ?_; refine oZ hK2 (cR fun _ hK3 => ?_); refine oA (oZ hK3 ?_); refine c_seqJ (ι := FinJ) (fun q => OwnS Esl 1 32 (.slice q.a q.zs.length q.c) q.zs q.S ∧ PoolR q.zs K.N (q.New ++ Pool) ∧ q.zs.map Sl.xs = ddp (gatS (rEs x had i j) (fun e => LF1 K.w y js i e (emp (F.nd y js .nil).flat c.xs)) (fun e c1 => semQ K.w (.rnd x y js (had + 1) e j c1)))) (fun q => [(14, .slice q.a q.zs.length q.c)]) [(2, _), (3, _), (4, _), (5, _), (12, _), (13, _)] (fun q => (b13, .cells (En x).toArray 80 (0, 0)) :: (q.S ++ (q.New ++ Pool))) sbA ?_ ?_
  ·rintro ⟨ao, co, os, So, New⟩ ⟨hO, hPo, hGq⟩
   dsimp only at hO hPo hGq ⊢
   have hol : os.length ≤ 1000000 := by
     have h : os.length = (ddp (gatS (rEs x had i j) (fun e => LF1 K.w y js i e (emp (F.nd y js .nil).flat c.xs)) (fun e c1 => semQ K.w (.rnd x y js (had + 1) e j c1)))).length := by rw [← hGq, List.length_map]
     rw [h]; exact Nat.le_trans (gatS_sub (A := (fun e => LF1 K.w y js i e (emp (F.nd y js .nil).flat c.xs))) (B := (fun e c1 => semQ K.w (.rnd x y js (had + 1) e j c1))) (List.append_nil _).symm _) hlen
   refine c_seq fun _ hK5 => ?_; refine cR fun _ hK6 => ?_; refine oM (oM ?_)
   by_cases hijq : (i : Int) = j
   ·refine oS eqT (oM ?_); refine oY (oM ?_); refine oY ?_; refine oS sF ?_; refine oY ?_; refine oS sL ?_; refine oY ?_
    by_cases hmn2 : (had : Int) ≥ x.mn
    ·refine oS geT ?_; refine oS sT (oZ hK6 ?_); refine cT (c_region (oM (oM ?_))); refine o_call (moreF_fn ao co os So (New ++ Pool) hO K.N hPo c (hc.mono hiA) hol hNl) rfl rfl rfl (pkA) (fun _ _ => trivial) (fun v103 S103 ⟨a103, c103, zs103, SL103, hv103, hS103, hO103, hP103, hm103⟩ => ?_); subst hv103
     subst hS103; refine oA (oZ hK5 (cR fun _ hK7 => ?_)); refine oM (oA (oZ hK7 (c_ret ?_))); refine ?_
     first | (refine x_sub (Sub.refl _) (H' := SL103 ++ (New ++ Pool)) hzB ?_; exact x_ret rfl (.tmp rfl (.nil)) ⟨a103, c103, zs103, SL103, New, rfl, rfl, hO103, hP103, by rw [hm103, hGq, hsem, if_pos ⟨by omega, by omega⟩]; show _ = addC [] _; rw [addC_app]; rfl⟩) | (refine x_sub (Sub.refl _) (H' := So ++ (New ++ Pool)) hzB ?_; exact x_ret rfl (.tmp rfl (.nil)) ⟨ao, co, os, So, New, rfl, rfl, hO, hPo, by rw [hGq, hsem, if_neg (fun h => by omega), List.append_nil]⟩)
    ·refine oS geF ?_; refine oS sT (oZ hK6 ?_); refine cFZ hK5 (cR fun _ hK8 => ?_); refine oM (oA (oZ hK8 (c_ret ?_))); refine ?_
     first | (refine x_sub (Sub.refl _) (H' := SL103 ++ (New ++ Pool)) hzB ?_; exact x_ret rfl (.tmp rfl (.nil)) ⟨a103, c103, zs103, SL103, New, rfl, rfl, hO103, hP103, by rw [hm103, hGq, hsem, if_pos ⟨by omega, by omega⟩]; show _ = addC [] _; rw [addC_app]; rfl⟩) | (refine x_sub (Sub.refl _) (H' := So ++ (New ++ Pool)) hzB ?_; exact x_ret rfl (.tmp rfl (.nil)) ⟨ao, co, os, So, New, rfl, rfl, hO, hPo, by rw [hGq, hsem, if_neg (fun h => by omega), List.append_nil]⟩)
   ·refine oS eqF (oM ?_); refine oN ?_; refine oN ?_; refine oN ?_; refine oN ?_; refine oS sP (oZ hK6 ?_); refine cFZ hK5 (cR fun _ hK9 => ?_); refine oM (oA (oZ hK9 (c_ret ?_))); refine ?_
    first | (refine x_sub (Sub.refl _) (H' := SL103 ++ (New ++ Pool)) hzB ?_; exact x_ret rfl (.tmp rfl (.nil)) ⟨a103, c103, zs103, SL103, New, rfl, rfl, hO103, hP103, by rw [hm103, hGq, hsem, if_pos ⟨by omega, by omega⟩]; show _ = addC [] _; rw [addC_app]; rfl⟩) | (refine x_sub (Sub.refl _) (H' := So ++ (New ++ Pool)) hzB ?_; exact x_ret rfl (.tmp rfl (.nil)) ⟨ao, co, os, So, New, rfl, rfl, hO, hPo, by rw [hGq, hsem, if_neg (fun h => by omega), List.append_nil]⟩)
  ·intro _ hJ4
   refine cR fun _ hK10 => ?_; refine oM (oA (oZ hK10 (c_block ?_))); refine c_loop6 (fun (ez : Int) (ao : Option Addr) (co : Nat) (os : List (Sl Sp)) (So : Hp) (New : Hp) => (i : Int) - 1 ≤ ez ∧ ez ≤ j ∧ OwnS Esl 1 32 (.slice ao os.length co) os So ∧ PoolR os K.N (New ++ Pool) ∧ (ez < j → (x.mx < 0 ∨ (had : Int) < x.mx)) ∧ (ez < i → ¬ (x.mn ≤ (had : Int) ∧ 0 < had)) ∧ os.map Sl.xs = ddp (gatS (ends (ez + 1).toNat j) (fun e => LF1 K.w y js i e (emp (F.nd y js .nil).flat c.xs)) (fun e c1 => semQ K.w (.rnd x y js (had + 1) e j c1)))) (fun (ez : Int) (ao : Option Addr) (co : Nat) (os : List (Sl Sp)) (So : Hp) (New : Hp) => [(15, .int .i64 ez), (14, .slice ao os.length co)]) [(0, _), (1, _), (2, _), (3, _), (4, _), (5, _), (12, _), (13, _)] (fun (ez : Int) (ao : Option Addr) (co : Nat) (os : List (Sl Sp)) (So : Hp) (New : Hp) => (b13, .cells (En x).toArray 80 (0, 0)) :: (So ++ (New ++ Pool))) (fun (ez : Int) (ao : Option Addr) (co : Nat) (os : List (Sl Sp)) (So : Hp) (New : Hp) => (ez + 1 - i).toNat) (j : Int) none 0 [] [] [] ⟨by omega, Int.le_refl _, .nil, fun s hs => (by cases hs), fun h => absurd h (by omega), fun h => absurd h (by omega), by rw [show ((j : Int) + 1).toNat = j + 1 by omega, ends_none]; rfl⟩ sbA sbA hzB ?_
   rintro ez ao co os So New ⟨he1, he2, hO, hPo, hcd, hnbz, hG⟩
   refine c_seqJ (ι := Nat) (fun e => ez = (e : Int) ∧ i ≤ e ∧ (x.mx < 0 ∨ (had : Int) < x.mx)) (fun e => [(15, .int .i64 e)]) [(0, _), (1, _), (2, _), (3, _), (4, _), (5, _), (12, _), (13, _), (14, _)] (fun e => (b13, .cells (En x).toArray 80 (0, 0)) :: (So ++ (New ++ Pool))) sbA ?_ ?_
   ·rintro e ⟨hen, hei, hco⟩
    subst hen
    have hen : ((e : Int) + 1).toNat = e + 1 := by omega
    refine c_seq fun _ hK12 => ?_; refine c_block ?_; refine c_seqJ (ι := Unit) (fun _u => (e = i → ¬ (x.mn ≤ (had : Int) ∧ 0 < had))) (fun _u => []) [(0, _), (1, _), (2, _), (3, _), (4, _), (5, _), (12, _), (13, _), (14, _), (15, _)] (fun _u => (b13, .cells (En x).toArray 80 (0, 0)) :: (So ++ (New ++ Pool))) sbA ?_ ?_
    ·rintro _ hnb
     obtain ⟨tt, htt⟩ := rnd_mid (x := x) (had := had) (i := i) (e := e) (j := j) (by omega) hei (by omega) (by omega)
     have hees : e ∈ rEs x had i j := by rw [htt]; simp
     obtain ⟨L72, k72, hC72, hk72, hsub⟩ := hCt.invN hees
     refine cR fun _ hK14 => ?_; refine oM (oM ?_); refine oS sD (oM (oM (oM (oM (oM ?_))))); refine oS sD (oM ?_); refine oS sN ?_; refine oS sF ?_; refine oS (s_ld rfl ((RdPK.old hw.d0 hw.a0).cel (j := 2) rfl rfl)) ?_; refine oM ?_; refine oS (s_idx rfl rfl hhs (by omega)) ?_; refine oS (s_ld rfl ((RdK.old hw.d2 hw.a2).ld at_ 0 hby rfl (by decide) (by omega))) ?_; refine o_call (emptiedV_fn K.bF _ _ K.ra K.rc K.re hK.rng hrl K.N hNl hK.grp c.a c.c c.xs hc.1 (at_ + 1) (at_ + 1 + (F.nd y js .nil).size) hbz) rfl rfl rfl (by exact .nil) (fun _ st => ⟨(RdPK.old hw.d0 hw.a0).out _ st, (RdK.old hw.d1 hw.a1).out _ st, (hc.2.2.rdk hiA).out _ st⟩) (fun v71 S71 ⟨a71, c71, hv71, hO71⟩ => ?_)
     subst hv71
     rw [empTo_part hpk] at hO71
     have hx71 : (emp (F.nd y js .nil).flat c.xs).length = K.N := by rw [emp_len]; exact hc.1
     rw [← hx71] at hO71
     rw [← hx71]
     refine o_call (hN (at_ + 1) _ hp1 i e (by omega) (by omega) ⟨a71, c71, (emp (F.nd y js .nil).flat c.xs)⟩ (S71 ++ (New ++ Pool)) ⟨hx71, hO71.sl, hO71.rds.mono hiA⟩ (hoc.emp _) L72 k72 hC72 (by omega)) rfl rfl rfl ((Pick.takeA pkA pkA)) (fun w st => hw.out st (hin_apF hiA hiA)) (fun v72 S72 ⟨a72, c72, zs72, Sz72, New72, hv72, hS72, hO72, hP72, hm72⟩ => ?_); subst hv72
     subst hS72
     have hz72 : zs72.length ≤ 1000000 := by
       have h : zs72.length = (ddp (LF1 K.w y js i e (emp (F.nd y js .nil).flat c.xs))).length := by rw [← hm72, List.length_map]
       rw [h]; exact Nat.le_trans (hC72.res (show i ≤ e by omega)).2 (by show k72 ≤ _; omega)
     refine oA (oZ hK14 (cR fun _ hK15 => ?_)); refine oA (oZ hK15 (c_block ?_)); refine c_loop6 (fun (k : Nat) (a2 : Option Addr) (c2 : Nat) (ws : List (Sl Sp)) (Sw : Hp) (New2 : Hp) => k ≤ zs72.length ∧ OwnS Esl 1 32 (.slice a2 ws.length c2) ws Sw ∧ PoolR ws K.N (New2 ++ Pool) ∧ PoolR zs72 K.N (New2 ++ Pool) ∧ ws.map Sl.xs = (addC (ddp (gatS (ends (e + 1) j) (fun e => LF1 K.w y js i e (emp (F.nd y js .nil).flat c.xs)) (fun e c1 => semQ K.w (.rnd x y js (had + 1) e j c1)))) (((ddp (LF1 K.w y js i e (emp (F.nd y js .nil).flat c.xs))).take k).flatMap (fun c1 => semQ K.w (.rnd x y js (had + 1) e j c1))))) (fun (k : Nat) (a2 : Option Addr) (c2 : Nat) (ws : List (Sl Sp)) (Sw : Hp) (New2 : Hp) => [(17, .int .i64 k), (14, .slice a2 ws.length c2)]) [(0, _), (1, _), (2, _), (3, _), (4, _), (5, _), (12, _), (13, _), (15, _), (16, _), (55, _), (56, _), (57, _), (58, _), (59, _), (60, _), (61, _), (62, _), (63, _), (64, _), (65, _), (66, _), (67, _), (68, _), (69, _), (70, _), (71, _), (72, _)] (fun (k : Nat) (a2 : Option Addr) (c2 : Nat) (ws : List (Sl Sp)) (Sw : Hp) (New2 : Hp) => (b13, .cells (En x).toArray 80 (0, 0)) :: (Sw ++ (Sz72 ++ (New2 ++ Pool)))) (fun (k : Nat) (a2 : Option Addr) (c2 : Nat) (ws : List (Sl Sp)) (Sw : Hp) (New2 : Hp) => zs72.length - k) 0 ao co os So (New72 ++ (S71 ++ New)) ⟨Nat.zero_le _, hO, by rw [List.append_assoc, List.append_assoc]; exact hPo.mono (HIn.app (HIn.app HIn.all)), by rw [List.append_assoc, List.append_assoc]; exact hP72, by rw [hG, hen]; rfl⟩ sbA sbA (by simp only [List.append_assoc]; exact hzB) ?_
     rintro k a2 c2 ws Sw New2 ⟨hk, hOw, hPw, hPz, hmw⟩
     refine c_seq fun _ hK16 => ?_; refine cR fun _ hK17 => ?_; refine oM (oM ?_); refine oS sC ?_
     by_cases hkl : (k : Int) < zs72.length
     ·obtain ⟨z, hzk⟩ : ∃ z, zs72[k]? = some z := gE
      have hzx : (ddp (LF1 K.w y js i e (emp (F.nd y js .nil).flat c.xs)))[k]? = some z.xs := by rw [← hm72, List.getElem?_map, hzk]; rfl
      have hzL : z.xs ∈ L72 := (hC72.res (show i ≤ e by omega)).1 _ (ddp_mem.1 (List.mem_of_getElem? hzx))
      obtain ⟨R90, k90, hC90, hk90⟩ := hsub z.xs hzL
      refine oS lsT (oZ hK17 ?_); refine cTZ hK16 (c_seq fun _ hK18 => ?_); refine c_block (c_region (oM (oM (oM (oM ?_))))); refine oS sD (oM (oM (oM (oM ?_)))); refine oS (s_idx rfl rfl hO72.sl (by omega)) ?_; refine oS (s_ld rfl ((hO72.rdk hiA).ld k 0 hzk rfl (by decide) (by omega))) ?_; refine o_call (ih at_ i1 hp (had + 1) e j (by omega) hjn z (New2 ++ Pool) (hPz z (List.mem_of_getElem? hzk)) (LF1_okc (hoc.emp _) (by omega) (by omega) _ (ddp_mem.1 (List.mem_of_getElem? hzx))) R90 k90 hC90 (by omega) (by omega) (by omega)) rfl rfl rfl (pkA) (fun w st => hw.out st hiA) (fun v90 S90 ⟨a90, c90, zs90, Sz90, New90, hv90, hS90, hO90, hP90, hm90⟩ => ?_)
      subst hv90; subst hS90
      have hB91 : (addC (ws.map Sl.xs) (zs90.map Sl.xs)).length ≤ 1000000 := by
        rw [hmw, hm90, addC_step, ← take_flat hzx]
        exact Nat.le_trans (gatS_pre (A := (fun e => LF1 K.w y js i e (emp (F.nd y js .nil).flat c.xs))) (B := (fun e c1 => semQ K.w (.rnd x y js (had + 1) e j c1))) htt (k + 1) _) hlen
      have hz90 : zs90.length ≤ 1000000 := by
        have h : zs90.length = (ddp (semQ K.w (.rnd x y js (had + 1) e j z.xs))).length := by rw [← hm90, List.length_map]
        rw [h]; exact Nat.le_trans (hC90.res (show e ≤ j by omega)).2 (by show k90 + 1 ≤ _; omega)
      refine o_call (allF_fn a2 c2 ws Sw hOw a90 c90 zs90 Sz90 (New90 ++ (New2 ++ Pool)) hO90 K.N (hPw.mono hiB) hP90 hNl hB91 (by omega)) rfl rfl rfl ((Pick.takeA pkA pkA)) (fun _ _ => trivial) (fun v91 S91 ⟨a91, c91, zs91, SL91, hv91, hS91, hO91, hP91, hm91⟩ => ?_); subst hv91
      subst hS91; refine oA (o_nil (x_block (xZ hK18 (c_region (oM ?_))))); refine oS sD (oA (o_nil ?_)); exact x_then (x_inv (k + 1, a91, c91, zs91, SL91, New90 ++ New2) ⟨by dsimp only; omega, hO91, by rw [List.append_assoc]; exact hP91, by rw [List.append_assoc]; exact hPz.mono hiB, by dsimp only; rw [hm91, hmw, hm90, addC_step, take_flat hzx]⟩ (by first | omega | (dsimp only; omega)) sbA (by simp only [List.append_assoc]; exact hzB))
     ·have htk : (ddp (LF1 K.w y js i e (emp (F.nd y js .nil).flat c.xs))).take k = ddp (LF1 K.w y js i e (emp (F.nd y js .nil).flat c.xs)) := by rw [← hm72]; exact List.take_of_length_le (by rw [List.length_map]; omega)
      rw [htk] at hmw
      refine oS lsF (oZ hK17 ?_); refine cF ?_; refine c_exit ?_; refine x_then_exit (x_then_exit (x_block_exit (x_block (xZ hK12 (c_region (oM ?_)))))); refine oS sU (oA (o_nil ?_)); exact x_then (x_inv ((e : Int) - 1, a2, c2, ws, Sw, New2) ⟨by dsimp only; omega, by dsimp only; omega, hOw, hPw, fun _ => hco, fun h => hnb (by dsimp only at h; omega), by dsimp only; rw [hmw, show ((e : Int) - 1 + 1).toNat = e by omega, ends_snoc (e := e) (j := j) (by omega)]; exact gatS_snoc (A := (fun e => LF1 K.w y js i e (emp (F.nd y js .nil).flat c.xs))) (B := (fun e c1 => semQ K.w (.rnd x y js (had + 1) e j c1)))⟩ (by dsimp only; omega) sbA hzB)
    ·intro _ hJ13
     refine cR fun _ hK19 => ?_; refine oM (oM ?_)
     by_cases hee : (e : Int) = i
     ·refine oS eqT (oM ?_); refine oY (oM ?_); refine oY ?_; refine oS sF ?_; refine oY ?_; refine oS sL ?_; refine oY ?_
      by_cases hmn : (had : Int) ≥ x.mn
      ·refine oS geT ?_; refine oS sT (oM ?_); refine oY (oM ?_); refine oY ?_
       by_cases hh0 : (had : Int) > 0
       ·refine oS gtT ?_; refine oS sT (oZ hK19 ?_); refine cT ?_; refine c_exit ?_; refine x_then_exit ?_; refine x_block_pass rfl ?_; refine x_then_exit (x_then_exit (x_block_exit ?_)); exact x_then (hJ4 ⟨ao, co, os, So, New⟩ _ _ ⟨hO, hPo, by dsimp only; rw [hG, rEs_done (x := x) (had := had) hij (by omega)]⟩ sbA sbA hzB)
       ·refine oS gtF ?_; refine oS sT (oZ hK19 ?_); refine cF (c_skip ?_); exact x_then (hJ13 () _ _ (by omega) sbA sbA hzB)
      ·refine oS geF ?_; refine oS sT (oM ?_); refine oN ?_; refine oN ?_; refine oS sP (oZ hK19 ?_); refine cF (c_skip ?_); exact x_then (hJ13 () _ _ (by omega) sbA sbA hzB)
     ·refine oS eqF (oM ?_); refine oN ?_; refine oN ?_; refine oN ?_; refine oN ?_; refine oS sP (oM ?_); refine oN ?_; refine oN ?_; refine oS sP (oZ hK19 ?_); refine cF (c_skip ?_); exact x_then (hJ13 () _ _ (by omega) sbA sbA hzB)
   ·intro _ hJ11
    refine cR fun _ hK20 => ?_; refine oM (oM ?_)
    by_cases hei : ez ≥ (i : Int)
    ·refine oS geT (oM ?_); refine oY ?_; refine oS sF ?_; refine oY ?_; refine oS sL ?_; refine oY ?_
     by_cases hmx : x.mx < 0
     ·refine oS lsT ?_; refine oY (oM ?_); refine oN ?_; refine oN ?_; refine oN ?_; refine oN ?_; refine oY ?_; refine oS sT ?_; refine oS sT (oZ hK20 ?_); refine cT (c_skip ?_); exact x_then (hJ11 ez.toNat _ _ ⟨by omega, by omega, by omega⟩ (by exact Sub.cons' rfl (congrArg _ (by omega)) sbA) sbA hzB)
     ·refine oS lsF ?_; refine oY (oM ?_); refine oY (oM ?_); refine oY ?_; refine oS sF ?_; refine oY ?_; refine oS sL ?_; refine oY ?_
      by_cases hmx2 : (had : Int) < x.mx
      ·refine oS lsT ?_; refine oY ?_; refine oS sP ?_; refine oS sT (oZ hK20 ?_); refine cT (c_skip ?_); exact x_then (hJ11 ez.toNat _ _ ⟨by omega, by omega, by omega⟩ (by exact Sub.cons' rfl (congrArg _ (by omega)) sbA) sbA hzB)
      ·refine oS lsF ?_; refine oY ?_; refine oS sP ?_; refine oS sT (oZ hK20 ?_); refine cF ?_; refine c_exit ?_; refine x_then_exit (x_then_exit (x_block_exit ?_)); exact x_then (hJ4 ⟨ao, co, os, So, New⟩ _ _ ⟨hO, hPo, by dsimp only; rw [hG, rEs_done (x := x) (had := had) hij (by omega)]⟩ sbA sbA hzB)
    ·refine oS geF (oM ?_); refine oN ?_; refine oN ?_; refine oN ?_; refine oN ?_; refine oU ?_; refine oU ?_; refine oU ?_; refine oU ?_; refine oN ?_; refine oS sP (oZ hK20 ?_); refine cF ?_; refine c_exit ?_; refine x_then_exit (x_then_exit (x_block_exit ?_)); exact x_then (hJ4 ⟨ao, co, os, So, New⟩ _ _ ⟨hO, hPo, by dsimp only; rw [hG, rEs_done (x := x) (had := had) hij (by omega)]⟩ sbA sbA hzB)
end Go.Proofs.YtloepfcndglmmaaDoor
namespace Go.Proofs.YtloepfcndglmmaaDoor
open Go Go.HL Go.Proofs Go.HL.Kl Go.HL.Kl.Mc
theorem rHas_fn (c : Cl) (x : Nat) (hx : x < 256) : HL.Fn Tryd.prog 115 [.agg (Ec c).toArray, .int .u8 x] (fun _ => True) [] (fun v _ => v = .bool (c.getLsbD x)) := by
  refine fn_of Tryd.func115 rfl rfl rfl fun w0 hw => ?_; refine cR fun _ hK1 => ?_; refine o_box rfl rfl rfl fun b2 => ?_; refine oA (oZ hK1 (cR fun _ hK2 => ?_)); refine oM ?_; refine oS (step_cast (v' := .int .u8 ((x / 64 : Nat) : Int)) (s_quo rfl rfl (by decide)) (congrArg _ (quo64 hx))) ?_; refine oS (s_idx1 rfl rfl (by omega)) ?_; refine oS (s_ld rfl ((RdPK.own meA).cel (j := x / 64) (Ec_get _ (by omega)) (by omega))) ?_; refine oM ?_; refine oS (step_cast (v' := .int .u8 ((x % 64 : Nat) : Int)) (s_rem rfl rfl (by decide)) (congrArg _ (rem64 hx))) ?_; refine oS (s_shr rfl rfl (by omega)) ?_; refine oS (s_and rfl rfl) ?_; refine oS (step_cast (v' := .bool (c.getLsbD x)) (s_eql rfl rfl) (congrArg Value.bool (hasB c hx))) ?_; refine oA (oZ hK2 (c_ret ?_)); refine ?_; exact xR rfl rfl (rfl)
end Go.Proofs.YtloepfcndglmmaaDoor
namespace Go.Proofs.YtloepfcndglmmaaDoor
open Go Go.HL Go.Proofs Go.HL.Kl Go.HL.Kl.Mc Go.HL.Kl.Mc.AskE
open FinE
theorem okf {w : List UInt8} {x : Nd} {ks : F} {i j : Nat} {c : Caps} {p : Prop} [Decidable p] (h : LF1 w x ks i j c = if p then [c] else []) : LF1 w x ks i j c = if decide p = true then [c] else [] := by
  rw [h]; by_cases hp : p <;> simp [hp]
theorem okf1 {w : List UInt8} {x : Nd} {ks : F} {i j : Nat} {c : Caps} (o : x.op = 1) {b : UInt8} (hb : w[i]? = some b) (hj : j = i + 1) : LF1 w x ks i j c = if x.set.getLsbD b.toNat = true then [c] else [] := by
  rw [LF1_1 o]
  by_cases h : x.set.getLsbD b.toNat = true
  · rw [if_pos h, if_pos ⟨hj, b, hb, h⟩]
  · rw [if_neg h, if_neg fun h' => by obtain ⟨_, b', h1, h2⟩ := h'; rw [hb] at h1; cases h1; exact h h2]
theorem okf1n {w : List UInt8} {x : Nd} {ks : F} {i j : Nat} {c : Caps} (o : x.op = 1) (hj : ¬ j = i + 1) : LF1 w x ks i j c = if false = true then [c] else [] := by
  rw [LF1_1 o, if_neg fun h => hj h.1]; rfl
theorem okf2 {w : List UInt8} {x : Nd} {ks : F} {i j : Nat} {c : Caps} (o : x.op = 2) (hi : i = 0) : LF1 w x ks i j c = if decide ((j : Int) = 0) = true then [c] else [] := okf (by
  rw [LF1_2 o]
  have e : (i = 0 ∧ j = 0) = ((j : Int) = 0) := propext ⟨fun h => by omega, fun h => ⟨hi, by omega⟩⟩
  simp only [e])
theorem okf2n {w : List UInt8} {x : Nd} {ks : F} {i j : Nat} {c : Caps} (o : x.op = 2) (hi : ¬ i = 0) : LF1 w x ks i j c = if false = true then [c] else [] := by
  rw [LF1_2 o, if_neg fun h => hi h.1]; rfl
theorem okf3 {w : List UInt8} {x : Nd} {ks : F} {i j : Nat} {c : Caps} (o : x.op = 3) (hi : i = w.length) : LF1 w x ks i j c = if decide ((j : Int) = (w.length : Nat)) = true then [c] else [] := okf (by
  rw [LF1_3 o]
  have e : (i = w.length ∧ j = w.length) = ((j : Int) = (w.length : Nat)) := propext ⟨fun h => by omega, fun h => ⟨hi, by omega⟩⟩
  simp only [e])
theorem okf3n {w : List UInt8} {x : Nd} {ks : F} {i j : Nat} {c : Caps} (o : x.op = 3) (hi : ¬ i = w.length) : LF1 w x ks i j c = if false = true then [c] else [] := by
  rw [LF1_3 o, if_neg fun h => hi h.1]; rfl
theorem okf8 {w : List UInt8} {x : Nd} {ks : F} {i j : Nat} {c : Caps} (o : x.op = 8) {s : Sp} (hs : c[(x.n - 1).toNat]? = some s) {gd : Bool} (h : sameAt w s i j = gd) : LF1 w x ks i j c = if gd = true then [c] else [] := by
  rw [LF1_8 o, List.getD_eq_getElem?_getD, show x.n.toNat - 1 = (x.n - 1).toNat by omega, hs]
  show (if sameAt w s i j = true then _ else _) = _
  rw [h]
theorem sameAt_no {w : List UInt8} {s : Sp} {i j : Nat} (h : ¬ (0 ≤ s.fr ∧ s.to - s.fr = (j : Int) - i)) : sameAt w s i j = false := by
  unfold sameAt; rw [decide_eq_false h, Bool.false_and]
theorem sameAt_yes {w : List UInt8} {s : Sp} {i j k : Nat} (h : 0 ≤ s.fr ∧ s.to - s.fr = (j : Int) - i) (hk : k = j - i) (he : (w.drop s.fr.toNat).take k = (w.drop i).take k) : sameAt w s i j = true := by
  unfold sameAt; rw [decide_eq_true h, ← hk, decide_eq_true he]; rfl
theorem sameAt_ne {w : List UInt8} {s : Sp} {i j k : Nat} (hk : k < j - i) {b1 b2 : UInt8} (h1 : w[s.fr.toNat + k]? = some b1) (h2 : w[i + k]? = some b2) (hb : b1 ≠ b2) : sameAt w s i j = false := by
  unfold sameAt
  rw [Bool.and_eq_false_iff]
  right
  refine decide_eq_false fun h => hb ?_
  have h3 : ((w.drop s.fr.toNat).take (j - i))[k]? = ((w.drop i).take (j - i))[k]? := congrArg (fun l => l[k]?) h
  rw [List.getElem?_take_of_lt hk, List.getElem?_take_of_lt hk, List.getElem?_drop, List.getElem?_drop, h1, h2] at h3
  exact Option.some.inj h3
theorem take_eq {w : List UInt8} {f i k : Nat} {b : UInt8} (h : (w.drop f).take k = (w.drop i).take k) (h1 : w[f + k]? = some b) (h2 : w[i + k]? = some b) : (w.drop f).take (k + 1) = (w.drop i).take (k + 1) := by
  rw [List.take_add_one, List.take_add_one, h, List.getElem?_drop, List.getElem?_drop, h1, h2]
theorem ddp_map {l : List Caps} {g : Caps → Caps} : ddp ((ddp l).map g) = ddp (l.map g) := by
  have e : ∀ l : List Caps, (l.flatMap fun d => [g d]) = l.map g := fun l => by
    induction l with
    | nil => rfl
    | cons a l ih => rw [List.flatMap_cons, ih]; rfl
  rw [← e, ← e]; exact addC_flat
set_option maxHeartbeats 8000000 in
theorem node_stepF (K : FinE) (hK : K.ok) (x : Nd) (ks : F) (hR : K.RowF ks) (hNd : ∀ y js, js.size < ks.size → K.NodeF y js) (hRo : ∀ y js, ks = .nd y js .nil → x.op = 6 → ∀ n, K.RndF x y js n) (at_ i1 : Nat) (hp : Part K.re (.nd x ks .nil) at_ i1) (i j : Nat) (hij : i ≤ j) (hjn : j ≤ K.w.length) (c : Sl Sp) (Pool : Hp) (hc : RowP K.N Pool c) (hoc : OkC K.w.length c.xs) (Z : List Caps) (kk : Nat) (hCt : Ct K.w.length (.node x ks i j c.xs) Z kk) (hkk : kk ≤ 800000) : HL.Fn Tryd.prog 106 [pt K.bF, .int .i64 at_, .int .i64 i, .int .i64 j, .slice c.a c.xs.length c.c] (fun W => K.Env W (keys Pool)) Pool (K.PostF Pool (LF1 K.w x ks i j c.xs)) := by
  refine fn_of Tryd.func106 rfl rfl rfl fun w0 hw => ?_
  have hnl := hK.nl
  have hNl := hK.Nl
  have hrl := hK.rl
  have hhs := hw.d2.sl
  have hres := hw.d1.sl
  have htx := hw.d3.sl
  have hple := hp.le
  have hpl := hp.len
  obtain ⟨hx, hpk, _⟩ := hp.head
  have hxm := List.mem_of_getElem? hx
  have hxr := hK.rng x hxm
  have hby := hK.beh _ _ _ _ _ hp
  have hbl := (List.getElem?_eq_some_iff.1 hby).1
  have hbz : at_ + 1 + ks.size ≤ K.re.length := hpk.le
  have hat := (List.getElem?_eq_some_iff.1 hx).1
  have hcx := hc.1
  have hnks := F.num_le ks
  have hkn0 : (ks.num : Int) = x.kids := hp.wf.2.1
  have hok : ndOk x = true := hp.wf.1
  have hop : 1 ≤ x.op ∧ x.op ≤ 8 := (flds_iff.1 (by simp only [ndOk, Bool.and_eq_true] at hok; exact hok.1)).1
  have hlen : (ddp (LF1 K.w x ks i j c.xs)).length ≤ 1000000 := Nat.le_trans (hCt.res hij).2 (by show kk ≤ _; omega)
  refine cR fun _ hK1 => ?_; refine oA (oZ hK1 (cR fun _ hK2 => ?_)); refine oM ?_; refine oS sN ?_; refine oS sF ?_; refine oS (s_ld rfl ((RdPK.old hw.d0 hw.a0).cel (j := 0) rfl rfl)) ?_; refine oM ?_; refine oS (s_idx rfl rfl hres (by omega)) ?_; refine oS (s_ldB rfl ((RdK.old hw.d1 hw.a1).lds at_ hx rfl) (by rfl)) ?_; refine o_alloc (l := En zN) (by rw [En_zero]; rfl) rfl fun b11 => ?_; refine o_stW rfl rfl upA lnA lnA onA ?_; refine oZ hK2 (cR fun _ hK3 => ?_); refine oA (oZ hK3 ?_); refine c_seqJ (ι := Bool) (fun gd => LF1 K.w x ks i j c.xs = if gd = true then [c.xs] else []) (fun gd => [(12, .bool gd)]) [(4, _)] (fun gd => (b11, .cells (En x).toArray 80 (0, 0)) :: Pool) sbA ?_ ?_
  ·rintro gd hgT
   refine c_seq fun _ hK5 => ?_; refine cR fun _ hK6 => ?_
   by_cases hgd : gd = true
   ·refine oS (step_cast (v' := .bool true) (s_move rfl) (by rw [hgd])) ?_; refine oS (s_not rfl) ?_; refine oZ hK6 ?_; refine cFZ hK5 (cR fun _ hK7 => ?_); refine oM ?_; refine o_bs (E := Esl) (xs := [c]) (vs := [_]) rfl rfl rfl rfl rfl (by decide) (by decide) fun b220 S220 hS220 => ?_; refine oA (oZ hK7 (c_ret ?_)); refine ?_; refine x_sub (Sub.refl _) (H' := S220 ++ ([] ++ Pool)) (by simpa using hzB) ?_; exact xR rfl rfl (⟨_, _, [c], S220, [], rfl, rfl, hS220, fun s hs => (by rw [List.mem_singleton.1 hs]; exact hc), by rw [hgT, if_pos hgd]; simp [addC, moreC]⟩)
   ·refine oS (step_cast (v' := .bool false) (s_move rfl) (by rw [Bool.eq_false_iff.2 hgd])) ?_; refine oS (s_not rfl) ?_; refine oZ hK6 ?_; refine cT (cR fun _ hK8 => ?_); refine oA (oZ hK8 (c_ret ?_)); refine x_then_ret (?_); refine x_sub (Sub.refl _) (H' := [] ++ ([] ++ Pool)) (by simpa using hzB) ?_; exact xR rfl rfl (⟨none, 0, [], [], [], rfl, rfl, .nil, fun s hs => (by cases hs), by rw [hgT, if_neg hgd]; rfl⟩)
  ·intro _ hJ4
   refine cR fun _ hK9 => ?_; refine oS sF ?_; refine oS sL ?_; refine oS (s_convI rfl (by omega)) ?_; refine oZ hK9 (c_block (cR fun _ hK10 => ?_))
   by_cases o1 : x.op = 1
   ·refine oS (eqT (h := o1)) ?_; refine oA (oZ hK10 ?_); refine cT ?_; refine c_drawE ((b11, .cells (En x).toArray 80 (0, 0)) :: Pool) (fun i => false) ?_; refine eK 0 rfl sM ?_; refine eK 1 rfl sM ?_; refine eK 2 rfl sD ?_
    by_cases hji : (j : Int) = (i : Int) + 1
    ·obtain ⟨b, hb⟩ : ∃ b, K.w[i]? = some b := gE
     refine eK 3 rfl eqT ?_; refine eK 4 rfl sM ?_; refine eG 5 rfl sF ?_; refine eG 6 rfl (s_ldB rfl (RdPK.cels (RdPK.own' (cs := Ec x.set) meA nd_set)) (Ec_lenM _)) ?_; refine eG 7 rfl sM ?_; refine eG 8 rfl sN ?_; refine eG 9 rfl sF ?_; refine eG 10 rfl (s_ld rfl ((RdPK.old hw.d0 hw.a0).cel (j := 1) rfl rfl)) ?_; refine eG 11 rfl sM ?_; refine eG 12 rfl (s_idx rfl rfl htx (by omega)) ?_; refine eG 13 rfl (s_ld rfl ((RdK.old hw.d3 hw.a3).ld i 0 hb rfl (by decide) (by omega))) ?_; refine eO 14 rfl ?_; refine oY ?_; refine o_callP (rHas_fn x.set b.toNat b.toNat_lt) rfl rfl rfl (fun _ _ => trivial) (fun v48 hv48 => ?_); subst hv48
     refine oX (eO 15 rfl ?_); refine oS sT (oX (eO 16 rfl (oA (oX ?_)))); refine e_done (by kernel_rfl) ?_; refine x_block ?_; exact x_then (hJ4 (x.set.getLsbD b.toNat) _ _ (okf1 o1 hb (by omega)) sbA sbA hzB)
    ·refine eK 3 rfl eqF ?_; refine eK 4 rfl sM ?_; refine eS 5 rfl (eS 6 rfl (eS 7 rfl (eS 8 rfl (eS 9 rfl (eS 10 rfl (eS 11 rfl (eS 12 rfl (eS 13 rfl (eO 14 rfl ?_))))))))); refine oN (oX (eO 15 rfl ?_)); refine oS sP (oX (eO 16 rfl (oA (oX ?_)))); refine e_done (by kernel_rfl) ?_; refine x_block ?_; exact x_then (hJ4 false _ _ (okf1n o1 (by omega)) sbA sbA hzB)
   ·refine oS (eqF (h := o1)) ?_; refine oA (oZ hK10 ?_); refine cF (cR fun _ hK11 => ?_)
    by_cases o2 : x.op = 2
    ·refine oS (eqT (h := o2)) ?_; refine oA (oZ hK11 ?_); refine cT (c_region (oM ?_))
     by_cases hi0 : (i : Int) = 0
     ·refine oS eqT (oM ?_); refine oY (oM ?_); refine oY ?_; refine oS (s_eql rfl rfl) ?_; refine oS sT (oA (o_nil (x_block ?_))); exact x_then (hJ4 (decide ((j : Int) = 0)) _ _ (okf2 o2 (by omega)) sbA sbA hzB)
     ·refine oS eqF (oM ?_); refine oN ?_; refine oN ?_; refine oS sP (oA (o_nil (x_block ?_))); exact x_then (hJ4 false _ _ (okf2n o2 (by omega)) sbA sbA hzB)
    ·refine oS (eqF (h := o2)) ?_; refine oA (oZ hK11 ?_); refine cF (cR fun _ hK12 => ?_)
     by_cases o3 : x.op = 3
     ·refine oS (eqT (h := o3)) ?_; refine oA (oZ hK12 ?_); refine cT (c_region (oM (oM ?_))); refine oS sN ?_; refine oS sF ?_; refine oS (s_ld rfl ((RdPK.old hw.d0 hw.a0).cel (j := 1) rfl rfl)) ?_; refine oS sC ?_
      by_cases hin : (i : Int) = (K.w.length : Nat)
      ·refine oS eqT (oM ?_); refine oY (oM ?_); refine oY (oM ?_); refine oY ?_; refine oS sN ?_; refine oY ?_; refine oS sF ?_; refine oY ?_; refine oS (s_ld rfl ((RdPK.old hw.d0 hw.a0).cel (j := 1) rfl rfl)) ?_; refine oY ?_; refine oS sC ?_; refine oY ?_; refine oS (s_eql rfl rfl) ?_; refine oS sT (oA (o_nil (x_block ?_))); exact x_then (hJ4 (decide ((j : Int) = (K.w.length : Nat))) _ _ (okf3 o3 (by omega)) sbA sbA hzB)
      ·refine oS eqF (oM ?_); refine oN ?_; refine oN ?_; refine oN ?_; refine oN ?_; refine oN ?_; refine oN ?_; refine oN ?_; refine oS sP (oA (o_nil (x_block ?_))); exact x_then (hJ4 false _ _ (okf3n o3 (by omega)) sbA sbA hzB)
     ·refine oS (eqF (h := o3)) ?_; refine oA (oZ hK12 ?_); refine cF (cR fun _ hK13 => ?_)
      by_cases o8 : x.op = 8
      ·have hrf := hK.ref x hxm o8
       obtain ⟨s, hsp⟩ : ∃ s, c.xs[(x.n - 1).toNat]? = some s := gE
       have hcs := hc.2.1
       have hos := hoc s (List.mem_of_getElem? hsp)
       have hso : s.fr = -1 ∧ s.to = -1 ∨ 0 ≤ s.fr ∧ s.fr ≤ s.to ∧ s.to ≤ K.w.length := hos.imp (fun h => by rw [h]; exact ⟨rfl, rfl⟩) id
       refine oS (eqT (h := o8)) ?_; refine oA (oZ hK13 ?_); refine cT (cR fun _ hK14 => ?_); refine oM ?_; refine oS sF ?_; refine oS sL ?_; refine oS sU ?_; refine oS (s_idx rfl rfl hcs (by omega)) ?_; refine oS (s_ldB rfl ((hc.2.2.rdk hiA).lds (x.n - 1).toNat hsp rfl) (by rfl)) ?_; refine o_alloc (l := Esp ⟨0, 0⟩) rfl rfl fun b13 => ?_; refine o_stW rfl rfl upA lnA lnA onA ?_; refine oZ hK14 ?_; refine c_seqJ (ι := Bool) (fun gd => (gd = true → 0 ≤ s.fr ∧ s.to - s.fr = (j : Int) - i) ∧ (gd = false → sameAt K.w s i j = false)) (fun gd => [(12, .bool gd)]) [(0, _), (2, _), (3, _), (4, _), (10, _), (13, _)] (fun gd => (b13, .cells (Esp s).toArray 45 (0, 0)) :: (b11, .cells (En x).toArray 80 (0, 0)) :: Pool) sbA ?_ ?_
       ·rintro gd0 ⟨hg0, hg1⟩
        refine cR fun _ hK16 => ?_; refine oA (oZ hK16 (c_block ?_)); refine c_loop2 (fun (k : Nat) (gd : Bool) => (gd = true → 0 ≤ s.fr ∧ s.to - s.fr = (j : Int) - i ∧ k ≤ j - i ∧ (K.w.drop s.fr.toNat).take k = (K.w.drop i).take k) ∧ (gd = false → sameAt K.w s i j = false)) (fun (k : Nat) (gd : Bool) => [(14, .int .i64 k), (12, .bool gd)]) [(0, _), (2, _), (3, _), (4, _), (10, _), (13, _)] (fun (k : Nat) (gd : Bool) => (b13, .cells (Esp s).toArray 45 (0, 0)) :: (b11, .cells (En x).toArray 80 (0, 0)) :: Pool) (fun (k : Nat) (gd : Bool) => j - i - k) 0 gd0 ⟨fun h => ⟨(hg0 h).1, (hg0 h).2, Nat.zero_le _, rfl⟩, hg1⟩ sbA sbA hzB ?_
        rintro k gd ⟨hgT, hgF⟩
        refine c_seq fun _ hK17 => ?_; refine cR fun _ hK18 => ?_; refine oM ?_
        by_cases hgd : gd = true
        ·obtain ⟨hs1, hs2, hs3, hs4⟩ := hgT hgd
         obtain ⟨f, hf⟩ : ∃ f : Nat, s.fr = f := ⟨s.fr.toNat, by omega⟩
         have hft : s.fr.toNat = f := by omega
         rw [hft] at hs4
         refine oS (step_cast (v' := .bool true) (s_move rfl) (by rw [hgd])) ?_; refine oY (oM ?_); refine oY (oM ?_); refine oY (oM ?_); refine oY ?_; refine oS sU ?_; refine oY ?_
         by_cases hkl : (k : Int) < (j : Int) - (i : Int)
         ·obtain ⟨b1, hb1⟩ : ∃ b, K.w[f + k]? = some b := gE
          obtain ⟨b2, hb2⟩ : ∃ b, K.w[i + k]? = some b := gE
          refine oS lsT ?_; refine oS sT (oZ hK18 ?_); refine cTZ hK17 (c_seq fun _ hK19 => ?_); refine c_block ?_; refine c_drawE ((b13, .cells (Esp s).toArray 45 (0, 0)) :: (b11, .cells (En x).toArray 80 (0, 0)) :: Pool) (fun i => false) ?_; refine eK 0 rfl sM ?_; refine eK 1 rfl sN ?_; refine eK 2 rfl sF ?_; refine eK 3 rfl (s_ld rfl ((RdPK.old hw.d0 hw.a0).cel (j := 1) rfl rfl)) ?_; refine eK 4 rfl sF ?_; refine eK 5 rfl (step_cast (v' := .int .i64 (f : Nat)) (s_ld rfl (.own meA rfl)) (congrArg _ hf)) ?_; refine eK 6 rfl sM ?_; refine eK 7 rfl (step_cast (v' := .int .i64 ((f + k : Nat) : Int)) (s_add rfl rfl (by omega)) (congrArg _ (by omega))) ?_; refine eK 8 rfl (s_idx rfl rfl htx (by omega)) ?_; refine eK 9 rfl (s_ld rfl ((RdK.old hw.d3 hw.a3).ld (f + k) 0 hb1 rfl (by decide) (by omega))) ?_; refine eK 10 rfl sM ?_; refine eK 11 rfl sN ?_; refine eK 12 rfl sF ?_; refine eK 13 rfl (s_ld rfl ((RdPK.old hw.d0 hw.a0).cel (j := 1) rfl rfl)) ?_; refine eK 14 rfl sM ?_; refine eK 15 rfl sM ?_; refine eK 16 rfl (step_cast (v' := .int .i64 ((i + k : Nat) : Int)) (s_add rfl rfl (by omega)) (congrArg _ (by omega))) ?_; refine eK 17 rfl (s_idx rfl rfl htx (by omega)) ?_; refine eK 18 rfl (s_ld rfl ((RdK.old hw.d3 hw.a3).ld (i + k) 0 hb2 rfl (by decide) (by omega))) ?_
          by_cases hbb : (b1.toNat : Int) = b2.toNat
          ·obtain rfl : b1 = b2 := UInt8.toNat_inj.1 (by omega)
           refine eK 19 rfl eqT (eO 20 rfl (oA (oX ?_))); refine e_done (by kernel_rfl) ?_; refine x_block (xZ hK19 (c_region (oM ?_))); refine oS sD (oA (o_nil ?_)); exact xI (k + 1, true) ⟨fun _ => ⟨hs1, hs2, by omega, by rw [hft]; exact take_eq hs4 hb1 hb2⟩, fun h => (by cases h)⟩
          ·have hne : b1 ≠ b2 := fun e => hbb (by rw [e])
           refine eK 19 rfl eqF (eO 20 rfl (oA (oX ?_))); refine e_done (by kernel_rfl) ?_; refine x_block (xZ hK19 (c_region (oM ?_))); refine oS sD (oA (o_nil ?_)); exact xI (k + 1, false) ⟨fun h => (by cases h), fun _ => sameAt_ne (k := k) (by omega) (by rw [hft]; exact hb1) hb2 hne⟩
         ·refine oS lsF ?_; refine oS sT (oZ hK18 ?_); refine cF ?_; refine c_exit ?_; refine x_then_exit (x_then_exit (x_block_exit (x_block ?_))); exact x_then (hJ4 gd _ _ (okf8 o8 hsp (by rw [hgd]; exact sameAt_yes (k := k) ⟨hs1, hs2⟩ (by omega) (by rw [hft]; exact hs4))) sbA sbA hzB)
        ·have hs0 := hgF (by simpa using hgd)
         refine oS (step_cast (v' := .bool false) (s_move rfl) (by rw [Bool.eq_false_iff.2 hgd])) ?_; refine oN ?_; refine oN ?_; refine oN ?_; refine oN ?_; refine oN ?_; refine oS sP (oZ hK18 ?_); refine cF ?_; refine c_exit ?_; refine x_then_exit (x_then_exit (x_block_exit (x_block ?_))); exact x_then (hJ4 gd _ _ (okf8 o8 hsp (by rw [show gd = false by simpa using hgd]; exact hs0)) sbA sbA hzB)
       ·intro _ hJ15
        refine c_region ?_; refine oS sF ?_; refine oS sL ?_
        by_cases hsf : s.fr ≥ 0
        ·refine oS geT (oM ?_); refine oY ?_; refine oS sF ?_; refine oY ?_; refine oS sL ?_; refine oY ?_; refine oS sF ?_; refine oY ?_; refine oS sL ?_; refine oY ?_; refine oS sU ?_; refine oY (oM ?_); refine oY (oM ?_); refine oY ?_; refine oS sU ?_; refine oY ?_
         by_cases hse : s.to - s.fr = (j : Int) - i
         ·refine oS eqT ?_; refine oS sT (oA (o_nil ?_)); exact x_then (hJ15 true _ _ ⟨fun _ => ⟨hsf, hse⟩, fun h => (by cases h)⟩ sbA sbA hzB)
         ·refine oS eqF ?_; refine oS sT (oA (o_nil ?_)); exact x_then (hJ15 false _ _ ⟨fun h => (by cases h), fun _ => sameAt_no fun h => hse h.2⟩ sbA sbA hzB)
        ·refine oS geF (oM ?_); refine oN ?_; refine oN ?_; refine oN ?_; refine oN ?_; refine oN ?_; refine oN ?_; refine oN ?_; refine oN ?_; refine oN ?_; refine oS sP (oA (o_nil ?_)); exact x_then (hJ15 false _ _ ⟨fun h => (by cases h), fun _ => sameAt_no fun h => hsf h.1⟩ sbA sbA hzB)
      ·refine oS (eqF (h := o8)) ?_; refine oA (oZ hK13 ?_); refine cF (cR fun _ hK20 => ?_)
       by_cases o4 : x.op = 4
       ·refine oS (eqT (h := o4)) ?_; refine oA (oZ hK20 ?_); refine cT (cR fun _ hK21 => ?_); refine oM (oM ?_); refine oS sD ?_; refine oS sF ?_; refine oS (step_cast (v' := .int .i64 (ks.num : Nat)) (s_ld rfl (.own meA rfl)) (by rw [hkn0])) ?_; refine oM (oM (oM ?_)); refine o_call (hR (at_ + 1) _ hpk i j hij hjn c Pool hc hoc Z (hCt.inv4 o4).choose (hCt.inv4 o4).choose_spec.1 (by have := (hCt.inv4 o4).choose_spec.2; omega)) rfl rfl rfl (pkA) (fun w st => hw.out st hiA) (fun v138 S138 ⟨a138, c138, zs138, Sz138, New138, hv138, hS138, hO138, hP138, hm138⟩ => ?_)
        subst hv138; subst hS138
        refine oA (oZ hK21 (c_ret ?_)); refine x_block_ret (x_then_ret (?_))
        refine x_sub (Sub.refl _) (H' := Sz138 ++ (New138 ++ Pool)) hzB ?_; exact xR rfl rfl (⟨a138, c138, zs138, Sz138, New138, rfl, rfl, hO138, hP138, by rw [hm138, LF1_4 o4]⟩)
       ·refine oS (eqF (h := o4)) ?_; refine oA (oZ hK20 ?_); refine cF (cR fun _ hK22 => ?_)
        by_cases o5 : x.op = 5
        ·obtain ⟨k0, hCa, hk0⟩ := hCt.inv5 o5
         rw [LF1_5 o5] at hlen
         refine oS (eqT (h := o5)) ?_; refine oA (oZ hK22 ?_); refine cT (cR fun _ hK23 => ?_); refine oA (oZ hK23 (cR fun _ hK24 => ?_)); refine oM ?_; refine oS sD (oA (oZ hK24 (c_seq fun _ hK25 => ?_))); refine cR fun _ hK26 => ?_; refine oA (oZ hK26 (c_block ?_)); refine c_loop8 (fun (k : Nat) (kp : Nat) (g : F) (ao : Option Addr) (co : Nat) (os : List (Sl Sp)) (So : Hp) (New : Hp) => Part K.re g kp (at_ + 1 + ks.size) ∧ k + g.num = ks.num ∧ g.size ≤ ks.size ∧ OwnS Esl 1 32 (.slice ao os.length co) os So ∧ PoolR os K.N (New ++ Pool) ∧ ∃ P Zg kg, os.map Sl.xs = ddp P ∧ LF K.w ks true i j c.xs = P ++ LF K.w g true i j c.xs ∧ Ct K.w.length (.alt g i j c.xs) Zg kg ∧ kg ≤ kk) (fun (k : Nat) (kp : Nat) (g : F) (ao : Option Addr) (co : Nat) (os : List (Sl Sp)) (So : Hp) (New : Hp) => [(17, .int .i64 k), (16, .int .i64 kp), (15, .slice ao os.length co)]) [(0, _), (2, _), (3, _), (4, _), (10, _), (11, _), (12, _)] (fun (k : Nat) (kp : Nat) (g : F) (ao : Option Addr) (co : Nat) (os : List (Sl Sp)) (So : Hp) (New : Hp) => (b11, .cells (En x).toArray 80 (0, 0)) :: (So ++ (New ++ Pool))) (fun (k : Nat) (kp : Nat) (g : F) (ao : Option Addr) (co : Nat) (os : List (Sl Sp)) (So : Hp) (New : Hp) => g.size) 0 (at_ + 1) ks none 0 [] [] [] ⟨hpk, by simp, Nat.le_refl _, .nil, fun s hs => (by cases hs), [], Z, k0, rfl, rfl, hCa, by omega⟩ sbA sbA hzB ?_
         rintro k kp g ao co os So New ⟨hpg, hkn, hgs, hO, hPo, P, Zg, kg, hmo, hPp, hCg, hkg⟩
         refine c_seq fun _ hK27 => ?_; refine cR fun _ hK28 => ?_; refine oM ?_; refine oS sF ?_; refine oS sL ?_
         by_cases hkk : (k : Int) < x.kids
         ·obtain ⟨y, js, r, rfl⟩ : ∃ y js r, g = F.nd y js r := by cases g with | nil => simp [F.num] at hkn; omega | nd y a b => exact ⟨y, a, b, rfl⟩
          obtain ⟨hy, hpy, hpr⟩ := hpg.head
          have hby2 := hK.beh _ _ _ _ _ hpg
          have hp1 := hpg.one
          have hbl2 := (List.getElem?_eq_some_iff.1 hby2).1
          have hgl := hpg.le
          have hgn := hpg.len
          obtain ⟨Z1, k1, Z2, k2, hC1, hC2, hk12⟩ := hCg.invA
          have hgz : (F.nd y js r).size = js.size + r.size + 1 := rfl
          rw [LF_alt, ← List.append_assoc] at hPp
          refine oS lsT (oZ hK28 ?_); refine cTZ hK27 (c_seq fun _ hK29 => ?_); refine c_block (cR fun _ hK30 => ?_); refine oM (oM (oM (oM (oM (oM ?_))))); refine o_call (hNd y js (by omega) kp _ hp1 i j hij hjn c (New ++ Pool) (hc.mono hiA) hoc Z1 k1 hC1 (by omega)) rfl rfl rfl (pkA) (fun w st => hw.out st hiA) (fun v155 S155 ⟨a155, c155, zs155, Sz155, New155, hv155, hS155, hO155, hP155, hm155⟩ => ?_); subst hv155
          subst hS155
          have hB156 : (addC (os.map Sl.xs) (zs155.map Sl.xs)).length ≤ 1000000 := by
            rw [hmo, hm155, addC_ddp, show addC (ddp P) (LF1 K.w y js i j c.xs) = ddp (P ++ LF1 K.w y js i j c.xs) from addC_app.symm]
            rw [hPp] at hlen; exact Nat.le_trans ddp_pre_len hlen
          have hz155 : zs155.length ≤ 1000000 := by
            have h : zs155.length = (ddp (LF1 K.w y js i j c.xs)).length := by rw [← hm155, List.length_map]
            rw [h]; exact Nat.le_trans (hC1.res hij).2 (by show k1 ≤ _; omega)
          refine o_call (allF_fn ao co os So hO a155 c155 zs155 Sz155 (New155 ++ (New ++ Pool)) hO155 K.N (hPo.mono hiB) hP155 hNl hB156 (by omega)) rfl rfl rfl ((Pick.takeA pkA pkA)) (fun _ _ => trivial) (fun v156 S156 ⟨a156, c156, zs156, SL156, hv156, hS156, hO156, hP156, hm156⟩ => ?_); subst hv156
          subst hS156; refine oA (oZ hK30 (c_region (oM ?_))); refine oS sN ?_; refine oS sF ?_; refine oS (s_ld rfl ((RdPK.old hw.d0 hw.a0).cel (j := 2) rfl rfl)) ?_; refine oM ?_; refine oS (s_idx rfl rfl hhs (by omega)) ?_; refine oS (s_ld rfl ((RdK.old hw.d2 hw.a2).ld kp 0 hby2 rfl (by decide) (by omega))) ?_; refine oA (o_nil (x_block (xZ hK29 (c_region (oM ?_))))); refine oS sD (oA (o_nil ?_)); exact x_then (x_inv (k + 1, (kp + 1 + js.size), r, a156, c156, zs156, SL156, New155 ++ New) ⟨hpr, by simp only [F.num] at hkn; dsimp only; omega, by dsimp only; omega, hO156, by rw [List.append_assoc]; exact hP156, P ++ LF1 K.w y js i j c.xs, Z2, k2, by dsimp only; rw [hm156, hmo, hm155, addC_ddp]; exact addC_app.symm, hPp, hC2, by omega⟩ (by simp only [F.size]; omega) sbA (by simp only [List.append_assoc]; exact hzB))
         ·obtain rfl : g = F.nil := F.num_nil (by omega)
          rw [LF_nilT, List.append_nil] at hPp
          refine oS lsF (oZ hK28 ?_); refine cF ?_; refine c_exit ?_; refine x_then_exit (x_then_exit (x_block_exit (xZ hK25 (cR fun _ hK31 => ?_)))); refine oM (oA (oZ hK31 (c_ret ?_))); refine x_block_ret (x_then_ret (?_))
          refine x_sub (Sub.refl _) (H' := So ++ (New ++ Pool)) hzB ?_; exact xR rfl rfl (⟨ao, co, os, So, New, rfl, rfl, hO, hPo, by rw [hmo, LF1_5 o5, hPp]⟩)
        ·refine oS (eqF (h := o5)) ?_; refine oA (oZ hK22 ?_); refine cF (cR fun _ hK32 => ?_)
         by_cases o6 : x.op = 6
         ·obtain ⟨y, js, rfl⟩ := one_kid hp.wf (.inl o6)
          obtain ⟨k0, hC6, hk0⟩ := hCt.inv6 o6
          refine oS (eqT (h := o6)) ?_; refine oA (oZ hK32 ?_); refine cT (cR fun _ hK33 => ?_); refine oM (oM (oM (oM (oM ?_)))); refine o_call (hRo y js rfl o6 _ at_ i1 hp 0 i j hij hjn c Pool hc hoc Z k0 hC6 (Nat.lt_succ_self _) (by omega) (by omega)) rfl rfl rfl (pkA) (fun w st => hw.out st hiA) (fun v172 S172 ⟨a172, c172, zs172, Sz172, New172, hv172, hS172, hO172, hP172, hm172⟩ => ?_); subst hv172
          subst hS172; refine oA (oZ hK33 (c_ret ?_)); refine x_block_ret (x_then_ret (?_))
          refine x_sub (Sub.refl _) (H' := Sz172 ++ (New172 ++ Pool)) hzB ?_; exact xR rfl rfl (⟨a172, c172, zs172, Sz172, New172, rfl, rfl, hO172, hP172, by rw [hm172, LF1_6 o6]; rfl⟩)
         ·refine oS (eqF (h := o6)) ?_; refine oA (oZ hK32 ?_); refine cF (cR fun _ hK34 => ?_)
          by_cases o7 : x.op = 7
          ·obtain ⟨y, js, rfl⟩ := one_kid hp.wf (.inr o7)
           have hp1 := hpk.one
           have hgr := hK.grp x hxm o7
           obtain ⟨L7, k0, hC7, hk0⟩ := hCt.inv7 o7
           have hs7 : LF1 K.w x (.nd y js .nil) i j c.xs = (LF1 K.w y js i j (emp (F.nd y js .nil).flat c.xs)).map (fun d : Caps => d.set (x.n.toNat - 1) ⟨i, j⟩) := by rw [LF1_7 o7, LF_one, if_pos hij]
           rw [hs7] at hlen
           refine oS (eqT (h := o7)) ?_; refine oA (oZ hK34 ?_); refine cT (cR fun _ hK35 => ?_); refine oM (oM ?_); refine oS sD (oM (oM (oM (oM (oM ?_))))); refine oS sD (oM ?_); refine oS sN ?_; refine oS sF ?_; refine oS (s_ld rfl ((RdPK.old hw.d0 hw.a0).cel (j := 2) rfl rfl)) ?_; refine oM ?_; refine oS (s_idx rfl rfl hhs (by omega)) ?_; refine oS (s_ld rfl ((RdK.old hw.d2 hw.a2).ld at_ 0 hby rfl (by decide) (by omega))) ?_; refine o_call (emptiedV_fn K.bF _ _ K.ra K.rc K.re hK.rng hrl K.N hNl hK.grp c.a c.c c.xs hc.1 (at_ + 1) (at_ + 1 + (F.nd y js .nil).size) hbz) rfl rfl rfl (by exact .nil) (fun _ st => ⟨(RdPK.old hw.d0 hw.a0).out _ st, (RdK.old hw.d1 hw.a1).out _ st, (hc.2.2.rdk hiA).out _ st⟩) (fun v191 S191 ⟨a191, c191, hv191, hO191⟩ => ?_); subst hv191
           rw [empTo_part hpk] at hO191
           have hx191 : (emp (F.nd y js .nil).flat c.xs).length = K.N := by rw [emp_len]; exact hc.1
           rw [← hx191] at hO191
           rw [← hx191]
           refine o_call (hNd y js (by simp only [F.size]; omega) (at_ + 1) _ hp1 i j hij hjn ⟨a191, c191, (emp (F.nd y js .nil).flat c.xs)⟩ (S191 ++ Pool) ⟨hx191, hO191.sl, hO191.rds.mono hiA⟩ (hoc.emp _) L7 k0 hC7 (by omega)) rfl rfl rfl ((Pick.takeA pkA pkA)) (fun w st => hw.out st (hin_apF hiA hiA)) (fun v192 S192 ⟨a192, c192, zs192, Sz192, New192, hv192, hS192, hO192, hP192, hm192⟩ => ?_); subst hv192
           subst hS192
           have hz192 : zs192.length ≤ 1000000 := by
             have h : zs192.length = (ddp (LF1 K.w y js i j (emp (F.nd y js .nil).flat c.xs))).length := by rw [← hm192, List.length_map]
             rw [h]; exact Nat.le_trans (hC7.res hij).2 (by show k0 ≤ _; omega)
           refine oA (oZ hK35 (cR fun _ hK36 => ?_)); refine oA (oZ hK36 (c_seq fun _ hK37 => ?_)); refine cR fun _ hK38 => ?_; refine oA (oZ hK38 (c_block ?_)); refine c_loop6 (fun (k : Nat) (ao : Option Addr) (co : Nat) (os : List (Sl Sp)) (So : Hp) (New : Hp) => k ≤ zs192.length ∧ OwnS Esl 1 32 (.slice ao os.length co) os So ∧ PoolR os K.N (New ++ Pool) ∧ PoolR zs192 K.N (New ++ Pool) ∧ os.map Sl.xs = ddp (((ddp (LF1 K.w y js i j (emp (F.nd y js .nil).flat c.xs))).take k).map (fun d : Caps => d.set (x.n.toNat - 1) ⟨i, j⟩))) (fun (k : Nat) (ao : Option Addr) (co : Nat) (os : List (Sl Sp)) (So : Hp) (New : Hp) => [(20, .int .i64 k), (19, .slice ao os.length co)]) [(2, _), (3, _), (4, _), (10, _), (11, _), (12, _), (18, _)] (fun (k : Nat) (ao : Option Addr) (co : Nat) (os : List (Sl Sp)) (So : Hp) (New : Hp) => (b11, .cells (En x).toArray 80 (0, 0)) :: (So ++ (Sz192 ++ (New ++ Pool)))) (fun (k : Nat) (ao : Option Addr) (co : Nat) (os : List (Sl Sp)) (So : Hp) (New : Hp) => zs192.length - k) 0 none 0 [] [] (New192 ++ S191) ⟨Nat.zero_le _, .nil, fun s hs => (by cases hs), by rw [List.append_assoc]; exact hP192, rfl⟩ sbA sbA (by simp only [List.append_assoc]; exact hzB) ?_
           rintro k ao co os So New ⟨hk, hO, hPo, hPz, hmo⟩
           have hol : os.length ≤ 1000000 := by
             have h : os.length = (ddp (((ddp (LF1 K.w y js i j (emp (F.nd y js .nil).flat c.xs))).take k).map (fun d : Caps => d.set (x.n.toNat - 1) ⟨i, j⟩))).length := by rw [← hmo, List.length_map]
             rw [h]; refine Nat.le_trans addC_le ?_
             rw [List.length_map, List.length_nil, Nat.zero_add]
             exact Nat.le_trans (by rw [List.length_take]; exact Nat.min_le_right _ _) (Nat.le_trans (hC7.res hij).2 (by show k0 ≤ _; omega))
           refine c_seq fun _ hK39 => ?_; refine cR fun _ hK40 => ?_; refine oM (oM ?_); refine oS sC ?_
           by_cases hkl : (k : Int) < zs192.length
           ·obtain ⟨z, hzk⟩ : ∃ z, zs192[k]? = some z := gE
            have hzp := hPz z (List.mem_of_getElem? hzk)
            have hzN := hzp.1
            have hzs := hzp.2.1
            have hzx : (ddp (LF1 K.w y js i j (emp (F.nd y js .nil).flat c.xs)))[k]? = some z.xs := by rw [← hm192, List.getElem?_map, hzk]; rfl
            refine oS lsT (oZ hK40 ?_); refine cTZ hK39 (c_seq fun _ hK41 => ?_); refine c_block (cR fun _ hK42 => ?_); refine oA (oZ hK42 (cR fun _ hK43 => ?_)); refine oM (oM (oM ?_)); refine oS (s_idx rfl rfl hO192.sl (by omega)) ?_; refine oS (s_ld rfl ((hO192.rdk hiA).ld k 0 hzk rfl (by decide) (by omega))) ?_; refine o_app (OwnS.nil : OwnS Esp 2 45 (.slice none 0 0) [] []) (hzp.2.2.rdk hiA) rfl rfl rfl rfl (by simp; omega) (by simp; omega) rfl (by exact .nil) fun a204 c204 S204 hS204 => ?_
            rw [List.nil_append] at hS204
            rw [List.nil_append]
            refine oA (oZ hK43 (cR fun _ hK44 => ?_)); refine oM ?_; refine oS sF ?_; refine oS sL ?_; refine oS sU (oM (oM ?_)); refine oS (s_build (cs := [_, _]) (vs := [_, _]) rfl rfl (.cons rfl rfl rfl rfl rfl (.cons rfl rfl rfl rfl rfl (.nil)))) ?_; refine oS (s_idx rfl rfl hS204.sl (by omega)) ?_; refine o_stSE (x.n - 1).toNat ⟨i, j⟩ hS204 pkA rfl rfl (by omega) (by rfl) fun S' hS' => ?_
            have hrow : RowP K.N S' ⟨a204, c204, z.xs.set (x.n - 1).toNat ⟨i, j⟩⟩ := ⟨by rw [List.length_set]; exact hzN, by have h := hS'.sl; simpa [Sl.v] using h, by have h := hS'.rds; simpa [Sl.v] using h⟩
            refine oZ hK44 (c_region (oM ?_)); refine oS (step_cast (v' := .slice a204 (z.xs.set (x.n - 1).toNat ⟨i, j⟩).length c204) (s_move rfl) (by rw [List.length_set])) ?_; refine o_call (moreF_fn ao co os So (S' ++ (New ++ Pool)) hO K.N (hPo.mono hiA) (⟨a204, c204, z.xs.set (x.n - 1).toNat ⟨i, j⟩⟩ : Sl Sp) (hrow.mono hiA) hol hNl) rfl rfl rfl ((Pick.takeA pkA pkA)) (fun _ _ => trivial) (fun v215 S215 ⟨a215, c215, zs215, SL215, hv215, hS215, hO215, hP215, hm215⟩ => ?_); subst hv215
            subst hS215; refine oA (o_nil (x_block (xZ hK41 (c_region (oM ?_))))); refine oS sD (oA (o_nil ?_)); exact x_then (x_inv (k + 1, a215, c215, zs215, SL215, S' ++ New) ⟨by dsimp only; omega, hO215, by rw [List.append_assoc]; exact hP215, by rw [List.append_assoc]; exact hPz.mono (HIn.app HIn.all), by dsimp only; rw [hm215, hmo, List.take_add_one, hzx, List.map_append]; show _ = addC [] _; rw [addC_app, show x.n.toNat - 1 = (x.n - 1).toNat by omega]; rfl⟩ (by first | omega | (dsimp only; omega)) sbA (by simp only [List.append_assoc]; exact hzB))
           ·have htk : (ddp (LF1 K.w y js i j (emp (F.nd y js .nil).flat c.xs))).take k = ddp (LF1 K.w y js i j (emp (F.nd y js .nil).flat c.xs)) := by rw [← hm192]; exact List.take_of_length_le (by rw [List.length_map]; omega)
            rw [htk] at hmo
            refine oS lsF (oZ hK40 ?_); refine cF ?_; refine c_exit ?_; refine x_then_exit (x_then_exit (x_block_exit (xZ hK37 (cR fun _ hK45 => ?_)))); refine oM (oA (oZ hK45 (c_ret ?_))); refine x_block_ret (x_then_ret (?_))
            refine x_sub (Sub.refl _) (H' := So ++ (New ++ Pool)) hzB ?_; exact xR rfl rfl (⟨ao, co, os, So, New, rfl, rfl, hO, hPo, by rw [hmo, hs7]; exact ddp_map⟩)
          ·refine oS (eqF (h := o7)) ?_; refine oA (oZ hK34 ?_); refine cF (c_skip (x_block ?_)); exact x_then (hJ4 false _ _ (by exfalso; omega) sbA sbA hzB)
theorem rnd_all {K : FinE} (hK : K.ok) {x y : Nd} {js : F} (hN : K.NodeF y js) (h6 : x.op = 6) : ∀ n, K.RndF x y js n
  | 0 => fun _ _ _ _ _ _ _ _ _ _ _ _ _ _ _ h => absurd h (Nat.not_lt_zero _)
  | n + 1 => fun at_ i1 hp had i j hij hjn c Pool hc hoc Z k hCt hk h1 h2 => rounds_stepF K hK x y js n hN (rnd_all hK hN h6 n) h6 at_ i1 hp had i j hij hjn c Pool hc hoc Z k hCt hk h1 h2
theorem finder_all {K : FinE} (hK : K.ok) : ∀ (n : Nat) (x : Nd) (ks : F), ks.size < n → K.NodeF x ks
  | 0 => fun _ _ h => absurd h (Nat.not_lt_zero _)
  | n + 1 => fun x ks hn => by
    have hNd : ∀ y js, js.size < ks.size → K.NodeF y js := fun y js h => finder_all hK n y js (by omega)
    have hR : ∀ m, ∀ f : F, f.size < m → f.size ≤ ks.size → K.RowF f := by
      intro m
      induction m with
      | zero => exact fun _ h => absurd h (Nat.not_lt_zero _)
      | succ m ih => exact fun f hf hfk at_ i1 hp i j hij hjn c Pool hc hoc Z k hCt hk => row_stepF K hK f (fun y js h => hNd y js (by omega)) (fun g hg => ih g (by omega) (by omega)) at_ i1 hp i j hij hjn c Pool hc hoc Z k hCt hk
    exact fun at_ i1 hp i j hij hjn c Pool hc hoc Z k hCt hk => node_stepF K hK x ks (hR _ ks (Nat.lt_succ_self _) (Nat.le_refl _)) hNd (fun y js e h6 => rnd_all hK (hNd y js (by rw [e]; simp only [F.size]; omega)) h6) at_ i1 hp i j hij hjn c Pool hc hoc Z k hCt hk
end Go.Proofs.YtloepfcndglmmaaDoor
