/- Part of the proofs over this seat: see the text that holds the theorem. Conditions: each theorem bears its own. -/
import Derived.Test.YtloepfcndglmmaaDoorHTZ
import Derived.Test.YtloepfcndglmmaaDoorVZV1Z
import Derived.Test.YtloepfcndglmmaaDoorHM2Z
namespace Go.Proofs.YtloepfcndglmmaaDoor
open Go Go.HL Go.Proofs Go.HL.Kl Go.HL.Kl.Mc Go.HL.Kl.Mc.AskE
open TalE
set_option maxHeartbeats 4000000 in
theorem rounds_stepV (K : TalE) (hK : K.ok) (L : Nat) (hN : K.NodeV L) (ih : K.RoundsV L) (x y : Nd) (js : F) (at_ i1 : Nat) (h6 : x.op = 6) (hp : Part K.re (.nd x (.nd y js .nil) .nil) at_ i1) (had : Nat) (hhd : had ≤ 600000) (i j : Nat) (hij : i ≤ j) (hjn : j ≤ K.n) (c : Sl Sp) (Pool : Hp) (hc : RowP K.N Pool c) (left : Int) (h0 : 0 ≤ left) (hL : left < L + 1) (h5 : left ≤ 500000) (hhl : (had : Int) + left ≤ 600000) : HL.Fn Tryd.prog 109 [pt K.bT, .int .i64 at_, .int .i64 had, .int .i64 i, .int .i64 j, .slice c.a c.xs.length c.c] (fun W => K.Env W (K.obj left :: Pool)) (K.obj left :: Pool) (K.PostV left 0 Pool (RndC K.n x y js had i j c.xs)) := by
  refine fn_of Tryd.func109 rfl rfl rfl fun w0 hw => ?_
  have hnl := hK.nl
  have hNl := hK.Nl
  have hrl := hK.rl
  have hhs := hw.d2.sl
  have hres := hw.d1.sl
  have hple := hp.le
  have hpl := hp.len
  obtain ⟨hx, hpk, _⟩ := hp.head
  have hp1 := hpk.one
  have hby := hK.beh _ _ _ _ _ hp
  have hbl := (List.getElem?_eq_some_iff.1 hby).1
  have hbz : at_ + 1 + (F.nd y js .nil).size ≤ K.re.length := hpk.le
  have hat := (List.getElem?_eq_some_iff.1 hx).1
  have hcx := hc.1
  have hrf := rep_flds hp.wf.1 h6
  refine cR fun _ hK1 => ?_; refine oA (oZ hK1 (cR fun _ hK2 => ?_)); refine oM ?_; refine oS sN ?_; refine oS sF ?_; refine oS sL ?_; refine oS sU ?_; refine oS sN ?_; refine oS sF ?_; refine o_store rfl rfl rfl upA ltA rfl ?_; refine oZ hK2 (cR fun _ hK3 => ?_); refine oM ?_; refine oS sN ?_; refine oS sF ?_; refine oS sL (oM ?_); refine oS (s_idx rfl rfl hres (by omega)) ?_; refine oS (s_ldB rfl ((RdK.old hw.d1 hw.a1).lds at_ hx rfl) (by rfl)) ?_; refine o_alloc (l := En zN) (by rw [En_zero]; rfl) rfl fun b13 => ?_; refine o_stW rfl rfl upA lnA lnA onA ?_; refine oZ hK3 (cR fun _ hK4 => ?_); refine oA (oZ hK4 ?_); refine c_seqJ (ι := TalJ) (fun q => OwnS Esl 1 32 (.slice q.a q.zs.length q.c) q.zs q.S ∧ PoolR q.zs K.N (q.New ++ Pool) ∧ (q.zs.length : Int) + q.lf ≤ left - 1 ∧ q.lf ≤ left - 1 ∧ -700000 ≤ q.lf ∧ (0 ≤ q.lf → GRnd K.n x y js had i j c.xs (rEs x had i j) (q.zs.map Sl.xs) (left - 1 - q.lf))) (fun q => [(14, .slice q.a q.zs.length q.c)]) [(0, _), (2, _), (3, _), (4, _), (5, _), (12, _), (13, _)] (fun q => (b13, .cells (En x).toArray 80 (0, 0)) :: (K.bT, .cells [.slice K.ra K.re.length K.rc, .int .i64 (K.n : Nat), .slice K.ha K.hl.length K.hc, .int .i64 q.lf].toArray 144 (0, 0)) :: (q.S ++ (q.New ++ Pool))) sbA ?_ ?_
  ·rintro ⟨ao, co, os, So, New, lf⟩ ⟨hO, hPo, hko, hlf, hlo, hGq⟩
   dsimp only at hO hPo hko hlf hlo hGq ⊢
   refine c_seq fun _ hK6 => ?_; refine cR fun _ hK7 => ?_; refine oM (oM ?_)
   by_cases hijq : (i : Int) = j
   ·refine oS eqT (oM ?_); refine oY (oM ?_); refine oY ?_; refine oS sF ?_; refine oY ?_; refine oS sL ?_; refine oY ?_
    by_cases hmn2 : (had : Int) ≥ x.mn
    ·refine oS geT ?_; refine oS sT (oZ hK7 ?_); refine cT (c_region (oM (oM (oM ?_)))); refine o_bs (E := Esl) (xs := [c]) (vs := [_]) rfl rfl rfl rfl rfl (by decide) (by decide) fun b126 S126 hS126 => ?_; refine o_call (tAllV_fn K.bT K.ra K.rc K.re K.n K.ha K.hc K.hl lf ao co os So hO _ _ [c] S126 (New ++ Pool) hS126 K.N hPo (fun s hs => by rw [List.mem_singleton.1 hs]; exact hc.mono hiA) hNl (by omega) hlo (by simp) (by omega)) rfl rfl rfl ((Pick.takeC pkA (Pick.takeA pkA pkA))) (fun _ _ => trivial) (fun v127 S127 ⟨a127, c127, zs127, SL127, lf127, hv127, hS127, hO127, hP127, hk127, hl127, hb127, hC127⟩ => ?_); subst hv127
     subst hS127; refine oA (oZ hK6 (cR fun _ hK8 => ?_)); refine oM (oA (oZ hK8 (c_ret ?_))); refine ?_
     first | (refine x_sub (Sub.refl _) (H' := K.obj lf127 :: (SL127 ++ (New ++ Pool))) hzB ?_; exact x_ret rfl (.tmp rfl (.nil)) ⟨a127, c127, zs127, SL127, New, lf127, rfl, rfl, hO127, hP127, by omega, by omega, hb127, fun h0 => (by obtain ⟨u1, u2, u3⟩ := hC127 h0; exact RndC.of (hGq (by omega)) rfl (fun d hd => by obtain ⟨s, s1, s2⟩ := List.mem_map.1 hd; exact List.mem_map.2 ⟨s, u1 s s1, s2⟩) (fun _ _ => u2 c (List.mem_singleton_self _)) (by omega))⟩) | (refine x_sub (Sub.refl _) (H' := K.obj lf :: (So ++ (New ++ Pool))) hzB ?_; exact x_ret rfl (.tmp rfl (.nil)) ⟨ao, co, os, So, New, lf, rfl, rfl, hO, hPo, by omega, by omega, hlo, fun h0 => RndC.of (hGq h0) rfl (fun _ h => h) (fun h1 h2 => (by exfalso; omega)) (by omega)⟩)
    ·refine oS geF ?_; refine oS sT (oZ hK7 ?_); refine cFZ hK6 (cR fun _ hK9 => ?_); refine oM (oA (oZ hK9 (c_ret ?_))); refine ?_
     first | (refine x_sub (Sub.refl _) (H' := K.obj lf127 :: (SL127 ++ (New ++ Pool))) hzB ?_; exact x_ret rfl (.tmp rfl (.nil)) ⟨a127, c127, zs127, SL127, New, lf127, rfl, rfl, hO127, hP127, by omega, by omega, hb127, fun h0 => (by obtain ⟨u1, u2, u3⟩ := hC127 h0; exact RndC.of (hGq (by omega)) rfl (fun d hd => by obtain ⟨s, s1, s2⟩ := List.mem_map.1 hd; exact List.mem_map.2 ⟨s, u1 s s1, s2⟩) (fun _ _ => u2 c (List.mem_singleton_self _)) (by omega))⟩) | (refine x_sub (Sub.refl _) (H' := K.obj lf :: (So ++ (New ++ Pool))) hzB ?_; exact x_ret rfl (.tmp rfl (.nil)) ⟨ao, co, os, So, New, lf, rfl, rfl, hO, hPo, by omega, by omega, hlo, fun h0 => RndC.of (hGq h0) rfl (fun _ h => h) (fun h1 h2 => (by exfalso; omega)) (by omega)⟩)
   ·refine oS eqF (oM ?_); refine oN ?_; refine oN ?_; refine oN ?_; refine oN ?_; refine oS sP (oZ hK7 ?_); refine cFZ hK6 (cR fun _ hK10 => ?_); refine oM (oA (oZ hK10 (c_ret ?_))); refine ?_
    first | (refine x_sub (Sub.refl _) (H' := K.obj lf127 :: (SL127 ++ (New ++ Pool))) hzB ?_; exact x_ret rfl (.tmp rfl (.nil)) ⟨a127, c127, zs127, SL127, New, lf127, rfl, rfl, hO127, hP127, by omega, by omega, hb127, fun h0 => (by obtain ⟨u1, u2, u3⟩ := hC127 h0; exact RndC.of (hGq (by omega)) rfl (fun d hd => by obtain ⟨s, s1, s2⟩ := List.mem_map.1 hd; exact List.mem_map.2 ⟨s, u1 s s1, s2⟩) (fun _ _ => u2 c (List.mem_singleton_self _)) (by omega))⟩) | (refine x_sub (Sub.refl _) (H' := K.obj lf :: (So ++ (New ++ Pool))) hzB ?_; exact x_ret rfl (.tmp rfl (.nil)) ⟨ao, co, os, So, New, lf, rfl, rfl, hO, hPo, by omega, by omega, hlo, fun h0 => RndC.of (hGq h0) rfl (fun _ h => h) (fun h1 h2 => (by exfalso; omega)) (by omega)⟩)
  ·intro _ hJ5
   refine cR fun _ hK11 => ?_; refine oM (oA (oZ hK11 (c_block ?_))); refine c_loop7 (fun (ez : Int) (ao : Option Addr) (co : Nat) (os : List (Sl Sp)) (So : Hp) (New : Hp) (lf : Int) => (i : Int) - 1 ≤ ez ∧ ez ≤ j ∧ OwnS Esl 1 32 (.slice ao os.length co) os So ∧ PoolR os K.N (New ++ Pool) ∧ (os.length : Int) + lf ≤ left - 1 ∧ lf ≤ left - 1 ∧ -700000 ≤ lf ∧ (ez < j → (x.mx < 0 ∨ (had : Int) < x.mx)) ∧ (ez < i → ¬ (x.mn ≤ (had : Int) ∧ 0 < had)) ∧ (0 ≤ lf → GRnd K.n x y js had i j c.xs (ends (ez + 1).toNat j) (os.map Sl.xs) (left - 1 - lf))) (fun (ez : Int) (ao : Option Addr) (co : Nat) (os : List (Sl Sp)) (So : Hp) (New : Hp) (lf : Int) => [(15, .int .i64 ez), (14, .slice ao os.length co)]) [(0, _), (1, _), (2, _), (3, _), (4, _), (5, _), (12, _), (13, _)] (fun (ez : Int) (ao : Option Addr) (co : Nat) (os : List (Sl Sp)) (So : Hp) (New : Hp) (lf : Int) => (b13, .cells (En x).toArray 80 (0, 0)) :: K.obj lf :: (So ++ (New ++ Pool))) (fun (ez : Int) (ao : Option Addr) (co : Nat) (os : List (Sl Sp)) (So : Hp) (New : Hp) (lf : Int) => (ez + 1 - i).toNat) (j : Int) none 0 [] [] [] (left - 1) ⟨by omega, Int.le_refl _, .nil, fun s hs => (by cases hs), by simp, Int.le_refl _, by omega, fun h => absurd h (by omega), fun h => absurd h (by omega), fun _ => by rw [show ((j : Int) + 1).toNat = j + 1 by omega, ends_none]; exact .nil (by omega)⟩ sbA sbA hzB ?_
   rintro ez ao co os So New lf ⟨he1, he2, hO, hPo, hko, hlf, hlo, hcd, hnbz, hG⟩
   refine c_seqJ (ι := Nat) (fun e => ez = (e : Int) ∧ i ≤ e ∧ 0 ≤ lf ∧ (x.mx < 0 ∨ (had : Int) < x.mx)) (fun e => [(15, .int .i64 e)]) [(0, _), (1, _), (2, _), (3, _), (4, _), (5, _), (12, _), (13, _), (14, _)] (fun e => (b13, .cells (En x).toArray 80 (0, 0)) :: K.obj lf :: (So ++ (New ++ Pool))) sbA ?_ ?_
   ·rintro e ⟨hen, hei, hlf0, hco⟩
    subst hen
    have hen : ((e : Int) + 1).toNat = e + 1 := by omega
    refine c_seq fun _ hK13 => ?_; refine c_block ?_; refine c_seqJ (ι := Unit) (fun _u => (e = i → ¬ (x.mn ≤ (had : Int) ∧ 0 < had))) (fun _u => []) [(0, _), (1, _), (2, _), (3, _), (4, _), (5, _), (12, _), (13, _), (14, _), (15, _)] (fun _u => (b13, .cells (En x).toArray 80 (0, 0)) :: K.obj lf :: (So ++ (New ++ Pool))) sbA ?_ ?_
    ·rintro _ hnb
     refine cR fun _ hK15 => ?_; refine oM (oM ?_); refine oS sD (oM (oM (oM (oM (oM ?_))))); refine oS sD (oM ?_); refine oS sN ?_; refine oS sF ?_; refine oS sL (oM ?_); refine oS (s_idx rfl rfl hhs (by omega)) ?_; refine oS (s_ld rfl ((RdK.old hw.d2 hw.a2).ld at_ 0 hby rfl (by decide) (by omega))) ?_; refine o_call (tEmptiedV_fn K.bT _ K.ra K.rc K.re hK.rng hrl K.N hNl hK.grp c.a c.c c.xs hc.1 (at_ + 1) (at_ + 1 + (F.nd y js .nil).size) hbz) rfl rfl rfl (by exact .nil) (fun _ st => ⟨(RdPK.own meA).out _ st, (RdK.old hw.d1 hw.a1).out _ st, (hc.2.2.rdk hiA).out _ st⟩) (fun v85 S85 ⟨a85, c85, hv85, hO85⟩ => ?_)
     subst hv85
     rw [empTo_part hpk] at hO85
     have hx85 : (emp (F.nd y js .nil).flat c.xs).length = K.N := by rw [emp_len]; exact hc.1
     generalize hE : emp (F.nd y js .nil).flat c.xs = xs85 at hO85 hx85
     rw [← hx85] at hO85
     rw [← hx85]
     refine o_call (hN y js (at_ + 1) _ hp1 i e (by omega) (by omega) ⟨a85, c85, xs85⟩ (S85 ++ (New ++ Pool)) ⟨hx85, hO85.sl, hO85.rds.mono hiA⟩ lf (by omega) (by omega) (by omega)) rfl rfl rfl ((Pick.takeC pkA (Pick.takeA pkA pkA))) (fun _ st => ⟨(RdK.old hw.d1 hw.a1).out _ st, St.apart_M st (by exact hiB) hw.d1 hw.a1 (by decide), (RdK.old hw.d2 hw.a2).out _ st, St.apart_M st (by exact hiB) hw.d2 hw.a2 (by decide)⟩) (fun v86 S86 ⟨a86, c86, zs86, Sz86, New86, lf86, hv86, hS86, hO86, hP86, hk86, hl86, hb86, hC86⟩ => ?_); subst hv86
     subst hS86; refine oA (oZ hK15 (cR fun _ hK16 => ?_)); refine oA (oZ hK16 (c_block ?_)); refine c_loop7 (fun (k : Nat) (a2 : Option Addr) (c2 : Nat) (ws : List (Sl Sp)) (Sw : Hp) (New2 : Hp) (lk : Int) => k ≤ zs86.length ∧ OwnS Esl 1 32 (.slice a2 ws.length c2) ws Sw ∧ PoolR ws K.N (New2 ++ Pool) ∧ (ws.length : Int) + lk ≤ left - 1 ∧ lk ≤ left - 1 ∧ -700000 ≤ lk ∧ PoolR zs86 K.N (New2 ++ Pool) ∧ lk ≤ lf86 ∧ (0 ≤ lk → GRnd K.n x y js had i j c.xs (ends (e + 1) j) (ws.map Sl.xs) (left - 1 - lf) ∧ IAcc (fun c1 R k => Ct K.n (.rnd x y js (had + 1) e j c1) R k) ((zs86.take k).map Sl.xs) (ws.map Sl.xs) (lf86 - lk))) (fun (k : Nat) (a2 : Option Addr) (c2 : Nat) (ws : List (Sl Sp)) (Sw : Hp) (New2 : Hp) (lk : Int) => [(17, .int .i64 k), (14, .slice a2 ws.length c2)]) [(0, _), (1, _), (2, _), (3, _), (4, _), (5, _), (12, _), (13, _), (15, _), (16, _), (69, _), (70, _), (71, _), (72, _), (73, _), (74, _), (75, _), (76, _), (77, _), (78, _), (79, _), (80, _), (81, _), (82, _), (83, _), (84, _), (85, _), (86, _)] (fun (k : Nat) (a2 : Option Addr) (c2 : Nat) (ws : List (Sl Sp)) (Sw : Hp) (New2 : Hp) (lk : Int) => (b13, .cells (En x).toArray 80 (0, 0)) :: K.obj lk :: (Sw ++ (Sz86 ++ (New2 ++ Pool)))) (fun (k : Nat) (a2 : Option Addr) (c2 : Nat) (ws : List (Sl Sp)) (Sw : Hp) (New2 : Hp) (lk : Int) => zs86.length - k) 0 ao co os So (New86 ++ (S85 ++ New)) lf86 ⟨Nat.zero_le _, hO, by rw [List.append_assoc, List.append_assoc]; exact hPo.mono (HIn.app (HIn.app HIn.all)), by omega, by omega, hb86, by rw [List.append_assoc, List.append_assoc]; exact hP86, Int.le_refl _, fun h => ⟨by rw [← hen]; exact hG (by omega), .nil (by omega)⟩⟩ sbA sbA (by simp only [List.append_assoc]; exact hzB) ?_
     rintro k a2 c2 ws Sw New2 lk ⟨hk, hOw, hPw, hkw, hlw, hbw, hPz, hlk9, hI2⟩
     refine c_seq fun _ hK17 => ?_; refine cR fun _ hK18 => ?_; refine oM (oM ?_); refine oS sC ?_
     by_cases hkl : (k : Int) < zs86.length
     ·obtain ⟨z, hzk⟩ : ∃ z, zs86[k]? = some z := gE
      have htk : zs86.take (k + 1) = zs86.take k ++ [z] := by rw [List.take_add_one, hzk]; rfl
      refine oS lsT (oM ?_); refine oY (oM ?_); refine oY ?_; refine oS sN ?_; refine oY ?_; refine oS sF ?_; refine oY ?_; refine oS sL ?_; refine oY ?_
      by_cases hlk0 : lk ≥ 0
      ·refine oS geT ?_; refine oS sT (oZ hK18 ?_); refine cTZ hK17 (c_seq fun _ hK19 => ?_); refine c_block (c_region (oM (oM (oM (oM (oM ?_)))))); refine oS sD (oM (oM (oM (oM ?_)))); refine oS (s_idx rfl rfl hO86.sl (by omega)) ?_; refine oS (s_ld rfl ((hO86.rdk hiA).ld k 0 hzk rfl (by decide) (by omega))) ?_; refine o_call (ih x y js at_ i1 h6 hp (had + 1) (by omega) e j (by omega) hjn z (New2 ++ Pool) (hPz z (List.mem_of_getElem? hzk)) lk (by omega) (by omega) (by omega) (by omega)) rfl rfl rfl ((Pick.takeC pkA pkA)) (fun _ st => ⟨(RdK.old hw.d1 hw.a1).out _ st, St.apart_M st (by exact hiB) hw.d1 hw.a1 (by decide), (RdK.old hw.d2 hw.a2).out _ st, St.apart_M st (by exact hiB) hw.d2 hw.a2 (by decide)⟩) (fun v112 S112 ⟨a112, c112, zs112, Sz112, New112, lf112, hv112, hS112, hO112, hP112, hk112, hl112, hb112, hC112⟩ => ?_)
       subst hv112; subst hS112
       refine o_call (tAllV_fn K.bT K.ra K.rc K.re K.n K.ha K.hc K.hl lf112 a2 c2 ws Sw hOw a112 c112 zs112 Sz112 (New112 ++ (New2 ++ Pool)) hO112 K.N (hPw.mono hiB) hP112 hNl (by omega) hb112 (by omega) (by omega)) rfl rfl rfl ((Pick.takeC pkA (Pick.takeA pkA pkA))) (fun _ _ => trivial) (fun v113 S113 ⟨a113, c113, zs113, SL113, lf113, hv113, hS113, hO113, hP113, hk113, hl113, hb113, hC113⟩ => ?_); subst hv113
       subst hS113; refine oA (o_nil (x_block (xZ hK19 (c_region (oM ?_))))); refine oS sD (oA (o_nil ?_))
       have hIn : 0 ≤ lf113 → GRnd K.n x y js had i j c.xs (ends (e + 1) j) (zs113.map Sl.xs) (left - 1 - lf) ∧ IAcc (fun c1 R k => Ct K.n (.rnd x y js (had + 1) e j c1) R k) ((zs86.take (k + 1)).map Sl.xs) (zs113.map Sl.xs) (lf86 - lf113) := fun h0 => by
         obtain ⟨u1, u2, u3⟩ := hC113 h0
         have um : ∀ d ∈ ws.map Sl.xs, d ∈ zs113.map Sl.xs := fun d hd => by obtain ⟨s, s1, s2⟩ := List.mem_map.1 hd; exact List.mem_map.2 ⟨s, u1 s s1, s2⟩
         obtain ⟨v1, v2⟩ := hI2 (by omega)
         obtain ⟨kk, w1, w2⟩ := hC112 (by omega)
         refine ⟨v1.mono um (Int.le_refl _), ?_⟩
         rw [htk, List.map_append, show lf86 - lf113 = (lf86 - lk) + (lk - lf113) by omega]
         exact (v2.mono um (Int.le_refl _)).snoc w1 (fun d hd => by obtain ⟨s, s1, s2⟩ := List.mem_map.1 hd; rw [← s2]; exact u2 s s1) (by omega)
       exact x_then (x_inv (k + 1, a113, c113, zs113, SL113, New112 ++ New2, lf113) ⟨by dsimp only; omega, hO113, by rw [List.append_assoc]; exact hP113, by dsimp only; omega, by dsimp only; omega, hb113, by rw [List.append_assoc]; exact hPz.mono hiB, by dsimp only; omega, hIn⟩ (by first | omega | (dsimp only; omega)) sbA (by simp only [List.append_assoc]; exact hzB))
      ·refine oS geF ?_; refine oS sT (oZ hK18 ?_); refine cF ?_; refine c_exit ?_; refine x_then_exit (x_then_exit (x_block_exit (x_block (xZ hK13 (c_region (oM ?_)))))); refine oS sU (oA (o_nil ?_))
       have hGn : 0 ≤ lk → GRnd K.n x y js had i j c.xs (ends ((e : Int) - 1 + 1).toNat j) (ws.map Sl.xs) (left - 1 - lk) := fun h0 => by
         first
         | exact absurd h0 (by omega)
         | subst hE; rw [show ((e : Int) - 1 + 1).toNat = e by omega, ends_snoc (by omega), show left - 1 - lk = (left - 1 - lf) + (lf - lf86) + (lf86 - lk) by omega]; obtain ⟨kn, hn1, hn2⟩ := hC86 (by omega); rw [htk] at hI2; exact GAcc.snoc (hI2 h0).1 ends_out hn1 hn2 (hI2 h0).2
       exact x_then (x_inv ((e : Int) - 1, a2, c2, ws, Sw, New2, lk) ⟨by dsimp only; omega, by dsimp only; omega, hOw, hPw, hkw, hlw, hbw, fun _ => hco, fun h => hnb (by dsimp only at h; omega), hGn⟩ (by dsimp only; omega) sbA hzB)
     ·have htk : zs86.take k = zs86 := List.take_of_length_le (by omega)
      refine oS lsF (oM ?_); refine oN ?_; refine oN ?_; refine oN ?_; refine oN ?_; refine oN ?_; refine oS sP (oZ hK18 ?_); refine cF ?_; refine c_exit ?_; refine x_then_exit (x_then_exit (x_block_exit (x_block (xZ hK13 (c_region (oM ?_)))))); refine oS sU (oA (o_nil ?_))
      have hGn : 0 ≤ lk → GRnd K.n x y js had i j c.xs (ends ((e : Int) - 1 + 1).toNat j) (ws.map Sl.xs) (left - 1 - lk) := fun h0 => by
        first
        | exact absurd h0 (by omega)
        | subst hE; rw [show ((e : Int) - 1 + 1).toNat = e by omega, ends_snoc (by omega), show left - 1 - lk = (left - 1 - lf) + (lf - lf86) + (lf86 - lk) by omega]; obtain ⟨kn, hn1, hn2⟩ := hC86 (by omega); rw [htk] at hI2; exact GAcc.snoc (hI2 h0).1 ends_out hn1 hn2 (hI2 h0).2
      exact x_then (x_inv ((e : Int) - 1, a2, c2, ws, Sw, New2, lk) ⟨by dsimp only; omega, by dsimp only; omega, hOw, hPw, hkw, hlw, hbw, fun _ => hco, fun h => hnb (by dsimp only at h; omega), hGn⟩ (by dsimp only; omega) sbA hzB)
    ·intro _ hJ14
     refine cR fun _ hK20 => ?_; refine oM (oM ?_)
     by_cases hee : (e : Int) = i
     ·refine oS eqT (oM ?_); refine oY (oM ?_); refine oY ?_; refine oS sF ?_; refine oY ?_; refine oS sL ?_; refine oY ?_
      by_cases hmn : (had : Int) ≥ x.mn
      ·refine oS geT ?_; refine oS sT (oM ?_); refine oY (oM ?_); refine oY ?_
       by_cases hh0 : (had : Int) > 0
       ·refine oS gtT ?_; refine oS sT (oZ hK20 ?_); refine cT ?_; refine c_exit ?_; refine x_then_exit ?_; refine x_block_pass rfl ?_; refine x_then_exit (x_then_exit (x_block_exit ?_))
        have hGq : 0 ≤ lf → GRnd K.n x y js had i j c.xs (rEs x had i j) (os.map Sl.xs) (left - 1 - lf) := fun h0 => by first | exact absurd h0 (by omega) | exact GRnd.done (hG h0) hij (by omega)
        exact x_then (hJ5 ⟨ao, co, os, So, New, lf⟩ _ _ ⟨hO, hPo, hko, hlf, hlo, hGq⟩ sbA sbA hzB)
       ·refine oS gtF ?_; refine oS sT (oZ hK20 ?_); refine cF (c_skip ?_); exact x_then (hJ14 () _ _ (by omega) sbA sbA hzB)
      ·refine oS geF ?_; refine oS sT (oM ?_); refine oN ?_; refine oN ?_; refine oS sP (oZ hK20 ?_); refine cF (c_skip ?_); exact x_then (hJ14 () _ _ (by omega) sbA sbA hzB)
     ·refine oS eqF (oM ?_); refine oN ?_; refine oN ?_; refine oN ?_; refine oN ?_; refine oS sP (oM ?_); refine oN ?_; refine oN ?_; refine oS sP (oZ hK20 ?_); refine cF (c_skip ?_); exact x_then (hJ14 () _ _ (by omega) sbA sbA hzB)
   ·intro _ hJ12
    refine cR fun _ hK21 => ?_; refine oM (oM ?_)
    by_cases hei : ez ≥ (i : Int)
    ·refine oS geT (oM ?_); refine oY (oM ?_); refine oY ?_; refine oS sN ?_; refine oY ?_; refine oS sF ?_; refine oY ?_; refine oS sL ?_; refine oY ?_
     by_cases hlf0 : lf ≥ 0
     ·refine oS geT ?_; refine oS sT (oM ?_); refine oY ?_; refine oS sF ?_; refine oY ?_; refine oS sL ?_; refine oY ?_
      by_cases hmx : x.mx < 0
      ·refine oS lsT ?_; refine oY (oM ?_); refine oN ?_; refine oN ?_; refine oN ?_; refine oN ?_; refine oY ?_; refine oS sT ?_; refine oS sT (oZ hK21 ?_); refine cT (c_skip ?_); exact x_then (hJ12 ez.toNat _ _ ⟨by omega, by omega, by omega, by omega⟩ (by exact Sub.cons' rfl (congrArg _ (by omega)) sbA) sbA hzB)
      ·refine oS lsF ?_; refine oY (oM ?_); refine oY (oM ?_); refine oY ?_; refine oS sF ?_; refine oY ?_; refine oS sL ?_; refine oY ?_
       by_cases hmx2 : (had : Int) < x.mx
       ·refine oS lsT ?_; refine oY ?_; refine oS sP ?_; refine oS sT (oZ hK21 ?_); refine cT (c_skip ?_); exact x_then (hJ12 ez.toNat _ _ ⟨by omega, by omega, by omega, by omega⟩ (by exact Sub.cons' rfl (congrArg _ (by omega)) sbA) sbA hzB)
       ·refine oS lsF ?_; refine oY ?_; refine oS sP ?_; refine oS sT (oZ hK21 ?_); refine cF ?_; refine c_exit ?_; refine x_then_exit (x_then_exit (x_block_exit ?_))
        have hGq : 0 ≤ lf → GRnd K.n x y js had i j c.xs (rEs x had i j) (os.map Sl.xs) (left - 1 - lf) := fun h0 => by first | exact absurd h0 (by omega) | exact GRnd.done (hG h0) hij (by omega)
        exact x_then (hJ5 ⟨ao, co, os, So, New, lf⟩ _ _ ⟨hO, hPo, hko, hlf, hlo, hGq⟩ sbA sbA hzB)
     ·refine oS geF ?_; refine oS sT (oM ?_); refine oN ?_; refine oN ?_; refine oN ?_; refine oN ?_; refine oU ?_; refine oU ?_; refine oU ?_; refine oU ?_; refine oN ?_; refine oS sP (oZ hK21 ?_); refine cF ?_; refine c_exit ?_; refine x_then_exit (x_then_exit (x_block_exit ?_))
      have hGq : 0 ≤ lf → GRnd K.n x y js had i j c.xs (rEs x had i j) (os.map Sl.xs) (left - 1 - lf) := fun h0 => by first | exact absurd h0 (by omega) | exact GRnd.done (hG h0) hij (by omega)
      exact x_then (hJ5 ⟨ao, co, os, So, New, lf⟩ _ _ ⟨hO, hPo, hko, hlf, hlo, hGq⟩ sbA sbA hzB)
    ·refine oS geF (oM ?_); refine oN ?_; refine oN ?_; refine oN ?_; refine oN ?_; refine oN ?_; refine oS sP (oM ?_); refine oN ?_; refine oN ?_; refine oN ?_; refine oN ?_; refine oU ?_; refine oU ?_; refine oU ?_; refine oU ?_; refine oN ?_; refine oS sP (oZ hK21 ?_); refine cF ?_; refine c_exit ?_; refine x_then_exit (x_then_exit (x_block_exit ?_))
     have hGq : 0 ≤ lf → GRnd K.n x y js had i j c.xs (rEs x had i j) (os.map Sl.xs) (left - 1 - lf) := fun h0 => by first | exact absurd h0 (by omega) | exact GRnd.done (hG h0) hij (by omega)
     exact x_then (hJ5 ⟨ao, co, os, So, New, lf⟩ _ _ ⟨hO, hPo, hko, hlf, hlo, hGq⟩ sbA sbA hzB)
end Go.Proofs.YtloepfcndglmmaaDoor
namespace Go.Proofs.YtloepfcndglmmaaDoor
open Go Go.HL Go.Proofs Go.HL.Kl Go.HL.Kl.Mc Go.HL.Kl.Mc.AskE
end Go.Proofs.YtloepfcndglmmaaDoor
namespace Go.Proofs.YtloepfcndglmmaaDoor
open Go Go.HL Go.Proofs Go.HL.Kl Go.HL.Kl.Mc Go.HL.Kl.Mc.AskE
open TalE
set_option maxHeartbeats 4000000 in
theorem node_stepV (K : TalE) (hK : K.ok) (L : Nat) (hN : K.NodeV L) (hR : ∀ f, K.RowV L f) (hRo : K.RoundsV L) (x : Nd) (ks : F) (at_ i1 : Nat) (hp : Part K.re (.nd x ks .nil) at_ i1) (i j : Nat) (hij : i ≤ j) (hjn : j ≤ K.n) (c : Sl Sp) (Pool : Hp) (hc : RowP K.N Pool c) (left : Int) (h0 : 0 ≤ left) (hL : left < L + 1) (h5 : left ≤ 500000) : HL.Fn Tryd.prog 90 [pt K.bT, .int .i64 at_, .int .i64 i, .int .i64 j, .slice c.a c.xs.length c.c] (fun W => K.Env W (K.obj left :: Pool)) (K.obj left :: Pool) (K.PostV left 0 Pool (NodeC' K.n x ks i j c.xs)) := by
  refine fn_of Tryd.func90 rfl rfl rfl fun w0 hw => ?_
  have hnl := hK.nl
  have hNl := hK.Nl
  have hrl := hK.rl
  have hhs := hw.d2.sl
  have hres := hw.d1.sl
  have hple := hp.le
  have hpl := hp.len
  obtain ⟨hx, hpk, _⟩ := hp.head
  have hxm := List.mem_of_getElem? hx
  have hxr := hK.rng x hxm
  have hby := hK.beh _ _ _ _ _ hp
  have hbl := (List.getElem?_eq_some_iff.1 hby).1
  have hbz : at_ + 1 + ks.size ≤ K.re.length := hpk.le
  have hat := (List.getElem?_eq_some_iff.1 hx).1
  have hcx := hc.1
  have hnks := F.num_le ks
  have hkn0 : (ks.num : Int) = x.kids := hp.wf.2.1
  have hok : ndOk x = true := hp.wf.1
  have hop : 1 ≤ x.op ∧ x.op ≤ 8 := (flds_iff.1 (by simp only [ndOk, Bool.and_eq_true] at hok; exact hok.1)).1
  refine cR fun _ hK1 => ?_; refine oA (oZ hK1 (cR fun _ hK2 => ?_)); refine oM ?_; refine oS sN ?_; refine oS sF ?_; refine oS sL ?_; refine oS sU ?_; refine oS sN ?_; refine oS sF ?_; refine o_store rfl rfl rfl upA ltA rfl ?_; refine oZ hK2 (c_seq fun _ hK3 => ?_); refine cR fun _ hK4 => ?_; refine oM ?_; refine oS sN ?_; refine oS sF ?_; refine oS sL ?_
  by_cases hl0 : left - 1 < 0
  ·refine oS lsT (oZ hK4 ?_); refine cT (cR fun _ hK5 => ?_); refine oA (oZ hK5 (c_ret ?_)); refine x_then_ret (?_); refine x_sub (Sub.refl _) (H' := K.obj (left - 1) :: ([] ++ ([] ++ Pool))) (by simpa using hzB) ?_; exact xR rfl rfl (⟨none, 0, [], [], [], left - 1, rfl, rfl, .nil, fun s hs => (by cases hs), by simp; omega, by omega, by omega, fun h0 => absurd h0 (by omega)⟩)
  ·refine oS lsF (oZ hK4 ?_); refine cFZ hK3 (cR fun _ hK6 => ?_); refine oM ?_; refine oS sN ?_; refine oS sF ?_; refine oS sL (oM ?_); refine oS (s_idx rfl rfl hres (by omega)) ?_; refine oS (s_ldB rfl ((RdK.old hw.d1 hw.a1).lds at_ hx rfl) (by rfl)) ?_; refine o_alloc (l := En zN) (by rw [En_zero]; rfl) rfl fun b11 => ?_; refine o_stW rfl rfl upA lnA lnA onA ?_; refine oZ hK6 (cR fun _ hK7 => ?_); refine oA (oZ hK7 ?_)
   refine c_seqJ (ι := Bool) (fun gd => (x.op = 1 ∨ x.op = 2 ∨ x.op = 3 ∨ x.op = 8) ∧ (goodT K.n x c.xs i j → gd = true)) (fun gd => [(12, .bool gd)]) [(4, _)] (fun gd => K.obj (left - 1) :: Pool) sbA ?_ ?_
   ·rintro gd ⟨hop4, hgT⟩
    refine c_seq fun _ hK9 => ?_; refine cR fun _ hK10 => ?_
    by_cases hgd : gd = true
    ·refine oS (step_cast (v' := .bool true) (s_move rfl) (by rw [hgd])) ?_; refine oS (s_not rfl) ?_; refine oZ hK10 ?_; refine cFZ hK9 (cR fun _ hK11 => ?_); refine oM ?_; refine o_bs (E := Esl) (xs := [c]) (vs := [_]) rfl rfl rfl rfl rfl (by decide) (by decide) fun b204 S204 hS204 => ?_; refine oA (oZ hK11 (c_ret ?_)); refine ?_; refine x_sub (Sub.refl _) (H' := K.obj (left - 1) :: (S204 ++ ([] ++ Pool))) (by simpa using hzB) ?_; exact xR rfl rfl (⟨_, _, [c], S204, [], left - 1, rfl, rfl, hS204, fun s hs => (by rw [List.mem_singleton.1 hs]; exact hc), by simp; omega, by omega, by omega, fun _ => ⟨1, .leaf hop4 (fun _ => List.mem_singleton_self _) (Nat.le_refl _), by omega⟩⟩)
    ·refine oS (step_cast (v' := .bool false) (s_move rfl) (by rw [Bool.eq_false_iff.2 hgd])) ?_; refine oS (s_not rfl) ?_; refine oZ hK10 ?_; refine cT (cR fun _ hK12 => ?_); refine oA (oZ hK12 (c_ret ?_)); refine x_then_ret (?_); refine x_sub (Sub.refl _) (H' := K.obj (left - 1) :: ([] ++ ([] ++ Pool))) (by simpa using hzB) ?_; exact xR rfl rfl (⟨none, 0, [], [], [], left - 1, rfl, rfl, .nil, fun s hs => (by cases hs), by simp; omega, by omega, by omega, fun _ => ⟨1, .leaf hop4 (fun h => absurd (hgT h) hgd) (Nat.le_refl _), by omega⟩⟩)
   ·intro _ hJ8
    refine cR fun _ hK13 => ?_; refine oS sF ?_; refine oS sL ?_; refine oS (s_convI rfl (by omega)) ?_; refine oZ hK13 (c_block (cR fun _ hK14 => ?_))
    by_cases o1 : x.op = 1
    ·refine oS (eqT (h := o1)) ?_; refine oA (oZ hK14 ?_); refine cT (c_region (oM (oM ?_))); refine oS sD ?_; refine oS (s_eql rfl rfl) ?_; refine oA (o_nil (x_block ?_)); exact x_then (hJ8 (decide ((j : Int) = (i : Int) + 1)) _ _ ⟨.inl o1, fun h => decide_eq_true (by have := gT1 h o1; omega)⟩ sbA sbA hzB)
    ·refine oS (eqF (h := o1)) ?_; refine oA (oZ hK14 ?_); refine cF (cR fun _ hK15 => ?_)
     by_cases o2 : x.op = 2
     ·refine oS (eqT (h := o2)) ?_; refine oA (oZ hK15 ?_); refine cT (c_region (oM ?_))
      by_cases hi0 : (i : Int) = 0
      ·refine oS eqT (oM ?_); refine oY (oM ?_); refine oY ?_; refine oS (s_eql rfl rfl) ?_; refine oS sT (oA (o_nil (x_block ?_))); exact x_then (hJ8 (decide ((j : Int) = 0)) _ _ ⟨.inr (.inl o2), fun h => decide_eq_true (by have := gT2 h o2; omega)⟩ sbA sbA hzB)
      ·refine oS eqF (oM ?_); refine oN ?_; refine oN ?_; refine oS sP (oA (o_nil (x_block ?_))); exact x_then (hJ8 false _ _ ⟨.inr (.inl o2), fun h => (by have := gT2 h o2; exfalso; omega)⟩ sbA sbA hzB)
     ·refine oS (eqF (h := o2)) ?_; refine oA (oZ hK15 ?_); refine cF (cR fun _ hK16 => ?_)
      by_cases o3 : x.op = 3
      ·refine oS (eqT (h := o3)) ?_; refine oA (oZ hK16 ?_); refine cT (c_region (oM (oM ?_))); refine oS sN ?_; refine oS sF ?_; refine oS sL ?_
       by_cases hin : (i : Int) = (K.n : Nat)
       ·refine oS eqT (oM ?_); refine oY (oM ?_); refine oY (oM ?_); refine oY ?_; refine oS sN ?_; refine oY ?_; refine oS sF ?_; refine oY ?_; refine oS sL ?_; refine oY ?_; refine oS (s_eql rfl rfl) ?_; refine oS sT (oA (o_nil (x_block ?_))); exact x_then (hJ8 (decide ((j : Int) = (K.n : Nat))) _ _ ⟨.inr (.inr (.inl o3)), fun h => decide_eq_true (by have := gT3 h o3; omega)⟩ sbA sbA hzB)
       ·refine oS eqF (oM ?_); refine oN ?_; refine oN ?_; refine oN ?_; refine oN ?_; refine oN ?_; refine oN ?_; refine oS sP (oA (o_nil (x_block ?_))); exact x_then (hJ8 false _ _ ⟨.inr (.inr (.inl o3)), fun h => (by have := gT3 h o3; exfalso; omega)⟩ sbA sbA hzB)
      ·refine oS (eqF (h := o3)) ?_; refine oA (oZ hK16 ?_); refine cF (cR fun _ hK17 => ?_)
       by_cases o8 : x.op = 8
       ·have hrf := hK.ref x hxm o8
        obtain ⟨s, hsp⟩ : ∃ s, c.xs[(x.n - 1).toNat]? = some s := gE
        have hcs := hc.2.1
        refine oS (eqT (h := o8)) ?_; refine oA (oZ hK17 ?_); refine cT (cR fun _ hK18 => ?_); refine oM ?_; refine oS sF ?_; refine oS sL ?_; refine oS sU ?_; refine oS (s_idx rfl rfl hcs (by omega)) ?_; refine oS (s_ldB rfl ((hc.2.2.rdk hiA).lds (x.n - 1).toNat hsp rfl) (by rfl)) ?_; refine o_alloc (l := Esp ⟨0, 0⟩) rfl rfl fun b13 => ?_; refine o_stW rfl rfl upA lnA lnA onA ?_; refine oZ hK18 (c_region ?_); refine oS sF ?_; refine oS sL ?_
        by_cases hsf : s.fr ≥ 0
        ·refine oS geT (oM ?_); refine oY ?_; refine oS sF ?_; refine oY ?_; refine oS sL ?_; refine oY ?_; refine oS sF ?_; refine oY ?_; refine oS sL ?_; refine oY ?_; refine oS (s_subw rfl rfl) ?_; refine oY (oM ?_); refine oY (oM ?_); refine oY ?_; refine oS sU ?_; refine oY ?_; refine oS (s_eql rfl rfl) ?_; refine oS sT (oA (o_nil (x_block ?_))); exact x_then (hJ8 (decide (IntKind.wrap .i64 (s.to - s.fr) = (j : Int) - (i : Int))) _ _ ⟨.inr (.inr (.inr o8)), fun h => decide_eq_true (by obtain ⟨g1, g2⟩ := gT8 h o8 hrf.1 hsp; rw [g2]; exact wrap_i64z (by omega) (by omega))⟩ sbA sbA hzB)
        ·refine oS geF (oM ?_); refine oN ?_; refine oN ?_; refine oN ?_; refine oN ?_; refine oN ?_; refine oN ?_; refine oN ?_; refine oN ?_; refine oN ?_; refine oS sP (oA (o_nil (x_block ?_))); exact x_then (hJ8 false _ _ ⟨.inr (.inr (.inr o8)), fun h => (by have := (gT8 h o8 hrf.1 hsp).1; exfalso; omega)⟩ sbA sbA hzB)
       ·refine oS (eqF (h := o8)) ?_; refine oA (oZ hK17 ?_); refine cF (cR fun _ hK19 => ?_)
        by_cases o4 : x.op = 4
        ·refine oS (eqT (h := o4)) ?_; refine oA (oZ hK19 ?_); refine cT (cR fun _ hK20 => ?_); refine oM (oM ?_); refine oS sD ?_; refine oS sF ?_; refine oS (step_cast (v' := .int .i64 (ks.num : Nat)) (s_ld rfl (.own meA rfl)) (by rw [hkn0])) ?_; refine oM (oM (oM ?_)); refine o_call (hR ks (at_ + 1) _ hpk i j hij hjn c Pool hc (left - 1) (by omega) (by omega) (by omega)) rfl rfl rfl ((Pick.takeC pkA pkA)) (fun _ st => ⟨(RdK.old hw.d1 hw.a1).out _ st, St.apart_M st (by exact hiB) hw.d1 hw.a1 (by decide), (RdK.old hw.d2 hw.a2).out _ st, St.apart_M st (by exact hiB) hw.d2 hw.a2 (by decide)⟩) (fun v105 S105 ⟨a105, c105, zs105, Sz105, New105, lf105, hv105, hS105, hO105, hP105, hk105, hl105, hb105, hC105⟩ => ?_)
         subst hv105; subst hS105
         refine oA (oZ hK20 (c_ret ?_)); refine x_block_ret (x_then_ret (?_))
         refine x_sub (Sub.refl _) (H' := K.obj lf105 :: (Sz105 ++ (New105 ++ Pool))) hzB ?_; exact xR rfl rfl (⟨a105, c105, zs105, Sz105, New105, lf105, rfl, rfl, hO105, hP105, by omega, by omega, hb105, fun h0 => (by obtain ⟨k0, w1, w2⟩ := hC105 h0; refine ⟨k0 + 2, .cat o4 w1 (Nat.le_refl _), ?_⟩; rcases w2 with ⟨_, w3, _⟩ | w3 <;> omega)⟩)
        ·refine oS (eqF (h := o4)) ?_; refine oA (oZ hK19 ?_); refine cF (cR fun _ hK21 => ?_)
         by_cases o5 : x.op = 5
         ·refine oS (eqT (h := o5)) ?_; refine oA (oZ hK21 ?_); refine cT (cR fun _ hK22 => ?_); refine oA (oZ hK22 (cR fun _ hK23 => ?_)); refine oM ?_; refine oS sD (oA (oZ hK23 (c_seq fun _ hK24 => ?_))); refine cR fun _ hK25 => ?_; refine oA (oZ hK25 (c_block ?_)); refine c_loop9 (fun (k : Nat) (kp : Nat) (g : F) (ao : Option Addr) (co : Nat) (os : List (Sl Sp)) (So : Hp) (New : Hp) (lf : Int) => Part K.re g kp (at_ + 1 + ks.size) ∧ k + g.num = ks.num ∧ OwnS Esl 1 32 (.slice ao os.length co) os So ∧ PoolR os K.N (New ++ Pool) ∧ (os.length : Int) + lf ≤ left - 1 ∧ lf ≤ left - 1 ∧ -700000 ≤ lf ∧ (0 ≤ lf → ∃ kk, AltPre K.n ks g i j c.xs (os.map Sl.xs) kk ∧ (kk : Int) ≤ 3 * (left - 1 - lf))) (fun (k : Nat) (kp : Nat) (g : F) (ao : Option Addr) (co : Nat) (os : List (Sl Sp)) (So : Hp) (New : Hp) (lf : Int) => [(16, .int .i64 k), (15, .int .i64 kp), (14, .slice ao os.length co)]) [(0, _), (2, _), (3, _), (4, _), (10, _), (11, _), (12, _)] (fun (k : Nat) (kp : Nat) (g : F) (ao : Option Addr) (co : Nat) (os : List (Sl Sp)) (So : Hp) (New : Hp) (lf : Int) => (b11, .cells (En x).toArray 80 (0, 0)) :: K.obj lf :: (So ++ (New ++ Pool))) (fun (k : Nat) (kp : Nat) (g : F) (ao : Option Addr) (co : Nat) (os : List (Sl Sp)) (So : Hp) (New : Hp) (lf : Int) => g.size) 0 (at_ + 1) ks none 0 [] [] [] (left - 1) ⟨hpk, by simp, .nil, fun s hs => (by cases hs), by simp, Int.le_refl _, by omega, fun _ => ⟨0, AltPre.start, by omega⟩⟩ sbA sbA hzB ?_
          rintro k kp g ao co os So New lf ⟨hpg, hkn, hO, hPo, hko, hlf, hlo, hAc⟩
          refine c_seq fun _ hK26 => ?_; refine cR fun _ hK27 => ?_; refine oM ?_; refine oS sF ?_; refine oS sL ?_
          by_cases hkk : (k : Int) < x.kids
          ·obtain ⟨y, js, r, rfl⟩ : ∃ y js r, g = F.nd y js r := by cases g with | nil => simp [F.num] at hkn; omega | nd y a b => exact ⟨y, a, b, rfl⟩
           obtain ⟨hy, hpy, hpr⟩ := hpg.head
           have hby2 := hK.beh _ _ _ _ _ hpg
           have hp1 := hpg.one
           have hbl2 := (List.getElem?_eq_some_iff.1 hby2).1
           have hgl := hpg.le
           have hgn := hpg.len
           refine oS lsT (oM ?_); refine oY (oM ?_); refine oY ?_; refine oS sN ?_; refine oY ?_; refine oS sF ?_; refine oY ?_; refine oS sL ?_; refine oY ?_
           by_cases hlf0 : lf ≥ 0
           ·refine oS geT ?_; refine oS sT (oZ hK27 ?_); refine cTZ hK26 (c_seq fun _ hK28 => ?_); refine c_block (cR fun _ hK29 => ?_); refine oM (oM (oM (oM (oM (oM (oM ?_)))))); refine o_call (hN y js kp _ hp1 i j hij hjn c (New ++ Pool) (hc.mono hiA) lf (by omega) (by omega) (by omega)) rfl rfl rfl ((Pick.takeC pkA pkA)) (fun _ st => ⟨(RdK.old hw.d1 hw.a1).out _ st, St.apart_M st (by exact hiB) hw.d1 hw.a1 (by decide), (RdK.old hw.d2 hw.a2).out _ st, St.apart_M st (by exact hiB) hw.d2 hw.a2 (by decide)⟩) (fun v130 S130 ⟨a130, c130, zs130, Sz130, New130, lf130, hv130, hS130, hO130, hP130, hk130, hl130, hb130, hC130⟩ => ?_)
            subst hv130; subst hS130
            refine o_call (tAllV_fn K.bT K.ra K.rc K.re K.n K.ha K.hc K.hl lf130 ao co os So hO a130 c130 zs130 Sz130 (New130 ++ (New ++ Pool)) hO130 K.N (hPo.mono hiB) hP130 hNl (by omega) hb130 (by omega) (by omega)) rfl rfl rfl ((Pick.takeC pkA (Pick.takeA pkA pkA))) (fun _ _ => trivial) (fun v131 S131 ⟨a131, c131, zs131, SL131, lf131, hv131, hS131, hO131, hP131, hk131, hl131, hb131, hC131⟩ => ?_); subst hv131
            subst hS131; refine oA (oZ hK29 (c_region (oM ?_))); refine oS sN ?_; refine oS sF ?_; refine oS sL (oM ?_); refine oS (s_idx rfl rfl hhs (by omega)) ?_; refine oS (s_ld rfl ((RdK.old hw.d2 hw.a2).ld kp 0 hby2 rfl (by decide) (by omega))) ?_; refine oA (o_nil (x_block (xZ hK28 (c_region (oM ?_))))); refine oS sD (oA (o_nil ?_))
            have hAn : 0 ≤ lf131 → ∃ kk, AltPre K.n ks r i j c.xs (zs131.map Sl.xs) kk ∧ (kk : Int) ≤ 3 * (left - 1 - lf131) := fun h0 => by
              obtain ⟨u1, u2, u3⟩ := hC131 h0
              obtain ⟨kk, w1, w2⟩ := hAc (by omega)
              obtain ⟨kn, n1, n2⟩ := hC130 (by omega)
              refine ⟨kk + kn, w1.step n1 (fun d hd => by obtain ⟨s, s1, s2⟩ := List.mem_map.1 hd; exact List.mem_map.2 ⟨s, u1 s s1, s2⟩) (fun d hd => by obtain ⟨s, s1, s2⟩ := List.mem_map.1 hd; rw [← s2]; exact u2 s s1), by omega⟩
            exact x_then (x_inv (k + 1, (kp + 1 + js.size), r, a131, c131, zs131, SL131, New130 ++ New, lf131) ⟨hpr, by simp only [F.num] at hkn; dsimp only; omega, hO131, by rw [List.append_assoc]; exact hP131, by dsimp only; omega, by dsimp only; omega, hb131, hAn⟩ (by simp only [F.size]; omega) sbA (by simp only [List.append_assoc]; exact hzB))
           ·refine oS geF ?_; refine oS sT (oZ hK27 ?_); refine cF ?_; refine c_exit ?_; refine x_then_exit (x_then_exit (x_block_exit (xZ hK24 (cR fun _ hK30 => ?_)))); refine oM (oA (oZ hK30 (c_ret ?_))); refine x_block_ret (x_then_ret (?_))
            refine x_sub (Sub.refl _) (H' := K.obj lf :: (So ++ (New ++ Pool))) hzB ?_; exact xR rfl rfl (⟨ao, co, os, So, New, lf, rfl, rfl, hO, hPo, by omega, by omega, hlo, fun h0 => (by first | exact absurd h0 (by omega) | (obtain ⟨kk, w1, w2⟩ := hAc h0; exact ⟨kk + 1, .altC o5 w1.done (Nat.le_refl _), by omega⟩))⟩)
          ·obtain rfl : g = F.nil := F.num_nil (by omega)
           refine oS lsF (oM ?_); refine oN ?_; refine oN ?_; refine oN ?_; refine oN ?_; refine oN ?_; refine oS sP (oZ hK27 ?_); refine cF ?_; refine c_exit ?_; refine x_then_exit (x_then_exit (x_block_exit (xZ hK24 (cR fun _ hK31 => ?_)))); refine oM (oA (oZ hK31 (c_ret ?_))); refine x_block_ret (x_then_ret (?_))
           refine x_sub (Sub.refl _) (H' := K.obj lf :: (So ++ (New ++ Pool))) hzB ?_; exact xR rfl rfl (⟨ao, co, os, So, New, lf, rfl, rfl, hO, hPo, by omega, by omega, hlo, fun h0 => (by first | exact absurd h0 (by omega) | (obtain ⟨kk, w1, w2⟩ := hAc h0; exact ⟨kk + 1, .altC o5 w1.done (Nat.le_refl _), by omega⟩))⟩)
         ·refine oS (eqF (h := o5)) ?_; refine oA (oZ hK21 ?_); refine cF (cR fun _ hK32 => ?_)
          by_cases o6 : x.op = 6
          ·obtain ⟨y, js, rfl⟩ := one_kid hp.wf (.inl o6)
           refine oS (eqT (h := o6)) ?_; refine oA (oZ hK32 ?_); refine cT (cR fun _ hK33 => ?_); refine oM (oM (oM (oM (oM ?_)))); refine o_call (hRo x y js at_ i1 o6 hp 0 (by omega) i j hij hjn c Pool hc (left - 1) (by omega) (by omega) (by omega) (by omega)) rfl rfl rfl ((Pick.takeC pkA pkA)) (fun _ st => ⟨(RdK.old hw.d1 hw.a1).out _ st, St.apart_M st (by exact hiB) hw.d1 hw.a1 (by decide), (RdK.old hw.d2 hw.a2).out _ st, St.apart_M st (by exact hiB) hw.d2 hw.a2 (by decide)⟩) (fun v147 S147 ⟨a147, c147, zs147, Sz147, New147, lf147, hv147, hS147, hO147, hP147, hk147, hl147, hb147, hC147⟩ => ?_)
           subst hv147; subst hS147
           refine oA (oZ hK33 (c_ret ?_)); refine x_block_ret (x_then_ret (?_))
           refine x_sub (Sub.refl _) (H' := K.obj lf147 :: (Sz147 ++ (New147 ++ Pool))) hzB ?_; exact xR rfl rfl (⟨a147, c147, zs147, Sz147, New147, lf147, rfl, rfl, hO147, hP147, by omega, by omega, hb147, fun h0 => (by obtain ⟨k0, w1, w2⟩ := hC147 h0; exact ⟨k0 + 2, .rep o6 w1 (Nat.le_refl _), by omega⟩)⟩)
          ·refine oS (eqF (h := o6)) ?_; refine oA (oZ hK32 ?_); refine cF (cR fun _ hK34 => ?_)
           by_cases o7 : x.op = 7
           ·obtain ⟨y, js, rfl⟩ := one_kid hp.wf (.inr o7)
            have hp1 := hpk.one
            have hgr := hK.grp x hxm o7
            refine oS (eqT (h := o7)) ?_; refine oA (oZ hK34 ?_); refine cT (cR fun _ hK35 => ?_); refine oM (oM ?_); refine oS sD (oM (oM (oM (oM (oM ?_))))); refine oS sD (oM ?_); refine oS sN ?_; refine oS sF ?_; refine oS sL (oM ?_); refine oS (s_idx rfl rfl hhs (by omega)) ?_; refine oS (s_ld rfl ((RdK.old hw.d2 hw.a2).ld at_ 0 hby rfl (by decide) (by omega))) ?_; refine o_call (tEmptiedV_fn K.bT _ K.ra K.rc K.re hK.rng hrl K.N hNl hK.grp c.a c.c c.xs hc.1 (at_ + 1) (at_ + 1 + (F.nd y js .nil).size) hbz) rfl rfl rfl (by exact .nil) (fun _ st => ⟨(RdPK.own meA).out _ st, (RdK.old hw.d1 hw.a1).out _ st, (hc.2.2.rdk hiA).out _ st⟩) (fun v166 S166 ⟨a166, c166, hv166, hO166⟩ => ?_); subst hv166
            rw [empTo_part hpk] at hO166
            have hx166 : (emp (F.nd y js .nil).flat c.xs).length = K.N := by rw [emp_len]; exact hc.1
            generalize hE : emp (F.nd y js .nil).flat c.xs = xs166 at hO166 hx166
            rw [← hx166] at hO166
            rw [← hx166]
            refine o_call (hN y js (at_ + 1) _ hp1 i j hij hjn ⟨a166, c166, xs166⟩ (S166 ++ Pool) ⟨hx166, hO166.sl, hO166.rds.mono hiA⟩ (left - 1) (by omega) (by omega) (by omega)) rfl rfl rfl ((Pick.takeC pkA (Pick.takeA pkA pkA))) (fun _ st => ⟨(RdK.old hw.d1 hw.a1).out _ st, St.apart_M st (by exact hiB) hw.d1 hw.a1 (by decide), (RdK.old hw.d2 hw.a2).out _ st, St.apart_M st (by exact hiB) hw.d2 hw.a2 (by decide)⟩) (fun v167 S167 ⟨a167, c167, zs167, Sz167, New167, lf167, hv167, hS167, hO167, hP167, hk167, hl167, hb167, hC167⟩ => ?_); subst hv167
            subst hS167; refine oA (oZ hK35 (cR fun _ hK36 => ?_)); refine oA (oZ hK36 (c_seq fun _ hK37 => ?_)); refine cR fun _ hK38 => ?_; refine oA (oZ hK38 (c_block ?_)); refine c_loop7 (fun (k : Nat) (ao : Option Addr) (co : Nat) (os : List (Sl Sp)) (So : Hp) (New : Hp) (lf : Int) => k ≤ zs167.length ∧ OwnS Esl 1 32 (.slice ao os.length co) os So ∧ PoolR os K.N (New ++ Pool) ∧ (os.length : Int) + lf ≤ left - 1 ∧ lf ≤ left - 1 ∧ -700000 ≤ lf ∧ PoolR zs167 K.N (New ++ Pool) ∧ (0 ≤ lf → (∀ (m : Nat) s, m < k → zs167[m]? = some s → s.xs.set (x.n - 1).toNat ⟨i, j⟩ ∈ os.map Sl.xs) ∧ lf + k ≤ lf167)) (fun (k : Nat) (ao : Option Addr) (co : Nat) (os : List (Sl Sp)) (So : Hp) (New : Hp) (lf : Int) => [(19, .int .i64 k), (18, .slice ao os.length co)]) [(0, _), (2, _), (3, _), (4, _), (10, _), (11, _), (12, _), (17, _)] (fun (k : Nat) (ao : Option Addr) (co : Nat) (os : List (Sl Sp)) (So : Hp) (New : Hp) (lf : Int) => (b11, .cells (En x).toArray 80 (0, 0)) :: K.obj lf :: (So ++ (Sz167 ++ (New ++ Pool)))) (fun (k : Nat) (ao : Option Addr) (co : Nat) (os : List (Sl Sp)) (So : Hp) (New : Hp) (lf : Int) => zs167.length - k) 0 none 0 [] [] (New167 ++ S166) lf167 ⟨Nat.zero_le _, .nil, fun s hs => (by cases hs), by simp; omega, by omega, hb167, by rw [List.append_assoc]; exact hP167, fun _ => ⟨fun m s h => absurd h (Nat.not_lt_zero _), by omega⟩⟩ sbA sbA (by simp only [List.append_assoc]; exact hzB) ?_
            rintro k ao co os So New lf ⟨hk, hO, hPo, hko, hlf, hlo, hPz, hAc⟩
            refine c_seq fun _ hK39 => ?_; refine cR fun _ hK40 => ?_; refine oM (oM ?_); refine oS sC ?_
            by_cases hkl : (k : Int) < zs167.length
            ·obtain ⟨z, hzk⟩ : ∃ z, zs167[k]? = some z := gE
             have hzp := hPz z (List.mem_of_getElem? hzk)
             have hzN := hzp.1
             have hzs := hzp.2.1
             refine oS lsT (oM ?_); refine oY (oM ?_); refine oY ?_; refine oS sN ?_; refine oY ?_; refine oS sF ?_; refine oY ?_; refine oS sL ?_; refine oY ?_
             by_cases hlf1 : lf ≥ 0
             ·refine oS geT ?_; refine oS sT (oZ hK40 ?_); refine cTZ hK39 (c_seq fun _ hK41 => ?_); refine c_block (cR fun _ hK42 => ?_); refine oA (oZ hK42 (cR fun _ hK43 => ?_)); refine oM (oM (oM ?_)); refine oS (s_idx rfl rfl hO167.sl (by omega)) ?_; refine oS (s_ld rfl ((hO167.rdk hiA).ld k 0 hzk rfl (by decide) (by omega))) ?_; refine o_app (OwnS.nil : OwnS Esp 2 45 (.slice none 0 0) [] []) (hzp.2.2.rdk hiA) rfl rfl rfl rfl (by simp; omega) (by simp; omega) rfl (by exact .nil) fun a186 c186 S186 hS186 => ?_
              rw [List.nil_append] at hS186
              rw [List.nil_append]
              refine oA (oZ hK43 (cR fun _ hK44 => ?_)); refine oM ?_; refine oS sF ?_; refine oS sL ?_; refine oS sU (oM (oM ?_)); refine oS (s_build (cs := [_, _]) (vs := [_, _]) rfl rfl (.cons rfl rfl rfl rfl rfl (.cons rfl rfl rfl rfl rfl (.nil)))) ?_; refine oS (s_idx rfl rfl hS186.sl (by omega)) ?_; refine o_stSE (x.n - 1).toNat ⟨i, j⟩ hS186 pkA rfl rfl (by omega) (by rfl) fun S' hS' => ?_
              have hrow : RowP K.N S' ⟨a186, c186, z.xs.set (x.n - 1).toNat ⟨i, j⟩⟩ := ⟨by rw [List.length_set]; exact hzN, by have h := hS'.sl; simpa [Sl.v] using h, by have h := hS'.rds; simpa [Sl.v] using h⟩
              refine oZ hK44 (c_region (oM (oM ?_))); refine oS (step_cast (v' := .slice a186 (z.xs.set (x.n - 1).toNat ⟨i, j⟩).length c186) (s_move rfl) (by rw [List.length_set])) ?_; refine o_bs (E := Esl) (xs := [(⟨a186, c186, z.xs.set (x.n - 1).toNat ⟨i, j⟩⟩ : Sl Sp)]) (vs := [_]) rfl rfl rfl rfl rfl (by decide) (by decide) fun b198 S198 hS198 => ?_; refine o_call (tAllV_fn K.bT K.ra K.rc K.re K.n K.ha K.hc K.hl lf ao co os So hO _ _ [(⟨a186, c186, z.xs.set (x.n - 1).toNat ⟨i, j⟩⟩ : Sl Sp)] S198 (S' ++ (New ++ Pool)) hS198 K.N (hPo.mono hiA) (fun s hs => by rw [List.mem_singleton.1 hs]; exact hrow.mono hiA) hNl (by omega) hlo (by simp) (by omega)) rfl rfl rfl ((Pick.takeC pkA (Pick.takeA pkA (Pick.takeA pkA pkA)))) (fun _ _ => trivial) (fun v199 S199 ⟨a199, c199, zs199, SL199, lf199, hv199, hS199, hO199, hP199, hk199, hl199, hb199, hC199⟩ => ?_)
              subst hv199; subst hS199
              refine oA (o_nil (x_block (xZ hK41 (c_region (oM ?_))))); refine oS sD (oA (o_nil ?_))
              have hAn : 0 ≤ lf199 → (∀ (m : Nat) s, m < k + 1 → zs167[m]? = some s → s.xs.set (x.n - 1).toNat ⟨i, j⟩ ∈ zs199.map Sl.xs) ∧ lf199 + (k + 1 : Nat) ≤ lf167 := fun h0 => by
                obtain ⟨u1, u2, u3⟩ := hC199 h0
                obtain ⟨q1, q2⟩ := hAc (by omega)
                refine ⟨fun m s hm hs => ?_, by simp only [List.length_singleton] at u3; omega⟩
                by_cases e : m = k
                · subst e; rw [hzk] at hs; cases hs; exact u2 _ (List.mem_singleton_self _)
                · obtain ⟨s2, s3, s4⟩ := List.mem_map.1 (q1 m s (by omega) hs); exact List.mem_map.2 ⟨s2, u1 s2 s3, s4⟩
              exact x_then (x_inv (k + 1, a199, c199, zs199, SL199, S' ++ New, lf199) ⟨by dsimp only; omega, hO199, by rw [List.append_assoc]; exact hP199, by dsimp only; (try simp only [List.length_singleton] at hk199); omega, by dsimp only; omega, hb199, by rw [List.append_assoc]; exact hPz.mono (HIn.app HIn.all), hAn⟩ (by first | omega | (dsimp only; omega)) sbA (by simp only [List.append_assoc]; exact hzB))
             ·refine oS geF ?_; refine oS sT (oZ hK40 ?_); refine cF ?_; refine c_exit ?_; refine x_then_exit (x_then_exit (x_block_exit (xZ hK37 (cR fun _ hK45 => ?_)))); refine oM (oA (oZ hK45 (c_ret ?_))); refine x_block_ret (x_then_ret (?_))
              refine x_sub (Sub.refl _) (H' := K.obj lf :: (So ++ (New ++ Pool))) hzB ?_; exact xR rfl rfl (⟨ao, co, os, So, New, lf, rfl, rfl, hO, hPo, by omega, by omega, hlo, fun h0 => (by first | exact absurd h0 (by omega) | (obtain ⟨q1, q2⟩ := hAc h0; subst hE; obtain ⟨kk, w1, w2⟩ := hC167 (by omega); exact ⟨_, .grp o7 w1 (fun d hd => by obtain ⟨s, s1, s2⟩ := List.mem_map.1 hd; obtain ⟨m, hm⟩ := List.mem_iff_getElem?.1 s1; rw [← s2, show x.n.toNat - 1 = (x.n - 1).toNat by omega]; exact q1 m s (by have := (List.getElem?_eq_some_iff.1 hm).1; omega) hm) (Nat.le_refl _), by rw [List.length_map]; omega⟩))⟩)
            ·refine oS lsF (oM ?_); refine oN ?_; refine oN ?_; refine oN ?_; refine oN ?_; refine oN ?_; refine oS sP (oZ hK40 ?_); refine cF ?_; refine c_exit ?_; refine x_then_exit (x_then_exit (x_block_exit (xZ hK37 (cR fun _ hK46 => ?_)))); refine oM (oA (oZ hK46 (c_ret ?_))); refine x_block_ret (x_then_ret (?_))
             refine x_sub (Sub.refl _) (H' := K.obj lf :: (So ++ (New ++ Pool))) hzB ?_; exact xR rfl rfl (⟨ao, co, os, So, New, lf, rfl, rfl, hO, hPo, by omega, by omega, hlo, fun h0 => (by first | exact absurd h0 (by omega) | (obtain ⟨q1, q2⟩ := hAc h0; subst hE; obtain ⟨kk, w1, w2⟩ := hC167 (by omega); exact ⟨_, .grp o7 w1 (fun d hd => by obtain ⟨s, s1, s2⟩ := List.mem_map.1 hd; obtain ⟨m, hm⟩ := List.mem_iff_getElem?.1 s1; rw [← s2, show x.n.toNat - 1 = (x.n - 1).toNat by omega]; exact q1 m s (by have := (List.getElem?_eq_some_iff.1 hm).1; omega) hm) (Nat.le_refl _), by rw [List.length_map]; omega⟩))⟩)
           ·refine oS (eqF (h := o7)) ?_; refine oA (oZ hK34 ?_); refine cF (c_skip (x_block ?_)); exact x_then (hJ8 false _ _ (by exfalso; omega) sbA sbA hzB)
end Go.Proofs.YtloepfcndglmmaaDoor
