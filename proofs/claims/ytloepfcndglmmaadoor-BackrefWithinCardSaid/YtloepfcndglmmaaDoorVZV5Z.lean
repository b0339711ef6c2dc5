/- Part of the proofs over this seat: see the text that holds the theorem. Conditions: each theorem bears its own. -/
import Derived.Test.YtloepfcndglmmaaDoorVZV2Z
import Derived.Test.YtloepfcndglmmaaDoorMT9Z
namespace Go.Proofs.YtloepfcndglmmaaDoor
open Go Go.HL Go.Proofs Go.HL.Kl Go.HL.Kl.Mc Go.HL.Kl.Mc.AskE
open TalE
set_option maxHeartbeats 4000000 in
theorem rounds_stepV (K : TalE) (hK : K.ok) (L : Nat) (hN : K.NodeV L) (ih : K.RoundsV L) (x y : Nd) (js : F) (at_ i1 : Nat) (h6 : x.op = 6) (hp : Part K.re (.nd x (.nd y js .nil) .nil) at_ i1) (had : Nat) (hhd : had ≤ 600000) (i j : Nat) (hij : i ≤ j) (hjn : j ≤ K.n) (c : Sl Sp) (Pool : Hp) (hc : RowP K.N Pool c) (left : Int) (h0 : 0 ≤ left) (hL : left < L + 1) (h5 : left ≤ 500000) (hhl : (had : Int) + left ≤ 600000) : HL.Fn Tryd.prog 109 [pt K.bT, .int .i64 at_, .int .i64 had, .int .i64 i, .int .i64 j, .slice c.a c.xs.length c.c] (fun W => K.Env W ((K.bT, .cells [.slice K.ra K.re.length K.rc, .int .i64 (K.n : Nat), .slice K.ha K.hl.length K.hc, .int .i64 left].toArray 144 (0, 0)) :: Pool)) ((K.bT, .cells [.slice K.ra K.re.length K.rc, .int .i64 (K.n : Nat), .slice K.ha K.hl.length K.hc, .int .i64 left].toArray 144 (0, 0)) :: Pool) (K.PostV left 0 Pool (RndC K.n x y js had i j c.xs)) := by
  refine fn_of Tryd.func109 rfl rfl rfl fun w0 hw => ?_
  have hnl := hK.nl
  have hNl := hK.Nl
  have hrl := hK.rl
  have hhs := hw.d2.sl
  have hres := hw.d1.sl
  have hple := hp.le
  have hpl := hp.len
  obtain ⟨hx, hpk, _⟩ := hp.head
  have hp1 := hpk.one
  have hby := hK.beh _ _ _ _ _ hp
  have hbl := (List.getElem?_eq_some_iff.1 hby).1
  have hbz : at_ + 1 + (F.nd y js .nil).size ≤ K.re.length := hpk.le
  have hat := (List.getElem?_eq_some_iff.1 hx).1
  have hcx := hc.1
  have hrf := rep_flds hp.wf.1 h6
  refine c_seq fun _ hK1 => ?_
  refine c_region ?_
  refine o_step rfl (s_assign rfl) ?_
  refine o_nil ?_
  refine x_then (hK1 _ _ ?_)
  refine c_seq fun _ hK2 => ?_
  refine c_region ?_
  refine o_step rfl (s_move rfl) ?_
  refine o_step rfl (s_nil rfl) ?_
  refine o_step rfl (s_field rfl rfl (by decide)) ?_
  refine o_step rfl (s_ld rfl (.own meA rfl)) ?_
  refine o_step rfl (s_sub rfl rfl (by omega)) ?_
  refine o_step rfl (s_nil rfl) ?_
  refine o_step rfl (s_field rfl rfl (by decide)) ?_
  refine o_store rfl rfl rfl upA ltA rfl ?_
  refine o_nil ?_
  refine x_then (hK2 _ _ ?_)
  refine c_seq fun _ hK3 => ?_
  refine c_region ?_
  refine o_step rfl (s_move rfl) ?_
  refine o_step rfl (s_nil rfl) ?_
  refine o_step rfl (s_field rfl rfl (by decide)) ?_
  refine o_step rfl (s_ld rfl (.own meA rfl)) ?_
  refine o_step rfl (s_move rfl) ?_
  refine o_step rfl (s_idx rfl rfl hres (by omega)) ?_
  refine o_step rfl (s_ldB rfl ((RdK.old hw.d1 hw.a1).lds at_ hx rfl) (by rfl)) ?_
  refine o_alloc (l := En zN) (by rw [En_zero]; rfl) rfl fun b13 => ?_
  refine o_stW rfl rfl upA lnA lnA onA ?_
  refine o_nil ?_
  refine x_then (hK3 _ _ ?_)
  refine c_seq fun _ hK4 => ?_
  refine c_region ?_
  refine o_step rfl (s_assign rfl) ?_
  refine o_nil ?_
  refine x_then (hK4 _ _ ?_)
  refine c_seqJ (ι := TalJ) (fun q => OwnS Esl 1 32 (.slice q.a q.zs.length q.c) q.zs q.S ∧ PoolR q.zs K.N (q.New ++ Pool) ∧ (q.zs.length : Int) + q.lf ≤ left - 1 ∧ q.lf ≤ left - 1 ∧ -700000 ≤ q.lf ∧ (0 ≤ q.lf → GRnd K.n x y js had i j c.xs (rEs x had i j) (q.zs.map Sl.xs) (left - 1 - q.lf))) (fun q => [(14, .slice q.a q.zs.length q.c)]) [(0, _), (2, _), (3, _), (4, _), (5, _), (12, _), (13, _)] (fun q => (b13, .cells (En x).toArray 80 (0, 0)) :: (K.bT, .cells [.slice K.ra K.re.length K.rc, .int .i64 (K.n : Nat), .slice K.ha K.hl.length K.hc, .int .i64 q.lf].toArray 144 (0, 0)) :: (q.S ++ (q.New ++ Pool))) sbA ?_ ?_
  ·
   rintro ⟨ao, co, os, So, New, lf⟩ ⟨hO, hPo, hko, hlf, hlo, hGq⟩
   dsimp only at hO hPo hko hlf hlo hGq ⊢
   refine c_seq fun _ hK6 => ?_
   refine c_seq fun _ hK7 => ?_
   refine c_region ?_
   refine o_step rfl (s_move rfl) ?_
   refine o_step rfl (s_move rfl) ?_
   by_cases hijq : (i : Int) = j
   ·
    refine o_step rfl (step_cast (v' := .bool true) (s_eql rfl rfl) (by rw [decide_eq_true (by omega)])) ?_
    refine o_step rfl (s_move rfl) ?_
    refine o_yes rfl rfl ?_
    refine o_step rfl (s_move rfl) ?_
    refine o_yes rfl rfl ?_
    refine o_step rfl (s_field rfl rfl (by decide)) ?_
    refine o_yes rfl rfl ?_
    refine o_step rfl (s_ld rfl (.own meA rfl)) ?_
    refine o_yes rfl rfl ?_
    by_cases hmn2 : (had : Int) ≥ x.mn
    ·
     refine o_step rfl (step_cast (v' := .bool true) (s_geq rfl rfl) (by rw [decide_eq_true (by omega)])) ?_
     refine o_step rfl (s_pick_t rfl rfl) ?_
     refine o_nil ?_
     refine x_then (hK7 _ _ ?_)
     refine c_true rfl ?_
     refine c_region ?_
     refine o_step rfl (s_move rfl) ?_
     refine o_step rfl (s_move rfl) ?_
     refine o_step rfl (s_move rfl) ?_
     refine o_bs (E := Esl) (xs := [c]) (vs := [_]) rfl rfl rfl rfl rfl (by decide) (by decide) fun b126 S126 hS126 => ?_
     refine o_call (tAllV_fn K.bT K.ra K.rc K.re K.n K.ha K.hc K.hl lf ao co os So hO _ _ [c] S126 (New ++ Pool) hS126 K.N hPo (fun s hs => by rw [List.mem_singleton.1 hs]; exact hc.mono hiA) hNl (by omega) hlo (by simp) (by omega)) rfl rfl rfl ((Pick.takeC pkA (Pick.takeA pkA pkA))) (fun _ _ => trivial) (fun v127 S127 ⟨a127, c127, zs127, SL127, lf127, hv127, hS127, hO127, hP127, hk127, hl127, hb127, hC127⟩ => ?_)
     subst hv127
     subst hS127
     refine o_step rfl (s_assign rfl) ?_
     refine o_nil ?_
     refine x_then (hK6 _ _ ?_)
     refine c_seq fun _ hK8 => ?_
     refine c_region ?_
     refine o_step rfl (s_move rfl) ?_
     refine o_step rfl (s_assign rfl) ?_
     refine o_nil ?_
     refine x_then (hK8 _ _ ?_)
     refine c_ret ?_
     refine ?_
     first | (refine x_sub (Sub.refl _) (H' := (K.bT, .cells [.slice K.ra K.re.length K.rc, .int .i64 (K.n : Nat), .slice K.ha K.hl.length K.hc, .int .i64 lf127].toArray 144 (0, 0)) :: (SL127 ++ (New ++ Pool))) hzB ?_; exact x_ret rfl (.tmp rfl (.nil)) ⟨a127, c127, zs127, SL127, New, lf127, rfl, rfl, hO127, hP127, by omega, by omega, hb127, fun h0 => (by obtain ⟨u1, u2, u3⟩ := hC127 h0; exact RndC.of (hGq (by omega)) rfl (fun d hd => by obtain ⟨s, s1, s2⟩ := List.mem_map.1 hd; exact List.mem_map.2 ⟨s, u1 s s1, s2⟩) (fun _ _ => u2 c (List.mem_singleton_self _)) (by omega))⟩) | (refine x_sub (Sub.refl _) (H' := (K.bT, .cells [.slice K.ra K.re.length K.rc, .int .i64 (K.n : Nat), .slice K.ha K.hl.length K.hc, .int .i64 lf].toArray 144 (0, 0)) :: (So ++ (New ++ Pool))) hzB ?_; exact x_ret rfl (.tmp rfl (.nil)) ⟨ao, co, os, So, New, lf, rfl, rfl, hO, hPo, by omega, by omega, hlo, fun h0 => RndC.of (hGq h0) rfl (fun _ h => h) (fun h1 h2 => (by exfalso; omega)) (by omega)⟩)
    ·
     refine o_step rfl (step_cast (v' := .bool false) (s_geq rfl rfl) (by rw [decide_eq_false (by omega)])) ?_
     refine o_step rfl (s_pick_t rfl rfl) ?_
     refine o_nil ?_
     refine x_then (hK7 _ _ ?_)
     refine c_false rfl ?_
     refine c_skip ?_
     refine x_then (hK6 _ _ ?_)
     refine c_seq fun _ hK9 => ?_
     refine c_region ?_
     refine o_step rfl (s_move rfl) ?_
     refine o_step rfl (s_assign rfl) ?_
     refine o_nil ?_
     refine x_then (hK9 _ _ ?_)
     refine c_ret ?_
     refine ?_
     first | (refine x_sub (Sub.refl _) (H' := (K.bT, .cells [.slice K.ra K.re.length K.rc, .int .i64 (K.n : Nat), .slice K.ha K.hl.length K.hc, .int .i64 lf127].toArray 144 (0, 0)) :: (SL127 ++ (New ++ Pool))) hzB ?_; exact x_ret rfl (.tmp rfl (.nil)) ⟨a127, c127, zs127, SL127, New, lf127, rfl, rfl, hO127, hP127, by omega, by omega, hb127, fun h0 => (by obtain ⟨u1, u2, u3⟩ := hC127 h0; exact RndC.of (hGq (by omega)) rfl (fun d hd => by obtain ⟨s, s1, s2⟩ := List.mem_map.1 hd; exact List.mem_map.2 ⟨s, u1 s s1, s2⟩) (fun _ _ => u2 c (List.mem_singleton_self _)) (by omega))⟩) | (refine x_sub (Sub.refl _) (H' := (K.bT, .cells [.slice K.ra K.re.length K.rc, .int .i64 (K.n : Nat), .slice K.ha K.hl.length K.hc, .int .i64 lf].toArray 144 (0, 0)) :: (So ++ (New ++ Pool))) hzB ?_; exact x_ret rfl (.tmp rfl (.nil)) ⟨ao, co, os, So, New, lf, rfl, rfl, hO, hPo, by omega, by omega, hlo, fun h0 => RndC.of (hGq h0) rfl (fun _ h => h) (fun h1 h2 => (by exfalso; omega)) (by omega)⟩)
   ·
    refine o_step rfl (step_cast (v' := .bool false) (s_eql rfl rfl) (by rw [decide_eq_false (by omega)])) ?_
    refine o_step rfl (s_move rfl) ?_
    refine o_no rfl rfl rfl rfl ?_
    refine o_no rfl rfl rfl rfl ?_
    refine o_no rfl rfl rfl rfl ?_
    refine o_no rfl rfl rfl rfl ?_
    refine o_step rfl (s_pick_f rfl rfl) ?_
    refine o_nil ?_
    refine x_then (hK7 _ _ ?_)
    refine c_false rfl ?_
    refine c_skip ?_
    refine x_then (hK6 _ _ ?_)
    refine c_seq fun _ hK10 => ?_
    refine c_region ?_
    refine o_step rfl (s_move rfl) ?_
    refine o_step rfl (s_assign rfl) ?_
    refine o_nil ?_
    refine x_then (hK10 _ _ ?_)
    refine c_ret ?_
    refine ?_
    first | (refine x_sub (Sub.refl _) (H' := (K.bT, .cells [.slice K.ra K.re.length K.rc, .int .i64 (K.n : Nat), .slice K.ha K.hl.length K.hc, .int .i64 lf127].toArray 144 (0, 0)) :: (SL127 ++ (New ++ Pool))) hzB ?_; exact x_ret rfl (.tmp rfl (.nil)) ⟨a127, c127, zs127, SL127, New, lf127, rfl, rfl, hO127, hP127, by omega, by omega, hb127, fun h0 => (by obtain ⟨u1, u2, u3⟩ := hC127 h0; exact RndC.of (hGq (by omega)) rfl (fun d hd => by obtain ⟨s, s1, s2⟩ := List.mem_map.1 hd; exact List.mem_map.2 ⟨s, u1 s s1, s2⟩) (fun _ _ => u2 c (List.mem_singleton_self _)) (by omega))⟩) | (refine x_sub (Sub.refl _) (H' := (K.bT, .cells [.slice K.ra K.re.length K.rc, .int .i64 (K.n : Nat), .slice K.ha K.hl.length K.hc, .int .i64 lf].toArray 144 (0, 0)) :: (So ++ (New ++ Pool))) hzB ?_; exact x_ret rfl (.tmp rfl (.nil)) ⟨ao, co, os, So, New, lf, rfl, rfl, hO, hPo, by omega, by omega, hlo, fun h0 => RndC.of (hGq h0) rfl (fun _ h => h) (fun h1 h2 => (by exfalso; omega)) (by omega)⟩)
  ·
   intro _ hJ5
   refine c_seq fun _ hK11 => ?_
   refine c_region ?_
   refine o_step rfl (s_move rfl) ?_
   refine o_step rfl (s_assign rfl) ?_
   refine o_nil ?_
   refine x_then (hK11 _ _ ?_)
   refine c_block ?_
   refine c_loop7 (fun (ez : Int) (ao : Option Addr) (co : Nat) (os : List (Sl Sp)) (So : Hp) (New : Hp) (lf : Int) => (i : Int) - 1 ≤ ez ∧ ez ≤ j ∧ OwnS Esl 1 32 (.slice ao os.length co) os So ∧ PoolR os K.N (New ++ Pool) ∧ (os.length : Int) + lf ≤ left - 1 ∧ lf ≤ left - 1 ∧ -700000 ≤ lf ∧ (ez < j → (x.mx < 0 ∨ (had : Int) < x.mx)) ∧ (ez < i → ¬ (x.mn ≤ (had : Int) ∧ 0 < had)) ∧ (0 ≤ lf → GRnd K.n x y js had i j c.xs (ends (ez + 1).toNat j) (os.map Sl.xs) (left - 1 - lf))) (fun (ez : Int) (ao : Option Addr) (co : Nat) (os : List (Sl Sp)) (So : Hp) (New : Hp) (lf : Int) => [(15, .int .i64 ez), (14, .slice ao os.length co)]) [(0, _), (1, _), (2, _), (3, _), (4, _), (5, _), (12, _), (13, _)] (fun (ez : Int) (ao : Option Addr) (co : Nat) (os : List (Sl Sp)) (So : Hp) (New : Hp) (lf : Int) => (b13, .cells (En x).toArray 80 (0, 0)) :: (K.bT, .cells [.slice K.ra K.re.length K.rc, .int .i64 (K.n : Nat), .slice K.ha K.hl.length K.hc, .int .i64 lf].toArray 144 (0, 0)) :: (So ++ (New ++ Pool))) (fun (ez : Int) (ao : Option Addr) (co : Nat) (os : List (Sl Sp)) (So : Hp) (New : Hp) (lf : Int) => (ez + 1 - i).toNat) (j : Int) none 0 [] [] [] (left - 1) ⟨by omega, Int.le_refl _, .nil, fun s hs => (by cases hs), by simp, Int.le_refl _, by omega, fun h => absurd h (by omega), fun h => absurd h (by omega), fun _ => by rw [show ((j : Int) + 1).toNat = j + 1 by omega, ends_none]; exact .nil (by omega)⟩ sbA sbA hzB ?_
   rintro ez ao co os So New lf ⟨he1, he2, hO, hPo, hko, hlf, hlo, hcd, hnbz, hG⟩
   refine c_seqJ (ι := Nat) (fun e => ez = (e : Int) ∧ i ≤ e ∧ 0 ≤ lf ∧ (x.mx < 0 ∨ (had : Int) < x.mx)) (fun e => [(15, .int .i64 e)]) [(0, _), (1, _), (2, _), (3, _), (4, _), (5, _), (12, _), (13, _), (14, _)] (fun e => (b13, .cells (En x).toArray 80 (0, 0)) :: (K.bT, .cells [.slice K.ra K.re.length K.rc, .int .i64 (K.n : Nat), .slice K.ha K.hl.length K.hc, .int .i64 lf].toArray 144 (0, 0)) :: (So ++ (New ++ Pool))) sbA ?_ ?_
   ·
    rintro e ⟨hen, hei, hlf0, hco⟩
    subst hen
    have hen : ((e : Int) + 1).toNat = e + 1 := by omega
    refine c_seq fun _ hK13 => ?_
    refine c_block ?_
    refine c_seqJ (ι := Unit) (fun _u => (e = i → ¬ (x.mn ≤ (had : Int) ∧ 0 < had))) (fun _u => []) [(0, _), (1, _), (2, _), (3, _), (4, _), (5, _), (12, _), (13, _), (14, _), (15, _)] (fun _u => (b13, .cells (En x).toArray 80 (0, 0)) :: (K.bT, .cells [.slice K.ra K.re.length K.rc, .int .i64 (K.n : Nat), .slice K.ha K.hl.length K.hc, .int .i64 lf].toArray 144 (0, 0)) :: (So ++ (New ++ Pool))) sbA ?_ ?_
    ·
     rintro _ hnb
     refine c_seq fun _ hK15 => ?_
     refine c_region ?_
     refine o_step rfl (s_move rfl) ?_
     refine o_step rfl (s_move rfl) ?_
     refine o_step rfl (s_add rfl rfl (by omega)) ?_
     refine o_step rfl (s_move rfl) ?_
     refine o_step rfl (s_move rfl) ?_
     refine o_step rfl (s_move rfl) ?_
     refine o_step rfl (s_move rfl) ?_
     refine o_step rfl (s_move rfl) ?_
     refine o_step rfl (s_add rfl rfl (by omega)) ?_
     refine o_step rfl (s_move rfl) ?_
     refine o_step rfl (s_nil rfl) ?_
     refine o_step rfl (s_field rfl rfl (by decide)) ?_
     refine o_step rfl (s_ld rfl (.own meA rfl)) ?_
     refine o_step rfl (s_move rfl) ?_
     refine o_step rfl (s_idx rfl rfl hhs (by omega)) ?_
     refine o_step rfl (s_ld rfl ((RdK.old hw.d2 hw.a2).ld at_ 0 hby rfl (by decide) (by omega))) ?_
     refine o_call (tEmptiedV_fn K.bT _ K.ra K.rc K.re hK.rng hrl K.N hNl hK.grp c.a c.c c.xs hc.1 (at_ + 1) (at_ + 1 + (F.nd y js .nil).size) hbz) rfl rfl rfl (by exact .nil) (fun _ st => ⟨(RdPK.own meA).out _ st, (RdK.old hw.d1 hw.a1).out _ st, (hc.2.2.rdk hiA).out _ st⟩) (fun v85 S85 ⟨a85, c85, hv85, hO85⟩ => ?_)
     subst hv85
     rw [empTo_part hpk] at hO85
     have hx85 : (emp (F.nd y js .nil).flat c.xs).length = K.N := by rw [emp_len]; exact hc.1
     generalize hE : emp (F.nd y js .nil).flat c.xs = xs85 at hO85 hx85
     rw [← hx85] at hO85
     rw [← hx85]
     refine o_call (hN y js (at_ + 1) _ hp1 i e (by omega) (by omega) ⟨a85, c85, xs85⟩ (S85 ++ (New ++ Pool)) ⟨hx85, hO85.sl, hO85.rds.mono hiA⟩ lf (by omega) (by omega) (by omega)) rfl rfl rfl ((Pick.takeC pkA (Pick.takeA pkA pkA))) (fun _ st => ⟨(RdK.old hw.d1 hw.a1).out _ st, St.apart_M st (by exact hiB) hw.d1 hw.a1 (by decide), (RdK.old hw.d2 hw.a2).out _ st, St.apart_M st (by exact hiB) hw.d2 hw.a2 (by decide)⟩) (fun v86 S86 ⟨a86, c86, zs86, Sz86, New86, lf86, hv86, hS86, hO86, hP86, hk86, hl86, hb86, hC86⟩ => ?_)
     subst hv86
     subst hS86
     refine o_step rfl (s_assign rfl) ?_
     refine o_nil ?_
     refine x_then (hK15 _ _ ?_)
     refine c_seq fun _ hK16 => ?_
     refine c_region ?_
     refine o_step rfl (s_assign rfl) ?_
     refine o_nil ?_
     refine x_then (hK16 _ _ ?_)
     refine c_block ?_
     refine c_loop7 (fun (k : Nat) (a2 : Option Addr) (c2 : Nat) (ws : List (Sl Sp)) (Sw : Hp) (New2 : Hp) (lk : Int) => k ≤ zs86.length ∧ OwnS Esl 1 32 (.slice a2 ws.length c2) ws Sw ∧ PoolR ws K.N (New2 ++ Pool) ∧ (ws.length : Int) + lk ≤ left - 1 ∧ lk ≤ left - 1 ∧ -700000 ≤ lk ∧ PoolR zs86 K.N (New2 ++ Pool) ∧ lk ≤ lf86 ∧ (0 ≤ lk → GRnd K.n x y js had i j c.xs (ends (e + 1) j) (ws.map Sl.xs) (left - 1 - lf) ∧ IAcc (fun c1 R k => Ct K.n (.rnd x y js (had + 1) e j c1) R k) ((zs86.take k).map Sl.xs) (ws.map Sl.xs) (lf86 - lk))) (fun (k : Nat) (a2 : Option Addr) (c2 : Nat) (ws : List (Sl Sp)) (Sw : Hp) (New2 : Hp) (lk : Int) => [(17, .int .i64 k), (14, .slice a2 ws.length c2)]) [(0, _), (1, _), (2, _), (3, _), (4, _), (5, _), (12, _), (13, _), (15, _), (16, _), (69, _), (70, _), (71, _), (72, _), (73, _), (74, _), (75, _), (76, _), (77, _), (78, _), (79, _), (80, _), (81, _), (82, _), (83, _), (84, _), (85, _), (86, _)] (fun (k : Nat) (a2 : Option Addr) (c2 : Nat) (ws : List (Sl Sp)) (Sw : Hp) (New2 : Hp) (lk : Int) => (b13, .cells (En x).toArray 80 (0, 0)) :: (K.bT, .cells [.slice K.ra K.re.length K.rc, .int .i64 (K.n : Nat), .slice K.ha K.hl.length K.hc, .int .i64 lk].toArray 144 (0, 0)) :: (Sw ++ (Sz86 ++ (New2 ++ Pool)))) (fun (k : Nat) (a2 : Option Addr) (c2 : Nat) (ws : List (Sl Sp)) (Sw : Hp) (New2 : Hp) (lk : Int) => zs86.length - k) 0 ao co os So (New86 ++ (S85 ++ New)) lf86 ⟨Nat.zero_le _, hO, by rw [List.append_assoc, List.append_assoc]; exact hPo.mono (HIn.app (HIn.app HIn.all)), by omega, by omega, hb86, by rw [List.append_assoc, List.append_assoc]; exact hP86, Int.le_refl _, fun h => ⟨by rw [← hen]; exact hG (by omega), .nil (by omega)⟩⟩ sbA sbA (by simp only [List.append_assoc]; exact hzB) ?_
     rintro k a2 c2 ws Sw New2 lk ⟨hk, hOw, hPw, hkw, hlw, hbw, hPz, hlk9, hI2⟩
     refine c_seq fun _ hK17 => ?_
     refine c_seq fun _ hK18 => ?_
     refine c_region ?_
     refine o_step rfl (s_move rfl) ?_
     refine o_step rfl (s_move rfl) ?_
     refine o_step rfl (s_len rfl) ?_
     by_cases hkl : (k : Int) < zs86.length
     ·
      obtain ⟨z, hzk⟩ : ∃ z, zs86[k]? = some z := ⟨_, List.getElem?_eq_getElem (by omega)⟩
      have htk : zs86.take (k + 1) = zs86.take k ++ [z] := by rw [List.take_add_one, hzk]; rfl
      refine o_step rfl (step_cast (v' := .bool true) (s_lss rfl rfl) (by rw [decide_eq_true (by omega)])) ?_
      refine o_step rfl (s_move rfl) ?_
      refine o_yes rfl rfl ?_
      refine o_step rfl (s_move rfl) ?_
      refine o_yes rfl rfl ?_
      refine o_step rfl (s_nil rfl) ?_
      refine o_yes rfl rfl ?_
      refine o_step rfl (s_field rfl rfl (by decide)) ?_
      refine o_yes rfl rfl ?_
      refine o_step rfl (s_ld rfl (.own meA rfl)) ?_
      refine o_yes rfl rfl ?_
      by_cases hlk0 : lk ≥ 0
      ·
       refine o_step rfl (step_cast (v' := .bool true) (s_geq rfl rfl) (by rw [decide_eq_true (by omega)])) ?_
       refine o_step rfl (s_pick_t rfl rfl) ?_
       refine o_nil ?_
       refine x_then (hK18 _ _ ?_)
       refine c_true rfl ?_
       refine c_skip ?_
       refine x_then (hK17 _ _ ?_)
       refine c_seq fun _ hK19 => ?_
       refine c_block ?_
       refine c_region ?_
       refine o_step rfl (s_move rfl) ?_
       refine o_step rfl (s_move rfl) ?_
       refine o_step rfl (s_move rfl) ?_
       refine o_step rfl (s_move rfl) ?_
       refine o_step rfl (s_move rfl) ?_
       refine o_step rfl (s_add rfl rfl (by omega)) ?_
       refine o_step rfl (s_move rfl) ?_
       refine o_step rfl (s_move rfl) ?_
       refine o_step rfl (s_move rfl) ?_
       refine o_step rfl (s_move rfl) ?_
       refine o_step rfl (s_idx rfl rfl hO86.sl (by omega)) ?_
       refine o_step rfl (s_ld rfl ((hO86.rdk hiA).ld k 0 hzk rfl (by decide) (by omega))) ?_
       refine o_call (ih x y js at_ i1 h6 hp (had + 1) (by omega) e j (by omega) hjn z (New2 ++ Pool) (hPz z (List.mem_of_getElem? hzk)) lk (by omega) (by omega) (by omega) (by omega)) rfl rfl rfl ((Pick.takeC pkA pkA)) (fun _ st => ⟨(RdK.old hw.d1 hw.a1).out _ st, St.apart_M st (by exact hiB) hw.d1 hw.a1 (by decide), (RdK.old hw.d2 hw.a2).out _ st, St.apart_M st (by exact hiB) hw.d2 hw.a2 (by decide)⟩) (fun v112 S112 ⟨a112, c112, zs112, Sz112, New112, lf112, hv112, hS112, hO112, hP112, hk112, hl112, hb112, hC112⟩ => ?_)
       subst hv112
       subst hS112
       refine o_call (tAllV_fn K.bT K.ra K.rc K.re K.n K.ha K.hc K.hl lf112 a2 c2 ws Sw hOw a112 c112 zs112 Sz112 (New112 ++ (New2 ++ Pool)) hO112 K.N (hPw.mono hiB) hP112 hNl (by omega) hb112 (by omega) (by omega)) rfl rfl rfl ((Pick.takeC pkA (Pick.takeA pkA pkA))) (fun _ _ => trivial) (fun v113 S113 ⟨a113, c113, zs113, SL113, lf113, hv113, hS113, hO113, hP113, hk113, hl113, hb113, hC113⟩ => ?_)
       subst hv113
       subst hS113
       refine o_step rfl (s_assign rfl) ?_
       refine o_nil ?_
       refine x_block ?_
       refine x_then (hK19 _ _ ?_)
       refine c_region ?_
       refine o_step rfl (s_move rfl) ?_
       refine o_step rfl (s_add rfl rfl (by omega)) ?_
       refine o_step rfl (s_assign rfl) ?_
       refine o_nil ?_
       have hIn : 0 ≤ lf113 → GRnd K.n x y js had i j c.xs (ends (e + 1) j) (zs113.map Sl.xs) (left - 1 - lf) ∧ IAcc (fun c1 R k => Ct K.n (.rnd x y js (had + 1) e j c1) R k) ((zs86.take (k + 1)).map Sl.xs) (zs113.map Sl.xs) (lf86 - lf113) := fun h0 => by
         obtain ⟨u1, u2, u3⟩ := hC113 h0
         have um : ∀ d ∈ ws.map Sl.xs, d ∈ zs113.map Sl.xs := fun d hd => by obtain ⟨s, s1, s2⟩ := List.mem_map.1 hd; exact List.mem_map.2 ⟨s, u1 s s1, s2⟩
         obtain ⟨v1, v2⟩ := hI2 (by omega)
         obtain ⟨kk, w1, w2⟩ := hC112 (by omega)
         refine ⟨v1.mono um (Int.le_refl _), ?_⟩
         rw [htk, List.map_append, show lf86 - lf113 = (lf86 - lk) + (lk - lf113) by omega]
         exact (v2.mono um (Int.le_refl _)).snoc w1 (fun d hd => by obtain ⟨s, s1, s2⟩ := List.mem_map.1 hd; rw [← s2]; exact u2 s s1) (by omega)
       exact x_then (x_inv (k + 1, a113, c113, zs113, SL113, New112 ++ New2, lf113) ⟨by dsimp only; omega, hO113, by rw [List.append_assoc]; exact hP113, by dsimp only; omega, by dsimp only; omega, hb113, by rw [List.append_assoc]; exact hPz.mono hiB, by dsimp only; omega, hIn⟩ (by first | omega | (dsimp only; omega)) sbA (by simp only [List.append_assoc]; exact hzB))
      ·
       refine o_step rfl (step_cast (v' := .bool false) (s_geq rfl rfl) (by rw [decide_eq_false (by omega)])) ?_
       refine o_step rfl (s_pick_t rfl rfl) ?_
       refine o_nil ?_
       refine x_then (hK18 _ _ ?_)
       refine c_false rfl ?_
       refine c_exit ?_
       refine x_then_exit ?_
       refine x_then_exit ?_
       refine x_block_exit ?_
       refine x_block ?_
       refine x_then (hK13 _ _ ?_)
       refine c_region ?_
       refine o_step rfl (s_move rfl) ?_
       refine o_step rfl (s_sub rfl rfl (by omega)) ?_
       refine o_step rfl (s_assign rfl) ?_
       refine o_nil ?_
       have hGn : 0 ≤ lk → GRnd K.n x y js had i j c.xs (ends ((e : Int) - 1 + 1).toNat j) (ws.map Sl.xs) (left - 1 - lk) := fun h0 => by
         first
         | exact absurd h0 (by omega)
         | subst hE; rw [show ((e : Int) - 1 + 1).toNat = e by omega, ends_snoc (by omega), show left - 1 - lk = (left - 1 - lf) + (lf - lf86) + (lf86 - lk) by omega]; obtain ⟨kn, hn1, hn2⟩ := hC86 (by omega); rw [htk] at hI2; exact GAcc.snoc (hI2 h0).1 ends_out hn1 hn2 (hI2 h0).2
       exact x_then (x_inv ((e : Int) - 1, a2, c2, ws, Sw, New2, lk) ⟨by dsimp only; omega, by dsimp only; omega, hOw, hPw, hkw, hlw, hbw, fun _ => hco, fun h => hnb (by dsimp only at h; omega), hGn⟩ (by dsimp only; omega) sbA hzB)
     ·
      have htk : zs86.take k = zs86 := List.take_of_length_le (by omega)
      refine o_step rfl (step_cast (v' := .bool false) (s_lss rfl rfl) (by rw [decide_eq_false (by omega)])) ?_
      refine o_step rfl (s_move rfl) ?_
      refine o_no rfl rfl rfl rfl ?_
      refine o_no rfl rfl rfl rfl ?_
      refine o_no rfl rfl rfl rfl ?_
      refine o_no rfl rfl rfl rfl ?_
      refine o_no rfl rfl rfl rfl ?_
      refine o_step rfl (s_pick_f rfl rfl) ?_
      refine o_nil ?_
      refine x_then (hK18 _ _ ?_)
      refine c_false rfl ?_
      refine c_exit ?_
      refine x_then_exit ?_
      refine x_then_exit ?_
      refine x_block_exit ?_
      refine x_block ?_
      refine x_then (hK13 _ _ ?_)
      refine c_region ?_
      refine o_step rfl (s_move rfl) ?_
      refine o_step rfl (s_sub rfl rfl (by omega)) ?_
      refine o_step rfl (s_assign rfl) ?_
      refine o_nil ?_
      have hGn : 0 ≤ lk → GRnd K.n x y js had i j c.xs (ends ((e : Int) - 1 + 1).toNat j) (ws.map Sl.xs) (left - 1 - lk) := fun h0 => by
        first
        | exact absurd h0 (by omega)
        | subst hE; rw [show ((e : Int) - 1 + 1).toNat = e by omega, ends_snoc (by omega), show left - 1 - lk = (left - 1 - lf) + (lf - lf86) + (lf86 - lk) by omega]; obtain ⟨kn, hn1, hn2⟩ := hC86 (by omega); rw [htk] at hI2; exact GAcc.snoc (hI2 h0).1 ends_out hn1 hn2 (hI2 h0).2
      exact x_then (x_inv ((e : Int) - 1, a2, c2, ws, Sw, New2, lk) ⟨by dsimp only; omega, by dsimp only; omega, hOw, hPw, hkw, hlw, hbw, fun _ => hco, fun h => hnb (by dsimp only at h; omega), hGn⟩ (by dsimp only; omega) sbA hzB)
    ·
     intro _ hJ14
     refine c_seq fun _ hK20 => ?_
     refine c_region ?_
     refine o_step rfl (s_move rfl) ?_
     refine o_step rfl (s_move rfl) ?_
     by_cases hee : (e : Int) = i
     ·
      refine o_step rfl (step_cast (v' := .bool true) (s_eql rfl rfl) (by rw [decide_eq_true (by omega)])) ?_
      refine o_step rfl (s_move rfl) ?_
      refine o_yes rfl rfl ?_
      refine o_step rfl (s_move rfl) ?_
      refine o_yes rfl rfl ?_
      refine o_step rfl (s_field rfl rfl (by decide)) ?_
      refine o_yes rfl rfl ?_
      refine o_step rfl (s_ld rfl (.own meA rfl)) ?_
      refine o_yes rfl rfl ?_
      by_cases hmn : (had : Int) ≥ x.mn
      ·
       refine o_step rfl (step_cast (v' := .bool true) (s_geq rfl rfl) (by rw [decide_eq_true (by omega)])) ?_
       refine o_step rfl (s_pick_t rfl rfl) ?_
       refine o_step rfl (s_move rfl) ?_
       refine o_yes rfl rfl ?_
       refine o_step rfl (s_move rfl) ?_
       refine o_yes rfl rfl ?_
       by_cases hh0 : (had : Int) > 0
       ·
        refine o_step rfl (step_cast (v' := .bool true) (s_gtr rfl rfl) (by rw [decide_eq_true (by omega)])) ?_
        refine o_step rfl (s_pick_t rfl rfl) ?_
        refine o_nil ?_
        refine x_then (hK20 _ _ ?_)
        refine c_true rfl ?_
        refine c_exit ?_
        refine x_then_exit ?_
        refine x_block_pass rfl ?_
        refine x_then_exit ?_
        refine x_then_exit ?_
        refine x_block_exit ?_
        have hGq : 0 ≤ lf → GRnd K.n x y js had i j c.xs (rEs x had i j) (os.map Sl.xs) (left - 1 - lf) := fun h0 => by first | exact absurd h0 (by omega) | exact GRnd.done (hG h0) hij (by omega)
        exact x_then (hJ5 ⟨ao, co, os, So, New, lf⟩ _ _ ⟨hO, hPo, hko, hlf, hlo, hGq⟩ sbA sbA hzB)
       ·
        refine o_step rfl (step_cast (v' := .bool false) (s_gtr rfl rfl) (by rw [decide_eq_false (by omega)])) ?_
        refine o_step rfl (s_pick_t rfl rfl) ?_
        refine o_nil ?_
        refine x_then (hK20 _ _ ?_)
        refine c_false rfl ?_
        refine c_skip ?_
        exact x_then (hJ14 () _ _ (by omega) sbA sbA hzB)
      ·
       refine o_step rfl (step_cast (v' := .bool false) (s_geq rfl rfl) (by rw [decide_eq_false (by omega)])) ?_
       refine o_step rfl (s_pick_t rfl rfl) ?_
       refine o_step rfl (s_move rfl) ?_
       refine o_no rfl rfl rfl rfl ?_
       refine o_no rfl rfl rfl rfl ?_
       refine o_step rfl (s_pick_f rfl rfl) ?_
       refine o_nil ?_
       refine x_then (hK20 _ _ ?_)
       refine c_false rfl ?_
       refine c_skip ?_
       exact x_then (hJ14 () _ _ (by omega) sbA sbA hzB)
     ·
      refine o_step rfl (step_cast (v' := .bool false) (s_eql rfl rfl) (by rw [decide_eq_false (by omega)])) ?_
      refine o_step rfl (s_move rfl) ?_
      refine o_no rfl rfl rfl rfl ?_
      refine o_no rfl rfl rfl rfl ?_
      refine o_no rfl rfl rfl rfl ?_
      refine o_no rfl rfl rfl rfl ?_
      refine o_step rfl (s_pick_f rfl rfl) ?_
      refine o_step rfl (s_move rfl) ?_
      refine o_no rfl rfl rfl rfl ?_
      refine o_no rfl rfl rfl rfl ?_
      refine o_step rfl (s_pick_f rfl rfl) ?_
      refine o_nil ?_
      refine x_then (hK20 _ _ ?_)
      refine c_false rfl ?_
      refine c_skip ?_
      exact x_then (hJ14 () _ _ (by omega) sbA sbA hzB)
   ·
    intro _ hJ12
    refine c_seq fun _ hK21 => ?_
    refine c_region ?_
    refine o_step rfl (s_move rfl) ?_
    refine o_step rfl (s_move rfl) ?_
    by_cases hei : ez ≥ (i : Int)
    ·
     refine o_step rfl (step_cast (v' := .bool true) (s_geq rfl rfl) (by rw [decide_eq_true (by omega)])) ?_
     refine o_step rfl (s_move rfl) ?_
     refine o_yes rfl rfl ?_
     refine o_step rfl (s_move rfl) ?_
     refine o_yes rfl rfl ?_
     refine o_step rfl (s_nil rfl) ?_
     refine o_yes rfl rfl ?_
     refine o_step rfl (s_field rfl rfl (by decide)) ?_
     refine o_yes rfl rfl ?_
     refine o_step rfl (s_ld rfl (.own meA rfl)) ?_
     refine o_yes rfl rfl ?_
     by_cases hlf0 : lf ≥ 0
     ·
      refine o_step rfl (step_cast (v' := .bool true) (s_geq rfl rfl) (by rw [decide_eq_true (by omega)])) ?_
      refine o_step rfl (s_pick_t rfl rfl) ?_
      refine o_step rfl (s_move rfl) ?_
      refine o_yes rfl rfl ?_
      refine o_step rfl (s_field rfl rfl (by decide)) ?_
      refine o_yes rfl rfl ?_
      refine o_step rfl (s_ld rfl (.own meA rfl)) ?_
      refine o_yes rfl rfl ?_
      by_cases hmx : x.mx < 0
      ·
       refine o_step rfl (step_cast (v' := .bool true) (s_lss rfl rfl) (by rw [decide_eq_true (by omega)])) ?_
       refine o_yes rfl rfl ?_
       refine o_step rfl (s_move rfl) ?_
       refine o_no rfl rfl rfl rfl ?_
       refine o_no rfl rfl rfl rfl ?_
       refine o_no rfl rfl rfl rfl ?_
       refine o_no rfl rfl rfl rfl ?_
       refine o_yes rfl rfl ?_
       refine o_step rfl (s_pick_t rfl rfl) ?_
       refine o_step rfl (s_pick_t rfl rfl) ?_
       refine o_nil ?_
       refine x_then (hK21 _ _ ?_)
       refine c_true rfl ?_
       refine c_skip ?_
       exact x_then (hJ12 ez.toNat _ _ ⟨by omega, by omega, by omega, by omega⟩ (by exact Sub.cons' rfl (congrArg _ (by omega)) sbA) sbA hzB)
      ·
       refine o_step rfl (step_cast (v' := .bool false) (s_lss rfl rfl) (by rw [decide_eq_false (by omega)])) ?_
       refine o_yes rfl rfl ?_
       refine o_step rfl (s_move rfl) ?_
       refine o_yes rfl rfl ?_
       refine o_step rfl (s_move rfl) ?_
       refine o_yes rfl rfl ?_
       refine o_step rfl (s_field rfl rfl (by decide)) ?_
       refine o_yes rfl rfl ?_
       refine o_step rfl (s_ld rfl (.own meA rfl)) ?_
       refine o_yes rfl rfl ?_
       by_cases hmx2 : (had : Int) < x.mx
       ·
        refine o_step rfl (step_cast (v' := .bool true) (s_lss rfl rfl) (by rw [decide_eq_true (by omega)])) ?_
        refine o_yes rfl rfl ?_
        refine o_step rfl (s_pick_f rfl rfl) ?_
        refine o_step rfl (s_pick_t rfl rfl) ?_
        refine o_nil ?_
        refine x_then (hK21 _ _ ?_)
        refine c_true rfl ?_
        refine c_skip ?_
        exact x_then (hJ12 ez.toNat _ _ ⟨by omega, by omega, by omega, by omega⟩ (by exact Sub.cons' rfl (congrArg _ (by omega)) sbA) sbA hzB)
       ·
        refine o_step rfl (step_cast (v' := .bool false) (s_lss rfl rfl) (by rw [decide_eq_false (by omega)])) ?_
        refine o_yes rfl rfl ?_
        refine o_step rfl (s_pick_f rfl rfl) ?_
        refine o_step rfl (s_pick_t rfl rfl) ?_
        refine o_nil ?_
        refine x_then (hK21 _ _ ?_)
        refine c_false rfl ?_
        refine c_exit ?_
        refine x_then_exit ?_
        refine x_then_exit ?_
        refine x_block_exit ?_
        have hGq : 0 ≤ lf → GRnd K.n x y js had i j c.xs (rEs x had i j) (os.map Sl.xs) (left - 1 - lf) := fun h0 => by first | exact absurd h0 (by omega) | exact GRnd.done (hG h0) hij (by omega)
        exact x_then (hJ5 ⟨ao, co, os, So, New, lf⟩ _ _ ⟨hO, hPo, hko, hlf, hlo, hGq⟩ sbA sbA hzB)
     ·
      refine o_step rfl (step_cast (v' := .bool false) (s_geq rfl rfl) (by rw [decide_eq_false (by omega)])) ?_
      refine o_step rfl (s_pick_t rfl rfl) ?_
      refine o_step rfl (s_move rfl) ?_
      refine o_no rfl rfl rfl rfl ?_
      refine o_no rfl rfl rfl rfl ?_
      refine o_no rfl rfl rfl rfl ?_
      refine o_no rfl rfl rfl rfl ?_
      refine o_noU rfl rfl rfl ?_
      refine o_noU rfl rfl rfl ?_
      refine o_noU rfl rfl rfl ?_
      refine o_noU rfl rfl rfl ?_
      refine o_no rfl rfl rfl rfl ?_
      refine o_step rfl (s_pick_f rfl rfl) ?_
      refine o_nil ?_
      refine x_then (hK21 _ _ ?_)
      refine c_false rfl ?_
      refine c_exit ?_
      refine x_then_exit ?_
      refine x_then_exit ?_
      refine x_block_exit ?_
      have hGq : 0 ≤ lf → GRnd K.n x y js had i j c.xs (rEs x had i j) (os.map Sl.xs) (left - 1 - lf) := fun h0 => by first | exact absurd h0 (by omega) | exact GRnd.done (hG h0) hij (by omega)
      exact x_then (hJ5 ⟨ao, co, os, So, New, lf⟩ _ _ ⟨hO, hPo, hko, hlf, hlo, hGq⟩ sbA sbA hzB)
    ·
     refine o_step rfl (step_cast (v' := .bool false) (s_geq rfl rfl) (by rw [decide_eq_false (by omega)])) ?_
     refine o_step rfl (s_move rfl) ?_
     refine o_no rfl rfl rfl rfl ?_
     refine o_no rfl rfl rfl rfl ?_
     refine o_no rfl rfl rfl rfl ?_
     refine o_no rfl rfl rfl rfl ?_
     refine o_no rfl rfl rfl rfl ?_
     refine o_step rfl (s_pick_f rfl rfl) ?_
     refine o_step rfl (s_move rfl) ?_
     refine o_no rfl rfl rfl rfl ?_
     refine o_no rfl rfl rfl rfl ?_
     refine o_no rfl rfl rfl rfl ?_
     refine o_no rfl rfl rfl rfl ?_
     refine o_noU rfl rfl rfl ?_
     refine o_noU rfl rfl rfl ?_
     refine o_noU rfl rfl rfl ?_
     refine o_noU rfl rfl rfl ?_
     refine o_no rfl rfl rfl rfl ?_
     refine o_step rfl (s_pick_f rfl rfl) ?_
     refine o_nil ?_
     refine x_then (hK21 _ _ ?_)
     refine c_false rfl ?_
     refine c_exit ?_
     refine x_then_exit ?_
     refine x_then_exit ?_
     refine x_block_exit ?_
     have hGq : 0 ≤ lf → GRnd K.n x y js had i j c.xs (rEs x had i j) (os.map Sl.xs) (left - 1 - lf) := fun h0 => by first | exact absurd h0 (by omega) | exact GRnd.done (hG h0) hij (by omega)
     exact x_then (hJ5 ⟨ao, co, os, So, New, lf⟩ _ _ ⟨hO, hPo, hko, hlf, hlo, hGq⟩ sbA sbA hzB)
end Go.Proofs.YtloepfcndglmmaaDoor
namespace Go.Proofs.YtloepfcndglmmaaDoor
open Go Go.HL Go.Proofs Go.HL.Kl Go.HL.Kl.Mc Go.HL.Kl.Mc.AskE
end Go.Proofs.YtloepfcndglmmaaDoor
