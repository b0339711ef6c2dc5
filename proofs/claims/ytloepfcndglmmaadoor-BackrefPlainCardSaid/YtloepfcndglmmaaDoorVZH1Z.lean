/- Regexes without references: the search in order and the machine's find the same. Conditions: none. -/
import Derived.Test.YtloepfcndglmmaaDoorMK10Z
import Derived.Test.YtloepfcndglmmaaDoorHTZ
import Derived.Test.YtloepfcndglmmaaDoorVZW4Z
import Derived.Test.YtloepfcndglmmaaDoorMT25Z
import Derived.Test.YtloepfcndglmmaaDoorVZN4Z
import Derived.Test.YtloepfcndglmmaaDoorBS7Z
import Derived.Test.YtloepfcndglmmaaDoorHM2Z
namespace Go.Proofs.YtloepfcndglmmaaDoor
open Go Go.HL Go.Proofs Go.HL.Kl Go.HL.Kl.Mc Go.HL.Kl.Mc.AskE
theorem okn_all {re : List Nd} {w : List UInt8} {x : Nd} {ks : F} (hM : May re w x ks) : ∀ y ∈ (F.nd x ks .nil).flat, OkN y := fun y hy => by
  have hr : y ∈ re := by
    rw [hM.hs.flat]
    simpa [F.flat] using hy
  obtain ⟨k, hk⟩ := List.mem_iff_getElem?.1 hr
  obtain ⟨y', js, r, e, hp⟩ := part_at _ 0 _ hM.hs.part k (Nat.zero_le _) (List.getElem?_eq_some_iff.1 hk).1
  have h1 := hp.head.1
  rw [hk] at h1
  cases h1
  have hok : ndOk y = true := hp.wf.1
  have hop := op_rng hok
  have h8 : ¬ y.op = 8 := fun h8 => by
    have := refs_yes hM.sh hr h8
    rw [hM.rf] at this; cases this
  refine ⟨⟨hop.1, by omega⟩, fun h7 => ?_, fun h6 => ?_⟩
  · have := grp_n hM.sh hk h7; omega
  · simp only [ndOk, flds, Bool.and_eq_true, h6, if_true, decide_eq_true_eq] at hok
    have := hok.1.2
    omega
theorem BkRes.fres {re : List Nd} {w : List UInt8} {f : Int} {b : Bool} {L : List Sp} (hs : shapedB re = true) (hr : refsB re = false) (h0 : 0 ≤ f ∧ f ≤ w.length) (h : BkRes re w f b L) : FRes re w f b L := by
  rcases h with ⟨h1, _⟩ | ⟨m, x, ks, hf, hm, hS, h⟩
  · exact absurd h0 h1
  · have hM : May re w x ks := ⟨hs, hr, hS⟩
    have hR := fun i j => LF1_bst (w := w) (okn_all hM) i j (C0 re)
    have hno : ∀ i j, LF1 w x ks i j (C0 re) = [] → ¬ der1 w x ks i j := fun i j e hd => by
      obtain ⟨c', h1, _⟩ := (hR i j).yes hd
      rw [e] at h1; cases h1
    rcases h with ⟨hn, rfl, rfl⟩ | ⟨i, j, c, hB, rfl, rfl⟩
    · refine .inr ⟨fun ⟨x', ks', g, p, q, hM', hg, h1, h2, h3⟩ => ?_, rfl, rfl⟩
      obtain ⟨rfl, rfl⟩ := hM'.hs.uniq hS
      have := der1_up _ _ h3
      exact hno p q (hn p q (by omega) this h2) h3
    · have hd : der1 w x ks i j := Classical.byContradiction fun hd => by
        have h1 := hB.hd
        rw [(hR i j).no hd] at h1; cases h1
      refine .inl ⟨x, ks, m, i, j, hM, hf, ⟨hB.lo, hB.ij, hB.hi, hd, fun p' q' h1 h2 h3 hd' => ?_, fun q' h1 h2 hd' => ?_⟩, rfl, ?_⟩
      · exact hno p' q' (hB.fst p' q' h1 h2 (der1_up _ _ hd') h3) hd'
      · exact hno i q' (hB.lng q' h1 h2) hd'
      · obtain ⟨c', h1, h2⟩ := (hR i j).yes hd
        rw [hB.hd] at h1
        cases h1
        rw [capsV, List.replicate_succ]
        have e1 : bst1 w x ks i j (noS :: List.replicate (gcn re) noS) = noS :: c := h2 noS
        rw [e1]; rfl
set_option maxHeartbeats 4000000 in
theorem take_step (K : AskE) (hK : K.ok) (x : Nd) (ks : F) (i i1 p q : Nat) (es : List Me) (c : Nat) (hp : Part K.re (.nd x ks .nil) i i1) (hpq : p ≤ q) (hq : q ≤ K.tx.length) (hes : MapOk K.tx K.re es) (hd : der1 K.tx x ks p q) (ca : Option Addr) (cc N : Nat) (cs : List Sp) (Sc : Hp) (hcl : cs.length = N) (hsl8 : Slots K.re N) (hO : OwnS Esp 2 45 (.slice ca N cc) cs Sc) (ihT : ∀ y js, js.size < ks.size → TakeK Tryd.prog K 95 45 y js) (hNK : ∀ y js, NodeK Tryd.prog K y js) (hkid : x.op = 4 → ∀ (m p : Nat) y js r, Part K.re (.nd y js r) m i1 → p ≤ q → KidK Tryd.prog K 111 ⟨i, m, p, q⟩ (fun n => der1 K.tx y js p n ∧ der K.tx r false n q) p q) (hrnd : x.op = 6 → ∀ r p : Nat, p ≤ q → ((x.mx = -1 ∧ r ≤ (max x.mn.toNat 1)) ∨ (0 ≤ x.mx ∧ (((r : Nat) : Int) : Int) ≤ x.mx)) → KidK Tryd.prog K 112 ⟨i, r, p, q⟩ (RQ x (der K.tx ks false) r p q) p q) : HL.Fn Tryd.prog 95 [pt K.bS, .int .i64 i, .int .i64 p, .int .i64 q, .slice ca N cc] (fun W => Env W K (keys ((K.bM, mpO es c) :: Sc))) ((K.bM, mpO es c) :: Sc) (fun _ S' => TakeP K 45 ca cc N (bst1 K.tx x ks p q cs) S') := by
  refine fn_of Tryd.func95 rfl rfl rfl fun w0 hw => ?_
  have hsl := hw.d1.sl
  have hst := hw.d2.sl
  have hse := hw.d3.sl
  have htl := hK.tx
  have hrl := hK.len
  obtain rfl : i1 = i + 1 + ks.size := by have := hp.len; simp only [F.size] at this; omega
  obtain ⟨hx, hpk, _⟩ := hp.head
  have hilt := (List.getElem?_eq_some_iff.1 hx).1
  have hxm := List.mem_of_getElem? hx
  have hox := hK.rng x hxm
  have hx8 := hK.no8 x hxm
  have hok : ndOk x = true := hp.wf.1
  have hop : 1 ≤ x.op ∧ x.op ≤ 8 := (flds_iff.1 (by simp only [ndOk, Bool.and_eq_true] at hok; exact hok.1)).1
  have hpkl := hpk.le
  have hei := hK.ends.2 i x ks .nil _ (Nat.zero_le _) hp
  have hell := hK.ends.1
  rw [hell] at hse
  have hSc := hO.sl
  rw [hcl] at hSc
  refine cR fun _ hK1 => ?_; refine oM ?_; refine oS sN ?_; refine oS sF ?_; refine oS (s_ld rfl ((RdPK.old hw.p4 hw.n4).cel (j := 0) rfl rfl)) ?_; refine oM ?_; refine oS (s_idx rfl rfl hsl (by omega)) ?_; refine oS (s_ldB rfl ((RdK.old hw.d1 hw.a1).lds i hx rfl) (by rfl)) ?_; refine o_alloc (l := En zN) (by rw [En_zero]; rfl) rfl fun b10 => ?_; refine o_stW rfl rfl upA lnA lnA onA ?_; refine oZ hK1 (cR fun _ hK2 => ?_); refine oS sF ?_; refine oS sL (oZ hK2 (c_block (cR fun _ hK3 => ?_)))
  by_cases o7 : x.op = 7
  ·obtain ⟨y, js, rfl⟩ := one_kid hp.wf (.inr o7)
   have hd1 := der_one.1 ((der1_4 (.inr o7)).1 hd)
   have hx7 := hsl8 x hxm o7
   refine oS (eqT (h := o7)) ?_; refine oA (oZ hK3 ?_); refine cT (cR fun _ hK4 => ?_); refine oM (oM ?_); refine oS sD (oM ?_); refine o_call (forget_fn K hK y js (i + 1) _ hpk ca cc N cs Sc hcl hsl8 hO) rfl rfl rfl pkA (fun w st => hw.sub st hiA) (fun v33 S33 hO33 => ?_); refine oZ hK4 (cR fun _ hK5 => ?_); refine oM (oM ?_); refine oS sD (oM (oM (oM ?_))); refine o_call (ihT y js (by simp only [F.size]; omega) (i + 1) _ p q es c ca cc N _ S33 hpk hpq hq hd1 hes (by rw [fgt_len]; exact hcl) hsl8 hO33) rfl rfl rfl ((Pick.takeC pkA pkA)) (fun w st => hw.sub (S := (K.bM, mpO es c) :: S33) st (hin_cons meA hiA)) (fun v40 S40 ⟨es40, c40, Sc40, hS40, hm40, hO40⟩ => ?_)
   subst hS40; refine oZ hK5 (c_region (oM ?_)); refine oS sF ?_; refine oS sL (oM (oM ?_)); refine oS (s_build (cs := [_, _]) (vs := [_, _]) rfl rfl (.cons rfl rfl rfl rfl rfl (.cons rfl rfl rfl rfl rfl (.nil)))) ?_; refine oS (s_idx rfl rfl hSc (by omega)) ?_
   have hl40 := bst1_len (w := K.tx) (x := y) (ks := js) (p := p) (q := q) (cs := fgt (F.nd y js .nil).flat cs)
   rw [fgt_len, hcl] at hl40
   refine o_stSE x.n.toNat ⟨p, q⟩ hO40 pkA rfl rfl (by omega) (by rfl) fun S' hS' => ?_; refine o_nil (x_block ?_); refine x_sub (Sub.refl _) (H' := (K.bM, mpO es40 c40) :: S') hzB ?_; exact x_end rfl (.nil) (⟨es40, c40, S', rfl, hm40, by rw [bst1_7 o7, bst_one hd1]; exact hS'⟩)
  ·refine oS (eqF (h := o7)) ?_; refine oA (oZ hK3 ?_); refine cF (cR fun _ hK6 => ?_)
   by_cases o5 : x.op = 5
   ·have hd5 := (der1_5 o5).1 hd
    refine oS (eqT (h := o5)) ?_; refine oA (oZ hK6 ?_); refine cT (cR fun _ hK7 => ?_); refine oM ?_; refine oS sD (oA (oZ hK7 (c_block ?_))); refine c_loop4 (fun (kp : Nat) (g : F) (es2 : List Me) (c2 : Nat) => Part K.re g kp (i + 1 + ks.size) ∧ g.size ≤ ks.size ∧ der K.tx g true p q ∧ bst K.tx ks true p q cs = bst K.tx g true p q cs ∧ MapOk K.tx K.re es2) (fun (kp : Nat) (g : F) (es2 : List Me) (c2 : Nat) => [(11, .int .i64 kp)]) [(0, _), (1, _), (2, _), (3, _), (4, _)] (fun (kp : Nat) (g : F) (es2 : List Me) (c2 : Nat) => (K.bM, mpO es2 c2) :: (b10, .cells (En x).toArray 80 (0, 0)) :: Sc) (fun (kp : Nat) (g : F) (es2 : List Me) (c2 : Nat) => g.size) (i + 1) ks es c ⟨hpk, Nat.le_refl _, hd5, rfl, hes⟩ sbA sbA hzB ?_
    rintro kp g es2 c2 ⟨hpg, hgs, hdg, hbe, hes2⟩
    have hgl := hpg.len
    have hgle := hpg.le
    refine c_seq fun _ hK8 => ?_; refine cR fun _ hK9 => ?_; refine oM (oM ?_); refine oS sN ?_; refine oS sF ?_; refine oS (s_ld rfl ((RdPK.old hw.p4 hw.n4).cel (j := 1) rfl rfl)) ?_; refine oM ?_; refine oS (s_idx rfl rfl hse (by omega)) ?_; refine oS (s_ld rfl ((RdK.old hw.d3 hw.a3).ld i 0 hei rfl (by decide) (by omega))) ?_
    by_cases hk : (kp : Int) < i + 1 + ks.size
    ·obtain ⟨y, js, r2, rfl⟩ : ∃ y ks1 r2, g = F.nd y ks1 r2 := by cases g with | nil => simp [F.size] at hgl; omega | nd y a b => exact ⟨y, a, b, rfl⟩
     obtain ⟨hy, hpy, hpt⟩ := hpg.head
     have hpo := hpg.one
     have hge := hK.ends.2 _ y js r2 _ (Nat.zero_le _) hpg
     have hply := hpy.le
     simp only [F.size] at hgs hgl
     refine oS lsT (oZ hK9 ?_); refine cTZ hK8 (c_seq fun _ hK10 => ?_); refine c_block (cR fun _ hK11 => ?_); refine oM ?_; refine oS sN ?_; refine oS sF ?_; refine oS (s_ld rfl ((RdPK.old hw.p4 hw.n4).cel (j := 4) rfl rfl)) ?_; refine oM (oM (oM ?_)); refine o_callC (us := []) (vs := [_, _, _]) (cs := [pt K.bRe, pt K.bTx, pt K.bA]) (hNK y js kp _ p q es2 c2 hpo hpq hq hes2) rfl rfl rfl pkA (fun w st => hw.sub (S := [(K.bM, mpO es2 c2)]) st (hin_cons meA hin_nil)) (fun v75 S75 ⟨es75, c75, hv75, hS75, hm75⟩ => ?_); subst hv75
     subst hS75
     cases hb75 : dQ (der1 K.tx y js p q)
     ·have hn75 : ¬ der1 K.tx y js p q := fun h => by rw [dQ_t h] at hb75; cases hb75
      refine oZ hK11 ?_; refine cF (c_skip (x_block (xZ hK10 (c_region (oM ?_))))); refine oS sN ?_; refine oS sF ?_; refine oS (s_ld rfl ((RdPK.old hw.p4 hw.n4).cel (j := 1) rfl rfl)) ?_; refine oM ?_; refine oS (s_idx rfl rfl hse (by omega)) ?_; refine oS (s_ld rfl ((RdK.old hw.d3 hw.a3).ld kp 0 hge rfl (by decide) (by omega))) ?_; refine oA (o_nil ?_); exact x_then (x_inv ((kp + 1 + js.size), r2, es75, c75) ⟨hpt, by dsimp only; omega, (der_alt.1 hdg).resolve_left hn75, by dsimp only; rw [hbe, bst_alt, if_neg (by rw [hb75]; decide)], hm75⟩ (by simp only [F.size]; omega) sbA hzB)
     ·refine oZ hK11 ?_; refine cT (cR fun _ hK12 => ?_); refine oM (oM (oM (oM (oM ?_)))); refine o_call (ihT y js (by omega) kp _ p q es75 c75 ca cc N cs Sc hpo hpq hq (dQ_iff.1 hb75) hm75 hcl hsl8 hO) rfl rfl rfl ((Pick.takeC pkA pkA)) (fun w st => hw.sub (S := (K.bM, mpO es75 c75) :: Sc) st (hin_cons meA hiA)) (fun v81 S81 ⟨es81, c81, Sc81, hS81, hm81, hO81⟩ => ?_); subst hS81
      refine oZ hK12 (c_ret ?_); refine x_block_ret (x_then_ret (x_then_ret (x_block_ret (x_block_ret (?_)))))
      refine x_sub (Sub.refl _) (H' := (K.bM, mpO es81 c81) :: Sc81) hzB ?_; exact x_ret rfl (.nil) (⟨es81, c81, Sc81, rfl, hm81, by rw [bst1_5 o5, hbe, bst_alt, if_pos hb75]; exact hO81⟩)
    ·exact absurd hdg (by obtain rfl : g = F.nil := F.size_nil (by omega); rw [der_nil']; exact id)
   ·refine oS (eqF (h := o5)) ?_; refine oA (oZ hK6 ?_); refine cF (cR fun _ hK13 => ?_)
    by_cases o4 : x.op = 4
    ·have hd4 := (der1_4 (.inl o4)).1 hd
     refine oS (eqT (h := o4)) ?_; refine oA (oZ hK13 ?_); refine cT (cR fun _ hK14 => ?_); refine oM ?_; refine oS sD (oA (oZ hK14 (c_block ?_))); refine c_loop7 (fun (kp : Nat) (g : F) (p2 : Nat) (es2 : List Me) (c2 : Nat) (cs2 : List Sp) (Sc2 : Hp) => Part K.re g kp (i + 1 + ks.size) ∧ g.size ≤ ks.size ∧ p2 ≤ q ∧ der K.tx g false p2 q ∧ bst K.tx ks false p q cs = bst K.tx g false p2 q cs2 ∧ MapOk K.tx K.re es2 ∧ cs2.length = N ∧ OwnS Esp 2 45 (.slice ca N cc) cs2 Sc2) (fun (kp : Nat) (g : F) (p2 : Nat) (es2 : List Me) (c2 : Nat) (cs2 : List Sp) (Sc2 : Hp) => [(12, .int .i64 kp), (2, .int .i64 p2)]) [(0, _), (1, _), (3, _), (4, _)] (fun (kp : Nat) (g : F) (p2 : Nat) (es2 : List Me) (c2 : Nat) (cs2 : List Sp) (Sc2 : Hp) => (K.bM, mpO es2 c2) :: (Sc2 ++ [(b10, .cells (En x).toArray 80 (0, 0))])) (fun (kp : Nat) (g : F) (p2 : Nat) (es2 : List Me) (c2 : Nat) (cs2 : List Sp) (Sc2 : Hp) => g.size) (i + 1) ks p es c cs Sc ⟨hpk, Nat.le_refl _, hpq, hd4, rfl, hes, hcl, hO⟩ sbA sbA hzB ?_
     rintro kp g p2 es2 c2 cs2 Sc2 ⟨hpg, hgs, hp2q, hdg, hbe, hes2, hcl2, hO2⟩
     have hgl := hpg.len
     have hgle := hpg.le
     refine c_seq fun _ hK15 => ?_; refine cR fun _ hK16 => ?_; refine oM (oM ?_); refine oS sN ?_; refine oS sF ?_; refine oS (s_ld rfl ((RdPK.old hw.p4 hw.n4).cel (j := 1) rfl rfl)) ?_; refine oM ?_; refine oS (s_idx rfl rfl hse (by omega)) ?_; refine oS (s_ld rfl ((RdK.old hw.d3 hw.a3).ld i 0 hei rfl (by decide) (by omega))) ?_
     by_cases hk : (kp : Int) < i + 1 + ks.size
     ·obtain ⟨y, js, r2, rfl⟩ : ∃ y ks1 r2, g = F.nd y ks1 r2 := by cases g with | nil => simp [F.size] at hgl; omega | nd y a b => exact ⟨y, a, b, rfl⟩
      obtain ⟨hy, hpy, hpt⟩ := hpg.head
      have hpo := hpg.one
      have hge := hK.ends.2 _ y js r2 _ (Nat.zero_le _) hpg
      have hply := hpy.le
      simp only [F.size] at hgs hgl
      refine oS lsT (oZ hK16 ?_); refine cTZ hK15 (c_seq fun _ hK17 => ?_); refine c_block (cR fun _ hK18 => ?_); refine oM (oM (oM (oM (oM ?_)))); refine oS (s_build (cs := [_, _, _, _]) (vs := [_, _, _, _]) rfl rfl (.cons rfl rfl rfl rfl rfl (.cons rfl rfl rfl rfl rfl (.cons rfl rfl rfl rfl rfl (.cons rfl rfl rfl rfl rfl (.nil)))))) ?_; refine o_call (hkid o4 kp p2 y js r2 hpg hp2q es2 c2 hes2) rfl rfl rfl pkA (fun w st => hw.sub (S := [(K.bM, mpO es2 c2)]) st (hin_cons meA hin_nil)) (fun v109 S109 ⟨es109, c109, hS109, hm109, hv109⟩ => ?_)
      subst hS109
      obtain ⟨m109, hg109, rfl⟩ := hv109.resolve_right (fun h => kid_cat h.1 hdg)
      refine oM ?_; refine oS sE ?_; refine oS sE (oA (oA (oZ hK18 (cR fun _ hK19 => ?_)))); refine oM (oM (oM (oM (oM ?_)))); refine o_call (ihT y js (by omega) kp _ p2 m109 es109 c109 ca cc N cs2 Sc2 hpo hg109.1 (Nat.le_trans hg109.2.1 hq) hg109.2.2.1.1 hm109 hcl2 hsl8 hO2) rfl rfl rfl ((Pick.takeC pkA pkA)) (fun w st => hw.sub (S := (K.bM, mpO es109 c109) :: Sc2) st (hin_cons meA hiA)) (fun v117 S117 ⟨es117, c117, Sc117, hS117, hm117, hO117⟩ => ?_); subst hS117
      refine oZ hK19 (c_region (oM (oA (o_nil (x_block (xZ hK17 (c_region (oM ?_)))))))); refine oS sN ?_; refine oS sF ?_; refine oS (s_ld rfl ((RdPK.old hw.p4 hw.n4).cel (j := 1) rfl rfl)) ?_; refine oM ?_; refine oS (s_idx rfl rfl hse (by omega)) ?_; refine oS (s_ld rfl ((RdK.old hw.d3 hw.a3).ld kp 0 hge rfl (by decide) (by omega))) ?_; refine oA (o_nil ?_); exact x_then (x_inv ((kp + 1 + js.size), r2, m109, es117, c117, (bst1 K.tx y js p2 m109 cs2), Sc117) ⟨hpt, by dsimp only; omega, hg109.2.1, hg109.2.2.1.2, by dsimp only; rw [hbe, bst_cat hg109], hm117, by dsimp only; rw [bst1_len]; exact hcl2, hO117⟩ (by simp only [F.size]; omega) sbA hzB)
     ·obtain rfl : g = F.nil := F.size_nil (by omega)
      refine oS lsF (oZ hK16 ?_); refine cF ?_; refine c_exit ?_; refine x_then_exit (x_then_exit (x_block_exit (x_block ?_))); refine x_sub (Sub.refl _) (H' := (K.bM, mpO es2 c2) :: Sc2) hzB ?_; exact x_end rfl (.nil) (⟨es2, c2, Sc2, rfl, hes2, by rw [bst1_4 o4, hbe, bst_nil]; exact hO2⟩)
    ·refine oS (eqF (h := o4)) ?_; refine oA (oZ hK13 ?_); refine cF (cR fun _ hK20 => ?_)
     by_cases o6 : x.op = 6
     ·obtain ⟨y, js, rfl⟩ := one_kid hp.wf (.inl o6)
      have hrg := rep_rng hok o6
      refine oS (eqT (h := o6)) ?_; refine oA (oZ hK20 ?_); refine cT (cR fun _ hK21 => ?_); refine oA (oZ hK21 (c_block ?_)); refine c_loop7 (fun (f : Nat) (r : Nat) (p2 : Nat) (es2 : List Me) (c2 : Nat) (cs2 : List Sp) (Sc2 : Hp) => p2 ≤ q ∧ ((x.mx = -1 ∧ r ≤ (max x.mn.toNat 1)) ∨ (0 ≤ x.mx ∧ (((r : Nat) : Int) : Int) ≤ x.mx)) ∧ (q - p2) + ((max x.mn.toNat 1) - r) < f ∧ (reps x (der K.tx (F.nd y js .nil) false) (fun p q cs => bst K.tx (F.nd y js .nil) false p q (fgt ((F.nd y js .nil)).flat cs)) q ((q - p) + (max x.mn.toNat 1) + 1) 0 p cs) = (reps x (der K.tx (F.nd y js .nil) false) (fun p q cs => bst K.tx (F.nd y js .nil) false p q (fgt ((F.nd y js .nil)).flat cs)) q f r p2 cs2) ∧ MapOk K.tx K.re es2 ∧ cs2.length = N ∧ OwnS Esp 2 45 (.slice ca N cc) cs2 Sc2) (fun (f : Nat) (r : Nat) (p2 : Nat) (es2 : List Me) (c2 : Nat) (cs2 : List Sp) (Sc2 : Hp) => [(15, .int .i64 r), (2, .int .i64 p2)]) [(0, _), (1, _), (3, _), (4, _), (10, _)] (fun (f : Nat) (r : Nat) (p2 : Nat) (es2 : List Me) (c2 : Nat) (cs2 : List Sp) (Sc2 : Hp) => (K.bM, mpO es2 c2) :: (Sc2 ++ [(b10, .cells (En x).toArray 80 (0, 0))])) (fun (f : Nat) (r : Nat) (p2 : Nat) (es2 : List Me) (c2 : Nat) (cs2 : List Sp) (Sc2 : Hp) => f) ((q - p) + (max x.mn.toNat 1) + 1) 0 p es c cs Sc ⟨hpq, by omega, by omega, rfl, hes, hcl, hO⟩ sbA sbA hzB ?_
      rintro f r p2 es2 c2 cs2 Sc2 ⟨hp2q, hv, hfu, hre, hes2, hcl2, hO2⟩
      refine c_block (cR fun _ hK22 => ?_); refine oM (oM (oM (oM (oM ?_)))); refine oS (s_build (cs := [_, _, _, _]) (vs := [_, _, _, _]) rfl rfl (.cons rfl rfl rfl rfl rfl (.cons rfl rfl rfl rfl rfl (.cons rfl rfl rfl rfl rfl (.cons rfl rfl rfl rfl rfl (.nil)))))) ?_; refine o_call (hrnd o6 r p2 hp2q hv es2 c2 hes2) rfl rfl rfl pkA (fun w st => hw.sub (S := [(K.bM, mpO es2 c2)]) st (hin_cons meA hin_nil)) (fun v128 S128 ⟨es128, c128, hS128, hm128, hv128⟩ => ?_); subst hS128
      rcases hv128 with ⟨m128, hg128, rfl⟩ | ⟨hn128, rfl⟩
      ·obtain ⟨f, rfl⟩ : ∃ a, f = a + 1 := ⟨f - 1, by omega⟩
       have hd2 : der1 K.tx y js p2 m128 := der_one.1 hg128.2.2.1.2.2.1
       have hst := hg128.2.2.1.2.1
       have hlt := hg128.2.2.1.1
       have hm1 := hg128.1
       have hm2 := hg128.2.1
       refine oM ?_; refine oS sE ?_; refine oS sE (oA (oA (oZ hK22 (c_seq fun _ hK23 => ?_)))); refine cR fun _ hK24 => ?_; refine oM ?_; refine oS (s_not rfl) ?_; refine oZ hK24 ?_; refine cFZ hK23 (cR fun _ hK25 => ?_); refine oM (oM ?_); refine oS sD (oM ?_); refine o_call (forget_fn K hK y js (i + 1) _ hpk ca cc N cs2 Sc2 hcl2 hsl8 hO2) rfl rfl rfl pkA (fun w st => hw.sub st hiA) (fun v137 S137 hO137 => ?_); refine oZ hK25 ?_
       refine cR fun _ hK26 => ?_; refine oM (oM ?_); refine oS sD (oM (oM (oM ?_))); refine o_call (ihT y js (by simp only [F.size]; omega) (i + 1) _ p2 m128 es128 c128 ca cc N _ S137 hpk hm1 (Nat.le_trans hm2 hq) hd2 hm128 (by rw [fgt_len]; exact hcl2) hsl8 hO137) rfl rfl rfl ((Pick.takeC pkA pkA)) (fun w st => hw.sub (S := (K.bM, mpO es128 c128) :: S137) st (hin_cons meA hiA)) (fun v144 S144 ⟨es144, c144, Sc144, hS144, hm144, hO144⟩ => ?_); subst hS144
       refine oZ hK26 (cR fun _ hK27 => ?_); refine oM (oA (oZ hK27 (cR fun _ hK28 => ?_))); refine oM ?_; refine oS sD (oA (oZ hK28 (cR fun _ hK29 => ?_))); refine oS sF ?_; refine oS sL ?_
       by_cases hml : x.mx < 0
       ·have hnx : nxtR x r = min (r + 1) (max x.mn.toNat 1) := by rw [nxtR, if_pos hml]
        refine oS lsT (oZ hK29 ?_); refine cT (c_region (oM ?_)); refine oS sF ?_; refine oS sL ?_; refine oS (s_max rfl rfl) ?_; refine oS (step_cast (v' := .int .i64 (nxtR x r : Nat)) (s_min rfl rfl) (congrArg (Value.int .i64) (by rw [nxtR, if_pos hml]; omega))) ?_; refine oA (o_nil (x_block ?_)); exact x_then (x_inv (f, (nxtR x r), m128, es144, c144, (bst1 K.tx y js p2 m128 (fgt (F.nd y js .nil).flat cs2)), Sc144) ⟨hm2, by dsimp only; omega, by dsimp only; omega, by dsimp only; rw [hre, reps_go hg128, bst_one hd2], hm144, by dsimp only; rw [bst1_len, fgt_len]; exact hcl2, hO144⟩ (by dsimp only; omega) sbA hzB)
       ·have hnx : nxtR x r = r + 1 := by rw [nxtR, if_neg hml]
        refine oS lsF (oZ hK29 ?_); refine cF (c_skip (x_block ?_)); exact x_then (x_inv (f, (r + 1), m128, es144, c144, (bst1 K.tx y js p2 m128 (fgt (F.nd y js .nil).flat cs2)), Sc144) ⟨hm2, by dsimp only; omega, by dsimp only; omega, by dsimp only; rw [hre, reps_go hg128, bst_one hd2, hnx], hm144, by dsimp only; rw [bst1_len, fgt_len]; exact hcl2, hO144⟩ (by dsimp only; omega) sbA hzB)
      ·refine oM ?_; refine oS sE ?_; refine oS sE (oA (oA (oZ hK22 (c_seq fun _ hK30 => ?_)))); refine cR fun _ hK31 => ?_; refine oM ?_; refine oS (s_not rfl) ?_; refine oZ hK31 ?_; refine cT (c_ret ?_); refine x_then_ret (x_block_ret (x_then_ret (x_block_ret (x_block_ret (?_)))))
       refine x_sub (Sub.refl _) (H' := (K.bM, mpO es128 c128) :: Sc2) hzB ?_; exact x_ret rfl (.nil) (⟨es128, c128, Sc2, rfl, hm128, by rw [bst1_6 o6, hre, reps_end hn128]; exact hO2⟩)
     ·refine oS (eqF (h := o6)) ?_; refine oA (oZ hK20 ?_); refine cF (c_skip (x_block ?_)); refine x_sub (Sub.refl _) (H' := (K.bM, mpO es c) :: Sc) hzB ?_; exact x_end rfl (.nil) (⟨es, c, Sc, rfl, hes, by rw [bst1_0 (by omega)]; exact hO⟩)
theorem cat_any {K : AskE} (hK : K.ok) (hr : K.rF = 93) {x : Nd} {ks : F} {i i1 : Nat} (hp : Part K.re (.nd x ks .nil) i i1) (h4 : x.op = 4) (hN : ∀ y js, NodeK Tryd.prog K y js) :
    ∀ (g : F) (m : Nat), Part K.re g m i1 → ∀ p q, p ≤ q → q ≤ K.tx.length → RestK Tryd.prog K ⟨i, m, p, q⟩
  | .nil, m, hg, p, q, hpq, hq => rest_of hr fun es c hes => find_cat K hK x ks i i1 p q es c hp hpq hq hes m .nil hg h4 fun y js r h => by cases h
  | .nd y js r, m, hg, p, q, hpq, hq => rest_of hr fun es c hes => find_cat K hK x ks i i1 p q es c hp hpq hq hes m (.nd y js r) hg h4 fun y' js' r' h => by
    cases h
    intro es c hes
    exact kid_fn K hK x ks i i1 p q es c hp hpq hq hes m y js r hg (hN y js) (fun n h1 h2 => by
      have := cat_any hK hr hp h4 hN r (m + 1 + js.size) hg.head.2.2 n q h2 hq
      exact this) h4
theorem take_all {K : AskE} (hK : K.ok) (hn : K.nF = 92) (hr : K.rF = 93) : ∀ (n : Nat) (x : Nd) (ks : F), ks.size < n → TakeK Tryd.prog K 95 45 x ks := by
  have hN : ∀ y js, NodeK Tryd.prog K y js := fun y js => node_all hK hn hr _ y js (Nat.lt_succ_self _)
  intro n
  induction n with
  | zero => intro x ks h; omega
  | succ n ihn =>
    intro x ks hs i i1 p q es c ca cc N cs Sc hp hpq hq hd hes hcl hsl hO
    refine take_step K hK x ks i i1 p q es c hp hpq hq hes hd ca cc N cs Sc hcl hsl hO (fun y js h => ihn y js (by omega)) hN (fun h4 m p y js r hg hpq es c hes => ?_) (fun h6 r p hpq hv es c hes => ?_)
    · exact kid_fn K hK x ks i i1 p q es c hp hpq hq hes m y js r hg (hN y js) (fun n h1 h2 => cat_any hK hr hp h4 hN r (m + 1 + js.size) hg.head.2.2 n q h2 hq) h4
    · have hrg := rep_rng hp.wf.1 h6
      refine round_fn K hK x ks i i1 p q es c hp hpq hq hes r h6 (by omega) (by omega) (fun y js _ => hN y js) fun n h1 h2 h3 h4 => ?_
      have hnx : (x.mx = -1 ∧ nxtR x r = min (r + 1) (max x.mn.toNat 1)) ∨ (0 ≤ x.mx ∧ nxtR x r = r + 1) := by
        unfold nxtR
        by_cases h : x.mx < 0
        · rw [if_pos h]; exact .inl ⟨by omega, rfl⟩
        · rw [if_neg h]; exact .inr ⟨by omega, rfl⟩
      exact rep_all hK hr hp h6 (fun y js _ => hN y js) _ rfl _ _ n q (Nat.lt_succ_self _) h2 hq (by omega)
def AskP (ra : Option Addr) (rc : Nat) (re : List Nd) (ta : Option Addr) (tc : Nat) (w : List UInt8) (v : Value) (S' : Hp) : Prop := ∃ (K : AskE) (Se : Hp), K.nF = 92 ∧ K.rF = 93 ∧ K.re = re ∧ K.tx = w ∧ K.vre = .slice ra re.length rc ∧ K.vtx = .slice ta w.length tc ∧ K.ok ∧ v = pt K.bS ∧ OwnS Eix 1 3 K.ven K.l Se ∧
  S' = (K.bM, mpO [] 0) :: (K.bRe, .cells [K.vre].toArray 22 (0, 0)) :: (K.bTx, .cells [K.vtx].toArray 23 (0, 0)) :: (K.bA, .cells [pt K.bS].toArray 109 (0, 0)) :: (K.bS, .cells K.cells.toArray 115 (0, 0)) :: Se
set_option maxHeartbeats 2000000 in
theorem ask_fn (ra : Option Addr) (rc : Nat) (re : List Nd) (ta : Option Addr) (tc : Nat) (w : List UInt8) (hre : ∀ x ∈ re, -128 ≤ x.op ∧ x.op < 128) (hr8 : ∀ x ∈ re, ¬ x.op = 8) (hrl : re.length ≤ 1000000) (hwl : w.length ≤ 1000000) (x0 : Nd) (ks0 : F) (hp0 : Part re (.nd x0 ks0 .nil) 0 re.length) : HL.Fn Tryd.prog 52 [.slice ra re.length rc, .slice ta w.length tc] (fun W => Rd En W (.slice ra re.length rc) re ∧ Rd Eb W (.slice ta w.length tc) w) [] (AskP ra rc re ta tc w) := by
  refine fn_of Tryd.func52 rfl rfl rfl fun w0 hw => ?_
  have hsl := hw.1.sl
  have hbl := hsl.le
  refine cR fun _ hK1 => ?_; refine o_box rfl rfl rfl fun b2 => ?_; refine o_box rfl rfl rfl fun b3 => ?_; refine oA (oZ hK1 (c_seq fun _ hK2 => ?_)); refine c_drawE ([(b3, .cells [.slice ta w.length tc].toArray 23 (0, 0)), (b2, .cells [.slice ra re.length rc].toArray 22 (0, 0))]) (fun i => false) ?_; refine eK 0 rfl sL ?_; refine eK 1 rfl sL ?_; refine eK 2 rfl sC ?_; refine eK 4 rfl sL ?_; refine e_join (ι := AskG 3 re.length) (fun g => [(15, pt g.bS), (5, pt g.bA)]) [(2, _), (3, _), (4, _)] (fun g => (g.bM, mpO [] 0) :: (g.bA, .cells [.pointer none].toArray 109 (0, 0)) :: (g.bS, .cells [.slice ra re.length rc, .slice (some ⟨g.bE, 0, none⟩) re.length re.length, .slice ta w.length tc, .map (some g.bM), .nilFunc, .nilFunc].toArray 115 (0, 0)) :: (g.S ++ [(b3, .cells [.slice ta w.length tc].toArray 23 (0, 0)), (b2, .cells [.slice ra re.length rc].toArray 22 (0, 0))])) 1 #[true, true, true, true, true, true, true, true, true, false] sbA (fun hJ => ?_) ?_
  ·refine e_any3 3 5 8 rfl rfl rfl (by kernel_rfl) ?_ ?_ ?_
   ·refine o_make (E := Eix) (zx := 0) (n := re.length) rfl rfl rfl (by omega) (by omega) rfl fun b11 S11 hS11 => ?_; refine oX ?_; refine e_any2 5 8 rfl rfl (by kernel_rfl) ?_ ?_
    ·refine o_mmap rfl fun b13 => ?_; refine oX ?_; refine e_any2 6 8 rfl rfl (by kernel_rfl) ?_ ?_
     ·refine oS (s_build (cs := [_, _, _, _, _, _]) (vs := [_, _, _, _]) rfl rfl (.cons rfl rfl rfl rfl rfl (.cons rfl rfl rfl rfl rfl (.cons rfl rfl rfl rfl rfl (.cons rfl rfl rfl rfl rfl (.nil)))))) ?_; refine oX ?_; refine e_any2 7 8 rfl rfl (by kernel_rfl) ?_ ?_
      ·refine o_box rfl rfl rfl fun b15 => ?_; refine oX (eO 8 rfl ?_); refine o_alloc rfl rfl fun b5 => ?_; refine oX ?_
       exact e_lst (by kernel_rfl) (hJ (⟨b11, b13, b5, b15, S11, hS11⟩ : AskG 3 re.length) _ _ sbA sbA hzB)
      ·refine o_alloc rfl rfl fun b5 => ?_; refine oX (eO 7 rfl ?_); refine o_box rfl rfl rfl fun b15 => ?_; refine oX ?_
       exact e_lst (by kernel_rfl) (hJ (⟨b11, b13, b5, b15, S11, hS11⟩ : AskG 3 re.length) _ _ sbA sbA hzB)
     ·refine o_alloc rfl rfl fun b5 => ?_; refine oX (eO 6 rfl ?_); refine oS (s_build (cs := [_, _, _, _, _, _]) (vs := [_, _, _, _]) rfl rfl (.cons rfl rfl rfl rfl rfl (.cons rfl rfl rfl rfl rfl (.cons rfl rfl rfl rfl rfl (.cons rfl rfl rfl rfl rfl (.nil)))))) ?_; refine oX (eO 7 rfl ?_); refine o_box rfl rfl rfl fun b15 => ?_; refine oX ?_
      exact e_lst (by kernel_rfl) (hJ (⟨b11, b13, b5, b15, S11, hS11⟩ : AskG 3 re.length) _ _ sbA sbA hzB)
    ·refine o_alloc rfl rfl fun b5 => ?_; refine oX (eO 5 rfl ?_); refine o_mmap rfl fun b13 => ?_; refine oX (eO 6 rfl ?_); refine oS (s_build (cs := [_, _, _, _, _, _]) (vs := [_, _, _, _]) rfl rfl (.cons rfl rfl rfl rfl rfl (.cons rfl rfl rfl rfl rfl (.cons rfl rfl rfl rfl rfl (.cons rfl rfl rfl rfl rfl (.nil)))))) ?_; refine oX (eO 7 rfl ?_); refine o_box rfl rfl rfl fun b15 => ?_; refine oX ?_
     exact e_lst (by kernel_rfl) (hJ (⟨b11, b13, b5, b15, S11, hS11⟩ : AskG 3 re.length) _ _ sbA sbA hzB)
   ·refine o_mmap rfl fun b13 => ?_; refine oX ?_; refine e_any2 3 8 rfl rfl (by kernel_rfl) ?_ ?_
    ·refine o_make (E := Eix) (zx := 0) (n := re.length) rfl rfl rfl (by omega) (by omega) rfl fun b11 S11 hS11 => ?_; refine oX ?_; refine e_any2 6 8 rfl rfl (by kernel_rfl) ?_ ?_
     ·refine oS (s_build (cs := [_, _, _, _, _, _]) (vs := [_, _, _, _]) rfl rfl (.cons rfl rfl rfl rfl rfl (.cons rfl rfl rfl rfl rfl (.cons rfl rfl rfl rfl rfl (.cons rfl rfl rfl rfl rfl (.nil)))))) ?_; refine oX ?_; refine e_any2 7 8 rfl rfl (by kernel_rfl) ?_ ?_
      ·refine o_box rfl rfl rfl fun b15 => ?_; refine oX (eO 8 rfl ?_); refine o_alloc rfl rfl fun b5 => ?_; refine oX ?_
       exact e_lst (by kernel_rfl) (hJ (⟨b11, b13, b5, b15, S11, hS11⟩ : AskG 3 re.length) _ _ sbA sbA hzB)
      ·refine o_alloc rfl rfl fun b5 => ?_; refine oX (eO 7 rfl ?_); refine o_box rfl rfl rfl fun b15 => ?_; refine oX ?_
       exact e_lst (by kernel_rfl) (hJ (⟨b11, b13, b5, b15, S11, hS11⟩ : AskG 3 re.length) _ _ sbA sbA hzB)
     ·refine o_alloc rfl rfl fun b5 => ?_; refine oX (eO 6 rfl ?_); refine oS (s_build (cs := [_, _, _, _, _, _]) (vs := [_, _, _, _]) rfl rfl (.cons rfl rfl rfl rfl rfl (.cons rfl rfl rfl rfl rfl (.cons rfl rfl rfl rfl rfl (.cons rfl rfl rfl rfl rfl (.nil)))))) ?_; refine oX (eO 7 rfl ?_); refine o_box rfl rfl rfl fun b15 => ?_; refine oX ?_
      exact e_lst (by kernel_rfl) (hJ (⟨b11, b13, b5, b15, S11, hS11⟩ : AskG 3 re.length) _ _ sbA sbA hzB)
    ·refine o_alloc rfl rfl fun b5 => ?_; refine oX (eO 3 rfl ?_); refine o_make (E := Eix) (zx := 0) (n := re.length) rfl rfl rfl (by omega) (by omega) rfl fun b11 S11 hS11 => ?_; refine oX (eO 6 rfl ?_); refine oS (s_build (cs := [_, _, _, _, _, _]) (vs := [_, _, _, _]) rfl rfl (.cons rfl rfl rfl rfl rfl (.cons rfl rfl rfl rfl rfl (.cons rfl rfl rfl rfl rfl (.cons rfl rfl rfl rfl rfl (.nil)))))) ?_; refine oX (eO 7 rfl ?_); refine o_box rfl rfl rfl fun b15 => ?_; refine oX ?_
     exact e_lst (by kernel_rfl) (hJ (⟨b11, b13, b5, b15, S11, hS11⟩ : AskG 3 re.length) _ _ sbA sbA hzB)
   ·refine o_alloc rfl rfl fun b5 => ?_; refine oX ?_; refine e_any2 3 5 rfl rfl (by kernel_rfl) ?_ ?_
    ·refine o_make (E := Eix) (zx := 0) (n := re.length) rfl rfl rfl (by omega) (by omega) rfl fun b11 S11 hS11 => ?_; refine oX (eO 5 rfl ?_); refine o_mmap rfl fun b13 => ?_; refine oX (eO 6 rfl ?_); refine oS (s_build (cs := [_, _, _, _, _, _]) (vs := [_, _, _, _]) rfl rfl (.cons rfl rfl rfl rfl rfl (.cons rfl rfl rfl rfl rfl (.cons rfl rfl rfl rfl rfl (.cons rfl rfl rfl rfl rfl (.nil)))))) ?_; refine oX (eO 7 rfl ?_); refine o_box rfl rfl rfl fun b15 => ?_; refine oX ?_
     exact e_lst (by kernel_rfl) (hJ (⟨b11, b13, b5, b15, S11, hS11⟩ : AskG 3 re.length) _ _ sbA sbA hzB)
    ·refine o_mmap rfl fun b13 => ?_; refine oX (eO 3 rfl ?_); refine o_make (E := Eix) (zx := 0) (n := re.length) rfl rfl rfl (by omega) (by omega) rfl fun b11 S11 hS11 => ?_; refine oX (eO 6 rfl ?_); refine oS (s_build (cs := [_, _, _, _, _, _]) (vs := [_, _, _, _]) rfl rfl (.cons rfl rfl rfl rfl rfl (.cons rfl rfl rfl rfl rfl (.cons rfl rfl rfl rfl rfl (.cons rfl rfl rfl rfl rfl (.nil)))))) ?_; refine oX (eO 7 rfl ?_); refine o_box rfl rfl rfl fun b15 => ?_; refine oX ?_
     exact e_lst (by kernel_rfl) (hJ (⟨b11, b13, b5, b15, S11, hS11⟩ : AskG 3 re.length) _ _ sbA sbA hzB)
  ·rintro ⟨bE, bM, bA, b15, Sg, hSg⟩
   refine eO 9 rfl ?_; refine o_store rfl rfl rfl upA ltA rfl ?_; refine oX (eZ hK2 (c_seq fun _ hK3 => ?_)); refine cR fun _ hK4 => ?_; refine oS sL ?_; refine oS sC ?_; refine oS sU (oA (oZ hK4 (c_block ?_))); refine c_loop3 (fun (c : Nat) (l : List Nat) (S : Hp) => c ≤ re.length ∧ OwnS Eix 1 3 (.slice (some ⟨bE, 0, none⟩) re.length re.length) l S ∧ EndsOk re c l) (fun (c : Nat) (l : List Nat) (S : Hp) => [(6, .int .i64 ((c : Int) - 1))]) [(2, _), (3, _), (4, _), (5, _)] (fun (c : Nat) (l : List Nat) (S : Hp) => S ++ ((bM, mpO [] 0) :: (bA, .cells [pt b15].toArray 109 (0, 0)) :: (b15, .cells [.slice ra re.length rc, .slice (some ⟨bE, 0, none⟩) re.length re.length, .slice ta w.length tc, .map (some bM), .nilFunc, .nilFunc].toArray 115 (0, 0)) :: (b3, .cells [.slice ta w.length tc].toArray 23 (0, 0)) :: [(b2, .cells [.slice ra re.length rc].toArray 22 (0, 0))])) (fun (c : Nat) (l : List Nat) (S : Hp) => c) re.length _ _ ⟨by omega, hSg, .start List.length_replicate⟩ sbA sbA hzB ?_
   rintro c l S ⟨hc, hS, hE⟩
   have hls := hS.sl
   have hEl := hE.1
   rw [hE.1] at hls
   refine c_seq fun _ hK5 => ?_; refine cR fun _ hK6 => ?_; refine oM ?_
   by_cases hc1 : 1 ≤ c
   ·obtain ⟨a, rfl⟩ : ∃ a, c = a + 1 := ⟨c - 1, by omega⟩
    obtain ⟨x, ks, r0, ia, hpa⟩ := hp0.at _ _ _ a (Nat.zero_le _) (by omega)
    obtain ⟨hx, hpk, _⟩ := hpa.head
    have hok : ndOk x = true := hpa.wf.1
    have hk0 := ndOk_kids hok
    have hkn : (ks.num : Int) = x.kids := hpa.wf.2.1
    have hns := F.num_le ks
    have hpkl := hpk.le
    refine oS geT (oZ hK6 ?_); refine cTZ hK5 (c_seq fun _ hK7 => ?_); refine c_block (cR fun _ hK8 => ?_); refine oM ?_; refine oS sD (oA (oZ hK8 (c_seq fun _ hK9 => ?_))); refine cR fun _ hK10 => ?_; refine oS sL (oM ?_); refine oS (s_idx rfl rfl hsl (by omega)) ?_; refine oS sF ?_; refine oS (s_ld rfl ((RdK.old0 hw.1).ld a 8 hx rfl (by decide) (by omega))) ?_; refine oM (oZ hK10 ?_)
    refine c_block ?_; refine c_loop3 (fun (k : Nat) (to : Nat) (r1 : F) => k + r1.num = ks.num ∧ Part re r1 to (a + 1 + ks.size) ∧ a + 1 ≤ to) (fun (k : Nat) (to : Nat) (r1 : F) => [(30, .int .i64 k), (7, .int .i64 to)]) [(2, _), (3, _), (4, _), (5, _), (6, _), (19, _), (20, _), (23, _), (24, _), (25, _), (26, _), (27, _), (28, _), (29, _)] (fun (k : Nat) (to : Nat) (r1 : F) => S ++ ((bM, mpO [] 0) :: (bA, .cells [pt b15].toArray 109 (0, 0)) :: (b15, .cells [.slice ra re.length rc, .slice (some ⟨bE, 0, none⟩) re.length re.length, .slice ta w.length tc, .map (some bM), .nilFunc, .nilFunc].toArray 115 (0, 0)) :: (b3, .cells [.slice ta w.length tc].toArray 23 (0, 0)) :: [(b2, .cells [.slice ra re.length rc].toArray 22 (0, 0))])) (fun (k : Nat) (to : Nat) (r1 : F) => ks.num - k) 0 (a + 1) ks ⟨by omega, hpk, Nat.le_refl _⟩ (by exact Sub.cons rfl (Sub.cons' rfl (by congr 1; omega) sbA)) sbA hzB ?_
    rintro k to r1 ⟨hkr, hpr, hto⟩
    refine cR fun _ hK11 => ?_
    by_cases hkl : (k : Int) < x.kids
    ·obtain ⟨y, ks1, r2, rfl⟩ : ∃ y ks1 r2, r1 = F.nd y ks1 r2 := by cases r1 with | nil => simp [F.num] at hkr; omega | nd y a b => exact ⟨y, a, b, rfl⟩
     obtain ⟨hy, hpy, hpt⟩ := hpr.head
     have hto2 := (List.getElem?_eq_some_iff.1 hy).1
     have hge := hE.2 to y ks1 r2 _ (by omega) hpr
     have hg2 := hpy.le
     refine oS lsT (oZ hK11 (c_seq fun _ hK12 => ?_)); refine cTZ hK12 (c_seq fun _ hK13 => ?_); refine c_block (c_region ?_); refine oS sL ?_; refine oS sN ?_; refine oS sF ?_; refine oS sL (oM ?_); refine oS (s_idx rfl rfl hls (by omega)) ?_; refine oS (s_ld rfl ((hS.rdk hiA).ld to 0 hge rfl (by decide) (by omega))) ?_; refine oA (o_nil (x_block (xZ hK13 (c_region ?_)))); refine oS sD (oM (o_nil ?_))
     exact xI (k + 1, to + 1 + ks1.size, r2) ⟨by simp only [F.num] at hkr; dsimp only; omega, hpt, by dsimp only; omega⟩
    ·obtain rfl : r1 = F.nil := by cases r1 with | nil => rfl | nd y a b => simp only [F.num] at hkr; omega
     have hto : to = a + 1 + ks.size := by have := hpr.len; simp [F.size] at this; omega
     subst hto; refine oS lsF (oZ hK11 (c_seq fun _ hK14 => ?_)); refine cF ?_; refine c_exit ?_; refine x_then_exit (x_then_exit (x_block_exit (xZ hK9 (c_region ?_)))); refine oS sL ?_; refine oS sN ?_; refine oS sF ?_; refine oS sL (oM (oM ?_)); refine oS (s_idx rfl rfl hls (by omega)) ?_; refine o_stS1 a (a + 1 + ks.size) hS pkA rfl rfl rfl (by omega) (by omega) fun S' hS' => ?_; refine o_nil (x_block (xZ hK7 (c_region (oM ?_)))); refine oS sU (oA (o_nil ?_)); exact x_then (x_inv (a, _, _) ⟨by omega, hS', hE.step hpa⟩ (by first | omega | (dsimp only; omega)) (by exact Sub.cons' rfl (by congr 1; omega) sbA) hzB)
   ·have hc0 : c = 0 := by omega
    refine oS geF (oZ hK6 ?_); refine cF ?_; refine c_exit ?_; refine x_then_exit (x_then_exit (x_block_exit (xZ hK3 (cR fun _ hK15 => ?_)))); refine oS sL ?_; refine oS (s_func (us := []) (vs := [_, _, _]) rfl rfl) ?_; refine oS sN ?_; refine oS sF ?_; refine o_store rfl rfl rfl upA ltA rfl ?_; refine oZ hK15 (cR fun _ hK16 => ?_); refine oS sL ?_; refine oS (s_func (us := []) (vs := [_]) rfl rfl) ?_; refine oS sN ?_; refine oS sF ?_; refine o_store rfl rfl rfl upA ltA rfl ?_; refine oZ hK16 (cR fun _ hK17 => ?_); refine oS sL (oA (oZ hK17 (c_ret ?_))); refine ?_; subst hc0
    refine x_sub (Sub.refl _) (H' := (bM, mpO [] 0) :: (b2, .cells [.slice ra re.length rc].toArray 22 (0, 0)) :: (b3, .cells [.slice ta w.length tc].toArray 23 (0, 0)) :: (bA, .cells [pt b15].toArray 109 (0, 0)) :: (b15, .cells (⟨b2, b3, bA, b15, bE, bM, 92, 93, ra, rc, re, ta, tc, w, l⟩ : AskE).cells.toArray 115 (0, 0)) :: S) hzB ?_; exact xR rfl rfl (⟨(⟨b2, b3, bA, b15, bE, bM, 92, 93, ra, rc, re, ta, tc, w, l⟩ : AskE), S, rfl, rfl, rfl, rfl, rfl, rfl, ⟨hre, hr8, hrl, hwl, hE⟩, rfl, hS, rfl⟩)
set_option maxHeartbeats 1000000 in
theorem captures_fn (K : AskE) (hK : K.ok) (hn : K.nF = 92) (hr : K.rF = 93) (hsb : shapedB K.re = true) (x : Nd) (ks : F) (hs : Shp K.re x ks) (p q : Nat) (hpq : p ≤ q) (hq : q ≤ K.tx.length) (hd : der1 K.tx x ks p q) (es : List Me) (c : Nat) (hes : MapOk K.tx K.re es) : HL.Fn Tryd.prog 53 [pt K.bS, .agg (Esp ⟨p, q⟩).toArray] (fun W => Env W K [K.bM]) [(K.bM, mpO es c)] (CapsP K 45 (capsV K.tx K.re x ks p q)) := by
  refine fn_of Tryd.func53 rfl rfl rfl fun w0 hw => ?_
  have hgl : gcn K.re ≤ K.re.length := List.countP_le_length
  have hrl := hK.len
  refine cR fun _ hK1 => ?_; refine o_box rfl rfl rfl fun b3 => ?_; refine oA (oZ hK1 (cR fun _ hK2 => ?_)); refine oM ?_; refine oS sN ?_; refine oS sF ?_; refine oS (s_ld rfl ((RdPK.old hw.p4 hw.n4).cel (j := 0) rfl rfl)) ?_; refine o_callP (groups_fn K.ra K.rc K.re hK.rng) rfl rfl rfl (fun w st => (RdK.old hw.d1 hw.a1).out w st) (fun v11 hv11 => ?_)
  rw [hsb, if_pos rfl] at hv11
  subst hv11; refine oS sD ?_; refine o_make (E := Esp) (zx := ⟨0, 0⟩) (n := (gcn K.re + 1)) rfl rfl rfl (by omega) (by omega) rfl fun b13 S13 hS13 => ?_; refine oA (oZ hK2 (c_seq fun _ hK3 => ?_)); refine cR fun _ hK4 => ?_; refine oM ?_; refine oS sC (oM (oZ hK4 (c_block ?_))); refine c_loop3 (fun (j : Nat) (l : List Sp) (S : Hp) => j ≤ (gcn K.re + 1) ∧ Tab.Fill (fun _ => noS) (gcn K.re + 1) j l ∧ OwnS Esp 2 45 (.slice (some ⟨b13, 0, none⟩) (gcn K.re + 1) (gcn K.re + 1)) l S) (fun (j : Nat) (l : List Sp) (S : Hp) => [(16, .int .i64 j)]) [(0, _), (3, _), (4, _), (5, _), (15, _)] (fun (j : Nat) (l : List Sp) (S : Hp) => S ++ [(b3, .cells (Esp ⟨p, q⟩).toArray 45 (0, 0)), (K.bM, mpO es c)]) (fun (j : Nat) (l : List Sp) (S : Hp) => (gcn K.re + 1) - j) 0 _ _ ⟨by omega, .zero List.length_replicate, hS13⟩ sbA sbA hzB ?_
  rintro j l S ⟨hj, hl, hS⟩
  have hls := hS.sl
  rw [hl.len] at hls
  refine cR fun _ hK5 => ?_
  by_cases hjl : (j : Int) < gcn K.re + 1
  ·have hll := hl.len
   refine oS lsT (oZ hK5 (c_seq fun _ hK6 => ?_)); refine cTZ hK6 (c_seq fun _ hK7 => ?_); refine c_block (cR fun _ hK8 => ?_); refine oM (oA (oZ hK8 (c_region (oM (oM ?_))))); refine oS (step_cast (v' := .agg (Esp noS).toArray) (s_build (cs := [_, _]) (vs := [_, _]) rfl rfl (.cons rfl rfl rfl rfl rfl (.cons rfl rfl rfl rfl rfl (.nil)))) rfl) ?_; refine oS (s_idx rfl rfl hls (by omega)) ?_; refine o_stSE j noS hS pkA rfl rfl (by omega) (by rw [Int.toNat_natCast]) fun S' hS' => ?_; refine o_nil (x_block (xZ hK7 (c_region ?_))); refine oS sD (oM (o_nil ?_)); exact xI (j + 1, _, _) ⟨by omega, hl.step (by omega) rfl, hS'⟩
  ·have hd2 := fill_rep hl (by omega)
   subst hd2; refine oS lsF (oZ hK5 (c_seq fun _ hK9 => ?_)); refine cF ?_; refine c_exit ?_; refine x_then_exit (x_then_exit (x_block_exit (xZ hK3 (cR fun _ hK10 => ?_)))); refine oM ?_; refine oS sF ?_; refine oS (s_ld rfl ((.own meA rfl : Cel _ _ _ (.int .i64 (p : Int))))) ?_; refine oS sF ?_; refine oS (s_ld rfl ((.own meA rfl : Cel _ _ _ (.int .i64 (q : Int))))) ?_; refine oM ?_; refine o_call (take_all hK hn hr _ x ks (Nat.lt_succ_self _) 0 _ p q es c (some ⟨b13, 0, none⟩) _ _ (List.replicate (gcn K.re + 1) noS) S hs.part hpq hq hd hes List.length_replicate (slots_of hsb) hS) rfl rfl rfl ((Pick.takeC pkA pkA)) (fun w st => hw.sub (S := (K.bM, mpO es c) :: S) st (hin_cons meA hiA)) (fun v30 S30 ⟨es30, c30, Sc30, hS30, hm30, hO30⟩ => ?_)
   subst hS30
   have hl30 : (bst1 K.tx x ks p q (List.replicate (gcn K.re + 1) noS)).length = (gcn K.re + 1) := by rw [bst1_len, List.length_replicate]
   have hs30 := hO30.sl
   rw [hl30] at hs30
   refine o_nil ?_; refine x_then (hK10 _ _ ?_); refine c_seq fun _ hK11 => ?_; refine c_region ?_; refine o_step rfl (s_move rfl) ?_; refine o_step rfl (s_ldB rfl (RdPK.cels (.own meA)) lnA) ?_; refine o_step rfl (s_idx rfl rfl hs30 (by omega)) ?_; refine o_stSE 0 ⟨p, q⟩ hO30 pkA rfl rfl (by rw [hl30]; omega) (by rfl) fun S' hS' => ?_; refine o_nil ?_; refine x_then (hK11 _ _ ?_); refine c_seq fun _ hK12 => ?_; refine c_region ?_; refine o_step rfl (s_move rfl) ?_; refine o_step rfl (s_assign rfl) ?_; refine o_nil ?_; refine x_then (hK12 _ _ ?_); refine c_ret ?_; refine ?_; refine x_sub (Sub.refl _) (H' := (K.bM, mpO es30 c30) :: S') hzB ?_; exact x_ret rfl (.tmp rfl (.nil)) (⟨es30, c30, some ⟨b13, 0, none⟩, (gcn K.re + 1), S', by rw [capsV_len]; rfl, rfl, by rw [capsV_len]; exact hS'⟩)
set_option maxHeartbeats 1000000 in
theorem find_fn (ra : Option Addr) (rc : Nat) (re : List Nd) (hre : ∀ x ∈ re, -128 ≤ x.op ∧ x.op < 128) (ta : Option Addr) (tc : Nat) (w : List UInt8) (hwl : w.length ≤ 1000000) (fi : Int) : HL.Fn Tryd.prog 28 [.slice ra re.length rc, .slice ta w.length tc, .int .i64 fi] (fun W => Rd En W (.slice ra re.length rc) re ∧ Rd Eb W (.slice ta w.length tc) w) [] (FindP 45 re w fi) := by
  refine fn_of Tryd.func28 rfl rfl rfl fun w0 hw => ?_
  have hst := hw.2.sl
  refine cR fun _ hK1 => ?_; refine oA (oA (oZ hK1 (c_seq fun _ hK2 => ?_))); refine cR fun _ hK3 => ?_; refine oM ?_; refine o_callP (shaped_fn ra rc re hre) rfl rfl rfl (fun w st => (RdK.old0 hw.1).out w st) (fun v12 hv12 => ?_); subst hv12
  cases hsb : shapedB re
  ·refine oS (s_not rfl) ?_; refine oM ?_; refine oN ?_; refine oN ?_; refine oS sT (oM ?_); refine oN ?_; refine oN ?_; refine oS sT (oM ?_); refine oN ?_; refine oN ?_; refine oN ?_; refine oN ?_; refine oS sT (oZ hK3 ?_); refine cT (cR fun _ hK4 => ?_); refine oA (oA (oZ hK4 (c_ret ?_))); refine x_then_ret (?_); refine x_sub (Sub.refl _) (H' := []) HSub.nil ?_; exact x_ret rfl (.tmp rfl (.tmp rfl (.nil))) (.inr ⟨fun ⟨x2, ks2, g2, p2, q2, hm, h1, h2, h3, h4⟩ => (by have := hm.sh; rw [hsb] at this; cases this), rfl, rfl⟩)
  ·obtain ⟨_, x, ks, hs⟩ := shapedB_iff.1 hsb
   refine oS (s_not rfl) ?_; refine oM ?_; refine oY (oM ?_); refine oY ?_; refine o_callP (refs_fn ra rc re hre) rfl rfl rfl (fun w st => (RdK.old0 hw.1).out w st) (fun v16 hv16 => ?_); subst hv16
   cases hrb : refsB re
   ·have hr8 := no_refs hsb hrb
    refine oS sP (oM ?_); refine oY (oM ?_); refine oY ?_
    by_cases hf0 : fi < 0
    ·refine oS lsT ?_; refine oS sP (oM ?_); refine oN ?_; refine oN ?_; refine oN ?_; refine oN ?_; refine oS sT (oZ hK3 ?_); refine cT (cR fun _ hK5 => ?_); refine oA (oA (oZ hK5 (c_ret ?_))); refine x_then_ret (?_); refine x_sub (Sub.refl _) (H' := []) HSub.nil ?_; exact x_ret rfl (.tmp rfl (.tmp rfl (.nil))) (.inr ⟨fun ⟨x2, ks2, g2, p2, q2, hm, h1, h2, h3, h4⟩ => (by omega), rfl, rfl⟩)
    ·refine oS lsF ?_; refine oS sP (oM ?_); refine oY (oM ?_); refine oY (oM ?_); refine oY ?_; refine oS sC ?_; refine oY ?_
     by_cases hfl : fi > w.length
     ·refine oS gtT ?_; refine oS sP (oZ hK3 ?_); refine cT (cR fun _ hK6 => ?_); refine oA (oA (oZ hK6 (c_ret ?_))); refine x_then_ret (?_); refine x_sub (Sub.refl _) (H' := []) HSub.nil ?_; exact x_ret rfl (.tmp rfl (.tmp rfl (.nil))) (.inr ⟨fun ⟨x2, ks2, g2, p2, q2, hm, h1, h2, h3, h4⟩ => (by have := der1_up _ _ h4; omega), rfl, rfl⟩)
     ·refine oS gtF ?_; refine oS sP (oZ hK3 ?_); refine cFZ hK2 (cR fun _ hK7 => ?_); refine oM (oM ?_)
      obtain ⟨f, rfl⟩ : ∃ f : Nat, fi = f := ⟨fi.toNat, by omega⟩
      refine o_call (ask_fn ra rc re ta tc w hre hr8 (by have := hs.len; omega) hwl x ks hs.part) rfl rfl rfl (by exact .nil) (fun w st => ⟨(RdK.old0 hw.1).out w st, (RdK.old0 hw.2).out w st⟩) (fun v30 S30 ⟨K, Se, hn, hr, e1, e2, e3, e4, hK, hv30, hE, hS30⟩ => ?_); subst e1
      subst e2; subst hv30
      subst hS30
      simp only [vre, vtx, Value.slice.injEq] at e3 e4
      obtain ⟨rfl, _, rfl⟩ := e3
      obtain ⟨rfl, _, rfl⟩ := e4
      refine oA (oZ hK7 (c_seq fun _ hK8 => ?_)); refine cR fun _ hK9 => ?_; refine oM (oA (oZ hK9 (c_block ?_)))
      -- not carried: 6 7
      refine c_loop3 (fun (i : Nat) (es2 : List Me) (c2 : Nat) => f ≤ i ∧ i ≤ K.tx.length + 1 ∧ (∀ p2 q2, f ≤ p2 → p2 < i → q2 ≤ K.tx.length → ¬ der1 K.tx x ks p2 q2) ∧ MapOk K.tx K.re es2) (fun (i : Nat) (es2 : List Me) (c2 : Nat) => [(9, .int .i64 i)]) [(1, _), (8, _)] (fun (i : Nat) (es2 : List Me) (c2 : Nat) => (K.bM, mpO es2 c2) :: (K.bRe, .cells [K.vre].toArray 22 (0, 0)) :: (K.bTx, .cells [K.vtx].toArray 23 (0, 0)) :: (K.bA, .cells [pt K.bS].toArray 109 (0, 0)) :: (K.bS, .cells K.cells.toArray 115 (0, 0)) :: Se) (fun (i : Nat) (es2 : List Me) (c2 : Nat) => K.tx.length + 1 - i) f [] 0 ⟨by omega, by omega, fun p2 q2 h1 h2 => by omega, .nil⟩ sbA sbA hzB ?_
      rintro i es2 c2 ⟨hi1, hi2, hno, hes2⟩
      refine c_seq fun _ hK10 => ?_; refine cR fun _ hK11 => ?_; refine oM (oM ?_); refine oS sC ?_
      by_cases hil : (i : Int) ≤ K.tx.length
      ·refine oS leT (oZ hK11 ?_); refine cTZ hK10 (c_seq fun _ hK12 => ?_); refine c_block (cR fun _ hK13 => ?_); refine oM ?_; refine oS sC (oA (oZ hK13 (c_block ?_))); refine c_loop3 (fun (n : Nat) (es3 : List Me) (c3 : Nat) => i ≤ n ∧ n ≤ K.tx.length + 1 ∧ (∀ q2, n ≤ q2 → q2 ≤ K.tx.length → ¬ der1 K.tx x ks i q2) ∧ MapOk K.tx K.re es3) (fun (n : Nat) (es3 : List Me) (c3 : Nat) => [(10, .int .i64 ((n : Int) - 1))]) [(1, _), (8, _), (9, _), (32, _), (33, _), (34, _), (35, _), (38, _), (39, _)] (fun (n : Nat) (es3 : List Me) (c3 : Nat) => (K.bM, mpO es3 c3) :: (K.bRe, .cells [K.vre].toArray 22 (0, 0)) :: (K.bTx, .cells [K.vtx].toArray 23 (0, 0)) :: (K.bA, .cells [pt K.bS].toArray 109 (0, 0)) :: (K.bS, .cells K.cells.toArray 115 (0, 0)) :: Se) (fun (n : Nat) (es3 : List Me) (c3 : Nat) => n) (K.tx.length + 1) es2 c2 ⟨by omega, by omega, fun q2 h1 h2 => by omega, hes2⟩ (by exact Sub.cons' rfl (by congr 1; omega) sbA) sbA hzB ?_
       rintro n es3 c3 ⟨hn1, hn2, hno3, hes3⟩
       refine c_seq fun _ hK14 => ?_; refine cR fun _ hK15 => ?_; refine oM (oM ?_)
       by_cases hni : (n : Int) - 1 ≥ i
       ·obtain ⟨a, rfl⟩ : ∃ a, n = a + 1 := ⟨n - 1, by omega⟩
        refine oS geT (oZ hK15 ?_); refine cTZ hK14 (c_seq fun _ hK16 => ?_); refine c_block (cR fun _ hK17 => ?_); refine oM ?_; refine oS sN ?_; refine oS sF ?_; refine oS sL (oM ?_); refine oS (step_cast (v' := .int .i64 (a : Int)) (s_move rfl) (congrArg (Value.int .i64) (by omega))) ?_; refine o_callC (us := []) (vs := [_, _, _]) (cs := [pt K.bRe, pt K.bTx, pt K.bA]) (node_all hK hn hr _ x ks (Nat.lt_succ_self _) 0 _ i a es3 c3 hs.part (by omega) (by omega) hes3) rfl rfl rfl pkA (fun w st => Env.make (K := K) (S := [(K.bM, mpO es3 c3)]) st pkA hw.1 hw.2 hE hiA meA meA meA meA) (fun v51 S51 ⟨es51, c51, hv51, hS51, hm51⟩ => ?_)
        subst hv51; subst hS51
        cases hb51 : dQ (der1 K.tx x ks i a)
        ·have hn51 : ¬ der1 K.tx x ks i a := fun h => by rw [dQ_t h] at hb51; cases hb51
         refine oZ hK17 ?_; refine cF (c_skip (x_block (xZ hK16 (c_region (oM ?_))))); refine oS sU (oA (o_nil ?_)); exact x_then (x_inv (a, es51, c51) ⟨by omega, by omega, fun q2 h1 h2 => if e : q2 = a then by subst e; exact hn51 else hno3 q2 (by omega) h2, hm51⟩ (by first | omega | (dsimp only; omega)) (by exact Sub.cons' rfl (by congr 1; omega) sbA) hzB)
        ·refine oZ hK17 ?_; refine cT (cR fun _ hK18 => ?_); refine oM (oM ?_); refine oS (step_cast (v' := .int .i64 (a : Int)) (s_move rfl) (congrArg (Value.int .i64) (by omega))) ?_; refine oS (s_build (cs := [_, _]) (vs := [_, _]) rfl rfl (.cons rfl rfl rfl rfl rfl (.cons rfl rfl rfl rfl rfl (.nil)))) ?_; refine o_call (captures_fn K hK hn hr hsb x ks hs i a (by omega) (by omega) (dQ_iff.1 hb51) es51 c51 hm51) rfl rfl rfl pkA (fun w st => Env.make (K := K) (S := [(K.bM, mpO es51 c51)]) st pkA hw.1 hw.2 hE hiA meA meA meA meA) (fun v56 S56 ⟨es56, c56, a56, cc56, Sc56, hv56, hS56, hO56⟩ => ?_); subst hv56
         subst hS56; refine oA (oA (oZ hK18 (c_ret ?_))); refine x_block_ret (x_then_ret (x_then_ret (x_block_ret (x_block_ret (x_then_ret (x_then_ret (x_block_ret (x_then_ret (?_)))))))))
         refine x_sub (Sub.refl _) (H' := Sc56) hzB ?_; exact x_ret rfl (.tmp rfl (.tmp rfl (.nil))) (.inl ⟨x, ks, f, i, a, ⟨hsb, hrb, hs⟩, rfl, ⟨hi1, by omega, by omega, dQ_iff.1 hb51, hno, fun q2 h1 h2 => hno3 q2 (by omega) h2⟩, a56, cc56, rfl, hO56⟩)
       ·obtain rfl : i = n := by omega
        refine oS geF (oZ hK15 ?_); refine cF ?_; refine c_exit ?_; refine x_then_exit (x_then_exit (x_block_exit (x_block (xZ hK12 (c_region (oM ?_)))))); refine oS sD (oA (o_nil ?_)); exact xI ((i + 1), es3, c3) ⟨by omega, by omega, fun p2 q2 h1 h2 h3 h4 => if e : p2 = i then by subst e; exact hno3 q2 (der1_up _ _ h4) h3 h4 else hno p2 q2 h1 (by omega) h3 h4, hes3⟩
      ·refine oS leF (oZ hK11 ?_); refine cF ?_; refine c_exit ?_; refine x_then_exit (x_then_exit (x_block_exit (xZ hK8 (cR fun _ hK19 => ?_)))); refine oA (oA (oZ hK19 (c_ret ?_))); refine ?_; refine x_sub (Sub.refl _) (H' := []) HSub.nil ?_; exact x_ret rfl (.tmp rfl (.tmp rfl (.nil))) (.inr ⟨fun ⟨x2, ks2, g2, p2, q2, hm, h1, h2, h3, h4⟩ => (by obtain ⟨rfl, rfl⟩ := hs.uniq hm.hs; have := der1_up _ _ h4; exact hno p2 q2 (by omega) (by omega) h3 h4), rfl, rfl⟩)
   ·refine oS sP (oM ?_); refine oN ?_; refine oN ?_; refine oS sT (oM ?_); refine oN ?_; refine oN ?_; refine oN ?_; refine oN ?_; refine oS sT (oZ hK3 ?_); refine cT (cR fun _ hK20 => ?_); refine oA (oA (oZ hK20 (c_ret ?_))); refine x_then_ret (?_); refine x_sub (Sub.refl _) (H' := []) HSub.nil ?_; exact x_ret rfl (.tmp rfl (.tmp rfl (.nil))) (.inr ⟨fun ⟨x2, ks2, g2, p2, q2, hm, h1, h2, h3, h4⟩ => (by have := hm.rf; rw [hrb] at this; cases this), rfl, rfl⟩)
theorem eqSpans_fn (a a2 : Option Addr) (c c2 : Nat) (xs ys : List Sp) : HL.Fn Tryd.prog 19 [.slice a xs.length c, .slice a2 ys.length c2] (fun w => Rd Esp w (.slice a xs.length c) xs ∧ Rd Esp w (.slice a2 ys.length c2) ys) [] (fun v _ => v = .bool (decide (xs = ys))) := by
  refine fn_of Tryd.func19 rfl rfl rfl fun w0 hw => ?_
  obtain ⟨hx, hy⟩ := hw
  have hsx := hx.sl
  have hsy := hy.sl
  have hbx := hsx.le
  have hby := hsy.le
  refine cR fun _ hK1 => ?_; refine oA (oZ hK1 (c_seq fun _ hK2 => ?_)); refine cR fun _ hK3 => ?_; refine oM ?_; refine oS sC (oM ?_); refine oS sC ?_; refine oS (s_neq rfl rfl) ?_; refine oZ hK3 ?_; refine c_if rfl (fun hl => ?_) (fun hl => ?_)
  ·refine cR fun _ hK4 => ?_; refine oA (oZ hK4 (c_ret ?_)); refine x_then_ret (?_); exact xR rfl rfl ((congrArg Value.bool (decide_eq_false (by intro e; subst e; omega)).symm))
  ·refine c_skip (xZ hK2 (c_seq fun _ hK5 => ?_)); refine cR fun _ hK6 => ?_; refine oA (oZ hK6 (c_block ?_))
   -- not carried: 4
   refine c_loopB (fun (j : Nat) => j ≤ xs.length ∧ ∀ i, i < j → xs[i]? = ys[i]?) (fun (j : Nat) => [(5, .int .i64 j)]) [(0, _), (1, _)] (fun (j : Nat) => _) (fun (j : Nat) => xs.length - j) 0 ⟨by omega, fun i hi => by omega⟩ sbA sbA hzB ?_
   rintro j ⟨hj, hjt⟩
   refine c_seq fun _ hK7 => ?_; refine cR fun _ hK8 => ?_; refine oM (oM ?_); refine oS sC ?_; refine oS (s_lss rfl rfl) ?_; refine oZ hK8 ?_; refine c_if rfl (fun hlt => ?_) (fun hlt => ?_)
   ·obtain ⟨x, hxj⟩ : ∃ x, xs[j]? = some x := gE
    obtain ⟨y, hyj⟩ : ∃ y, ys[j]? = some y := gE
    refine c_skip (xZ hK7 (c_seq fun _ hK9 => ?_)); refine c_block (c_seq fun _ hK10 => ?_); refine c_drawE ([]) (fun i => false) ?_; refine e_tk 0 rfl (by exact HSub.nil) sM ?_; refine e_tk 1 rfl (by exact HSub.nil) sM ?_; refine e_tk 2 rfl (by exact HSub.nil) (s_idx rfl rfl hsx (by omega)) ?_; refine e_tk 3 rfl (by exact HSub.nil) (s_ldB rfl ((RdK.old0 hx).lds j hxj (by omega)) (by rfl)) ?_; refine e_tk 4 rfl (by exact HSub.nil) sM ?_; refine e_tk 5 rfl (by exact HSub.nil) sM ?_; refine e_tk 6 rfl (by exact HSub.nil) (s_idx rfl rfl hsy (by omega)) ?_; refine e_tk 7 rfl (by exact HSub.nil) (s_ldB rfl ((RdK.old0 hy).lds j hyj (by omega)) (by rfl)) ?_; refine e_tk 8 rfl (by exact HSub.nil) (s_neq_sp rfl rfl) ?_; refine eZ hK10 ?_; refine c_ifn rfl (fun hne => ?_) (fun hne => ?_)
    ·refine cR fun _ hK11 => ?_; refine oA (oZ hK11 (c_ret ?_)); refine x_block_ret (x_then_ret (x_then_ret (x_block_ret (x_then_ret (?_)))))
     exact xR rfl rfl ((congrArg Value.bool (decide_eq_false (by intro e; subst e; rw [hxj] at hyj; cases hyj; exact hne rfl)).symm))
    ·refine c_skip (x_block (xZ hK9 (c_region (oM ?_)))); refine oS sD (oA (o_nil ?_)); exact xI (j + 1) ⟨by omega, fun i hi => by rcases Nat.lt_or_ge i j with h | h; exact hjt i h; rw [show i = j by omega, hxj, hyj, hne]⟩
   ·refine c_exit ?_; refine x_then_exit (x_then_exit (x_block_exit (xZ hK5 (cR fun _ hK12 => ?_)))); refine oA (oZ hK12 (c_ret ?_)); refine ?_; exact xR rfl rfl ((congrArg Value.bool (decide_eq_true (ext_upto (by omega) fun i hi => hjt i (by omega))).symm))
end Go.Proofs.YtloepfcndglmmaaDoor
