/- Part of the proofs over this seat: see the text that holds the theorem. Conditions: each theorem bears its own. -/
import Derived.Test.YtopmnmigpbdddaaGreatDoorHTZ
import Derived.Test.YtopmnmigpbdddaaGreatDoorZN4Z
import Derived.Test.YtopmnmigpbdddaaGreatDoorMK3Z
import Derived.Test.YtopmnmigpbdddaaGreatDoorZL2Z
import Derived.Test.YtopmnmigpbdddaaGreatDoorBS7Z
import Derived.Test.YtopmnmigpbdddaaGreatDoorZM7Z
import Derived.Test.YtopmnmigpbdddaaGreatDoorZV7Z
namespace Go.Proofs.YtopmnmigpbdddaaGreatDoor
open Go Go.HL Go.Proofs Go.HL.Kl Go.HL.Kl.Mc Go.HL.Kl.Mc.AskE
set_option maxHeartbeats 4000000 in
theorem take_step (K : AskE) (hK : K.ok) (x : Nd) (ks : F) (i i1 p q : Nat) (es : List Me) (c : Nat) (hp : Part K.re (.nd x ks .nil) i i1) (hpq : p ≤ q) (hq : q ≤ K.tx.length) (hes : MapOk K.tx K.re es) (hd : der1 K.tx x ks p q) (ca : Option Addr) (cc N : Nat) (cs : List Sp) (Sc : Hp) (hcl : cs.length = N) (hsl8 : Slots K.re N) (hO : OwnS Esp 2 40 (.slice ca N cc) cs Sc) (ihT : ∀ y js, js.size < ks.size → TakeK Tryz.prog K 127 40 y js) (hNK : ∀ y js, NodeK Tryz.prog K y js) (hkid : x.op = 4 → ∀ (m p : Nat) y js r, Part K.re (.nd y js r) m i1 → p ≤ q → KidK Tryz.prog K 143 ⟨i, m, p, q⟩ (fun n => der1 K.tx y js p n ∧ der K.tx r false n q) p q) (hrnd : x.op = 6 → ∀ r p : Nat, p ≤ q → ((x.mx = -1 ∧ r ≤ (max x.mn.toNat 1)) ∨ (0 ≤ x.mx ∧ (((r : Nat) : Int) : Int) ≤ x.mx)) → KidK Tryz.prog K 144 ⟨i, r, p, q⟩ (RQ x (der K.tx ks false) r p q) p q) : HL.Fn Tryz.prog 127 [pt K.bS, .int .i64 i, .int .i64 p, .int .i64 q, .slice ca N cc] (fun W => Env W K (keys ((K.bM, mpO es c) :: Sc))) ((K.bM, mpO es c) :: Sc) (fun _ S' => TakeP K 40 ca cc N (bst1 K.tx x ks p q cs) S') := by
  refine fn_of Tryz.func127 rfl rfl rfl fun w0 hw => ?_
  have hsl := hw.d1.sl
  have hst := hw.d2.sl
  have hse := hw.d3.sl
  have htl := hK.tx
  have hrl := hK.len
  obtain rfl : i1 = i + 1 + ks.size := by have := hp.len; simp only [F.size] at this; omega
  obtain ⟨hx, hpk, _⟩ := hp.head
  have hilt := (List.getElem?_eq_some_iff.1 hx).1
  have hxm := List.mem_of_getElem? hx
  have hox := hK.rng x hxm
  have hx8 := hK.no8 x hxm
  have hok : ndOk x = true := hp.wf.1
  have hop : 1 ≤ x.op ∧ x.op ≤ 8 := (flds_iff.1 (by simp only [ndOk, Bool.and_eq_true] at hok; exact hok.1)).1
  have hpkl := hpk.le
  have hei := hK.ends.2 i x ks .nil _ (Nat.zero_le _) hp
  have hell := hK.ends.1
  rw [hell] at hse
  have hSc := hO.sl
  rw [hcl] at hSc
  refine cR fun _ hK1 => ?_; refine oM ?_; refine oS sN ?_; refine oS sF ?_; refine oS (s_ld rfl ((RdPK.old hw.p4 hw.n4).cel (j := 0) rfl rfl)) ?_; refine oM ?_; refine oS (s_idx rfl rfl hsl (by omega)) ?_; refine oS (s_ldB rfl ((RdK.old hw.d1 hw.a1).lds i hx rfl) (by rfl)) ?_; refine o_alloc (l := En zN) (by rw [En_zero]; rfl) rfl fun b10 => ?_; refine o_stW rfl rfl upA lnA lnA onA ?_; refine oZ hK1 (cR fun _ hK2 => ?_); refine oS sF ?_; refine oS sL (oZ hK2 (c_block (cR fun _ hK3 => ?_)))
  by_cases o7 : x.op = 7
  ·obtain ⟨y, js, rfl⟩ := one_kid hp.wf (.inr o7)
   have hd1 := der_one.1 ((der1_4 (.inr o7)).1 hd)
   have hx7 := hsl8 x hxm o7
   refine oS (eqT (h := o7)) ?_; refine oA (oZ hK3 ?_); refine cT (cR fun _ hK4 => ?_); refine oM (oM ?_); refine oS sD (oM ?_); refine o_call (forget_fn K hK y js (i + 1) _ hpk ca cc N cs Sc hcl hsl8 hO) rfl rfl rfl pkA (fun w st => hw.sub st hiA) (fun v33 S33 hO33 => ?_); refine oZ hK4 (cR fun _ hK5 => ?_); refine oM (oM ?_); refine oS sD (oM (oM (oM ?_))); refine o_call (ihT y js (by simp only [F.size]; omega) (i + 1) _ p q es c ca cc N _ S33 hpk hpq hq hd1 hes (by rw [fgt_len]; exact hcl) hsl8 hO33) rfl rfl rfl ((Pick.takeC pkA pkA)) (fun w st => hw.sub (S := (K.bM, mpO es c) :: S33) st (hin_cons meA hiA)) (fun v40 S40 ⟨es40, c40, Sc40, hS40, hm40, hO40⟩ => ?_)
   subst hS40; refine oZ hK5 (c_region (oM ?_)); refine oS sF ?_; refine oS sL (oM (oM ?_)); refine oS (s_build (cs := [_, _]) (vs := [_, _]) rfl rfl (.cons rfl rfl rfl rfl rfl (.cons rfl rfl rfl rfl rfl (.nil)))) ?_; refine oS (s_idx rfl rfl hSc (by omega)) ?_
   have hl40 := bst1_len (w := K.tx) (x := y) (ks := js) (p := p) (q := q) (cs := fgt (F.nd y js .nil).flat cs)
   rw [fgt_len, hcl] at hl40
   refine o_stSE x.n.toNat ⟨p, q⟩ hO40 pkA rfl rfl (by omega) (by rfl) fun S' hS' => ?_; refine o_nil (x_block ?_); refine x_sub (Sub.refl _) (H' := (K.bM, mpO es40 c40) :: S') hzB ?_; exact x_end rfl (.nil) (⟨es40, c40, S', rfl, hm40, by rw [bst1_7 o7, bst_one hd1]; exact hS'⟩)
  ·refine oS (eqF (h := o7)) ?_; refine oA (oZ hK3 ?_); refine cF (cR fun _ hK6 => ?_)
   by_cases o5 : x.op = 5
   ·have hd5 := (der1_5 o5).1 hd
    refine oS (eqT (h := o5)) ?_; refine oA (oZ hK6 ?_); refine cT (cR fun _ hK7 => ?_); refine oM ?_; refine oS sD (oA (oZ hK7 (c_block ?_))); refine c_loop4 (fun (kp : Nat) (g : F) (es2 : List Me) (c2 : Nat) => Part K.re g kp (i + 1 + ks.size) ∧ g.size ≤ ks.size ∧ der K.tx g true p q ∧ bst K.tx ks true p q cs = bst K.tx g true p q cs ∧ MapOk K.tx K.re es2) (fun (kp : Nat) (g : F) (es2 : List Me) (c2 : Nat) => [(11, .int .i64 kp)]) [(0, _), (1, _), (2, _), (3, _), (4, _)] (fun (kp : Nat) (g : F) (es2 : List Me) (c2 : Nat) => (K.bM, mpO es2 c2) :: (b10, .cells (En x).toArray 108 (0, 0)) :: Sc) (fun (kp : Nat) (g : F) (es2 : List Me) (c2 : Nat) => g.size) (i + 1) ks es c ⟨hpk, Nat.le_refl _, hd5, rfl, hes⟩ sbA sbA hzB ?_
    rintro kp g es2 c2 ⟨hpg, hgs, hdg, hbe, hes2⟩
    have hgl := hpg.len
    have hgle := hpg.le
    refine c_seq fun _ hK8 => ?_; refine cR fun _ hK9 => ?_; refine oM (oM ?_); refine oS sN ?_; refine oS sF ?_; refine oS (s_ld rfl ((RdPK.old hw.p4 hw.n4).cel (j := 1) rfl rfl)) ?_; refine oM ?_; refine oS (s_idx rfl rfl hse (by omega)) ?_; refine oS (s_ld rfl ((RdK.old hw.d3 hw.a3).ld i 0 hei rfl (by decide) (by omega))) ?_
    by_cases hk : (kp : Int) < i + 1 + ks.size
    ·obtain ⟨y, js, r2, rfl⟩ : ∃ y ks1 r2, g = F.nd y ks1 r2 := by cases g with | nil => simp [F.size] at hgl; omega | nd y a b => exact ⟨y, a, b, rfl⟩
     obtain ⟨hy, hpy, hpt⟩ := hpg.head
     have hpo := hpg.one
     have hge := hK.ends.2 _ y js r2 _ (Nat.zero_le _) hpg
     have hply := hpy.le
     simp only [F.size] at hgs hgl
     refine oS lsT (oZ hK9 ?_); refine cTZ hK8 (c_seq fun _ hK10 => ?_); refine c_block (cR fun _ hK11 => ?_); refine oM ?_; refine oS sN ?_; refine oS sF ?_; refine oS (s_ld rfl ((RdPK.old hw.p4 hw.n4).cel (j := 4) rfl rfl)) ?_; refine oM (oM (oM ?_)); refine o_callC (us := []) (vs := [_, _, _]) (cs := [pt K.bRe, pt K.bTx, pt K.bA]) (hNK y js kp _ p q es2 c2 hpo hpq hq hes2) rfl rfl rfl pkA (fun w st => hw.sub (S := [(K.bM, mpO es2 c2)]) st (hin_cons meA hin_nil)) (fun v75 S75 ⟨es75, c75, hv75, hS75, hm75⟩ => ?_); subst hv75
     subst hS75
     cases hb75 : dQ (der1 K.tx y js p q)
     ·have hn75 : ¬ der1 K.tx y js p q := fun h => by rw [dQ_t h] at hb75; cases hb75
      refine oZ hK11 ?_; refine cF (c_skip (x_block (xZ hK10 (c_region (oM ?_))))); refine oS sN ?_; refine oS sF ?_; refine oS (s_ld rfl ((RdPK.old hw.p4 hw.n4).cel (j := 1) rfl rfl)) ?_; refine oM ?_; refine oS (s_idx rfl rfl hse (by omega)) ?_; refine oS (s_ld rfl ((RdK.old hw.d3 hw.a3).ld kp 0 hge rfl (by decide) (by omega))) ?_; refine oA (o_nil ?_); exact x_then (x_inv ((kp + 1 + js.size), r2, es75, c75) ⟨hpt, by dsimp only; omega, (der_alt.1 hdg).resolve_left hn75, by dsimp only; rw [hbe, bst_alt, if_neg (by rw [hb75]; decide)], hm75⟩ (by simp only [F.size]; omega) sbA hzB)
     ·refine oZ hK11 ?_; refine cT (cR fun _ hK12 => ?_); refine oM (oM (oM (oM (oM ?_)))); refine o_call (ihT y js (by omega) kp _ p q es75 c75 ca cc N cs Sc hpo hpq hq (dQ_iff.1 hb75) hm75 hcl hsl8 hO) rfl rfl rfl ((Pick.takeC pkA pkA)) (fun w st => hw.sub (S := (K.bM, mpO es75 c75) :: Sc) st (hin_cons meA hiA)) (fun v81 S81 ⟨es81, c81, Sc81, hS81, hm81, hO81⟩ => ?_); subst hS81
      refine oZ hK12 (c_ret ?_); refine x_block_ret (x_then_ret (x_then_ret (x_block_ret (x_block_ret (?_)))))
      refine x_sub (Sub.refl _) (H' := (K.bM, mpO es81 c81) :: Sc81) hzB ?_; exact x_ret rfl (.nil) (⟨es81, c81, Sc81, rfl, hm81, by rw [bst1_5 o5, hbe, bst_alt, if_pos hb75]; exact hO81⟩)
    ·exact absurd hdg (by obtain rfl : g = F.nil := F.size_nil (by omega); rw [der_nil']; exact id)
   ·refine oS (eqF (h := o5)) ?_; refine oA (oZ hK6 ?_); refine cF (cR fun _ hK13 => ?_)
    by_cases o4 : x.op = 4
    ·have hd4 := (der1_4 (.inl o4)).1 hd
     refine oS (eqT (h := o4)) ?_; refine oA (oZ hK13 ?_); refine cT (cR fun _ hK14 => ?_); refine oM ?_; refine oS sD (oA (oZ hK14 (c_block ?_))); refine c_loop7 (fun (kp : Nat) (g : F) (p2 : Nat) (es2 : List Me) (c2 : Nat) (cs2 : List Sp) (Sc2 : Hp) => Part K.re g kp (i + 1 + ks.size) ∧ g.size ≤ ks.size ∧ p2 ≤ q ∧ der K.tx g false p2 q ∧ bst K.tx ks false p q cs = bst K.tx g false p2 q cs2 ∧ MapOk K.tx K.re es2 ∧ cs2.length = N ∧ OwnS Esp 2 40 (.slice ca N cc) cs2 Sc2) (fun (kp : Nat) (g : F) (p2 : Nat) (es2 : List Me) (c2 : Nat) (cs2 : List Sp) (Sc2 : Hp) => [(12, .int .i64 kp), (2, .int .i64 p2)]) [(0, _), (1, _), (3, _), (4, _)] (fun (kp : Nat) (g : F) (p2 : Nat) (es2 : List Me) (c2 : Nat) (cs2 : List Sp) (Sc2 : Hp) => (K.bM, mpO es2 c2) :: (Sc2 ++ [(b10, .cells (En x).toArray 108 (0, 0))])) (fun (kp : Nat) (g : F) (p2 : Nat) (es2 : List Me) (c2 : Nat) (cs2 : List Sp) (Sc2 : Hp) => g.size) (i + 1) ks p es c cs Sc ⟨hpk, Nat.le_refl _, hpq, hd4, rfl, hes, hcl, hO⟩ sbA sbA hzB ?_
     rintro kp g p2 es2 c2 cs2 Sc2 ⟨hpg, hgs, hp2q, hdg, hbe, hes2, hcl2, hO2⟩
     have hgl := hpg.len
     have hgle := hpg.le
     refine c_seq fun _ hK15 => ?_; refine cR fun _ hK16 => ?_; refine oM (oM ?_); refine oS sN ?_; refine oS sF ?_; refine oS (s_ld rfl ((RdPK.old hw.p4 hw.n4).cel (j := 1) rfl rfl)) ?_; refine oM ?_; refine oS (s_idx rfl rfl hse (by omega)) ?_; refine oS (s_ld rfl ((RdK.old hw.d3 hw.a3).ld i 0 hei rfl (by decide) (by omega))) ?_
     by_cases hk : (kp : Int) < i + 1 + ks.size
     ·obtain ⟨y, js, r2, rfl⟩ : ∃ y ks1 r2, g = F.nd y ks1 r2 := by cases g with | nil => simp [F.size] at hgl; omega | nd y a b => exact ⟨y, a, b, rfl⟩
      obtain ⟨hy, hpy, hpt⟩ := hpg.head
      have hpo := hpg.one
      have hge := hK.ends.2 _ y js r2 _ (Nat.zero_le _) hpg
      have hply := hpy.le
      simp only [F.size] at hgs hgl
      refine oS lsT (oZ hK16 ?_); refine cTZ hK15 (c_seq fun _ hK17 => ?_); refine c_block (cR fun _ hK18 => ?_); refine oM (oM (oM (oM (oM ?_)))); refine oS (s_build (cs := [_, _, _, _]) (vs := [_, _, _, _]) rfl rfl (.cons rfl rfl rfl rfl rfl (.cons rfl rfl rfl rfl rfl (.cons rfl rfl rfl rfl rfl (.cons rfl rfl rfl rfl rfl (.nil)))))) ?_; refine o_call (hkid o4 kp p2 y js r2 hpg hp2q es2 c2 hes2) rfl rfl rfl pkA (fun w st => hw.sub (S := [(K.bM, mpO es2 c2)]) st (hin_cons meA hin_nil)) (fun v109 S109 ⟨es109, c109, hS109, hm109, hv109⟩ => ?_)
      subst hS109
      obtain ⟨m109, hg109, rfl⟩ := hv109.resolve_right (fun h => kid_cat h.1 hdg)
      refine oM ?_; refine oS sE ?_; refine oS sE (oA (oA (oZ hK18 (cR fun _ hK19 => ?_)))); refine oM (oM (oM (oM (oM ?_)))); refine o_call (ihT y js (by omega) kp _ p2 m109 es109 c109 ca cc N cs2 Sc2 hpo hg109.1 (Nat.le_trans hg109.2.1 hq) hg109.2.2.1.1 hm109 hcl2 hsl8 hO2) rfl rfl rfl ((Pick.takeC pkA pkA)) (fun w st => hw.sub (S := (K.bM, mpO es109 c109) :: Sc2) st (hin_cons meA hiA)) (fun v117 S117 ⟨es117, c117, Sc117, hS117, hm117, hO117⟩ => ?_); subst hS117
      refine oZ hK19 (c_region (oM (oA (o_nil (x_block (xZ hK17 (c_region (oM ?_)))))))); refine oS sN ?_; refine oS sF ?_; refine oS (s_ld rfl ((RdPK.old hw.p4 hw.n4).cel (j := 1) rfl rfl)) ?_; refine oM ?_; refine oS (s_idx rfl rfl hse (by omega)) ?_; refine oS (s_ld rfl ((RdK.old hw.d3 hw.a3).ld kp 0 hge rfl (by decide) (by omega))) ?_; refine oA (o_nil ?_); exact x_then (x_inv ((kp + 1 + js.size), r2, m109, es117, c117, (bst1 K.tx y js p2 m109 cs2), Sc117) ⟨hpt, by dsimp only; omega, hg109.2.1, hg109.2.2.1.2, by dsimp only; rw [hbe, bst_cat hg109], hm117, by dsimp only; rw [bst1_len]; exact hcl2, hO117⟩ (by simp only [F.size]; omega) sbA hzB)
     ·obtain rfl : g = F.nil := F.size_nil (by omega)
      refine oS lsF (oZ hK16 ?_); refine cF ?_; refine c_exit ?_; refine x_then_exit (x_then_exit (x_block_exit (x_block ?_))); refine x_sub (Sub.refl _) (H' := (K.bM, mpO es2 c2) :: Sc2) hzB ?_; exact x_end rfl (.nil) (⟨es2, c2, Sc2, rfl, hes2, by rw [bst1_4 o4, hbe, bst_nil]; exact hO2⟩)
    ·refine oS (eqF (h := o4)) ?_; refine oA (oZ hK13 ?_); refine cF (cR fun _ hK20 => ?_)
     by_cases o6 : x.op = 6
     ·obtain ⟨y, js, rfl⟩ := one_kid hp.wf (.inl o6)
      have hrg := rep_rng hok o6
      refine oS (eqT (h := o6)) ?_; refine oA (oZ hK20 ?_); refine cT (cR fun _ hK21 => ?_); refine oA (oZ hK21 (c_block ?_)); refine c_loop7 (fun (f : Nat) (r : Nat) (p2 : Nat) (es2 : List Me) (c2 : Nat) (cs2 : List Sp) (Sc2 : Hp) => p2 ≤ q ∧ ((x.mx = -1 ∧ r ≤ (max x.mn.toNat 1)) ∨ (0 ≤ x.mx ∧ (((r : Nat) : Int) : Int) ≤ x.mx)) ∧ (q - p2) + ((max x.mn.toNat 1) - r) < f ∧ (reps x (der K.tx (F.nd y js .nil) false) (fun p q cs => bst K.tx (F.nd y js .nil) false p q (fgt ((F.nd y js .nil)).flat cs)) q ((q - p) + (max x.mn.toNat 1) + 1) 0 p cs) = (reps x (der K.tx (F.nd y js .nil) false) (fun p q cs => bst K.tx (F.nd y js .nil) false p q (fgt ((F.nd y js .nil)).flat cs)) q f r p2 cs2) ∧ MapOk K.tx K.re es2 ∧ cs2.length = N ∧ OwnS Esp 2 40 (.slice ca N cc) cs2 Sc2) (fun (f : Nat) (r : Nat) (p2 : Nat) (es2 : List Me) (c2 : Nat) (cs2 : List Sp) (Sc2 : Hp) => [(15, .int .i64 r), (2, .int .i64 p2)]) [(0, _), (1, _), (3, _), (4, _), (10, _)] (fun (f : Nat) (r : Nat) (p2 : Nat) (es2 : List Me) (c2 : Nat) (cs2 : List Sp) (Sc2 : Hp) => (K.bM, mpO es2 c2) :: (Sc2 ++ [(b10, .cells (En x).toArray 108 (0, 0))])) (fun (f : Nat) (r : Nat) (p2 : Nat) (es2 : List Me) (c2 : Nat) (cs2 : List Sp) (Sc2 : Hp) => f) ((q - p) + (max x.mn.toNat 1) + 1) 0 p es c cs Sc ⟨hpq, by omega, by omega, rfl, hes, hcl, hO⟩ sbA sbA hzB ?_
      rintro f r p2 es2 c2 cs2 Sc2 ⟨hp2q, hv, hfu, hre, hes2, hcl2, hO2⟩
      refine c_block (cR fun _ hK22 => ?_); refine oM (oM (oM (oM (oM ?_)))); refine oS (s_build (cs := [_, _, _, _]) (vs := [_, _, _, _]) rfl rfl (.cons rfl rfl rfl rfl rfl (.cons rfl rfl rfl rfl rfl (.cons rfl rfl rfl rfl rfl (.cons rfl rfl rfl rfl rfl (.nil)))))) ?_; refine o_call (hrnd o6 r p2 hp2q hv es2 c2 hes2) rfl rfl rfl pkA (fun w st => hw.sub (S := [(K.bM, mpO es2 c2)]) st (hin_cons meA hin_nil)) (fun v128 S128 ⟨es128, c128, hS128, hm128, hv128⟩ => ?_); subst hS128
      rcases hv128 with ⟨m128, hg128, rfl⟩ | ⟨hn128, rfl⟩
      ·obtain ⟨f, rfl⟩ : ∃ a, f = a + 1 := ⟨f - 1, by omega⟩
       have hd2 : der1 K.tx y js p2 m128 := der_one.1 hg128.2.2.1.2.2.1
       have hst := hg128.2.2.1.2.1
       have hlt := hg128.2.2.1.1
       have hm1 := hg128.1
       have hm2 := hg128.2.1
       refine oM ?_; refine oS sE ?_; refine oS sE (oA (oA (oZ hK22 (c_seq fun _ hK23 => ?_)))); refine cR fun _ hK24 => ?_; refine oM ?_; refine oS (s_not rfl) ?_; refine oZ hK24 ?_; refine cFZ hK23 (cR fun _ hK25 => ?_); refine oM (oM ?_); refine oS sD (oM ?_); refine o_call (forget_fn K hK y js (i + 1) _ hpk ca cc N cs2 Sc2 hcl2 hsl8 hO2) rfl rfl rfl pkA (fun w st => hw.sub st hiA) (fun v137 S137 hO137 => ?_); refine oZ hK25 ?_
       refine cR fun _ hK26 => ?_; refine oM (oM ?_); refine oS sD (oM (oM (oM ?_))); refine o_call (ihT y js (by simp only [F.size]; omega) (i + 1) _ p2 m128 es128 c128 ca cc N _ S137 hpk hm1 (Nat.le_trans hm2 hq) hd2 hm128 (by rw [fgt_len]; exact hcl2) hsl8 hO137) rfl rfl rfl ((Pick.takeC pkA pkA)) (fun w st => hw.sub (S := (K.bM, mpO es128 c128) :: S137) st (hin_cons meA hiA)) (fun v144 S144 ⟨es144, c144, Sc144, hS144, hm144, hO144⟩ => ?_); subst hS144
       refine oZ hK26 (cR fun _ hK27 => ?_); refine oM (oA (oZ hK27 (cR fun _ hK28 => ?_))); refine oM ?_; refine oS sD (oA (oZ hK28 (cR fun _ hK29 => ?_))); refine oS sF ?_; refine oS sL ?_
       by_cases hml : x.mx < 0
       ·have hnx : nxtR x r = min (r + 1) (max x.mn.toNat 1) := by rw [nxtR, if_pos hml]
        refine oS lsT (oZ hK29 ?_); refine cT (c_region (oM ?_)); refine oS sF ?_; refine oS sL ?_; refine oS (s_max rfl rfl) ?_; refine oS (step_cast (v' := .int .i64 (nxtR x r : Nat)) (s_min rfl rfl) (congrArg (Value.int .i64) (by rw [nxtR, if_pos hml]; omega))) ?_; refine oA (o_nil (x_block ?_)); exact x_then (x_inv (f, (nxtR x r), m128, es144, c144, (bst1 K.tx y js p2 m128 (fgt (F.nd y js .nil).flat cs2)), Sc144) ⟨hm2, by dsimp only; omega, by dsimp only; omega, by dsimp only; rw [hre, reps_go hg128, bst_one hd2], hm144, by dsimp only; rw [bst1_len, fgt_len]; exact hcl2, hO144⟩ (by dsimp only; omega) sbA hzB)
       ·have hnx : nxtR x r = r + 1 := by rw [nxtR, if_neg hml]
        refine oS lsF (oZ hK29 ?_); refine cF (c_skip (x_block ?_)); exact x_then (x_inv (f, (r + 1), m128, es144, c144, (bst1 K.tx y js p2 m128 (fgt (F.nd y js .nil).flat cs2)), Sc144) ⟨hm2, by dsimp only; omega, by dsimp only; omega, by dsimp only; rw [hre, reps_go hg128, bst_one hd2, hnx], hm144, by dsimp only; rw [bst1_len, fgt_len]; exact hcl2, hO144⟩ (by dsimp only; omega) sbA hzB)
      ·refine oM ?_; refine oS sE ?_; refine oS sE (oA (oA (oZ hK22 (c_seq fun _ hK30 => ?_)))); refine cR fun _ hK31 => ?_; refine oM ?_; refine oS (s_not rfl) ?_; refine oZ hK31 ?_; refine cT (c_ret ?_); refine x_then_ret (x_block_ret (x_then_ret (x_block_ret (x_block_ret (?_)))))
       refine x_sub (Sub.refl _) (H' := (K.bM, mpO es128 c128) :: Sc2) hzB ?_; exact x_ret rfl (.nil) (⟨es128, c128, Sc2, rfl, hm128, by rw [bst1_6 o6, hre, reps_end hn128]; exact hO2⟩)
     ·refine oS (eqF (h := o6)) ?_; refine oA (oZ hK20 ?_); refine cF (c_skip (x_block ?_)); refine x_sub (Sub.refl _) (H' := (K.bM, mpO es c) :: Sc) hzB ?_; exact x_end rfl (.nil) (⟨es, c, Sc, rfl, hes, by rw [bst1_0 (by omega)]; exact hO⟩)
theorem cat_any {K : AskE} (hK : K.ok) (hr : K.rF = 125) {x : Nd} {ks : F} {i i1 : Nat} (hp : Part K.re (.nd x ks .nil) i i1) (h4 : x.op = 4) (hN : ∀ y js, NodeK Tryz.prog K y js) :
    ∀ (g : F) (m : Nat), Part K.re g m i1 → ∀ p q, p ≤ q → q ≤ K.tx.length → RestK Tryz.prog K ⟨i, m, p, q⟩
  | .nil, m, hg, p, q, hpq, hq => rest_of hr fun es c hes => find_cat K hK x ks i i1 p q es c hp hpq hq hes m .nil hg h4 fun y js r h => by cases h
  | .nd y js r, m, hg, p, q, hpq, hq => rest_of hr fun es c hes => find_cat K hK x ks i i1 p q es c hp hpq hq hes m (.nd y js r) hg h4 fun y' js' r' h => by
    cases h
    intro es c hes
    exact kid_fn K hK x ks i i1 p q es c hp hpq hq hes m y js r hg (hN y js) (fun n h1 h2 => by
      have := cat_any hK hr hp h4 hN r (m + 1 + js.size) hg.head.2.2 n q h2 hq
      exact this) h4
theorem take_all {K : AskE} (hK : K.ok) (hn : K.nF = 124) (hr : K.rF = 125) : ∀ (n : Nat) (x : Nd) (ks : F), ks.size < n → TakeK Tryz.prog K 127 40 x ks := by
  have hN : ∀ y js, NodeK Tryz.prog K y js := fun y js => node_all hK hn hr _ y js (Nat.lt_succ_self _)
  intro n
  induction n with
  | zero => intro x ks h; omega
  | succ n ihn =>
    intro x ks hs i i1 p q es c ca cc N cs Sc hp hpq hq hd hes hcl hsl hO
    refine take_step K hK x ks i i1 p q es c hp hpq hq hes hd ca cc N cs Sc hcl hsl hO (fun y js h => ihn y js (by omega)) hN (fun h4 m p y js r hg hpq es c hes => ?_) (fun h6 r p hpq hv es c hes => ?_)
    · exact kid_fn K hK x ks i i1 p q es c hp hpq hq hes m y js r hg (hN y js) (fun n h1 h2 => cat_any hK hr hp h4 hN r (m + 1 + js.size) hg.head.2.2 n q h2 hq) h4
    · have hrg := rep_rng hp.wf.1 h6
      refine round_fn K hK x ks i i1 p q es c hp hpq hq hes r h6 (by omega) (by omega) (fun y js _ => hN y js) fun n h1 h2 h3 h4 => ?_
      have hnx : (x.mx = -1 ∧ nxtR x r = min (r + 1) (max x.mn.toNat 1)) ∨ (0 ≤ x.mx ∧ nxtR x r = r + 1) := by
        unfold nxtR
        by_cases h : x.mx < 0
        · rw [if_pos h]; exact .inl ⟨by omega, rfl⟩
        · rw [if_neg h]; exact .inr ⟨by omega, rfl⟩
      exact rep_all hK hr hp h6 (fun y js _ => hN y js) _ rfl _ _ n q (Nat.lt_succ_self _) h2 hq (by omega)
def AskP (ra : Option Addr) (rc : Nat) (re : List Nd) (ta : Option Addr) (tc : Nat) (w : List UInt8) (v : Value) (S' : Hp) : Prop := ∃ (K : AskE) (Se : Hp), K.nF = 124 ∧ K.rF = 125 ∧ K.re = re ∧ K.tx = w ∧ K.vre = .slice ra re.length rc ∧ K.vtx = .slice ta w.length tc ∧ K.ok ∧ v = pt K.bS ∧ OwnS Eix 1 3 K.ven K.l Se ∧
  S' = (K.bM, mpO [] 0) :: (K.bRe, .cells [K.vre].toArray 22 (0, 0)) :: (K.bTx, .cells [K.vtx].toArray 23 (0, 0)) :: (K.bA, .cells [pt K.bS].toArray 156 (0, 0)) :: (K.bS, .cells K.cells.toArray 162 (0, 0)) :: Se
set_option maxHeartbeats 2000000 in
theorem ask_fn (ra : Option Addr) (rc : Nat) (re : List Nd) (ta : Option Addr) (tc : Nat) (w : List UInt8) (hre : ∀ x ∈ re, -128 ≤ x.op ∧ x.op < 128) (hr8 : ∀ x ∈ re, ¬ x.op = 8) (hrl : re.length ≤ 1000000) (hwl : w.length ≤ 1000000) (x0 : Nd) (ks0 : F) (hp0 : Part re (.nd x0 ks0 .nil) 0 re.length) : HL.Fn Tryz.prog 76 [.slice ra re.length rc, .slice ta w.length tc] (fun W => Rd En W (.slice ra re.length rc) re ∧ Rd Eb W (.slice ta w.length tc) w) [] (AskP ra rc re ta tc w) := by
  refine fn_of Tryz.func76 rfl rfl rfl fun w0 hw => ?_
  have hsl := hw.1.sl
  have hbl := hsl.le
  refine cR fun _ hK1 => ?_; refine o_box rfl rfl rfl fun b2 => ?_; refine o_box rfl rfl rfl fun b3 => ?_; refine oA (oZ hK1 (c_seq fun _ hK2 => ?_)); refine c_drawE ([(b3, .cells [.slice ta w.length tc].toArray 23 (0, 0)), (b2, .cells [.slice ra re.length rc].toArray 22 (0, 0))]) (fun i => false) ?_; refine eK 0 rfl sL ?_; refine eK 1 rfl sL ?_; refine eK 2 rfl sC ?_; refine eK 4 rfl sL ?_; refine e_join (ι := AskG 3 re.length) (fun g => [(15, pt g.bS), (5, pt g.bA)]) [(2, _), (3, _), (4, _)] (fun g => (g.bM, mpO [] 0) :: (g.bA, .cells [.pointer none].toArray 156 (0, 0)) :: (g.bS, .cells [.slice ra re.length rc, .slice (some ⟨g.bE, 0, none⟩) re.length re.length, .slice ta w.length tc, .map (some g.bM), .nilFunc, .nilFunc].toArray 162 (0, 0)) :: (g.S ++ [(b3, .cells [.slice ta w.length tc].toArray 23 (0, 0)), (b2, .cells [.slice ra re.length rc].toArray 22 (0, 0))])) 1 #[true, true, true, true, true, true, true, true, true, false] sbA (fun hJ => ?_) ?_
  ·refine e_any3 3 5 8 rfl rfl rfl (by kernel_rfl) ?_ ?_ ?_
   ·refine o_make (E := Eix) (zx := 0) (n := re.length) rfl rfl rfl (by omega) (by omega) rfl fun b11 S11 hS11 => ?_; refine oX ?_; refine e_any2 5 8 rfl rfl (by kernel_rfl) ?_ ?_
    ·refine o_mmap rfl fun b13 => ?_; refine oX ?_; refine e_any2 6 8 rfl rfl (by kernel_rfl) ?_ ?_
     ·refine oS (s_build (cs := [_, _, _, _, _, _]) (vs := [_, _, _, _]) rfl rfl (.cons rfl rfl rfl rfl rfl (.cons rfl rfl rfl rfl rfl (.cons rfl rfl rfl rfl rfl (.cons rfl rfl rfl rfl rfl (.nil)))))) ?_; refine oX ?_; refine e_any2 7 8 rfl rfl (by kernel_rfl) ?_ ?_
      ·refine o_box rfl rfl rfl fun b15 => ?_; refine oX (eO 8 rfl ?_); refine o_alloc rfl rfl fun b5 => ?_; refine oX ?_
       exact e_lst (by kernel_rfl) (hJ (⟨b11, b13, b5, b15, S11, hS11⟩ : AskG 3 re.length) _ _ sbA sbA hzB)
      ·refine o_alloc rfl rfl fun b5 => ?_; refine oX (eO 7 rfl ?_); refine o_box rfl rfl rfl fun b15 => ?_; refine oX ?_
       exact e_lst (by kernel_rfl) (hJ (⟨b11, b13, b5, b15, S11, hS11⟩ : AskG 3 re.length) _ _ sbA sbA hzB)
     ·refine o_alloc rfl rfl fun b5 => ?_; refine oX (eO 6 rfl ?_); refine oS (s_build (cs := [_, _, _, _, _, _]) (vs := [_, _, _, _]) rfl rfl (.cons rfl rfl rfl rfl rfl (.cons rfl rfl rfl rfl rfl (.cons rfl rfl rfl rfl rfl (.cons rfl rfl rfl rfl rfl (.nil)))))) ?_; refine oX (eO 7 rfl ?_); refine o_box rfl rfl rfl fun b15 => ?_; refine oX ?_
      exact e_lst (by kernel_rfl) (hJ (⟨b11, b13, b5, b15, S11, hS11⟩ : AskG 3 re.length) _ _ sbA sbA hzB)
    ·refine o_alloc rfl rfl fun b5 => ?_; refine oX (eO 5 rfl ?_); refine o_mmap rfl fun b13 => ?_; refine oX (eO 6 rfl ?_); refine oS (s_build (cs := [_, _, _, _, _, _]) (vs := [_, _, _, _]) rfl rfl (.cons rfl rfl rfl rfl rfl (.cons rfl rfl rfl rfl rfl (.cons rfl rfl rfl rfl rfl (.cons rfl rfl rfl rfl rfl (.nil)))))) ?_; refine oX (eO 7 rfl ?_); refine o_box rfl rfl rfl fun b15 => ?_; refine oX ?_
     exact e_lst (by kernel_rfl) (hJ (⟨b11, b13, b5, b15, S11, hS11⟩ : AskG 3 re.length) _ _ sbA sbA hzB)
   ·refine o_mmap rfl fun b13 => ?_; refine oX ?_; refine e_any2 3 8 rfl rfl (by kernel_rfl) ?_ ?_
    ·refine o_make (E := Eix) (zx := 0) (n := re.length) rfl rfl rfl (by omega) (by omega) rfl fun b11 S11 hS11 => ?_; refine oX ?_; refine e_any2 6 8 rfl rfl (by kernel_rfl) ?_ ?_
     ·refine oS (s_build (cs := [_, _, _, _, _, _]) (vs := [_, _, _, _]) rfl rfl (.cons rfl rfl rfl rfl rfl (.cons rfl rfl rfl rfl rfl (.cons rfl rfl rfl rfl rfl (.cons rfl rfl rfl rfl rfl (.nil)))))) ?_; refine oX ?_; refine e_any2 7 8 rfl rfl (by kernel_rfl) ?_ ?_
      ·refine o_box rfl rfl rfl fun b15 => ?_; refine oX (eO 8 rfl ?_); refine o_alloc rfl rfl fun b5 => ?_; refine oX ?_
       exact e_lst (by kernel_rfl) (hJ (⟨b11, b13, b5, b15, S11, hS11⟩ : AskG 3 re.length) _ _ sbA sbA hzB)
      ·refine o_alloc rfl rfl fun b5 => ?_; refine oX (eO 7 rfl ?_); refine o_box rfl rfl rfl fun b15 => ?_; refine oX ?_
       exact e_lst (by kernel_rfl) (hJ (⟨b11, b13, b5, b15, S11, hS11⟩ : AskG 3 re.length) _ _ sbA sbA hzB)
     ·refine o_alloc rfl rfl fun b5 => ?_; refine oX (eO 6 rfl ?_); refine oS (s_build (cs := [_, _, _, _, _, _]) (vs := [_, _, _, _]) rfl rfl (.cons rfl rfl rfl rfl rfl (.cons rfl rfl rfl rfl rfl (.cons rfl rfl rfl rfl rfl (.cons rfl rfl rfl rfl rfl (.nil)))))) ?_; refine oX (eO 7 rfl ?_); refine o_box rfl rfl rfl fun b15 => ?_; refine oX ?_
      exact e_lst (by kernel_rfl) (hJ (⟨b11, b13, b5, b15, S11, hS11⟩ : AskG 3 re.length) _ _ sbA sbA hzB)
    ·refine o_alloc rfl rfl fun b5 => ?_; refine oX (eO 3 rfl ?_); refine o_make (E := Eix) (zx := 0) (n := re.length) rfl rfl rfl (by omega) (by omega) rfl fun b11 S11 hS11 => ?_; refine oX (eO 6 rfl ?_); refine oS (s_build (cs := [_, _, _, _, _, _]) (vs := [_, _, _, _]) rfl rfl (.cons rfl rfl rfl rfl rfl (.cons rfl rfl rfl rfl rfl (.cons rfl rfl rfl rfl rfl (.cons rfl rfl rfl rfl rfl (.nil)))))) ?_; refine oX (eO 7 rfl ?_); refine o_box rfl rfl rfl fun b15 => ?_; refine oX ?_
     exact e_lst (by kernel_rfl) (hJ (⟨b11, b13, b5, b15, S11, hS11⟩ : AskG 3 re.length) _ _ sbA sbA hzB)
   ·refine o_alloc rfl rfl fun b5 => ?_; refine oX ?_; refine e_any2 3 5 rfl rfl (by kernel_rfl) ?_ ?_
    ·refine o_make (E := Eix) (zx := 0) (n := re.length) rfl rfl rfl (by omega) (by omega) rfl fun b11 S11 hS11 => ?_; refine oX (eO 5 rfl ?_); refine o_mmap rfl fun b13 => ?_; refine oX (eO 6 rfl ?_); refine oS (s_build (cs := [_, _, _, _, _, _]) (vs := [_, _, _, _]) rfl rfl (.cons rfl rfl rfl rfl rfl (.cons rfl rfl rfl rfl rfl (.cons rfl rfl rfl rfl rfl (.cons rfl rfl rfl rfl rfl (.nil)))))) ?_; refine oX (eO 7 rfl ?_); refine o_box rfl rfl rfl fun b15 => ?_; refine oX ?_
     exact e_lst (by kernel_rfl) (hJ (⟨b11, b13, b5, b15, S11, hS11⟩ : AskG 3 re.length) _ _ sbA sbA hzB)
    ·refine o_mmap rfl fun b13 => ?_; refine oX (eO 3 rfl ?_); refine o_make (E := Eix) (zx := 0) (n := re.length) rfl rfl rfl (by omega) (by omega) rfl fun b11 S11 hS11 => ?_; refine oX (eO 6 rfl ?_); refine oS (s_build (cs := [_, _, _, _, _, _]) (vs := [_, _, _, _]) rfl rfl (.cons rfl rfl rfl rfl rfl (.cons rfl rfl rfl rfl rfl (.cons rfl rfl rfl rfl rfl (.cons rfl rfl rfl rfl rfl (.nil)))))) ?_; refine oX (eO 7 rfl ?_); refine o_box rfl rfl rfl fun b15 => ?_; refine oX ?_
     exact e_lst (by kernel_rfl) (hJ (⟨b11, b13, b5, b15, S11, hS11⟩ : AskG 3 re.length) _ _ sbA sbA hzB)
  ·rintro ⟨bE, bM, bA, b15, Sg, hSg⟩
   refine eO 9 rfl ?_; refine o_store rfl rfl rfl upA ltA rfl ?_; refine oX (eZ hK2 (c_seq fun _ hK3 => ?_)); refine cR fun _ hK4 => ?_; refine oS sL ?_; refine oS sC ?_; refine oS sU (oA (oZ hK4 (c_block ?_))); refine c_loop3 (fun (c : Nat) (l : List Nat) (S : Hp) => c ≤ re.length ∧ OwnS Eix 1 3 (.slice (some ⟨bE, 0, none⟩) re.length re.length) l S ∧ EndsOk re c l) (fun (c : Nat) (l : List Nat) (S : Hp) => [(6, .int .i64 ((c : Int) - 1))]) [(2, _), (3, _), (4, _), (5, _)] (fun (c : Nat) (l : List Nat) (S : Hp) => S ++ ((bM, mpO [] 0) :: (bA, .cells [pt b15].toArray 156 (0, 0)) :: (b15, .cells [.slice ra re.length rc, .slice (some ⟨bE, 0, none⟩) re.length re.length, .slice ta w.length tc, .map (some bM), .nilFunc, .nilFunc].toArray 162 (0, 0)) :: (b3, .cells [.slice ta w.length tc].toArray 23 (0, 0)) :: [(b2, .cells [.slice ra re.length rc].toArray 22 (0, 0))])) (fun (c : Nat) (l : List Nat) (S : Hp) => c) re.length _ _ ⟨by omega, hSg, .start List.length_replicate⟩ sbA sbA hzB ?_
   rintro c l S ⟨hc, hS, hE⟩
   have hls := hS.sl
   have hEl := hE.1
   rw [hE.1] at hls
   refine c_seq fun _ hK5 => ?_; refine cR fun _ hK6 => ?_; refine oM ?_
   by_cases hc1 : 1 ≤ c
   ·obtain ⟨a, rfl⟩ : ∃ a, c = a + 1 := ⟨c - 1, by omega⟩
    obtain ⟨x, ks, r0, ia, hpa⟩ := hp0.at _ _ _ a (Nat.zero_le _) (by omega)
    obtain ⟨hx, hpk, _⟩ := hpa.head
    have hok : ndOk x = true := hpa.wf.1
    have hk0 := ndOk_kids hok
    have hkn : (ks.num : Int) = x.kids := hpa.wf.2.1
    have hns := F.num_le ks
    have hpkl := hpk.le
    refine oS geT (oZ hK6 ?_); refine cTZ hK5 (c_seq fun _ hK7 => ?_); refine c_block (cR fun _ hK8 => ?_); refine oM ?_; refine oS sD (oA (oZ hK8 (c_seq fun _ hK9 => ?_))); refine cR fun _ hK10 => ?_; refine oS sL (oM ?_); refine oS (s_idx rfl rfl hsl (by omega)) ?_; refine oS sF ?_; refine oS (s_ld rfl ((RdK.old0 hw.1).ld a 8 hx rfl (by decide) (by omega))) ?_; refine oM (oZ hK10 ?_)
    refine c_block ?_; refine c_loop3 (fun (k : Nat) (to : Nat) (r1 : F) => k + r1.num = ks.num ∧ Part re r1 to (a + 1 + ks.size) ∧ a + 1 ≤ to) (fun (k : Nat) (to : Nat) (r1 : F) => [(30, .int .i64 k), (7, .int .i64 to)]) [(2, _), (3, _), (4, _), (5, _), (6, _), (19, _), (20, _), (23, _), (24, _), (25, _), (26, _), (27, _), (28, _), (29, _)] (fun (k : Nat) (to : Nat) (r1 : F) => S ++ ((bM, mpO [] 0) :: (bA, .cells [pt b15].toArray 156 (0, 0)) :: (b15, .cells [.slice ra re.length rc, .slice (some ⟨bE, 0, none⟩) re.length re.length, .slice ta w.length tc, .map (some bM), .nilFunc, .nilFunc].toArray 162 (0, 0)) :: (b3, .cells [.slice ta w.length tc].toArray 23 (0, 0)) :: [(b2, .cells [.slice ra re.length rc].toArray 22 (0, 0))])) (fun (k : Nat) (to : Nat) (r1 : F) => ks.num - k) 0 (a + 1) ks ⟨by omega, hpk, Nat.le_refl _⟩ (by exact Sub.cons rfl (Sub.cons' rfl (by congr 1; omega) sbA)) sbA hzB ?_
    rintro k to r1 ⟨hkr, hpr, hto⟩
    refine cR fun _ hK11 => ?_
    by_cases hkl : (k : Int) < x.kids
    ·obtain ⟨y, ks1, r2, rfl⟩ : ∃ y ks1 r2, r1 = F.nd y ks1 r2 := by cases r1 with | nil => simp [F.num] at hkr; omega | nd y a b => exact ⟨y, a, b, rfl⟩
     obtain ⟨hy, hpy, hpt⟩ := hpr.head
     have hto2 := (List.getElem?_eq_some_iff.1 hy).1
     have hge := hE.2 to y ks1 r2 _ (by omega) hpr
     have hg2 := hpy.le
     refine oS lsT (oZ hK11 (c_seq fun _ hK12 => ?_)); refine cTZ hK12 (c_seq fun _ hK13 => ?_); refine c_block (c_region ?_); refine oS sL ?_; refine oS sN ?_; refine oS sF ?_; refine oS sL (oM ?_); refine oS (s_idx rfl rfl hls (by omega)) ?_; refine oS (s_ld rfl ((hS.rdk hiA).ld to 0 hge rfl (by decide) (by omega))) ?_; refine oA (o_nil (x_block (xZ hK13 (c_region ?_)))); refine oS sD (oM (o_nil ?_))
     exact xI (k + 1, to + 1 + ks1.size, r2) ⟨by simp only [F.num] at hkr; dsimp only; omega, hpt, by dsimp only; omega⟩
    ·obtain rfl : r1 = F.nil := by cases r1 with | nil => rfl | nd y a b => simp only [F.num] at hkr; omega
     have hto : to = a + 1 + ks.size := by have := hpr.len; simp [F.size] at this; omega
     subst hto; refine oS lsF (oZ hK11 (c_seq fun _ hK14 => ?_)); refine cF ?_; refine c_exit ?_; refine x_then_exit (x_then_exit (x_block_exit (xZ hK9 (c_region ?_)))); refine oS sL ?_; refine oS sN ?_; refine oS sF ?_; refine oS sL (oM (oM ?_)); refine oS (s_idx rfl rfl hls (by omega)) ?_; refine o_stS1 a (a + 1 + ks.size) hS pkA rfl rfl rfl (by omega) (by omega) fun S' hS' => ?_; refine o_nil (x_block (xZ hK7 (c_region (oM ?_)))); refine oS sU (oA (o_nil ?_)); exact x_then (x_inv (a, _, _) ⟨by omega, hS', hE.step hpa⟩ (by first | omega | (dsimp only; omega)) (by exact Sub.cons' rfl (by congr 1; omega) sbA) hzB)
   ·have hc0 : c = 0 := by omega
    refine oS geF (oZ hK6 ?_); refine cF ?_; refine c_exit ?_; refine x_then_exit (x_then_exit (x_block_exit (xZ hK3 (cR fun _ hK15 => ?_)))); refine oS sL ?_; refine oS (s_func (us := []) (vs := [_, _, _]) rfl rfl) ?_; refine oS sN ?_; refine oS sF ?_; refine o_store rfl rfl rfl upA ltA rfl ?_; refine oZ hK15 (cR fun _ hK16 => ?_); refine oS sL ?_; refine oS (s_func (us := []) (vs := [_]) rfl rfl) ?_; refine oS sN ?_; refine oS sF ?_; refine o_store rfl rfl rfl upA ltA rfl ?_; refine oZ hK16 (cR fun _ hK17 => ?_); refine oS sL (oA (oZ hK17 (c_ret ?_))); refine ?_; subst hc0
    refine x_sub (Sub.refl _) (H' := (bM, mpO [] 0) :: (b2, .cells [.slice ra re.length rc].toArray 22 (0, 0)) :: (b3, .cells [.slice ta w.length tc].toArray 23 (0, 0)) :: (bA, .cells [pt b15].toArray 156 (0, 0)) :: (b15, .cells (⟨b2, b3, bA, b15, bE, bM, 124, 125, ra, rc, re, ta, tc, w, l⟩ : AskE).cells.toArray 162 (0, 0)) :: S) hzB ?_; exact xR rfl rfl (⟨(⟨b2, b3, bA, b15, bE, bM, 124, 125, ra, rc, re, ta, tc, w, l⟩ : AskE), S, rfl, rfl, rfl, rfl, rfl, rfl, ⟨hre, hr8, hrl, hwl, hE⟩, rfl, hS, rfl⟩)
set_option maxHeartbeats 1000000 in
theorem captures_fn (K : AskE) (hK : K.ok) (hn : K.nF = 124) (hr : K.rF = 125) (hsb : shapedB K.re = true) (x : Nd) (ks : F) (hs : Shp K.re x ks) (p q : Nat) (hpq : p ≤ q) (hq : q ≤ K.tx.length) (hd : der1 K.tx x ks p q) (es : List Me) (c : Nat) (hes : MapOk K.tx K.re es) : HL.Fn Tryz.prog 77 [pt K.bS, .agg (Esp ⟨p, q⟩).toArray] (fun W => Env W K [K.bM]) [(K.bM, mpO es c)] (CapsP K 40 (capsV K.tx K.re x ks p q)) := by
  refine fn_of Tryz.func77 rfl rfl rfl fun w0 hw => ?_
  have hgl : gcn K.re ≤ K.re.length := List.countP_le_length
  have hrl := hK.len
  refine cR fun _ hK1 => ?_; refine o_box rfl rfl rfl fun b3 => ?_; refine oA (oZ hK1 (cR fun _ hK2 => ?_)); refine oM ?_; refine oS sN ?_; refine oS sF ?_; refine oS (s_ld rfl ((RdPK.old hw.p4 hw.n4).cel (j := 0) rfl rfl)) ?_; refine o_callP (groups_fn K.ra K.rc K.re hK.rng) rfl rfl rfl (fun w st => (RdK.old hw.d1 hw.a1).out w st) (fun v11 hv11 => ?_)
  rw [hsb, if_pos rfl] at hv11
  subst hv11; refine oS sD ?_; refine o_make (E := Esp) (zx := ⟨0, 0⟩) (n := (gcn K.re + 1)) rfl rfl rfl (by omega) (by omega) rfl fun b13 S13 hS13 => ?_; refine oA (oZ hK2 (c_seq fun _ hK3 => ?_)); refine cR fun _ hK4 => ?_; refine oM ?_; refine oS sC (oM (oZ hK4 (c_block ?_))); refine c_loop3 (fun (j : Nat) (l : List Sp) (S : Hp) => j ≤ (gcn K.re + 1) ∧ Tab.Fill (fun _ => noS) (gcn K.re + 1) j l ∧ OwnS Esp 2 40 (.slice (some ⟨b13, 0, none⟩) (gcn K.re + 1) (gcn K.re + 1)) l S) (fun (j : Nat) (l : List Sp) (S : Hp) => [(16, .int .i64 j)]) [(0, _), (3, _), (4, _), (5, _), (15, _)] (fun (j : Nat) (l : List Sp) (S : Hp) => S ++ [(b3, .cells (Esp ⟨p, q⟩).toArray 40 (0, 0)), (K.bM, mpO es c)]) (fun (j : Nat) (l : List Sp) (S : Hp) => (gcn K.re + 1) - j) 0 _ _ ⟨by omega, .zero List.length_replicate, hS13⟩ sbA sbA hzB ?_
  rintro j l S ⟨hj, hl, hS⟩
  have hls := hS.sl
  rw [hl.len] at hls
  refine cR fun _ hK5 => ?_
  by_cases hjl : (j : Int) < gcn K.re + 1
  ·have hll := hl.len
   refine oS lsT (oZ hK5 (c_seq fun _ hK6 => ?_)); refine cTZ hK6 (c_seq fun _ hK7 => ?_); refine c_block (cR fun _ hK8 => ?_); refine oM (oA (oZ hK8 (c_region (oM (oM ?_))))); refine oS (step_cast (v' := .agg (Esp noS).toArray) (s_build (cs := [_, _]) (vs := [_, _]) rfl rfl (.cons rfl rfl rfl rfl rfl (.cons rfl rfl rfl rfl rfl (.nil)))) rfl) ?_; refine oS (s_idx rfl rfl hls (by omega)) ?_; refine o_stSE j noS hS pkA rfl rfl (by omega) (by rw [Int.toNat_natCast]) fun S' hS' => ?_; refine o_nil (x_block (xZ hK7 (c_region ?_))); refine oS sD (oM (o_nil ?_)); exact xI (j + 1, _, _) ⟨by omega, hl.step (by omega) rfl, hS'⟩
  ·have hd2 := fill_rep hl (by omega)
   subst hd2; refine oS lsF (oZ hK5 (c_seq fun _ hK9 => ?_)); refine cF ?_; refine c_exit ?_; refine x_then_exit (x_then_exit (x_block_exit (xZ hK3 (cR fun _ hK10 => ?_)))); refine oM ?_; refine oS sF ?_; refine oS (s_ld rfl ((.own meA rfl : Cel _ _ _ (.int .i64 (p : Int))))) ?_; refine oS sF ?_; refine oS (s_ld rfl ((.own meA rfl : Cel _ _ _ (.int .i64 (q : Int))))) ?_; refine oM ?_; refine o_call (take_all hK hn hr _ x ks (Nat.lt_succ_self _) 0 _ p q es c (some ⟨b13, 0, none⟩) _ _ (List.replicate (gcn K.re + 1) noS) S hs.part hpq hq hd hes List.length_replicate (slots_of hsb) hS) rfl rfl rfl ((Pick.takeC pkA pkA)) (fun w st => hw.sub (S := (K.bM, mpO es c) :: S) st (hin_cons meA hiA)) (fun v30 S30 ⟨es30, c30, Sc30, hS30, hm30, hO30⟩ => ?_)
   subst hS30
   have hl30 : (bst1 K.tx x ks p q (List.replicate (gcn K.re + 1) noS)).length = (gcn K.re + 1) := by rw [bst1_len, List.length_replicate]
   have hs30 := hO30.sl
   rw [hl30] at hs30
   refine o_nil ?_; refine x_then (hK10 _ _ ?_); refine c_seq fun _ hK11 => ?_; refine c_region ?_; refine o_step rfl (s_move rfl) ?_; refine o_step rfl (s_ldB rfl (RdPK.cels (.own meA)) lnA) ?_; refine o_step rfl (s_idx rfl rfl hs30 (by omega)) ?_; refine o_stSE 0 ⟨p, q⟩ hO30 pkA rfl rfl (by rw [hl30]; omega) (by rfl) fun S' hS' => ?_; refine o_nil ?_; refine x_then (hK11 _ _ ?_); refine c_seq fun _ hK12 => ?_; refine c_region ?_; refine o_step rfl (s_move rfl) ?_; refine o_step rfl (s_assign rfl) ?_; refine o_nil ?_; refine x_then (hK12 _ _ ?_); refine c_ret ?_; refine ?_; refine x_sub (Sub.refl _) (H' := (K.bM, mpO es30 c30) :: S') hzB ?_; exact x_ret rfl (.tmp rfl (.nil)) (⟨es30, c30, some ⟨b13, 0, none⟩, (gcn K.re + 1), S', by rw [capsV_len]; rfl, rfl, by rw [capsV_len]; exact hS'⟩)
set_option maxHeartbeats 1000000 in
theorem best_fn (ra : Option Addr) (rc : Nat) (re : List Nd) (hre : ∀ x ∈ re, -128 ≤ x.op ∧ x.op < 128) (ta : Option Addr) (tc : Nat) (w : List UInt8) (hwl : w.length ≤ 1000000) (fr to : Int) : HL.Fn Tryz.prog 26 [.slice ra re.length rc, .slice ta w.length tc, .agg (Esp ⟨fr, to⟩).toArray] (fun W => Rd En W (.slice ra re.length rc) re ∧ Rd Eb W (.slice ta w.length tc) w) [] (BestP 40 re w fr to) := by
  refine fn_of Tryz.func26 rfl rfl rfl fun w0 hw => ?_; refine cR fun _ hK1 => ?_; refine o_box rfl rfl rfl fun b5 => ?_; refine oA (oA (oZ hK1 (c_seq fun _ hK2 => ?_))); refine cR fun _ hK3 => ?_; refine oM ?_; refine o_callP (shaped_fn ra rc re hre) rfl rfl rfl (fun w st => (RdK.old0 hw.1).out w st) (fun v10 hv10 => ?_); subst hv10
  cases hsb : shapedB re
  ·refine oS (s_not rfl) ?_; refine oM ?_; refine oN ?_; refine oN ?_; refine oS sT (oM ?_); refine oN ?_; refine oN ?_; refine oN ?_; refine oS sT (oM ?_); refine oN ?_; refine oN ?_; refine oN ?_; refine oN ?_; refine oN ?_; refine oS sT (oM ?_); refine oN ?_; refine oN ?_; refine oN ?_; refine oN ?_; refine oN ?_; refine oS sT (oZ hK3 ?_); refine cT (cR fun _ hK4 => ?_); refine oA (oA (oZ hK4 (c_ret ?_))); refine x_then_ret (?_); refine x_sub (Sub.refl _) (H' := []) HSub.nil ?_; exact x_ret rfl (.tmp rfl (.tmp rfl (.nil))) (.inr ⟨fun ⟨x2, ks2, p2, q2, hm, h1, h2, h3, h4, h5⟩ => (by have := hm.sh; rw [hsb] at this; cases this), rfl, rfl⟩)
  ·obtain ⟨_, x, ks, hs⟩ := shapedB_iff.1 hsb
   refine oS (s_not rfl) ?_; refine oM ?_; refine oY (oM ?_); refine oY ?_; refine o_callP (refs_fn ra rc re hre) rfl rfl rfl (fun w st => (RdK.old0 hw.1).out w st) (fun v14 hv14 => ?_); subst hv14
   cases hrb : refsB re
   ·have hr8 := no_refs hsb hrb
    refine oS sP (oM ?_); refine oY ?_; refine oS sF ?_; refine oY ?_; refine oS (s_ld rfl ((.own meA rfl : Cel _ _ _ (.int .i64 fr)))) ?_; refine oY ?_
    by_cases hf0 : fr < 0
    ·refine oS lsT ?_; refine oS sP (oM ?_); refine oN ?_; refine oN ?_; refine oN ?_; refine oN ?_; refine oN ?_; refine oS sT (oM ?_); refine oN ?_; refine oN ?_; refine oN ?_; refine oN ?_; refine oN ?_; refine oS sT (oZ hK3 ?_); refine cT (cR fun _ hK5 => ?_); refine oA (oA (oZ hK5 (c_ret ?_))); refine x_then_ret (?_); refine x_sub (Sub.refl _) (H' := []) HSub.nil ?_
     exact x_ret rfl (.tmp rfl (.tmp rfl (.nil))) (.inr ⟨fun ⟨x2, ks2, p2, q2, hm, h1, h2, h3, h4, h5⟩ => (by omega), rfl, rfl⟩)
    ·refine oS lsF ?_; refine oS sP (oM ?_); refine oY ?_; refine oS sF ?_; refine oY ?_; refine oS (s_ld rfl ((.own meA rfl : Cel _ _ _ (.int .i64 fr)))) ?_; refine oY ?_; refine oS sF ?_; refine oY ?_; refine oS (s_ld rfl ((.own meA rfl : Cel _ _ _ (.int .i64 to)))) ?_; refine oY ?_
     by_cases hft : fr > to
     ·refine oS gtT ?_; refine oS sP (oM ?_); refine oN ?_; refine oN ?_; refine oN ?_; refine oN ?_; refine oN ?_; refine oS sT (oZ hK3 ?_); refine cT (cR fun _ hK6 => ?_); refine oA (oA (oZ hK6 (c_ret ?_))); refine x_then_ret (?_); refine x_sub (Sub.refl _) (H' := []) HSub.nil ?_; exact x_ret rfl (.tmp rfl (.tmp rfl (.nil))) (.inr ⟨fun ⟨x2, ks2, p2, q2, hm, h1, h2, h3, h4, h5⟩ => (by omega), rfl, rfl⟩)
     ·refine oS gtF ?_; refine oS sP (oM ?_); refine oY ?_; refine oS sF ?_; refine oY ?_; refine oS (s_ld rfl ((.own meA rfl : Cel _ _ _ (.int .i64 to)))) ?_; refine oY (oM ?_); refine oY ?_; refine oS sC ?_; refine oY ?_
      by_cases htl : to > w.length
      ·refine oS gtT ?_; refine oS sP (oZ hK3 ?_); refine cT (cR fun _ hK7 => ?_); refine oA (oA (oZ hK7 (c_ret ?_))); refine x_then_ret (?_); refine x_sub (Sub.refl _) (H' := []) HSub.nil ?_; exact x_ret rfl (.tmp rfl (.tmp rfl (.nil))) (.inr ⟨fun ⟨x2, ks2, p2, q2, hm, h1, h2, h3, h4, h5⟩ => (by omega), rfl, rfl⟩)
      ·refine oS gtF ?_; refine oS sP (oZ hK3 ?_); refine cFZ hK2 (cR fun _ hK8 => ?_); refine oM (oM ?_)
       obtain ⟨p, rfl⟩ : ∃ p : Nat, fr = p := ⟨fr.toNat, by omega⟩
       obtain ⟨q, rfl⟩ : ∃ q : Nat, to = q := ⟨to.toNat, by omega⟩
       refine o_call (ask_fn ra rc re ta tc w hre hr8 (by have := hs.len; omega) hwl x ks hs.part) rfl rfl rfl (by exact .nil) (fun w st => ⟨(RdK.old0 hw.1).out w st, (RdK.old0 hw.2).out w st⟩) (fun v37 S37 ⟨K, Se, hn, hr, e1, e2, e3, e4, hK, hv37, hE, hS37⟩ => ?_); subst e1
       subst e2; subst hv37
       subst hS37
       simp only [vre, vtx, Value.slice.injEq] at e3 e4
       obtain ⟨rfl, _, rfl⟩ := e3
       obtain ⟨rfl, _, rfl⟩ := e4
       refine oA (oZ hK8 (c_seq fun _ hK9 => ?_)); refine c_seq fun _ hK10 => ?_; refine c_drawE ([(b5, .cells (Esp ⟨p, q⟩).toArray 40 (0, 0)), (K.bS, .cells K.cells.toArray 162 (0, 0))]) (fun i => false) ?_; refine eK 0 rfl sM ?_; refine eK 1 rfl sN ?_; refine eK 2 rfl sF ?_; refine eK 3 rfl sL ?_; refine eK 4 rfl sF ?_; refine eK 5 rfl (s_ld rfl ((.own meA rfl : Cel _ _ _ (.int .i64 (p : Int))))) ?_; refine eK 6 rfl sF ?_; refine eK 7 rfl (s_ld rfl ((.own meA rfl : Cel _ _ _ (.int .i64 (q : Int))))) ?_; refine eO 8 rfl ?_; refine o_callC (us := []) (vs := [_, _, _]) (cs := [pt K.bRe, pt K.bTx, pt K.bA]) (node_all hK hn hr _ x ks (Nat.lt_succ_self _) 0 _ p q [] 0 hs.part (by omega) (by omega) .nil) rfl rfl rfl pkA (fun w st => Env.make (K := K) (S := [(K.bM, mpO [] 0)]) st pkA hw.1 hw.2 hE hiA meA meA meA meA) (fun v46 S46 ⟨es46, c46, hv46, hS46, hm46⟩ => ?_)
       subst hv46; subst hS46
       cases hb46 : dQ (der1 K.tx x ks p q)
       ·refine oX ?_; refine eK 9 rfl (s_not rfl) ?_; refine eZ hK10 ?_; refine cT (cR fun _ hK11 => ?_); refine oA (oA (oZ hK11 (c_ret ?_))); refine x_then_ret (?_); refine x_sub (Sub.refl _) (H' := []) HSub.nil ?_; exact x_ret rfl (.tmp rfl (.tmp rfl (.nil))) (.inr ⟨fun ⟨x2, ks2, p2, q2, hm, h1, h2, h3, h4, h5⟩ => (by obtain ⟨rfl, rfl⟩ := hs.uniq hm.hs; obtain rfl : p = p2 := (by omega); obtain rfl : q = q2 := (by omega); rw [dQ_t h5] at hb46; cases hb46), rfl, rfl⟩)
       ·refine oX ?_; refine eK 9 rfl (s_not rfl) ?_; refine eZ hK10 ?_; refine cFZ hK9 (cR fun _ hK12 => ?_); refine oM ?_; refine oS (s_ldB rfl (RdPK.cels (.own meA)) lnA) ?_; refine o_call (captures_fn K hK hn hr hsb x ks hs p q (by omega) (by omega) (dQ_iff.1 hb46) es46 c46 hm46) rfl rfl rfl pkA (fun w st => Env.make (K := K) (S := [(K.bM, mpO es46 c46)]) st pkA hw.1 hw.2 hE hiA meA meA meA meA) (fun v50 S50 ⟨es50, c50, a50, cc50, Sc50, hv50, hS50, hO50⟩ => ?_); subst hv50
        subst hS50; refine oA (oA (oZ hK12 (c_ret ?_))); refine ?_; refine x_sub (Sub.refl _) (H' := Sc50) hzB ?_; exact x_ret rfl (.tmp rfl (.tmp rfl (.nil))) (.inl ⟨x, ks, p, q, ⟨hsb, hrb, hs⟩, rfl, rfl, by omega, by omega, dQ_iff.1 hb46, a50, cc50, rfl, hO50⟩)
   ·refine oS sP (oM ?_); refine oN ?_; refine oN ?_; refine oN ?_; refine oS sT (oM ?_); refine oN ?_; refine oN ?_; refine oN ?_; refine oN ?_; refine oN ?_; refine oS sT (oM ?_); refine oN ?_; refine oN ?_; refine oN ?_; refine oN ?_; refine oN ?_; refine oS sT (oZ hK3 ?_); refine cT (cR fun _ hK13 => ?_); refine oA (oA (oZ hK13 ?_))
    refine c_ret ?_; refine x_then_ret (?_); refine x_sub (Sub.refl _) (H' := []) HSub.nil ?_; exact x_ret rfl (.tmp rfl (.tmp rfl (.nil))) (.inr ⟨fun ⟨x2, ks2, p2, q2, hm, h1, h2, h3, h4, h5⟩ => (by have := hm.rf; rw [hrb] at this; cases this), rfl, rfl⟩)
def PlR (bR : Nat) (re : List Nd) (S : Hp) : Prop := ∃ (x : Nd) (ks : F) (a am : Option Addr) (c : Nat) (Sr Sm : Hp), shapedB re = true ∧ refsB re = false ∧ Shp re x ks ∧
  S = (bR, .cells [.slice a re.length c, .iface 130 (.agg #[.slice am (mach (.nd x ks .nil)).length (mach (.nd x ks .nil)).length]), .int .i64 ((gcn re : Nat) : Int)].toArray 127 (0, 0)) :: (Sr ++ Sm) ∧ OwnS En 9 108 (.slice a re.length c) re Sr ∧ OwnS Ein 7 145 (.slice am (mach (.nd x ks .nil)).length (mach (.nd x ks .nil)).length) (mach (.nd x ks .nil)) Sm
inductive NewP (re : List Nd) (v : Value) (S' : Hp) : Prop
  | shape (hs : shapedB re = false) (hv : v = .tuple #[.pointer none, .int .i64 49])
  | ref {bR : Nat} {a : Option Addr} {c : Nat} {Sr : Hp} (hs : shapedB re = true) (hr : refsB re = true) (hv : v = .tuple #[pt bR, .int .i64 0]) (hS : S' = (bR, .cells [.slice a re.length c, .iface 128 (.int .i64 4611686018427387904), .int .i64 ((gcn re : Nat) : Int)].toArray 127 (0, 0)) :: Sr) (ho : OwnS En 9 108 (.slice a re.length c) re Sr)
  | ok {bR : Nat} (hs : shapedB re = true) (hr : refsB re = false) (hv : v = .tuple #[pt bR, .int .i64 0]) (hS : PlR bR re S')
theorem cloneN_fn (a : Option Addr) (c : Nat) (xs : List Nd) (hxl : xs.length ≤ 1000000) : HL.Fn Tryz.prog 59 [.slice a xs.length c] (fun w => Rd En w (.slice a xs.length c) xs) [] (fun v S' => ∃ a' c', v = .slice a' xs.length c' ∧ OwnS En 9 108 (.slice a' xs.length c') xs S') := by
  refine fn_of Tryz.func59 rfl rfl rfl fun w0 hw => ?_
  have hsx := hw.sl
  have hbx := hsx.le
  refine cR fun _ hK1 => ?_; refine oA (oZ hK1 (c_seq fun _ hK2 => ?_)); refine cR fun _ hK3 => ?_; refine oM ?_; refine oS (s_eql_nils rfl rfl) ?_; refine oZ hK3 ?_; refine c_cond rfl (fun hn => ?_) (fun hn => ?_)
  ·have ha : a = none := Option.isNone_iff_eq_none.1 hn
   subst ha
   have hx0 : xs = [] := List.eq_nil_of_length_eq_zero hsx.none
   subst hx0; refine cR fun _ hK4 => ?_; refine oA (oZ hK4 (c_ret ?_)); refine x_then_ret (?_); exact xR rfl rfl (⟨_, _, rfl, .nil⟩)
  ·refine c_skip (xZ hK2 (cR fun _ hK5 => ?_)); refine o_bs (E := En) (xs := []) (vs := []) rfl rfl rfl rfl rfl (by decide) (by decide) fun b5 S5 hS5 => ?_; refine oM ?_; refine o_app hS5 (RdK.old0 hw) rfl rfl rfl rfl (by simp; omega) (by simp; omega) rfl pkA fun a7 c7 S7 hS7 => ?_; refine oA (oZ hK5 (c_ret ?_)); refine ?_
   simp only [List.nil_append] at hS7
   exact xR rfl rfl (⟨_, _, rfl, by simpa using hS7⟩)
set_option maxHeartbeats 2000000 in
theorem new_re (ra : Option Addr) (rc : Nat) (re : List Nd) (hre : ∀ x ∈ re, -128 ≤ x.op ∧ x.op < 128) : HL.Fn Tryz.prog 13 [.slice ra re.length rc] (fun W => Rd En W (.slice ra re.length rc) re) [] (NewP re) := by
  refine fn_of Tryz.func13 rfl rfl rfl fun w0 hw => ?_
  have hsl := hw.sl
  have hbl := hsl.le
  refine cR fun _ hK1 => ?_; refine oA (oA (oZ hK1 (c_seq fun _ hK2 => ?_))); refine cR fun _ hK3 => ?_; refine oM ?_; refine o_callP (shaped_fn ra rc re hre) rfl rfl rfl (fun _ st => (RdK.old0 hw).out _ st) (fun v8 hv8 => ?_); subst hv8
  cases hsh : shapedB re
  ·refine oS (s_not rfl) ?_; refine oZ hK3 ?_; refine cT (cR fun _ hK4 => ?_); refine oA (oA (oZ hK4 (c_ret ?_))); refine x_then_ret (?_); exact x_ret rfl (.tmp rfl (.tmp rfl (.nil))) (.shape hsh rfl)
  ·have hrl : re.length ≤ 16384 := by obtain ⟨_, x, ks, hs⟩ := shapedB_iff.1 hsh; exact hs.len
   refine oS (s_not rfl) ?_; refine oZ hK3 ?_; refine cFZ hK2 (cR fun _ hK5 => ?_); refine oM ?_; refine o_call (cloneN_fn ra rc re (by omega)) rfl rfl rfl (by exact .nil) (fun _ st => (RdK.old0 hw).out _ st) (fun v11 S11 ⟨a11, c11, hv11, hS11⟩ => ?_); subst hv11
   refine oM ?_; refine o_callP (groups_fn ra rc re hre) rfl rfl rfl (fun _ st => (RdK.old0 hw).out _ st) (fun v13 hv13 => ?_)
   rw [if_pos hsh] at hv13
   subst hv13; refine oS (s_build (cs := [_, _, _]) (vs := [_, _]) rfl rfl (.cons rfl rfl rfl rfl rfl (.cons rfl rfl rfl rfl rfl (.nil)))) ?_; refine o_box rfl rfl rfl fun b15 => ?_; refine oA (oZ hK5 (c_seq fun _ hK6 => ?_)); refine cR fun _ hK7 => ?_; refine oM ?_; refine o_callP (refs_fn ra rc re hre) rfl rfl rfl (fun _ st => (RdK.old0 hw).out _ st) (fun v17 hv17 => ?_); subst hv17
   cases hrf : refsB re
   ·refine oZ hK7 ?_; refine cFZ hK6 (cR fun _ hK8 => ?_); refine oM ?_; refine o_call (compileO_fn ra rc re hre) rfl rfl rfl (by exact .nil) (fun _ st => (RdK.old0 hw).out _ st) (fun v25 S25 hC => ?_)
    obtain ⟨x, ks, am, hSh, rfl, hOm⟩ : ∃ x ks am, Shp re x ks ∧ v25 = .tuple #[.slice am (mach (.nd x ks .nil)).length (mach (.nd x ks .nil)).length, .int .i64 0] ∧ OwnS Ein 7 145 (.slice am (mach (.nd x ks .nil)).length (mach (.nd x ks .nil)).length) (mach (.nd x ks .nil)) S25 := by cases hC with | shape h => (rw [hsh] at h; cases h) | ref _ h => (rw [hrf] at h; cases h) | ok _ _ h hv hm => exact ⟨_, _, _, h, hv, hm⟩
    refine oM ?_; refine oS sE ?_; refine oS sE (oA (oA (oZ hK8 (c_seq fun _ hK9 => ?_)))); refine cR fun _ hK10 => ?_; refine oM ?_; refine oS (step_cast (v' := .bool false) (s_neq rfl rfl) rfl) ?_; refine oZ hK10 ?_; refine cFZ hK9 (cR fun _ hK11 => ?_); refine oM (oM ?_); refine oS (s_build (cs := [_]) (vs := [_]) rfl rfl (.cons rfl rfl rfl rfl rfl (.nil))) ?_; refine oS (s_iface (by kernel_rfl) rfl) ?_; refine oS sN ?_; refine oS sF ?_; refine o_store rfl rfl rfl upA ltA rfl ?_; refine oZ hK11 (cR fun _ hK12 => ?_); refine oM (oA (oA (oZ hK12 (c_ret ?_)))); refine ?_; refine x_sub (Sub.refl _) (H' := (b15, .cells [.slice a11 re.length c11, .iface 130 (.agg #[.slice am (mach (.nd x ks .nil)).length (mach (.nd x ks .nil)).length]), .int .i64 ((gcn re : Nat) : Int)].toArray 127 (0, 0)) :: (S11 ++ S25)) hzB ?_; exact x_ret rfl (.tmp rfl (.tmp rfl (.nil))) (.ok hsh hrf rfl ⟨x, ks, a11, am, c11, S11, S25, hsh, hrf, hSh, rfl, hS11, hOm⟩)
   ·refine oZ hK7 ?_; refine cT (cR fun _ hK13 => ?_); refine oM ?_; refine oS (s_iface (by kernel_rfl) rfl) ?_; refine oS sN ?_; refine oS sF ?_; refine o_store rfl rfl rfl upA ltA rfl ?_; refine oZ hK13 (cR fun _ hK14 => ?_); refine oM (oA (oA (oZ hK14 (c_ret ?_)))); refine x_then_ret (?_); refine x_sub (Sub.refl _) (H' := (b15, .cells [.slice a11 re.length c11, .iface 128 (.int .i64 4611686018427387904), .int .i64 ((gcn re : Nat) : Int)].toArray 127 (0, 0)) :: S11) hzB ?_; exact x_ret rfl (.tmp rfl (.tmp rfl (.nil))) (.ref hsh hrf rfl rfl hS11)
set_option maxHeartbeats 2000000 in
theorem plainO_fn (ra : Option Addr) (rc : Nat) (re : List Nd) (hre : ∀ x ∈ re, -128 ≤ x.op ∧ x.op < 128) (xa : Option Addr) (xc : Nat) (w : List UInt8) (hwl : w.length ≤ 1000000) (x : Nd) (ks : F) (hM : May re w x ks) (ma : Option Addr) (mc : Nat) (f : Nat) : HL.Fn Tryz.prog 62 [.agg #[.slice ma (mach (.nd x ks .nil)).length mc], .slice ra re.length rc, .slice xa w.length xc, .int .i64 f] (fun W => Rd Ein W (.slice ma (mach (.nd x ks .nil)).length mc) (mach (.nd x ks .nil)) ∧ Rd En W (.slice ra re.length rc) re ∧ Rd Eb W (.slice xa w.length xc) w) [] (fun v S' => ∃ S2, HSub S' S2 ∧ FindP 40 re w f v S2) := by
  refine fn_of Tryz.func62 rfl rfl rfl fun w0 hw => ?_
  have hsl := hw.2.1.sl
  have hxl := hw.2.2.sl
  have hmok : MOk (mach (.nd x ks .nil)) := hM.hs.mok
  refine cR fun _ hK1 => ?_; refine o_box rfl rfl rfl fun b4 => ?_; refine oA (oA (oZ hK1 (cR fun _ hK2 => ?_))); refine oS sF ?_; refine oS sL ?_; refine o_call (lnew_fn ma mc (mach (.nd x ks .nil))) rfl rfl rfl (by exact .nil) (fun _ st => (RdK.old0 hw.1).out _ st) (fun v17 S17 hN => ?_)
  obtain ⟨bS, rfl, hSr⟩ : ∃ bS, v17 = .tuple #[pt bS, .int .i64 0] ∧ ∀ n, SrE bS (mach (.nd x ks .nil)) n [] S17 := by rcases hN with ⟨h, _⟩ | ⟨_, h⟩; (· rw [mokB_iff.2 hmok] at h; cases h); (· exact h)
  refine oM ?_; refine oS sE ?_; refine oS sE (oA (oA (oZ hK2 (c_seq fun _ hK3 => ?_)))); refine cR fun _ hK4 => ?_; refine oM ?_; refine oS (step_cast (v' := .bool false) (s_neq rfl rfl) rfl) ?_; refine oZ hK4 ?_; refine cFZ hK3 (cR fun _ hK5 => ?_); refine oM (oM (oM ?_)); refine o_call (lfind_fn bS (mach (.nd x ks .nil)) w [] S17 (hSr w.length) (fun u hu => by obtain ⟨i, hi⟩ := List.mem_iff_getElem?.1 hu; have := (hmok.2.2 i u hi).1.1; omega) hmok xa xc hwl f) rfl rfl rfl (pkA) (fun w st => ⟨(RdK.old0 hw.2.2).out w st, St.apart_M st (by exact hiB) hw.2.2 Apart.nil (by decide)⟩) (fun v26 S26 ⟨es2, hS26, hF⟩ => ?_)
  rcases hF with ⟨p, q, rfl, _, hL⟩ | ⟨rfl, hL⟩
  ·rw [Int.toNat_natCast] at hL
   refine oM ?_; refine oS sE ?_; refine oS sE ?_; refine o_alloc (l := Esp ⟨0, 0⟩) rfl rfl fun b12 => ?_; refine o_stW rfl rfl upA lnA lnA onA ?_; refine oA (oZ hK5 (c_seq fun _ hK6 => ?_)); refine cR fun _ hK7 => ?_; refine oM ?_; refine oS (s_not rfl) ?_; refine oZ hK7 ?_; refine cFZ hK6 (cR fun _ hK8 => ?_); refine oM (oM ?_); refine oS (s_ldB rfl (RdPK.cels (.own meA)) lnA) ?_; refine o_call (best_fn ra rc re hre xa xc w hwl p q) rfl rfl rfl (by exact .nil) (fun _ st => ⟨(RdK.old0 hw.2.1).out _ st, (RdK.old0 hw.2.2).out _ st⟩) (fun v34 S34 hB => ?_)
   obtain ⟨v1, v2, rfl⟩ : ∃ v1 v2, v34 = .tuple #[v1, v2] := by obtain ⟨b, L, a, c, _, h, _⟩ := hB.res; exact ⟨_, _, h⟩
   refine oS sE ?_; refine oS sE (oA (oA (oZ hK8 (c_ret ?_)))); refine ?_; exact x_ret rfl (.tmp rfl (.tmp rfl (.nil))) (⟨S34, hzB, FindP.yes hM hL hB⟩)
  ·have hL2 := hL (by omega)
   rw [Int.toNat_natCast] at hL2
   refine oM ?_; refine oS sE ?_; refine oS sE ?_; refine o_alloc (l := Esp ⟨0, 0⟩) rfl rfl fun b12 => ?_; refine o_stW rfl rfl upA lnA lnA onA ?_; refine oA (oZ hK5 (c_seq fun _ hK9 => ?_)); refine cR fun _ hK10 => ?_; refine oM ?_; refine oS (s_not rfl) ?_; refine oZ hK10 ?_; refine cT (cR fun _ hK11 => ?_); refine oA (oA (oZ hK11 (c_ret ?_))); refine x_then_ret (?_); exact x_ret rfl (.tmp rfl (.tmp rfl (.nil))) (⟨[], HSub.nil, FindP.not hM hL2⟩)
set_option maxHeartbeats 2000000 in
theorem findO_re (bR : Nat) (ra : Option Addr) (rc : Nat) (re : List Nd) (hre : ∀ x ∈ re, -128 ≤ x.op ∧ x.op < 128) (xa : Option Addr) (xc : Nat) (w : List UInt8) (hwl : w.length ≤ 1000000) (x : Nd) (ks : F) (hM : May re w x ks) (ma : Option Addr) (mc : Nat) (f : Int) : HL.Fn Tryz.prog 14 [pt bR, .slice xa w.length xc, .int .i64 f] (fun W => RdP W bR 0 [.slice ra re.length rc, .iface 130 (.agg #[.slice ma (mach (.nd x ks .nil)).length mc]), .int .i64 ((gcn re : Nat) : Int)] ∧ Rd Ein W (.slice ma (mach (.nd x ks .nil)).length mc) (mach (.nd x ks .nil)) ∧ Rd En W (.slice ra re.length rc) re ∧ Rd Eb W (.slice xa w.length xc) w) [] (fun v S' => ∃ S2, HSub S' S2 ∧ FindP 40 re w f v S2) := by
  refine fn_of Tryz.func14 rfl rfl rfl fun w0 hw => ?_
  have hsl := hw.2.2.1.sl
  have hxl := hw.2.2.2.sl
  refine cR fun _ hK1 => ?_; refine oA (oA (oZ hK1 (c_seq fun _ hK2 => ?_))); refine cR fun _ hK3 => ?_; refine oM ?_; refine oS (step_cast (v' := .bool false) (s_eql_nilp rfl rfl) rfl) ?_; refine oM ?_; refine oY (oM ?_); refine oY ?_
  by_cases hf0 : f < 0
  ·refine oS lsT ?_; refine oS sP (oM ?_); refine oN ?_; refine oN ?_; refine oN ?_; refine oN ?_; refine oS sT (oZ hK3 ?_); refine cT (cR fun _ hK4 => ?_); refine oA (oA (oZ hK4 (c_ret ?_))); refine x_then_ret (?_); exact x_ret rfl (.tmp rfl (.tmp rfl (.nil))) (⟨[], HSub.nil, FindP.out hM (.inl hf0)⟩)
  ·obtain ⟨f, rfl⟩ : ∃ n : Nat, f = n := ⟨f.toNat, by omega⟩
   refine oS lsF ?_; refine oS sP (oM ?_); refine oY (oM ?_); refine oY (oM ?_); refine oY ?_; refine oS sC ?_; refine oY ?_
   by_cases hfn : (f : Int) > w.length
   ·refine oS gtT ?_; refine oS sP (oZ hK3 ?_); refine cT (cR fun _ hK5 => ?_); refine oA (oA (oZ hK5 (c_ret ?_))); refine x_then_ret (?_); exact x_ret rfl (.tmp rfl (.tmp rfl (.nil))) (⟨[], HSub.nil, FindP.out hM (.inr (by omega))⟩)
   ·refine oS gtF ?_; refine oS sP (oZ hK3 ?_); refine cFZ hK2 (c_seq fun _ hK6 => ?_); refine cR fun _ hK7 => ?_; refine oM ?_; refine oS sN ?_; refine oS sF ?_; refine oS (s_ld rfl ((RdPK.old0 hw.1).cel (j := 1) rfl rfl)) ?_; refine oZ hK7 (c_block (cR fun _ hK8 => ?_)); refine oS (s_tas_t (by kernel_rfl) rfl) ?_; refine oS sE ?_; refine oS sE (oZ hK8 ?_); refine cT (cR fun _ hK9 => ?_); refine o_alloc (l := [.slice none 0 0]) rfl rfl fun b8 => ?_; refine o_stW rfl rfl upA lnA lnA onA ?_; refine oZ hK9 (c_seq fun _ hK10 => ?_); refine c_drawE ([(b8, .cells [.slice ma (mach (.nd x ks .nil)).length mc].toArray 130 (0, 0))]) (fun i => false) ?_; refine eK 0 rfl (s_ldB rfl (RdPK.cels (.own meA)) lnA) ?_; refine eP 1 rfl sM ?_; refine eP 2 rfl sN ?_; refine eP 3 rfl sF ?_; refine eK 4 rfl (s_ld rfl ((RdPK.old0 hw.1).cel (j := 0) rfl rfl)) ?_; refine eP 5 rfl sM ?_; refine eP 6 rfl sM (eO 7 rfl ?_); refine o_call (plainO_fn ra rc re hre xa xc w hwl x ks hM ma mc f) rfl rfl rfl (by exact .nil) (fun _ st => ⟨(RdK.old0 hw.2.1).out _ st, (RdK.old0 hw.2.2.1).out _ st, (RdK.old0 hw.2.2.2).out _ st⟩) (fun v36 S36 ⟨S2, hs36, hB⟩ => ?_)
    obtain ⟨v1, v2, rfl⟩ : ∃ v1 v2, v36 = .tuple #[v1, v2] := by rcases hB with ⟨_, _, _, _, _, _, _, _, _, _, h, _⟩ | ⟨_, h, _⟩ <;> exact ⟨_, _, h⟩
    refine oX ?_; refine eP 8 rfl sE ?_; refine eP 9 rfl sE (eO 10 rfl (oA (oX (eO 11 rfl (oA (oX (eZ hK10 (c_ret ?_)))))))); refine x_block_ret (x_then_ret (?_))
    exact x_ret rfl (.tmp rfl (.tmp rfl (.nil))) (⟨S2, HSub.trans hzB hs36, hB⟩)
theorem find_re (bR : Nat) (ra : Option Addr) (rc : Nat) (re : List Nd) (hre : ∀ x ∈ re, -128 ≤ x.op ∧ x.op < 128) (xa : Option Addr) (xc : Nat) (w : List UInt8) (hwl : w.length ≤ 1000000) (x : Nd) (ks : F) (hM : May re w x ks) (ma : Option Addr) (mc : Nat) (f : Int) : HL.Fn Tryz.prog 14 [pt bR, .slice xa w.length xc, .int .i64 f] (fun W => RdP W bR 0 [.slice ra re.length rc, .iface 130 (.agg #[.slice ma (mach (.nd x ks .nil)).length mc]), .int .i64 ((gcn re : Nat) : Int)] ∧ Rd Ein W (.slice ma (mach (.nd x ks .nil)).length mc) (mach (.nd x ks .nil)) ∧ Rd En W (.slice ra re.length rc) re ∧ Rd Eb W (.slice xa w.length xc) w) [] (FindP 40 re w f) :=
  Fn.sub (findO_re bR ra rc re hre xa xc w hwl x ks hM ma mc f) fun v S' ⟨S2, h1, h2⟩ => ⟨S2, h1, h2⟩
end Go.Proofs.YtopmnmigpbdddaaGreatDoor
