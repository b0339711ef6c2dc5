/- Part of the proofs over this seat: see the text that holds the theorem. Conditions: each theorem bears its own. -/
import Derived.Test.YtopmnmigpbdddaaGreatDoorHTZ
import Derived.Test.YtopmnmigpbdddaaGreatDoorBT1Z
import Derived.Test.YtopmnmigpbdddaaGreatDoorZN1Z
import Derived.Test.YtopmnmigpbdddaaGreatDoorHMZ
import Derived.Test.YtopmnmigpbdddaaGreatDoorMT8Z
namespace Go.Proofs.YtopmnmigpbdddaaGreatDoor
open Go Go.HL Go.Proofs Go.HL.Kl Go.HL.Kl.Mc Go.HL.Kl.Mc.AskE
set_option maxHeartbeats 1000000 in
theorem kid_fn (K : AskE) (hK : K.ok) (x : Nd) (ks : F) (i i1 p q : Nat) (es : List Me) (c : Nat) (hp : Part K.re (.nd x ks .nil) i i1) (hpq : p ≤ q) (hq : q ≤ K.tx.length) (hes : MapOk K.tx K.re es) (m : Nat) (y : Nd) (js r : F) (hg : Part K.re (.nd y js r) m i1) (ihN : NodeK Tryz.prog K y js) (ihR : ∀ n, p ≤ n → n ≤ q → RestK Tryz.prog K ⟨i, (m + 1 + js.size : Nat), n, q⟩) (h4 : x.op = 4) : HL.Fn Tryz.prog 143 [pt K.bS, .agg (Ek (⟨i, m, p, q⟩ : Ky)).toArray] (fun W => Env W K [K.bM]) [(K.bM, mpO es c)] (KidP K (fun n => der1 K.tx y js p n ∧ der K.tx r false n q) p q) := by
  refine fn_of Tryz.func143 rfl rfl rfl fun w0 hw => ?_
  have hsl := hw.d1.sl
  have hst := hw.d2.sl
  have hse := hw.d3.sl
  have htl := hK.tx
  have hrl := hK.len
  obtain rfl : i1 = i + 1 + ks.size := by have := hp.len; simp only [F.size] at this; omega
  obtain ⟨hx, hpk, _⟩ := hp.head
  have hilt := (List.getElem?_eq_some_iff.1 hx).1
  have hxm := List.mem_of_getElem? hx
  have hox := hK.rng x hxm
  have hx8 := hK.no8 x hxm
  have hok : ndOk x = true := hp.wf.1
  have hop : 1 ≤ x.op ∧ x.op ≤ 8 := (flds_iff.1 (by simp only [ndOk, Bool.and_eq_true] at hok; exact hok.1)).1
  have hpkl := hpk.le
  have hei := hK.ends.2 i x ks .nil _ (Nat.zero_le _) hp
  have hell := hK.ends.1
  rw [hell] at hse
  have hgl := hg.len
  simp only [F.size] at hgl
  have hge := hK.ends.2 m y js r _ (Nat.zero_le _) hg
  obtain ⟨hy, hpy, hpt⟩ := hg.head
  have hmlt := (List.getElem?_eq_some_iff.1 hy).1
  have hle2 := hg.le
  refine cR fun _ hK1 => ?_; refine o_box rfl rfl rfl fun b3 => ?_; refine oA (oA (oZ hK1 (c_seq fun _ hK2 => ?_))); refine cR fun _ hK3 => ?_; refine oS sF ?_; refine oS (s_ld rfl ((.own meA rfl : Cel _ _ _ (.int .i64 (q : Int))))) ?_; refine oA (oZ hK3 (c_block ?_))
  refine c_loop3 (fun (n : Nat) (es2 : List Me) (c2 : Nat) => p ≤ n ∧ n ≤ q + 1 ∧ (∀ m2, n ≤ m2 → m2 ≤ q → ¬ (fun n => der1 K.tx y js p n ∧ der K.tx r false n q) m2) ∧ MapOk K.tx K.re es2) (fun (n : Nat) (es2 : List Me) (c2 : Nat) => [(6, .int .i64 ((n : Int) - 1))]) [(0, _), (3, _)] (fun (n : Nat) (es2 : List Me) (c2 : Nat) => (K.bM, mpO es2 c2) :: [(b3, .cells (Ek (⟨i, m, p, q⟩ : Ky)).toArray 184 (0, 0))]) (fun (n : Nat) (es2 : List Me) (c2 : Nat) => n) (q + 1) es c ⟨by omega, by omega, fun m2 h1 h2 => absurd h1 (by omega), hes⟩ (by exact Sub.cons' rfl (by congr 1; omega) sbA) sbA hzB ?_
  rintro n es2 c2 ⟨hn1, hn2, hno, hes2⟩
  refine c_seq fun _ hK4 => ?_; refine cR fun _ hK5 => ?_; refine oM ?_; refine oS sF ?_; refine oS (s_ld rfl ((.own meA rfl : Cel _ _ _ (.int .i64 (p : Int))))) ?_
  by_cases hnp : (n : Int) - 1 ≥ p
  ·obtain ⟨a, rfl⟩ : ∃ a, n = a + 1 := ⟨n - 1, by omega⟩
   refine oS geT (oZ hK5 ?_); refine cTZ hK4 (c_seq fun _ hK6 => ?_); refine c_block (c_seq fun _ hK7 => ?_); refine c_drawE ([(b3, .cells (Ek (⟨i, m, p, q⟩ : Ky)).toArray 184 (0, 0))]) (fun i => false) ?_; refine eK 0 rfl sM ?_; refine eK 1 rfl sN ?_; refine eK 2 rfl sF ?_; refine eK 3 rfl (s_ld rfl ((RdPK.old hw.p4 hw.n4).cel (j := 4) rfl rfl)) ?_; refine eK 4 rfl sF ?_; refine eK 5 rfl (s_ld rfl ((.own meA rfl : Cel _ _ _ (.int .i64 (m : Int))))) ?_; refine eK 6 rfl sF ?_; refine eK 7 rfl (s_ld rfl ((.own meA rfl : Cel _ _ _ (.int .i64 (p : Int))))) ?_; refine eK 8 rfl (step_cast (v' := .int .i64 (a : Int)) (s_move rfl) (congrArg (Value.int .i64) (by omega))) ?_; refine eO 9 rfl ?_; refine o_callC (us := []) (vs := [_, _, _]) (cs := [pt K.bRe, pt K.bTx, pt K.bA]) (ihN m _ p a es2 c2 hg.one (by omega) (by omega) hes2) rfl rfl rfl pkA (fun w st => hw.out st (fun _ h => h)) (fun v24 S24 ⟨es24, c24, hv24, hS24, hm24⟩ => ?_); subst hv24
   subst hS24
   cases hb24 : dQ (der1 K.tx y js p a)
   ·have hno2 : ¬ (der1 K.tx y js p a ∧ der K.tx r false a q) := fun h => by rw [dQ_t h.1] at hb24; cases hb24
    refine oX ?_; refine eK 10 rfl sM ?_; refine eS 11 rfl (eS 12 rfl (eS 13 rfl (eS 14 rfl (eS 15 rfl (eS 16 rfl (eS 17 rfl (eS 18 rfl (eS 19 rfl (eS 20 rfl (eS 21 rfl (eS 22 rfl (eS 23 rfl (eS 24 rfl (eS 25 rfl (eS 26 rfl (eS 27 rfl (eS 28 rfl (eO 29 rfl ?_)))))))))))))))))); refine oN (oX ?_); refine eK 30 rfl sP (eZ hK7 ?_); refine cF (c_skip (x_block (xZ hK6 (c_region (oM ?_))))); refine oS sU (oA (o_nil ?_)); exact x_then (x_inv (a, es24, c24) ⟨by omega, by omega, fun m2 h1 h2 => if e : m2 = a then by subst e; exact hno2 else hno m2 (by omega) h2, hm24⟩ (by first | omega | (dsimp only; omega)) (by exact Sub.cons' rfl (by congr 1; omega) sbA) hzB)
   ·refine oX ?_; refine eK 10 rfl sM ?_; refine eG 11 rfl sM ?_; refine eG 12 rfl sN ?_; refine eG 13 rfl sF ?_; refine eG 14 rfl (s_ld rfl ((RdPK.old hw.p4 hw.n4).cel (j := 5) rfl rfl)) ?_; refine eG 15 rfl sF ?_; refine eG 16 rfl (s_ld rfl ((.own meA rfl : Cel _ _ _ (.int .i64 (i : Int))))) ?_; refine eG 17 rfl sM ?_; refine eG 18 rfl sN ?_; refine eG 19 rfl sF ?_; refine eG 20 rfl (s_ld rfl ((RdPK.old hw.p4 hw.n4).cel (j := 1) rfl rfl)) ?_; refine eG 21 rfl sF ?_; refine eG 22 rfl (s_ld rfl ((.own meA rfl : Cel _ _ _ (.int .i64 (m : Int))))) ?_; refine eG 23 rfl (s_idx rfl rfl hse (by omega)) ?_; refine eG 24 rfl (s_ld rfl ((RdK.old hw.d3 hw.a3).ld m 0 hge rfl (by decide) (by omega))) ?_; refine eG 25 rfl (step_cast (v' := .int .i64 (a : Int)) (s_move rfl) (congrArg (Value.int .i64) (by omega))) ?_; refine eG 26 rfl sF ?_; refine eG 27 rfl (s_ld rfl ((.own meA rfl : Cel _ _ _ (.int .i64 (q : Int))))) ?_; refine eG 28 rfl (s_build (cs := [_, _, _, _]) (vs := [_, _, _, _]) rfl rfl (.cons rfl rfl rfl rfl rfl (.cons rfl rfl rfl rfl rfl (.cons rfl rfl rfl rfl rfl (.cons rfl rfl rfl rfl rfl (.nil)))))) ?_; refine eO 29 rfl ?_; refine oY ?_; refine o_callC (us := []) (vs := [_]) (cs := [pt K.bA]) (ihR a (by omega) (by omega) es24 c24 hm24) rfl rfl rfl pkA (fun w st => hw.out st (fun _ h => h)) (fun v44 S44 ⟨es44, c44, hv44, hS44, hm44⟩ => ?_); subst hv44
    subst hS44
    cases hb44 : dQ (Qry K.tx K.re ⟨i, (m + 1 + js.size : Nat), a, q⟩)
    ·have hno2 : ¬ (der1 K.tx y js p a ∧ der K.tx r false a q) := fun h => by rw [dQ_t ((Qry_cat hp h4 hpt).2 h.2)] at hb44; cases hb44
     refine oX ?_; refine eK 30 rfl sT (eZ hK7 ?_); refine cF (c_skip (x_block (xZ hK6 (c_region (oM ?_))))); refine oS sU (oA (o_nil ?_)); exact x_then (x_inv (a, es44, c44) ⟨by omega, by omega, fun m2 h1 h2 => if e : m2 = a then by subst e; exact hno2 else hno m2 (by omega) h2, hm44⟩ (by first | omega | (dsimp only; omega)) (by exact Sub.cons' rfl (by congr 1; omega) sbA) hzB)
    ·refine oX ?_; refine eK 30 rfl sT (eZ hK7 ?_); refine cT (cR fun _ hK8 => ?_); refine oS (step_cast (v' := .int .i64 (a : Int)) (s_move rfl) (congrArg (Value.int .i64) (by omega))) ?_; refine oA (oA (oZ hK8 (c_ret ?_))); refine x_block_ret (x_then_ret (x_then_ret (x_block_ret (x_then_ret (?_)))))
     refine x_sub (Sub.refl _) (H' := [(K.bM, mpO es44 c44)]) hzB ?_; exact x_ret rfl (.tmp rfl (.tmp rfl (.nil))) (⟨es44, c44, rfl, hm44, .inl ⟨a, ⟨by omega, by omega, ⟨dQ_iff.1 hb24, (Qry_cat hp h4 hpt).1 (dQ_iff.1 hb44)⟩, fun m2 h1 h2 => hno m2 (by omega) h2⟩, rfl⟩⟩)
  ·obtain rfl : n = p := by omega
   refine oS geF (oZ hK5 ?_); refine cF ?_; refine c_exit ?_; refine x_then_exit (x_then_exit (x_block_exit (xZ hK2 (cR fun _ hK9 => ?_)))); refine oA (oA (oZ hK9 (c_ret ?_))); refine ?_; refine x_sub (Sub.refl _) (H' := [(K.bM, mpO es2 c2)]) hzB ?_; exact x_ret rfl (.tmp rfl (.tmp rfl (.nil))) (⟨es2, c2, rfl, hes2, .inr ⟨fun m2 h1 h2 => hno m2 h1 h2, rfl⟩⟩)
set_option maxHeartbeats 2000000 in
theorem round_fn (K : AskE) (hK : K.ok) (x : Nd) (ks : F) (i i1 p q : Nat) (es : List Me) (c : Nat) (hp : Part K.re (.nd x ks .nil) i i1) (hpq : p ≤ q) (hq : q ≤ K.tx.length) (hes : MapOk K.tx K.re es) (r : Nat) (h6 : x.op = 6) (hrb : r ≤ 300) (hr : x.mx = -1 ∨ (r : Int) ≤ x.mx) (ihN : ∀ y js, ks = .nd y js .nil → NodeK Tryz.prog K y js) (ihR : ∀ n, p ≤ n → n ≤ q → (n ≠ p ∨ (r : Int) < x.mn ∨ r = 0) → (x.mx = -1 ∨ (r : Int) < x.mx) → RestK Tryz.prog K ⟨i, (nxtR x r : Nat), n, q⟩) : HL.Fn Tryz.prog 144 [pt K.bS, .agg (Ek (⟨i, r, p, q⟩ : Ky)).toArray] (fun W => Env W K [K.bM]) [(K.bM, mpO es c)] (KidP K (RQ x (der K.tx ks false) r p q) p q) := by
  refine fn_of Tryz.func144 rfl rfl rfl fun w0 hw => ?_
  have hsl := hw.d1.sl
  have hst := hw.d2.sl
  have hse := hw.d3.sl
  have htl := hK.tx
  have hrl := hK.len
  obtain rfl : i1 = i + 1 + ks.size := by have := hp.len; simp only [F.size] at this; omega
  obtain ⟨hx, hpk, _⟩ := hp.head
  have hilt := (List.getElem?_eq_some_iff.1 hx).1
  have hxm := List.mem_of_getElem? hx
  have hox := hK.rng x hxm
  have hx8 := hK.no8 x hxm
  have hok : ndOk x = true := hp.wf.1
  have hop : 1 ≤ x.op ∧ x.op ≤ 8 := (flds_iff.1 (by simp only [ndOk, Bool.and_eq_true] at hok; exact hok.1)).1
  have hpkl := hpk.le
  have hei := hK.ends.2 i x ks .nil _ (Nat.zero_le _) hp
  have hell := hK.ends.1
  rw [hell] at hse
  have hrg := rep_rng hok h6
  obtain ⟨y, js, hks⟩ := one_kid hp.wf (.inl h6)
  refine cR fun _ hK1 => ?_; refine o_box rfl rfl rfl fun b3 => ?_; refine oA (oA (oZ hK1 (c_seq fun _ hK2 => ?_))); refine c_drawE ([(b3, .cells (Ek (⟨i, r, p, q⟩ : Ky)).toArray 184 (0, 0))]) (fun i => false) ?_; refine eK 0 rfl sM ?_; refine eK 1 rfl sN ?_; refine eK 2 rfl sF ?_; refine eK 3 rfl (s_ld rfl ((RdPK.old hw.p4 hw.n4).cel (j := 0) rfl rfl)) ?_; refine eK 4 rfl sF ?_; refine eK 5 rfl (s_ld rfl ((.own meA rfl : Cel _ _ _ (.int .i64 (i : Int))))) ?_; refine eK 6 rfl (s_idx rfl rfl hsl (by omega)) ?_; refine eK 7 rfl (s_ldB rfl ((RdK.old hw.d1 hw.a1).lds i hx rfl) (by rfl)) ?_; refine eO 8 rfl ?_; refine o_alloc (l := En zN) (by rw [En_zero]; rfl) rfl fun b6 => ?_; refine oX (eO 9 rfl ?_); refine o_stW rfl rfl upA lnA lnA onA ?_; refine oX (eZ hK2 ?_); refine c_seqJ (ι := Unit) (fun g => x.mx = -1 ∨ (r : Int) < x.mx) (fun g => []) [(0, _), (3, _), (6, _)] (fun g => (b6, .cells (En x).toArray 108 (0, 0)) :: [(b3, .cells (Ek (⟨i, r, p, q⟩ : Ky)).toArray 184 (0, 0)), (K.bM, mpO es c)]) sbA ?_ ?_
  ·rintro _ hlt
   refine cR fun _ hK4 => ?_; refine oS sF ?_; refine oS (s_ld rfl ((.own meA rfl : Cel _ _ _ (.int .i64 (r : Int))))) ?_; refine oS sD (oA (oZ hK4 ?_)); refine c_seqJ (ι := Nat) (fun nx => nx = nxtR x r) (fun nx => [(7, .int .i64 nx)]) [(0, _), (3, _), (6, _)] (fun nx => (b6, .cells (En x).toArray 108 (0, 0)) :: [(b3, .cells (Ek (⟨i, r, p, q⟩ : Ky)).toArray 184 (0, 0)), (K.bM, mpO es c)]) sbA ?_ ?_
   ·rintro nx hnx
    refine c_seq fun _ hK6 => ?_; refine cR fun _ hK7 => ?_; refine oS sF ?_; refine oS (s_ld rfl ((.own meA rfl : Cel _ _ _ (.int .i64 (q : Int))))) ?_; refine oA (oZ hK7 (c_block ?_)); refine c_loop3 (fun (n : Nat) (es2 : List Me) (c2 : Nat) => p ≤ n ∧ n ≤ q + 1 ∧ (∀ m2, n ≤ m2 → m2 ≤ q → ¬ (RQ x (der K.tx ks false) r p q) m2) ∧ MapOk K.tx K.re es2) (fun (n : Nat) (es2 : List Me) (c2 : Nat) => [(8, .int .i64 ((n : Int) - 1))]) [(0, _), (3, _), (6, _), (7, _)] (fun (n : Nat) (es2 : List Me) (c2 : Nat) => (K.bM, mpO es2 c2) :: (b6, .cells (En x).toArray 108 (0, 0)) :: [(b3, .cells (Ek (⟨i, r, p, q⟩ : Ky)).toArray 184 (0, 0))]) (fun (n : Nat) (es2 : List Me) (c2 : Nat) => n) (q + 1) es c ⟨by omega, by omega, fun m2 h1 h2 => absurd h1 (by omega), hes⟩ (by exact Sub.cons' rfl (by congr 1; omega) sbA) sbA hzB ?_
    rintro n es2 c2 ⟨hn1, hn2, hno, hes2⟩
    refine c_seq fun _ hK8 => ?_; refine cR fun _ hK9 => ?_; refine oM ?_; refine oS sF ?_; refine oS (s_ld rfl ((.own meA rfl : Cel _ _ _ (.int .i64 (p : Int))))) ?_
    by_cases hnp : (n : Int) - 1 ≥ p
    ·obtain ⟨a, rfl⟩ : ∃ a, n = a + 1 := ⟨n - 1, by omega⟩
     refine oS geT (oZ hK9 ?_); refine cTZ hK8 (c_seq fun _ hK10 => ?_); refine c_block ?_; refine c_seqJ (ι := Unit) (fun g => a ≠ p ∨ (r : Int) < x.mn ∨ r = 0) (fun g => []) [(0, _), (3, _), (6, _), (7, _), (8, _), (40, _), (41, _), (42, _), (43, _)] (fun g => (K.bM, mpO es2 c2) :: (b6, .cells (En x).toArray 108 (0, 0)) :: [(b3, .cells (Ek (⟨i, r, p, q⟩ : Ky)).toArray 184 (0, 0))]) sbA ?_ ?_
     ·rintro _ hst
      refine c_seq fun _ hK12 => ?_; refine c_drawE ([(b6, .cells (En x).toArray 108 (0, 0)), (b3, .cells (Ek (⟨i, r, p, q⟩ : Ky)).toArray 184 (0, 0))]) (fun i => false) ?_; refine eK 0 rfl sM ?_; refine eK 1 rfl sN ?_; refine eK 2 rfl sF ?_; refine eK 3 rfl (s_ld rfl ((RdPK.old hw.p4 hw.n4).cel (j := 4) rfl rfl)) ?_; refine eK 4 rfl sF ?_; refine eK 5 rfl (s_ld rfl ((.own meA rfl : Cel _ _ _ (.int .i64 (i : Int))))) ?_; refine eK 6 rfl sD ?_; refine eK 7 rfl sF ?_; refine eK 8 rfl (s_ld rfl ((.own meA rfl : Cel _ _ _ (.int .i64 (p : Int))))) ?_; refine eK 9 rfl (step_cast (v' := .int .i64 (a : Int)) (s_move rfl) (congrArg (Value.int .i64) (by omega))) ?_; refine eO 10 rfl ?_; refine o_callC (us := []) (vs := [_, _, _]) (cs := [pt K.bRe, pt K.bTx, pt K.bA]) (ihN y js hks (i + 1) _ p a es2 c2 (hks ▸ hpk) (by omega) (by omega) hes2) rfl rfl rfl pkA (fun w st => hw.out st (fun _ h => h)) (fun v72 S72 ⟨es72, c72, hv72, hS72, hm72⟩ => ?_)
      subst hv72; subst hS72
      cases hb72 : dQ (der1 K.tx y js p a)
      ·have hno2 : ¬ (RQ x (der K.tx ks false) r p q) a := fun h => by have h3 := h.2.2.1; rw [hks, der_one] at h3; rw [dQ_t h3] at hb72; cases hb72
       refine oX ?_; refine eK 11 rfl sM ?_; refine eS 12 rfl (eS 13 rfl (eS 14 rfl (eS 15 rfl (eS 16 rfl (eS 17 rfl (eS 18 rfl (eS 19 rfl (eS 20 rfl (eS 21 rfl (eS 22 rfl (eO 23 rfl ?_))))))))))); refine oN (oX ?_); refine eK 24 rfl sP (eZ hK12 ?_); refine cF (c_skip (x_block (xZ hK10 (c_region (oM ?_))))); refine oS sU (oA (o_nil ?_)); exact x_then (x_inv (a, es72, c72) ⟨by omega, by omega, fun m2 h1 h2 => if e : m2 = a then by subst e; exact hno2 else hno m2 (by omega) h2, hm72⟩ (by first | omega | (dsimp only; omega)) (by exact Sub.cons' rfl (by congr 1; omega) sbA) hzB)
      ·refine oX ?_; refine eK 11 rfl sM ?_; refine eG 12 rfl sM ?_; refine eG 13 rfl sN ?_; refine eG 14 rfl sF ?_; refine eG 15 rfl (s_ld rfl ((RdPK.old hw.p4 hw.n4).cel (j := 5) rfl rfl)) ?_; refine eG 16 rfl sF ?_; refine eG 17 rfl (s_ld rfl ((.own meA rfl : Cel _ _ _ (.int .i64 (i : Int))))) ?_; refine eG 18 rfl sM ?_; refine eG 19 rfl (step_cast (v' := .int .i64 (a : Int)) (s_move rfl) (congrArg (Value.int .i64) (by omega))) ?_; refine eG 20 rfl sF ?_; refine eG 21 rfl (s_ld rfl ((.own meA rfl : Cel _ _ _ (.int .i64 (q : Int))))) ?_; refine eG 22 rfl (s_build (cs := [_, _, _, _]) (vs := [_, _, _, _]) rfl rfl (.cons rfl rfl rfl rfl rfl (.cons rfl rfl rfl rfl rfl (.cons rfl rfl rfl rfl rfl (.cons rfl rfl rfl rfl rfl (.nil)))))) ?_; refine eO 23 rfl ?_; refine oY ?_; subst hnx
       refine o_callC (us := []) (vs := [_]) (cs := [pt K.bA]) (ihR a (by omega) (by omega) (by omega) (by omega) es72 c72 hm72) rfl rfl rfl pkA (fun w st => hw.out st (fun _ h => h)) (fun v85 S85 ⟨es85, c85, hv85, hS85, hm85⟩ => ?_); subst hv85
       subst hS85
       cases hb85 : dQ (Qry K.tx K.re ⟨i, (nxtR x r : Nat), a, q⟩)
       ·have hno2 : ¬ (RQ x (der K.tx ks false) r p q) a := fun h => by rw [dQ_t ((Qry_rep hp h6).2 ((RR_nxt (by omega)).2 h.2.2.2))] at hb85; cases hb85
        refine oX ?_; refine eK 24 rfl sT (eZ hK12 ?_); refine cF (c_skip (x_block (xZ hK10 (c_region (oM ?_))))); refine oS sU (oA (o_nil ?_)); exact x_then (x_inv (a, es85, c85) ⟨by omega, by omega, fun m2 h1 h2 => if e : m2 = a then by subst e; exact hno2 else hno m2 (by omega) h2, hm85⟩ (by first | omega | (dsimp only; omega)) (by exact Sub.cons' rfl (by congr 1; omega) sbA) hzB)
       ·refine oX ?_; refine eK 24 rfl sT (eZ hK12 ?_); refine cT (cR fun _ hK13 => ?_); refine oS (step_cast (v' := .int .i64 (a : Int)) (s_move rfl) (congrArg (Value.int .i64) (by omega))) ?_; refine oA (oA (oZ hK13 (c_ret ?_))); refine x_block_ret (x_then_ret (x_then_ret (x_block_ret (x_then_ret (?_)))))
        refine x_sub (Sub.refl _) (H' := [(K.bM, mpO es85 c85)]) hzB ?_; exact x_ret rfl (.tmp rfl (.tmp rfl (.nil))) (⟨es85, c85, rfl, hm85, .inl ⟨a, ⟨by omega, by omega, ⟨hlt, hst, by rw [hks, der_one]; exact dQ_iff.1 hb72, (RR_nxt (by omega)).1 ((Qry_rep hp h6).1 (dQ_iff.1 hb85))⟩, fun m2 h1 h2 => hno m2 (by omega) h2⟩, rfl⟩⟩)
     ·intro _ hJ11
      refine cR fun _ hK14 => ?_; refine oS (step_cast (v' := .int .i64 (a : Int)) (s_move rfl) (congrArg (Value.int .i64) (by omega))) ?_; refine oS sF ?_; refine oS (s_ld rfl ((.own meA rfl : Cel _ _ _ (.int .i64 (p : Int))))) ?_
      by_cases hap : (a : Int) = p
      ·refine oS eqT (oM ?_); refine oY ?_; refine oS sF ?_; refine oY ?_; refine oS (s_ld rfl ((.own meA rfl : Cel _ _ _ (.int .i64 (r : Int))))) ?_; refine oY ?_; refine oS sF ?_; refine oY ?_; refine oS sL ?_; refine oY ?_
       by_cases hge : (r : Int) ≥ x.mn
       ·refine oS geT ?_; refine oS sT (oM ?_); refine oY ?_; refine oS sF ?_; refine oY ?_; refine oS (s_ld rfl ((.own meA rfl : Cel _ _ _ (.int .i64 (r : Int))))) ?_; refine oY ?_
        by_cases hr0 : (r : Int) > 0
        ·refine oS gtT ?_; refine oS sT (oZ hK14 ?_); refine cT ?_; refine c_exit ?_; refine x_then_exit ?_; refine x_block_pass rfl ?_; refine x_then_exit (x_then_exit (x_block_exit (xZ hK6 (cR fun _ hK15 => ?_)))); refine oA (oA (oZ hK15 (c_ret ?_))); refine ?_; refine x_sub (Sub.refl _) (H' := [(K.bM, mpO es2 c2)]) hzB ?_; exact x_ret rfl (.tmp rfl (.tmp rfl (.nil))) (⟨es2, c2, rfl, hes2, .inr ⟨fun m2 h1 h2 h => if e : m2 = a then by have := h.2.1; omega else hno m2 (by omega) h2 h, rfl⟩⟩)
        ·refine oS gtF ?_; refine oS sT (oZ hK14 ?_); refine cF (c_skip ?_); exact x_then (hJ11 () _ _ (by omega) sbA sbA hzB)
       ·refine oS geF ?_; refine oS sT (oM ?_); refine oN ?_; refine oN ?_; refine oN ?_; refine oS sP (oZ hK14 ?_); refine cF (c_skip ?_); exact x_then (hJ11 () _ _ (by omega) sbA sbA hzB)
      ·refine oS eqF (oM ?_); refine oN ?_; refine oN ?_; refine oN ?_; refine oN ?_; refine oN ?_; refine oS sP (oM ?_); refine oN ?_; refine oN ?_; refine oN ?_; refine oS sP (oZ hK14 ?_); refine cF (c_skip ?_); exact x_then (hJ11 () _ _ (by omega) sbA sbA hzB)
    ·obtain rfl : n = p := by omega
     refine oS geF (oZ hK9 ?_); refine cF ?_; refine c_exit ?_; refine x_then_exit (x_then_exit (x_block_exit (xZ hK6 (cR fun _ hK16 => ?_)))); refine oA (oA (oZ hK16 (c_ret ?_))); refine ?_; refine x_sub (Sub.refl _) (H' := [(K.bM, mpO es2 c2)]) hzB ?_; exact x_ret rfl (.tmp rfl (.tmp rfl (.nil))) (⟨es2, c2, rfl, hes2, .inr ⟨fun m2 h1 h2 => hno m2 h1 h2, rfl⟩⟩)
   ·intro _ hJ5
    refine cR fun _ hK17 => ?_; refine oS sF ?_; refine oS sL ?_
    by_cases hml : x.mx < 0
    ·refine oS lsT (oZ hK17 ?_); refine cT (c_region (oM ?_)); refine oS sF ?_; refine oS sL ?_; refine oS (s_max rfl rfl) ?_; refine oS (step_cast (v' := .int .i64 (nxtR x r : Nat)) (s_min rfl rfl) (congrArg (Value.int .i64) (by rw [nxtR, if_pos hml]; omega))) ?_; refine oA (o_nil ?_); exact x_then (hJ5 (nxtR x r) _ _ rfl sbA sbA hzB)
    ·refine oS lsF (oZ hK17 ?_); refine cF (c_skip ?_); exact x_then (hJ5 (r + 1) _ _ (by rw [nxtR, if_neg (by omega)]) sbA sbA hzB)
  ·intro _ hJ3
   refine cR fun _ hK18 => ?_; refine oS sF ?_; refine oS sL ?_
   by_cases hm0 : x.mx ≥ 0
   ·refine oS geT (oM ?_); refine oY ?_; refine oS sF ?_; refine oY ?_; refine oS (s_ld rfl ((.own meA rfl : Cel _ _ _ (.int .i64 (r : Int))))) ?_; refine oY ?_; refine oS sF ?_; refine oY ?_; refine oS sL ?_; refine oY ?_
    by_cases hrm : (r : Int) = x.mx
    ·refine oS eqT ?_; refine oS sT (oZ hK18 ?_); refine cT (cR fun _ hK19 => ?_); refine oA (oA (oZ hK19 (c_ret ?_))); refine x_then_ret (?_); refine x_sub (Sub.refl _) (H' := [(K.bM, mpO es c)]) hzB ?_; exact x_ret rfl (.tmp rfl (.tmp rfl (.nil))) (⟨es, c, rfl, hes, .inr ⟨fun m2 h1 h2 h => by have := h.1; omega, rfl⟩⟩)
    ·refine oS eqF ?_; refine oS sT (oZ hK18 ?_); refine cF (c_skip ?_); exact x_then (hJ3 () _ _ (by omega) sbA sbA hzB)
   ·refine oS geF (oM ?_); refine oN ?_; refine oN ?_; refine oN ?_; refine oN ?_; refine oN ?_; refine oS sP (oZ hK18 ?_); refine cF (c_skip ?_); exact x_then (hJ3 () _ _ (by omega) sbA sbA hzB)
theorem rest_of {K : AskE} (hr : K.rF = 125) {k : Ky} (hF : FindK Tryz.prog K 126 k) : RestK Tryz.prog K k := fun es c hes => by
  rw [hr]; exact rest_clo K k es c hes hF
theorem cat_all {K : AskE} (hK : K.ok) (hr : K.rF = 125) {x : Nd} {ks : F} {i i1 : Nat} (hp : Part K.re (.nd x ks .nil) i i1) (h4 : x.op = 4) (ih : ∀ y js, js.size < ks.size → NodeK Tryz.prog K y js) :
    ∀ (g : F) (m : Nat), Part K.re g m i1 → g.size ≤ ks.size → ∀ p q, p ≤ q → q ≤ K.tx.length → RestK Tryz.prog K ⟨i, m, p, q⟩
  | .nil, m, hg, hs, p, q, hpq, hq => rest_of hr fun es c hes => find_cat K hK x ks i i1 p q es c hp hpq hq hes m .nil hg h4 fun y js r h => by cases h
  | .nd y js r, m, hg, hs, p, q, hpq, hq => rest_of hr fun es c hes => find_cat K hK x ks i i1 p q es c hp hpq hq hes m (.nd y js r) hg h4 fun y' js' r' h => by
    cases h
    simp only [F.size] at hs
    intro es c hes
    exact kid_fn K hK x ks i i1 p q es c hp hpq hq hes m y js r hg (ih y js (by omega)) (fun n h1 h2 => by
      have := cat_all hK hr hp h4 ih r (m + 1 + js.size) hg.head.2.2 (by omega) n q h2 hq
      exact this) h4
theorem rep_all {K : AskE} (hK : K.ok) (hr : K.rF = 125) {x : Nd} {ks : F} {i i1 : Nat} (hp : Part K.re (.nd x ks .nil) i i1) (h6 : x.op = 6) (ih : ∀ y js, js.size < ks.size → NodeK Tryz.prog K y js) (c : Nat) (hc : c = max x.mn.toNat 1) :
    ∀ (M r p q : Nat), (q - p) * (c + 1) + (c - r) < M → p ≤ q → q ≤ K.tx.length → (x.mx = -1 ∧ r ≤ c) ∨ (0 ≤ x.mx ∧ (r : Int) ≤ x.mx) → RestK Tryz.prog K ⟨i, r, p, q⟩ := by
  have hok : ndOk x = true := hp.wf.1
  have hrg := rep_rng hok h6
  intro M
  induction M with
  | zero => intro r p q h; omega
  | succ M ihM =>
    intro r p q hM hpq hq hv
    refine rest_of hr fun es c' hes => find_rep K hK x ks i i1 p q es c' hp hpq hq hes r h6 (by omega) fun es c' hes => ?_; refine round_fn K hK x ks i i1 p q es c' hp hpq hq hes r h6 (by omega) (by omega) (fun y js h => ih y js (by rw [h]; simp only [F.size]; omega)) fun n h1 h2 h3 h4 => ?_
    have hnx : (x.mx = -1 ∧ nxtR x r = min (r + 1) c) ∨ (0 ≤ x.mx ∧ nxtR x r = r + 1) := by
      unfold nxtR
      by_cases h : x.mx < 0
      · rw [if_pos h, hc]; exact .inl ⟨by omega, rfl⟩
      · rw [if_neg h]; exact .inr ⟨by omega, rfl⟩
    refine ihM (nxtR x r) n q ?_ h2 hq (by omega)
    by_cases e : n = p
    · subst e; omega
    · have h5 : (q - n + 1) * (c + 1) ≤ (q - p) * (c + 1) := Nat.mul_le_mul_right _ (by omega)
      rw [Nat.add_mul, Nat.one_mul] at h5
      omega
theorem node_all {K : AskE} (hK : K.ok) (hn : K.nF = 124) (hr : K.rF = 125) : ∀ (n : Nat) (x : Nd) (ks : F), ks.size < n → NodeK Tryz.prog K x ks := by
  intro n
  induction n with
  | zero => intro x ks h; omega
  | succ n ihn =>
    intro x ks hs i i1 p q es c hp hpq hq hes
    have ih : ∀ y js, js.size < ks.size → NodeK Tryz.prog K y js := fun y js h => ihn y js (by omega)
    rw [hn]
    refine node_clo K hK x ks i i1 p q es c hp hpq hq hes (fun _ y js h => ih y js (by rw [h]; simp only [F.size]; omega)) (fun h4 => ?_) (fun h5 => ?_) (fun h6 => ?_)
    · have h1 := hp.head.2.1
      have hl := hp.len
      simp only [F.size] at hl
      exact cat_all hK hr hp h4 ih ks (i + 1) (by rw [hl]; simpa [Nat.add_assoc, Nat.add_comm] using h1) (Nat.le_refl _) p q hpq hq
    · exact rest_of hr fun es c hes => find_alt K hK x ks i i1 p q es c hp hpq hq hes h5 ih
    · have hrg := rep_rng hp.wf.1 h6
      exact rep_all hK hr hp h6 ih _ rfl _ 0 p q (Nat.lt_succ_self _) hpq hq (by omega)
end Go.Proofs.YtopmnmigpbdddaaGreatDoor
namespace Go.Proofs.YtopmnmigpbdddaaGreatDoor
open Go Go.HL Go.Proofs Go.HL.Kl Go.HL.Kl.Mc
set_option maxHeartbeats 2000000 in
theorem node_step (f : Nat) (ih : ∀ f1, f = f1 + 1 → NodeC Tryz.prog 112 172 f1) (bx : Nat) (ra : Option Addr) (rc : Nat) (re : List Nd) (i wi gr : Nat) (ea : Option Addr) (ec : Nat) (en : List Bool) (Se : Hp) (hre : ∀ x ∈ re, -128 ≤ x.op ∧ x.op < 128) (hwi : wi + f = 260) (hi : i ≤ re.length) (hel : en.length ≤ 255) (hg : gr ≤ 64) (hO : OwnS Ebo 1 4 (.slice ea en.length ec) en Se) : HL.Fn Tryz.prog 112 [.pointer (some ⟨bx, 0, none⟩), .int .i64 wi, .int .i64 gr] (fun w => Rd En w (.slice ra re.length rc) re ∧ Apart (keys ((bx, .cells [.slice ra re.length rc, .int .i64 i, .slice ea en.length ec].toArray 172 (0, 0)) :: Se)) (.slice ra re.length rc)) ((bx, .cells [.slice ra re.length rc, .int .i64 i, .slice ea en.length ec].toArray 172 (0, 0)) :: Se) (NodeP 172 bx ra rc re (shN re f i en gr)) := by
  refine fn_of Tryz.func112 rfl rfl rfl fun w0 hw => ?_
  have hsl := hw.1.sl
  have hbl := hsl.le
  have hOs := hO.sl
  refine cR fun _ hK1 => ?_; refine oA (oZ hK1 (c_seq fun _ hK2 => ?_)); refine c_seq fun _ hK3 => ?_; refine c_drawE ((bx, .cells [.slice ra re.length rc, .int .i64 i, .slice ea en.length ec].toArray 172 (0, 0)) :: Se) (fun i => false) ?_; refine eK 0 rfl sM ?_; refine eK 1 rfl sN ?_; refine eK 2 rfl sF ?_; refine eK 3 rfl sL ?_; refine eK 4 rfl sM ?_; refine eK 5 rfl sN ?_; refine eK 6 rfl sF ?_; refine eK 7 rfl sL ?_; refine eK 8 rfl sC ?_
  by_cases hend : i = re.length
  ·have hN : shN re f i en gr = none := shN_end (by omega)
   refine eK 9 rfl eqT ?_; refine eK 10 rfl sM ?_; refine eS 11 rfl (eS 12 rfl ?_); refine eK 13 rfl sT ?_; refine eK 14 rfl sM ?_; refine eS 15 rfl (eS 16 rfl (eS 17 rfl (eS 18 rfl (eS 19 rfl (eS 20 rfl (eS 21 rfl (eS 22 rfl (eS 23 rfl (eS 24 rfl (eO 25 rfl ?_)))))))))); refine oN (oX ?_); refine eS 26 rfl ?_; refine eK 27 rfl sT (eZ hK3 ?_); refine cT (cR fun _ hK4 => ?_); refine oA (oZ hK4 ?_)
   refine c_ret ?_; refine x_then_ret (?_); exact xR rfl rfl ((by rw [hN]; rfl))
  ·refine eK 9 rfl eqF ?_; refine eK 10 rfl sM ?_; refine eG 11 rfl sM ?_
   by_cases hf : (wi : Int) > 259
   ·obtain rfl : f = 0 := by omega
    have hN : shN re 0 i en gr = none := rfl
    refine eG 12 rfl gtT ?_; refine eK 13 rfl sP ?_; refine eK 14 rfl sM ?_; refine eS 15 rfl (eS 16 rfl (eS 17 rfl (eS 18 rfl (eS 19 rfl (eS 20 rfl (eS 21 rfl (eS 22 rfl (eS 23 rfl (eS 24 rfl (eO 25 rfl ?_)))))))))); refine oN (oX ?_); refine eS 26 rfl ?_; refine eK 27 rfl sT (eZ hK3 ?_); refine cT (cR fun _ hK5 => ?_); refine oA (oZ hK5 (c_ret ?_)); refine x_then_ret (?_); exact xR rfl rfl ((by rw [hN]; rfl))
   ·obtain ⟨f1, rfl⟩ : ∃ f1, f = f1 + 1 := ⟨f - 1, by omega⟩
    obtain ⟨x, hx⟩ : ∃ x, re[i]? = some x := ⟨_, List.getElem?_eq_getElem (show i < re.length by omega)⟩
    refine eG 12 rfl gtF ?_; refine eK 13 rfl sP ?_; refine eK 14 rfl sM ?_; refine eG 15 rfl sM ?_; refine eG 16 rfl sN ?_; refine eG 17 rfl sF ?_; refine eG 18 rfl sL ?_; refine eG 19 rfl sM ?_; refine eG 20 rfl sN ?_; refine eG 21 rfl sF ?_; refine eG 22 rfl sL ?_; refine eG 23 rfl (s_idx rfl rfl hsl (by omega)) ?_; refine eG 24 rfl (s_ldB rfl ((RdK.old hw.1 hw.2).lds i hx rfl) (by rfl)) ?_; refine eO 25 rfl ?_; refine oY ?_; refine o_callP (ndOk_fn x) rfl rfl rfl (fun _ _ => trivial) (fun v33 hv33 => ?_); subst hv33
    cases hok : ndOk x
    ·have hN : shN re (f1 + 1) i en gr = none := shN_bad hx hok
     refine oX ?_; refine eG 26 rfl (s_not rfl) ?_; refine eK 27 rfl sP (eZ hK3 ?_); refine cT (cR fun _ hK6 => ?_); refine oA (oZ hK6 (c_ret ?_)); refine x_then_ret (?_); exact xR rfl rfl ((by rw [hN]; rfl))
    ·have hk0 := ndOk_kids hok
     refine oX ?_; refine eG 26 rfl (s_not rfl) ?_; refine eK 27 rfl sP (eZ hK3 ?_); refine cFZ hK2 (c_seq fun _ hK7 => ?_); refine c_drawE ((bx, .cells [.slice ra re.length rc, .int .i64 i, .slice ea en.length ec].toArray 172 (0, 0)) :: Se) (fun i => Nat.beq i 11) ?_; refine eK 0 rfl sM ?_; refine eK 1 rfl sN ?_; refine eK 2 rfl sF ?_; refine eK 3 rfl sL ?_; refine eK 4 rfl sM ?_; refine eK 5 rfl sN ?_; refine eK 6 rfl sF ?_; refine eK 7 rfl sL ?_; refine eK 8 rfl (s_idx rfl rfl hsl (by omega)) ?_; refine eK 9 rfl (s_ldB rfl ((RdK.old hw.1 hw.2).lds i hx rfl) (by rfl)) ?_; refine eO 10 rfl ?_; refine o_alloc (l := En zN) (by rw [En_zero]; rfl) rfl fun b7 => ?_; refine oX (eO 11 rfl ?_); refine o_stW rfl rfl upA lnA lnA onA ?_; refine o_nil ?_; refine x_oneL rfl ?_; refine eZ hK7 (cR fun _ hK8 => ?_); refine oM ?_; refine oS sN ?_; refine oS sF ?_; refine oS sL ?_; refine oS sD ?_; refine oS sN ?_; refine oS sF ?_; refine o_store rfl rfl rfl upA ltA rfl ?_
     dsimp only [List.set]
     refine oZ hK8 ?_; refine c_seqJ (ι := (List Bool × Nat × Option Addr × Nat × Hp)) (fun g => gate x en gr = some (g.1, g.2.1) ∧ OwnS Ebo 1 4 (.slice g.2.2.1 g.1.length g.2.2.2.1) g.1 g.2.2.2.2) (fun g => [(2, .int .i64 g.2.1)]) [(0, _), (1, _), (7, _)] (fun g => (bx, .cells [.slice ra re.length rc, .int .i64 (i + 1 : Nat), .slice g.2.2.1 g.1.length g.2.2.2.1].toArray 172 (0, 0)) :: (b7, .cells (En x).toArray 108 (0, 0)) :: g.2.2.2.2) sbA ?_ ?_
     ·rintro ⟨en1, g1, ea1, ec1, Se1⟩ ⟨hgt, hO1⟩
      dsimp only at hgt hO1
      dsimp only
      have hgl := gate_len hgt hel hg
      refine c_seq fun _ hK10 => ?_; refine cR fun _ hK11 => ?_; refine oS sF ?_; refine oS sL (oM (oZ hK11 (c_block ?_))); refine c_loop6 (fun (k : Nat) (i2 : Nat) (en2 : List Bool) (ea2 : Option Addr) (ec2 : Nat) (Se2 : Hp) => (k : Int) ≤ x.kids ∧ kidsN (fun i en => shN re f1 i en g1) k (i + 1) en1 = some (i2, en2) ∧ i + 1 + k ≤ i2 ∧ i2 ≤ re.length ∧ en2.length ≤ 255 ∧ en1.length ≤ en2.length ∧ OwnS Ebo 1 4 (.slice ea2 en2.length ec2) en2 Se2) (fun (k : Nat) (i2 : Nat) (en2 : List Bool) (ea2 : Option Addr) (ec2 : Nat) (Se2 : Hp) => [(114, .int .i64 k)]) [(0, _), (1, _), (2, _), (7, _), (113, _)] (fun (k : Nat) (i2 : Nat) (en2 : List Bool) (ea2 : Option Addr) (ec2 : Nat) (Se2 : Hp) => (bx, .cells [.slice ra re.length rc, .int .i64 i2, .slice ea2 en2.length ec2].toArray 172 (0, 0)) :: (b7, .cells (En x).toArray 108 (0, 0)) :: Se2) (fun (k : Nat) (i2 : Nat) (en2 : List Bool) (ea2 : Option Addr) (ec2 : Nat) (Se2 : Hp) => x.kids.toNat - k) 0 (i + 1) en1 ea1 ec1 Se1 ⟨by omega, rfl, by omega, by omega, hgl.2.1, Nat.le_refl _, hO1⟩ sbA sbA hzB ?_
      rintro k i2 en2 ea2 ec2 Se2 ⟨hk, hkn, hki, hi2, hel2, hel3, hO2⟩
      refine cR fun _ hK12 => ?_
      by_cases hkl : (k : Int) < x.kids
      ·refine oS lsT (oZ hK12 (c_seq fun _ hK13 => ?_)); refine cTZ hK13 (c_seq fun _ hK14 => ?_); refine c_block (cR fun _ hK15 => ?_); refine oM (oM ?_); refine oS sD (oM ?_); refine o_call (ih f1 rfl bx ra rc re i2 (wi + 1) g1 ea2 ec2 en2 Se2 hre (by omega) hi2 hel2 hgl.2.2.1 hO2) rfl rfl rfl ((Pick.takeC pkA pkA)) (fun w st => ⟨(RdK.old hw.1 hw.2).out w st, St.apart_M st (by exact hin_node) hw.1 hw.2 (by decide)⟩) (fun v120 S120 hv120 => ?_)
       rcases hst : shN re f1 i2 en2 g1 with _ | ⟨i3, en3⟩
       ·obtain rfl : v120 = .bool false := by rw [hst] at hv120; exact hv120
        have hN : shN re (f1 + 1) i en gr = none := shN_kids hx hgt (kidsN_none (kidsN_snoc hkn hst) (by omega))
        refine oS (s_not rfl) ?_; refine oZ hK15 ?_; refine cT (cR fun _ hK16 => ?_); refine oA (oZ hK16 (c_ret ?_)); refine x_block_ret (x_then_ret (x_then_ret (x_block_ret (x_then_ret (?_)))))
        exact xR rfl rfl ((by rw [hN]; rfl))
       ·obtain ⟨hu120, ea3, ec3, Se3, rfl, hO3⟩ : v120 = .bool true ∧ ∃ ea3 ec3 Se3, S120 = LookB 172 bx ra rc re i3 ea3 ec3 en3 :: Se3 ∧ OwnS Ebo 1 4 (.slice ea3 en3.length ec3) en3 Se3 := by rw [hst] at hv120; exact hv120
        subst hu120
        unfold LookB
        refine oS (s_not rfl) ?_; refine oZ hK15 ?_; refine cF (c_skip (x_block (xZ hK14 (c_region ?_)))); refine oS sD (oM (o_nil ?_)); exact xI (k + 1, i3, en3, ea3, ec3, Se3) ⟨by omega, kidsN_snoc hkn hst, by have := shN_lt hst; dsimp only; omega, shN_le hst, (shN_len hel2 hgl.2.2.1 hst).2, by have := (shN_len hel2 hgl.2.2.1 hst).1; dsimp only; omega, hO3⟩
      ·obtain rfl : k = x.kids.toNat := by omega
       have hN := shN_some hx hok hgt hkn
       have hO2s := hO2.sl
       refine oS lsF (oZ hK12 (c_seq fun _ hK17 => ?_)); refine cF ?_; refine c_exit ?_; refine x_then_exit (x_then_exit (x_block_exit (xZ hK10 (c_seq fun _ hK18 => ?_)))); refine cR fun _ hK19 => ?_; refine oS sF ?_; refine oS sL ?_
       by_cases k7 : x.op = 7
       ·have hg7 := hgl.2.2.2 k7
        refine oS (eqT (h := k7)) ?_; refine oZ hK19 ?_; refine cT ?_; refine c_drawE ((bx, .cells [.slice ra re.length rc, .int .i64 i2, .slice ea2 en2.length ec2].toArray 172 (0, 0)) :: (b7, .cells (En x).toArray 108 (0, 0)) :: Se2) (fun i => Nat.beq i 8) ?_; refine eK 0 rfl sM ?_; refine eK 1 rfl sN ?_; refine eK 2 rfl sF ?_; refine eK 3 rfl sL ?_; refine eK 4 rfl sF ?_; refine eK 5 rfl sL ?_; refine eK 6 rfl sU ?_; refine eK 7 rfl (s_idx rfl rfl hO2s (by omega)) ?_; refine eO 8 rfl ?_; refine o_stS1 (x.n.toNat - 1) true hO2 pkA rfl rfl rfl (by omega) (by omega) fun S' hS' => ?_; refine o_nil ?_; refine x_oneL rfl ?_; refine eZ hK18 (cR fun _ hK20 => ?_); refine oA (oZ hK20 (c_ret ?_)); refine ?_; refine x_sub (Sub.refl _) (H' := (bx, .cells [.slice ra re.length rc, .int .i64 i2, .slice ea2 en2.length ec2].toArray 172 (0, 0)) :: S') hzB ?_; exact xR rfl rfl ((by rw [hN, if_pos k7]; exact ⟨rfl, ea2, ec2, S', by unfold LookB; rw [List.length_set], by rw [List.length_set]; exact hS'⟩))
       ·refine oS (eqF (h := k7)) ?_; refine oZ hK19 ?_; refine cFZ hK18 (cR fun _ hK21 => ?_); refine oA (oZ hK21 (c_ret ?_)); refine ?_; refine x_sub (Sub.refl _) (H' := (bx, .cells [.slice ra re.length rc, .int .i64 i2, .slice ea2 en2.length ec2].toArray 172 (0, 0)) :: Se2) hzB ?_; exact xR rfl rfl ((by rw [hN, if_neg k7]; exact ⟨rfl, _, _, _, rfl, hO2⟩))
     ·intro _ hJ9
      refine cR fun _ hK22 => ?_; refine oS sF ?_; refine oS sL (oZ hK22 (c_block (cR fun _ hK23 => ?_)))
      by_cases h8 : x.op = 8
      ·refine oS (eqT (h := h8)) ?_; refine oA (oZ hK23 ?_); refine cT (c_seq fun _ hK24 => ?_); refine c_drawE ((bx, .cells [.slice ra re.length rc, .int .i64 (i + 1 : Nat), .slice ea en.length ec].toArray 172 (0, 0)) :: (b7, .cells (En x).toArray 108 (0, 0)) :: Se) (fun i => false) ?_; refine eK 0 rfl sF ?_; refine eK 1 rfl sL ?_
       by_cases hn1 : x.n < 1
       ·have hN : shN re (f1 + 1) i en gr = none := shN_gate hx (gate_no8 h8 (by omega))
        refine eK 2 rfl lsT ?_; refine eK 3 rfl sM ?_; refine eS 4 rfl (eS 5 rfl (eS 6 rfl (eS 7 rfl (eS 8 rfl (eS 9 rfl (eS 10 rfl (eS 11 rfl ?_))))))); refine eK 12 rfl sT ?_; refine eK 13 rfl sM ?_; refine eS 14 rfl (eS 15 rfl (eS 16 rfl (eS 17 rfl (eS 18 rfl (eS 19 rfl (eS 20 rfl (eS 21 rfl (eS 22 rfl (eS 23 rfl ?_))))))))); refine eK 24 rfl sT (eZ hK24 ?_); refine cT (cR fun _ hK25 => ?_); refine oA (oZ hK25 ?_)
        refine c_ret ?_; refine x_block_ret (x_then_ret (?_))
        exact xR rfl rfl ((by rw [hN]; rfl))
       ·refine eK 2 rfl lsF ?_; refine eK 3 rfl sM ?_; refine eG 4 rfl sF ?_; refine eG 5 rfl sL ?_; refine eG 6 rfl sM ?_; refine eG 7 rfl sN ?_; refine eG 8 rfl sF ?_; refine eG 9 rfl sL ?_; refine eG 10 rfl sC ?_
        by_cases hn2 : x.n > en.length
        ·have hN : shN re (f1 + 1) i en gr = none := shN_gate hx (gate_no8 h8 (by omega))
         refine eG 11 rfl gtT ?_; refine eK 12 rfl sP ?_; refine eK 13 rfl sM ?_; refine eS 14 rfl (eS 15 rfl (eS 16 rfl (eS 17 rfl (eS 18 rfl (eS 19 rfl (eS 20 rfl (eS 21 rfl (eS 22 rfl (eS 23 rfl ?_))))))))); refine eK 24 rfl sT (eZ hK24 ?_); refine cT (cR fun _ hK26 => ?_); refine oA (oZ hK26 (c_ret ?_)); refine x_block_ret (x_then_ret (?_))
         exact xR rfl rfl ((by rw [hN]; rfl))
        ·refine eG 11 rfl gtF ?_; refine eK 12 rfl sP ?_; refine eK 13 rfl sM ?_; refine eG 14 rfl sM ?_; refine eG 15 rfl sN ?_; refine eG 16 rfl sF ?_; refine eG 17 rfl sL ?_; refine eG 18 rfl sF ?_; refine eG 19 rfl sL ?_; refine eG 20 rfl sU ?_; refine eG 21 rfl (s_idx rfl rfl hOs (by omega)) ?_
         by_cases hb : en[x.n.toNat - 1]? = some true
         ·refine eG 22 rfl (s_ld rfl ((hO.rdk hiA).ld (x.n.toNat - 1) 0 hb rfl (by decide) (by omega))) ?_; refine eG 23 rfl (s_not rfl) ?_; refine eK 24 rfl sP (eZ hK24 ?_); refine cF (c_skip (x_block ?_)); exact x_then (hJ9 (en, gr, ea, ec, Se) _ _ ⟨gate_ref h8 (by omega) (by omega) hb, hO⟩ sbA sbA hzB)
         ·have hN : shN re (f1 + 1) i en gr = none := shN_gate hx (gate_no8 h8 (fun h => hb h.2.2))
          have hb2 := get_false hb (by omega)
          refine eG 22 rfl (s_ld rfl ((hO.rdk hiA).ld (x.n.toNat - 1) 0 hb2 rfl (by decide) (by omega))) ?_; refine eG 23 rfl (s_not rfl) ?_; refine eK 24 rfl sP (eZ hK24 ?_); refine cT (cR fun _ hK27 => ?_); refine oA (oZ hK27 (c_ret ?_)); refine x_block_ret (x_then_ret (?_))
          exact xR rfl rfl ((by rw [hN]; rfl))
      ·refine oS (eqF (h := h8)) ?_; refine oA (oZ hK23 ?_); refine cF (cR fun _ hK28 => ?_)
       by_cases h7 : x.op = 7
       ·refine oS (eqT (h := h7)) ?_; refine oA (oZ hK28 ?_); refine cT (cR fun _ hK29 => ?_); refine oM (oM ?_); refine oS sN ?_; refine oS sF ?_; refine oS sL ?_; refine o_bs (E := Ebo) (xs := [false]) (vs := [_]) rfl rfl rfl rfl rfl (by decide) (by decide) fun b89 S89 hS89 => ?_; refine o_app hO (hS89.rdk hiA) rfl rfl rfl rfl (by simp only [List.length_singleton]; omega) (by simp only [List.length_singleton]; omega) rfl pkA fun a90 c90 S90 hS90 => ?_; refine oS sN ?_; refine oS sF ?_; refine o_store rfl rfl rfl upA ltA rfl ?_
        dsimp only [List.set]
        refine oZ hK29 (c_seq fun _ hK30 => ?_); refine c_seq fun _ hK31 => ?_; refine c_drawE ((bx, .cells [.slice ra re.length rc, .int .i64 (i + 1 : Nat), .slice a90 (en ++ [false]).length c90].toArray 172 (0, 0)) :: (b7, .cells (En x).toArray 108 (0, 0)) :: S90) (fun i => false) ?_; refine eK 0 rfl sF ?_; refine eK 1 rfl sL ?_; refine eK 2 rfl sM ?_; refine eK 3 rfl sN ?_; refine eK 4 rfl sF ?_; refine eK 5 rfl sL ?_; refine eK 6 rfl sC ?_
        by_cases hn1 : x.n ≠ en.length + 1
        ·have hN : shN re (f1 + 1) i en gr = none := shN_gate hx (gate_no7 h7 (by omega))
         refine eK 7 rfl (step_cast (v' := .bool true) (s_neq rfl rfl) (by rw [decide_eq_true (by simp; omega)])) ?_; refine eK 8 rfl sM ?_; refine eS 9 rfl (eS 10 rfl (eS 11 rfl ?_)); refine eK 12 rfl sT ?_; refine eK 13 rfl sM ?_; refine eS 14 rfl (eS 15 rfl ?_); refine eK 16 rfl sT (eZ hK31 ?_); refine cT (cR fun _ hK32 => ?_); refine oA (oZ hK32 (c_ret ?_)); refine x_then_ret (x_block_ret (x_then_ret (?_)))
         exact xR rfl rfl ((by rw [hN]; rfl))
        ·refine eK 7 rfl (step_cast (v' := .bool false) (s_neq rfl rfl) (by rw [decide_eq_false (by simp; omega)])) ?_; refine eK 8 rfl sM ?_; refine eG 9 rfl sF ?_; refine eG 10 rfl sL ?_
         by_cases hn2 : x.n > 255
         ·have hN : shN re (f1 + 1) i en gr = none := shN_gate hx (gate_no7 h7 (by omega))
          refine eG 11 rfl gtT ?_; refine eK 12 rfl sP ?_; refine eK 13 rfl sM ?_; refine eS 14 rfl (eS 15 rfl ?_); refine eK 16 rfl sT (eZ hK31 ?_); refine cT (cR fun _ hK33 => ?_); refine oA (oZ hK33 (c_ret ?_)); refine x_then_ret (x_block_ret (x_then_ret (?_)))
          exact xR rfl rfl ((by rw [hN]; rfl))
         ·refine eG 11 rfl gtF ?_; refine eK 12 rfl sP ?_; refine eK 13 rfl sM ?_; refine eG 14 rfl sM ?_
          by_cases hn3 : gr = 64
          ·have hN : shN re (f1 + 1) i en gr = none := shN_gate hx (gate_no7 h7 (by omega))
           refine eG 15 rfl eqT ?_; refine eK 16 rfl sP (eZ hK31 ?_); refine cT (cR fun _ hK34 => ?_); refine oA (oZ hK34 (c_ret ?_)); refine x_then_ret (x_block_ret (x_then_ret (?_)))
           exact xR rfl rfl ((by rw [hN]; rfl))
          ·refine eG 15 rfl eqF ?_; refine eK 16 rfl sP (eZ hK31 ?_); refine cFZ hK30 (c_region (oM ?_)); refine oS sD (oA (o_nil (x_block ?_))); exact x_then (hJ9 (en ++ [false], gr + 1, a90, c90, S90) _ _ ⟨gate_grp h7 ⟨by omega, by omega, by omega⟩, hS90⟩ sbA sbA hzB)
       ·refine oS (eqF (h := h7)) ?_; refine oA (oZ hK28 ?_); refine cF (c_skip (x_block ?_)); exact x_then (hJ9 (en, gr, ea, ec, Se) _ _ ⟨gate_other h8 h7, hO⟩ sbA sbA hzB)
set_option maxHeartbeats 1000000 in
theorem flds_fn (x : Nd) (hop : -128 ≤ x.op ∧ x.op < 128) : HL.Fn Tryz.prog 110 [.agg (En x).toArray] (fun _ => True) [] (fun v _ => v = .bool (flds x)) := by
  refine fn_of Tryz.func110 rfl rfl rfl fun w0 hw => ?_; refine cR fun _ hK1 => ?_; refine o_box rfl rfl rfl fun b1 => ?_; refine oA (oZ hK1 (cR fun _ hK2 => ?_)); refine oS sF ?_; refine oS sL ?_; refine oS (s_convI rfl (by omega)) ?_; refine oA (oZ hK2 (c_seq fun _ hK3 => ?_)); refine cR fun _ hK4 => ?_; refine oM ?_
  by_cases h1 : x.op < 1
  ·refine oS lsT (oM ?_); refine oN ?_; refine oN ?_; refine oS sT (oZ hK4 ?_); refine cT (cR fun _ hK5 => ?_); refine oA (oZ hK5 (c_ret ?_)); refine x_then_ret (?_); exact xR rfl rfl ((congrArg Value.bool (Eq.symm (Bool.eq_false_iff.2 (fun h => by obtain ⟨a, _, b, c, d⟩ := flds_iff.1 h; omega)))))
  ·refine oS lsF (oM ?_); refine oY (oM ?_); refine oY ?_
   by_cases h2 : x.op > 8
   ·refine oS gtT ?_; refine oS sP (oZ hK4 ?_); refine cT (cR fun _ hK6 => ?_); refine oA (oZ hK6 (c_ret ?_)); refine x_then_ret (?_); exact xR rfl rfl ((congrArg Value.bool (Eq.symm (Bool.eq_false_iff.2 (fun h => by obtain ⟨a, _, b, c, d⟩ := flds_iff.1 h; omega)))))
   ·refine oS gtF ?_; refine oS sP (oZ hK4 ?_); refine cFZ hK3 ?_; refine c_seqJ (ι := Unit) (fun g => x.op = 1 ∨ x.set = 0) (fun g => []) [(1, _), (3, _)] (fun g => [(b1, .cells (En x).toArray 108 (0, 0))]) sbA ?_ ?_
    ·rintro g hset
     refine c_seqJ (ι := Unit) (fun g => x.op = 7 ∨ x.op = 8 ∨ x.n = 0) (fun g => []) [(1, _), (3, _)] (fun g => [(b1, .cells (En x).toArray 108 (0, 0))]) sbA ?_ ?_
     ·rintro g hgn
      refine c_seq fun _ hK9 => ?_; refine cR fun _ hK10 => ?_; refine oM ?_
      by_cases h8 : x.op ≠ 6
      ·refine oS nqT (oZ hK10 ?_); refine cT (cR fun _ hK11 => ?_); refine oS sF ?_; refine oS sL ?_
       by_cases h9 : x.mn = 0
       ·refine oS eqT (oM ?_); refine oY ?_; refine oS sF ?_; refine oY ?_; refine oS sL ?_; refine oY ?_
        by_cases h10 : x.mx = 0
        ·refine oS eqT ?_; refine oS sT (oA (oZ hK11 (c_ret ?_))); refine x_then_ret (?_); exact xR rfl rfl ((congrArg Value.bool (Eq.symm (flds_iff.2 ⟨by omega, hset, hgn, fun _ => by omega, fun _ => by omega⟩))))
        ·refine oS eqF ?_; refine oS sT (oA (oZ hK11 (c_ret ?_))); refine x_then_ret (?_); exact xR rfl rfl ((congrArg Value.bool (Eq.symm (Bool.eq_false_iff.2 (fun h => by obtain ⟨a, _, b, c, d⟩ := flds_iff.1 h; omega)))))
       ·refine oS eqF (oM ?_); refine oN ?_; refine oN ?_; refine oN ?_; refine oS sP (oA (oZ hK11 (c_ret ?_))); refine x_then_ret (?_); exact xR rfl rfl ((congrArg Value.bool (Eq.symm (Bool.eq_false_iff.2 (fun h => by obtain ⟨a, _, b, c, d⟩ := flds_iff.1 h; omega)))))
      ·refine oS nqF (oZ hK10 ?_); refine cFZ hK9 (cR fun _ hK12 => ?_); refine oS sF ?_; refine oS sL ?_
       by_cases k1 : x.mn ≥ 0
       ·refine oS geT (oM ?_); refine oY ?_; refine oS sF ?_; refine oY ?_; refine oS sL ?_; refine oY ?_
        by_cases k2 : x.mn ≤ 255
        ·refine oS leT ?_; refine oS sT (oM ?_); refine oY ?_; refine oS sF ?_; refine oY ?_; refine oS sL ?_; refine oY ?_
         by_cases k3 : x.mx = -1
         ·refine oS eqT ?_; refine oY (oM ?_); refine oN ?_; refine oN ?_; refine oN ?_; refine oN ?_; refine oN ?_; refine oN ?_; refine oU ?_; refine oU ?_; refine oU ?_; refine oN ?_; refine oY ?_; refine oS sT ?_; refine oS sT (oA (oZ hK12 (c_ret ?_))); refine ?_; exact xR rfl rfl ((congrArg Value.bool (Eq.symm (flds_iff.2 ⟨by omega, hset, hgn, fun _ => by omega, fun _ => by omega⟩))))
         ·refine oS eqF ?_; refine oY (oM ?_); refine oY ?_; refine oS sF ?_; refine oY ?_; refine oS sL ?_; refine oY ?_; refine oS sF ?_; refine oY ?_; refine oS sL ?_; refine oY ?_
          by_cases k4 : x.mx ≥ x.mn
          ·refine oS geT ?_; refine oY (oM ?_); refine oY ?_; refine oS sF ?_; refine oY ?_; refine oS sL ?_; refine oY ?_
           by_cases k5 : x.mx ≤ 255
           ·refine oS leT ?_; refine oY ?_; refine oS sT ?_; refine oY ?_; refine oS sP ?_; refine oS sT (oA (oZ hK12 (c_ret ?_))); refine ?_; exact xR rfl rfl ((congrArg Value.bool (Eq.symm (flds_iff.2 ⟨by omega, hset, hgn, fun _ => by omega, fun _ => by omega⟩))))
           ·refine oS leF ?_; refine oY ?_; refine oS sT ?_; refine oY ?_; refine oS sP ?_; refine oS sT (oA (oZ hK12 (c_ret ?_))); refine ?_; exact xR rfl rfl ((congrArg Value.bool (Eq.symm (Bool.eq_false_iff.2 (fun h => by obtain ⟨a, _, b, c, d⟩ := flds_iff.1 h; omega)))))
          ·refine oS geF ?_; refine oY (oM ?_); refine oN ?_; refine oN ?_; refine oN ?_; refine oY ?_; refine oS sP ?_; refine oY ?_; refine oS sP ?_; refine oS sT (oA (oZ hK12 (c_ret ?_))); refine ?_; exact xR rfl rfl ((congrArg Value.bool (Eq.symm (Bool.eq_false_iff.2 (fun h => by obtain ⟨a, _, b, c, d⟩ := flds_iff.1 h; omega)))))
        ·refine oS leF ?_; refine oS sT (oM ?_); refine oN ?_; refine oN ?_; refine oN ?_; refine oN ?_; refine oU ?_; refine oU ?_; refine oU ?_; refine oU ?_; refine oU ?_; refine oU ?_; refine oU ?_; refine oU ?_; refine oU ?_; refine oU ?_; refine oN ?_; refine oS sP (oA (oZ hK12 (c_ret ?_))); refine ?_; exact xR rfl rfl ((congrArg Value.bool (Eq.symm (Bool.eq_false_iff.2 (fun h => by obtain ⟨a, _, b, c, d⟩ := flds_iff.1 h; omega)))))
       ·refine oS geF (oM ?_); refine oN ?_; refine oN ?_; refine oN ?_; refine oS sP (oM ?_); refine oN ?_; refine oN ?_; refine oN ?_; refine oN ?_; refine oU ?_; refine oU ?_; refine oU ?_; refine oU ?_; refine oU ?_; refine oU ?_; refine oU ?_; refine oU ?_; refine oU ?_; refine oU ?_; refine oN ?_; refine oS sP (oA (oZ hK12 (c_ret ?_))); refine ?_; exact xR rfl rfl ((congrArg Value.bool (Eq.symm (Bool.eq_false_iff.2 (fun h => by obtain ⟨a, _, b, c, d⟩ := flds_iff.1 h; omega)))))
     ·intro _ hJ8
      refine cR fun _ hK13 => ?_; refine oM ?_
      by_cases h5 : x.op ≠ 7
      ·refine oS nqT (oM ?_); refine oY (oM ?_); refine oY ?_
       by_cases h6 : x.op ≠ 8
       ·refine oS nqT ?_; refine oS sT (oM ?_); refine oY ?_; refine oS sF ?_; refine oY ?_; refine oS sL ?_; refine oY ?_
        by_cases h7 : x.n ≠ 0
        ·refine oS nqT ?_; refine oS sT (oZ hK13 ?_); refine cT (cR fun _ hK14 => ?_); refine oA (oZ hK14 (c_ret ?_)); refine x_then_ret (?_); exact xR rfl rfl ((congrArg Value.bool (Eq.symm (Bool.eq_false_iff.2 (fun h => by obtain ⟨a, _, b, c, d⟩ := flds_iff.1 h; omega)))))
        ·refine oS nqF ?_; refine oS sT (oZ hK13 ?_); refine cF (c_skip ?_); exact x_then (hJ8 () _ _ (by omega) sbA sbA hzB)
       ·refine oS nqF ?_; refine oS sT (oM ?_); refine oN ?_; refine oN ?_; refine oN ?_; refine oS sP (oZ hK13 ?_); refine cF (c_skip ?_); exact x_then (hJ8 () _ _ (by omega) sbA sbA hzB)
      ·refine oS nqF (oM ?_); refine oN ?_; refine oN ?_; refine oS sP (oM ?_); refine oN ?_; refine oN ?_; refine oN ?_; refine oS sP (oZ hK13 ?_); refine cF (c_skip ?_); exact x_then (hJ8 () _ _ (by omega) sbA sbA hzB)
    ·intro _ hJ7
     refine cR fun _ hK15 => ?_; refine oM ?_
     by_cases h3 : x.op ≠ 1
     ·refine oS nqT (oM ?_); refine oY ?_; refine oS sF ?_; refine oY ?_; refine oS (s_ldB rfl (RdPK.cels (RdPK.own' (cs := Ec x.set) meA nd_set)) (Ec_lenM _)) ?_; refine oY ?_; refine oS (step_cast (v' := .agg (Ec 0#256).toArray) (s_build0 rfl) (by rw [Ec_zero]; rfl)) ?_; refine oY ?_
      by_cases h4 : x.set ≠ 0#256
      ·refine oS (step_cast (v' := .bool true) (s_neq_cl rfl rfl) (by rw [decide_eq_true h4])) ?_; refine oS sT (oZ hK15 ?_); refine cT (cR fun _ hK16 => ?_); refine oA (oZ hK16 (c_ret ?_)); refine x_then_ret (?_); exact xR rfl rfl ((congrArg Value.bool (Eq.symm (Bool.eq_false_iff.2 (fun h => by obtain ⟨_, a, _⟩ := flds_iff.1 h; exact a.elim h3 h4)))))
      ·refine oS (step_cast (v' := .bool false) (s_neq_cl rfl rfl) (by rw [decide_eq_false h4])) ?_; refine oS sT (oZ hK15 ?_); refine cF (c_skip ?_); exact x_then (hJ7 () _ _ (.inr (Decidable.not_not.1 h4)) sbA sbA hzB)
     ·refine oS nqF (oM ?_); refine oN ?_; refine oN ?_; refine oN ?_; refine oN ?_; refine oS sP (oZ hK15 ?_); refine cF (c_skip ?_); exact x_then (hJ7 () _ _ (.inl (by omega)) sbA sbA hzB)
theorem kids_fn (x : Nd) (hop : -128 ≤ x.op ∧ x.op < 128) : HL.Fn Tryz.prog 111 [.agg (En x).toArray] (fun _ => True) [] (fun v _ => v = .bool (kidsOk x)) := by
  refine fn_of Tryz.func111 rfl rfl rfl fun w0 hw => ?_; refine cR fun _ hK1 => ?_; refine o_box rfl rfl rfl fun b1 => ?_; refine oA (oZ hK1 (c_seq fun _ hK2 => ?_)); refine cR fun _ hK3 => ?_; refine oS sF ?_; refine oS sL ?_; refine oS (s_convI rfl (by omega)) ?_; refine oZ hK3 (c_block (c_seq fun _ hK4 => ?_)); refine cR fun _ hK5 => ?_
  by_cases k6 : x.op = 6
  ·refine oS (eqT (h := k6)) ?_; refine oA (oZ hK5 ?_); refine cTZ hK4 ?_; refine cT (cR fun _ hK6 => ?_); refine oS sF ?_; refine oS sL ?_; refine oS (s_eql rfl rfl) ?_; refine oA (oZ hK6 (c_ret ?_)); refine x_block_ret (x_then_ret (?_))
   exact xR rfl rfl ((congrArg Value.bool (by rw [kidsOk, if_pos (.inl k6)])))
  ·refine oS (eqF (h := k6)) ?_; refine oA (oZ hK5 ?_); refine cF (c_region ?_)
   by_cases k7 : x.op = 7
   ·refine oS (eqT (h := k7)) ?_; refine oA (oZ hK4 ?_); refine cT (cR fun _ hK7 => ?_); refine oS sF ?_; refine oS sL ?_; refine oS (s_eql rfl rfl) ?_; refine oA (oZ hK7 (c_ret ?_)); refine x_block_ret (x_then_ret (?_))
    exact xR rfl rfl ((congrArg Value.bool (by rw [kidsOk, if_pos (.inr k7)])))
   ·refine oS (eqF (h := k7)) ?_; refine oA (oZ hK4 ?_); refine cF (cR fun _ hK8 => ?_)
    by_cases k4 : x.op = 4
    ·refine oS (eqT (h := k4)) ?_; refine oA (oZ hK8 ?_); refine cT (cR fun _ hK9 => ?_); refine oS sF ?_; refine oS sL ?_
     by_cases k0 : x.kids = 0
     ·refine oS eqT (oM ?_); refine oN ?_; refine oN ?_; refine oN ?_; refine oS sT (oA (oZ hK9 (c_ret ?_))); refine x_block_ret (x_then_ret (?_))
      exact xR rfl rfl ((congrArg Value.bool (by rw [kidsOk, if_neg (by omega), if_pos k4, decide_eq_true (by omega)])))
     ·refine oS eqF (oM ?_); refine oY ?_; refine oS sF ?_; refine oY ?_; refine oS sL ?_; refine oY ?_; refine oS (s_geq rfl rfl) ?_; refine oS sP (oA (oZ hK9 (c_ret ?_))); refine x_block_ret (x_then_ret (?_))
      exact xR rfl rfl ((congrArg Value.bool (by rw [kidsOk, if_neg (by omega), if_pos k4]; exact decide_eq_decide.2 (by omega))))
    ·refine oS (eqF (h := k4)) ?_; refine oA (oZ hK8 ?_); refine cF (cR fun _ hK10 => ?_)
     by_cases k5 : x.op = 5
     ·refine oS (eqT (h := k5)) ?_; refine oA (oZ hK10 ?_); refine cT (cR fun _ hK11 => ?_); refine oS sF ?_; refine oS sL ?_; refine oS (s_geq rfl rfl) ?_; refine oA (oZ hK11 (c_ret ?_)); refine x_block_ret (x_then_ret (?_))
      exact xR rfl rfl ((congrArg Value.bool (by rw [kidsOk, if_neg (by omega), if_neg (by omega), if_pos k5])))
     ·refine oS (eqF (h := k5)) ?_; refine oA (oZ hK10 ?_); refine cF (c_skip (x_block (xZ hK2 (cR fun _ hK12 => ?_)))); refine oS sF ?_; refine oS sL ?_; refine oS (s_eql rfl rfl) ?_; refine oA (oZ hK12 (c_ret ?_)); refine ?_; exact xR rfl rfl ((congrArg Value.bool (by rw [kidsOk, if_neg (by omega), if_neg (by omega), if_neg (by omega)])))
end Go.Proofs.YtopmnmigpbdddaaGreatDoor
