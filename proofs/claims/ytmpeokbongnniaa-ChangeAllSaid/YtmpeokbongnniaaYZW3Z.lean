/- Part of the proofs over this seat: see the text that holds the theorem. Conditions: each theorem bears its own. -/
import Derived.Test.YtmpeokbongnniaaHTZ
import Derived.Test.YtmpeokbongnniaaYZW1Z
import Derived.Test.YtmpeokbongnniaaYZN5Z
import Derived.Test.YtmpeokbongnniaaMK1Z
namespace Go.Proofs.Ytmpeokbongnniaa
open Go Go.HL Go.Proofs Go.HL.Kl Go.HL.Kl.Mc Go.HL.Kl.Mc.AskE
set_option maxHeartbeats 1000000 in
theorem kid_fn (K : AskE) (hK : K.ok) (x : Nd) (ks : F) (i i1 p q : Nat) (es : List Me) (c : Nat) (hp : Part K.re (.nd x ks .nil) i i1) (hpq : p ≤ q) (hq : q ≤ K.tx.length) (hes : MapOk K.tx K.re es) (m : Nat) (y : Nd) (js r : F) (hg : Part K.re (.nd y js r) m i1) (ihN : NodeK Try.prog K y js) (ihR : ∀ n, p ≤ n → n ≤ q → RestK Try.prog K ⟨i, (m + 1 + js.size : Nat), n, q⟩) (h4 : x.op = 4) : HL.Fn Try.prog 109 [pt K.bS, .agg (Ek (⟨i, m, p, q⟩ : Ky)).toArray] (fun W => Env W K [K.bM]) [(K.bM, mpO es c)] (KidP K (fun n => der1 K.tx y js p n ∧ der K.tx r false n q) p q) := by
  refine fn_of Try.func109 rfl rfl rfl fun w0 hw => ?_
  have hsl := hw.d1.sl
  have hst := hw.d2.sl
  have hse := hw.d3.sl
  have htl := hK.tx
  have hrl := hK.len
  obtain rfl : i1 = i + 1 + ks.size := by have := hp.len; simp only [F.size] at this; omega
  obtain ⟨hx, hpk, _⟩ := hp.head
  have hilt := (List.getElem?_eq_some_iff.1 hx).1
  have hxm := List.mem_of_getElem? hx
  have hox := hK.rng x hxm
  have hx8 := hK.no8 x hxm
  have hok : ndOk x = true := hp.wf.1
  have hop : 1 ≤ x.op ∧ x.op ≤ 8 := (flds_iff.1 (by simp only [ndOk, Bool.and_eq_true] at hok; exact hok.1)).1
  have hpkl := hpk.le
  have hei := hK.ends.2 i x ks .nil _ (Nat.zero_le _) hp
  have hell := hK.ends.1
  rw [hell] at hse
  have hgl := hg.len
  simp only [F.size] at hgl
  have hge := hK.ends.2 m y js r _ (Nat.zero_le _) hg
  obtain ⟨hy, hpy, hpt⟩ := hg.head
  have hmlt := (List.getElem?_eq_some_iff.1 hy).1
  have hle2 := hg.le
  refine c_seq fun _ hK1 => ?_; refine c_region ?_; refine o_box rfl rfl rfl fun b3 => ?_; refine o_step rfl (s_assign rfl) ?_; refine o_step rfl (s_assign rfl) ?_; refine o_nil ?_; refine x_then (hK1 _ _ ?_); refine c_seq fun _ hK2 => ?_; refine c_seq fun _ hK3 => ?_; refine c_region ?_; refine o_step rfl (s_field rfl rfl (by decide)) ?_; refine o_step rfl (s_ld rfl ((.own meA rfl : Cel _ _ _ (.int .i64 (q : Int))))) ?_; refine o_step rfl (s_assign rfl) ?_; refine o_nil ?_; refine x_then (hK3 _ _ ?_); refine c_block ?_
  -- not carried: 4 5
  refine c_loop3 (fun (n : Nat) (es2 : List Me) (c2 : Nat) => p ≤ n ∧ n ≤ q + 1 ∧ (∀ m2, n ≤ m2 → m2 ≤ q → ¬ (fun n => der1 K.tx y js p n ∧ der K.tx r false n q) m2) ∧ MapOk K.tx K.re es2) (fun (n : Nat) (es2 : List Me) (c2 : Nat) => [(6, .int .i64 ((n : Int) - 1))]) [(0, _), (3, _)] (fun (n : Nat) (es2 : List Me) (c2 : Nat) => (K.bM, mpO es2 c2) :: [(b3, .cells (Ek (⟨i, m, p, q⟩ : Ky)).toArray 177 (0, 0))]) (fun (n : Nat) (es2 : List Me) (c2 : Nat) => n) (q + 1) es c ⟨by omega, by omega, fun m2 h1 h2 => absurd h1 (by omega), hes⟩ (by exact Sub.cons' rfl (by congr 1; omega) sbA) sbA hzB ?_
  rintro n es2 c2 ⟨hn1, hn2, hno, hes2⟩
  refine c_seq fun _ hK4 => ?_; refine c_seq fun _ hK5 => ?_; refine c_region ?_; refine o_step rfl (s_move rfl) ?_; refine o_step rfl (s_field rfl rfl (by decide)) ?_; refine o_step rfl (s_ld rfl ((.own meA rfl : Cel _ _ _ (.int .i64 (p : Int))))) ?_
  by_cases hnp : (n : Int) - 1 ≥ p
  ·
   obtain ⟨a, rfl⟩ : ∃ a, n = a + 1 := ⟨n - 1, by omega⟩
   refine o_step rfl (step_cast (v' := .bool true) (s_geq rfl rfl) (by rw [decide_eq_true (by omega)])) ?_; refine o_nil ?_; refine x_then (hK5 _ _ ?_); refine c_true rfl ?_; refine c_skip ?_; refine x_then (hK4 _ _ ?_); refine c_seq fun _ hK6 => ?_; refine c_block ?_; refine c_seq fun _ hK7 => ?_; refine c_drawE ([(b3, .cells (Ek (⟨i, m, p, q⟩ : Ky)).toArray 177 (0, 0))]) (fun i => false) ?_; refine e_tk 0 rfl hzB (s_move rfl) ?_; refine e_tk 1 rfl hzB (s_nil rfl) ?_; refine e_tk 2 rfl hzB (s_field rfl rfl (by decide)) ?_; refine e_tk 3 rfl hzB (s_ld rfl ((RdPK.old hw.p4 hw.n4).cel (j := 4) rfl rfl)) ?_; refine e_tk 4 rfl hzB (s_field rfl rfl (by decide)) ?_; refine e_tk 5 rfl hzB (s_ld rfl ((.own meA rfl : Cel _ _ _ (.int .i64 (m : Int))))) ?_; refine e_tk 6 rfl hzB (s_field rfl rfl (by decide)) ?_; refine e_tk 7 rfl hzB (s_ld rfl ((.own meA rfl : Cel _ _ _ (.int .i64 (p : Int))))) ?_; refine e_tk 8 rfl hzB (step_cast (v' := .int .i64 (a : Int)) (s_move rfl) (congrArg (Value.int .i64) (by omega))) ?_
   refine e_one 9 rfl (by kernel_rfl) ?_; refine o_callC (us := []) (vs := [_, _, _]) (cs := [pt K.bRe, pt K.bTx, pt K.bA]) (ihN m _ p a es2 c2 hg.one (by omega) (by omega) hes2) rfl rfl rfl pkA (fun w st => hw.out st (fun _ h => h)) (fun v24 S24 ⟨es24, c24, hv24, hS24, hm24⟩ => ?_); subst hv24
   subst hS24
   cases hb24 : dQ (der1 K.tx y js p a)
   ·
    have hno2 : ¬ (der1 K.tx y js p a ∧ der K.tx r false a q) := fun h => by rw [dQ_t h.1] at hb24; cases hb24
    refine o_nil ?_; refine x_oneS hzB ?_; refine e_tk 10 rfl hzB (s_move rfl) ?_; refine e_sk 11 rfl ?_; refine e_sk 12 rfl ?_; refine e_sk 13 rfl ?_; refine e_sk 14 rfl ?_; refine e_sk 15 rfl ?_; refine e_sk 16 rfl ?_; refine e_sk 17 rfl ?_; refine e_sk 18 rfl ?_; refine e_sk 19 rfl ?_; refine e_sk 20 rfl ?_; refine e_sk 21 rfl ?_; refine e_sk 22 rfl ?_; refine e_sk 23 rfl ?_; refine e_sk 24 rfl ?_; refine e_sk 25 rfl ?_; refine e_sk 26 rfl ?_; refine e_sk 27 rfl ?_; refine e_sk 28 rfl ?_; refine e_one 29 rfl (by kernel_rfl) ?_; refine o_no rfl rfl rfl rfl ?_; refine o_nil ?_; refine x_oneS hzB ?_; refine e_tk 30 rfl hzB (s_pick_f rfl rfl) ?_; refine e_done (by kernel_rfl) ?_; refine x_then (hK7 _ _ ?_); refine c_false rfl ?_; refine c_skip ?_; refine x_block ?_; refine x_then (hK6 _ _ ?_); refine c_region ?_; refine o_step rfl (s_move rfl) ?_; refine o_step rfl (s_sub rfl rfl (by omega)) ?_
    refine o_step rfl (s_assign rfl) ?_; refine o_nil ?_; exact x_then (x_inv (a, es24, c24) ⟨by omega, by omega, fun m2 h1 h2 => if e : m2 = a then by subst e; exact hno2 else hno m2 (by omega) h2, hm24⟩ (by first | omega | (dsimp only; omega)) (by exact Sub.cons' rfl (by congr 1; omega) sbA) hzB)
   ·
    refine o_nil ?_; refine x_oneS hzB ?_; refine e_tk 10 rfl hzB (s_move rfl) ?_; refine e_tg 11 rfl hzB (s_move rfl) ?_; refine e_tg 12 rfl hzB (s_nil rfl) ?_; refine e_tg 13 rfl hzB (s_field rfl rfl (by decide)) ?_; refine e_tg 14 rfl hzB (s_ld rfl ((RdPK.old hw.p4 hw.n4).cel (j := 5) rfl rfl)) ?_; refine e_tg 15 rfl hzB (s_field rfl rfl (by decide)) ?_; refine e_tg 16 rfl hzB (s_ld rfl ((.own meA rfl : Cel _ _ _ (.int .i64 (i : Int))))) ?_; refine e_tg 17 rfl hzB (s_move rfl) ?_; refine e_tg 18 rfl hzB (s_nil rfl) ?_; refine e_tg 19 rfl hzB (s_field rfl rfl (by decide)) ?_; refine e_tg 20 rfl hzB (s_ld rfl ((RdPK.old hw.p4 hw.n4).cel (j := 1) rfl rfl)) ?_; refine e_tg 21 rfl hzB (s_field rfl rfl (by decide)) ?_; refine e_tg 22 rfl hzB (s_ld rfl ((.own meA rfl : Cel _ _ _ (.int .i64 (m : Int))))) ?_; refine e_tg 23 rfl hzB (s_idx rfl rfl hse (by omega)) ?_; refine e_tg 24 rfl hzB (s_ld rfl ((RdK.old hw.d3 hw.a3).ld m 0 hge rfl (by decide) (by omega))) ?_
    refine e_tg 25 rfl hzB (step_cast (v' := .int .i64 (a : Int)) (s_move rfl) (congrArg (Value.int .i64) (by omega))) ?_; refine e_tg 26 rfl hzB (s_field rfl rfl (by decide)) ?_; refine e_tg 27 rfl hzB (s_ld rfl ((.own meA rfl : Cel _ _ _ (.int .i64 (q : Int))))) ?_; refine e_tg 28 rfl hzB (s_build (cs := [_, _, _, _]) (vs := [_, _, _, _]) rfl rfl (.cons rfl rfl rfl rfl rfl (.cons rfl rfl rfl rfl rfl (.cons rfl rfl rfl rfl rfl (.cons rfl rfl rfl rfl rfl (.nil)))))) ?_; refine e_one 29 rfl (by kernel_rfl) ?_; refine o_yes rfl rfl ?_; refine o_callC (us := []) (vs := [_]) (cs := [pt K.bA]) (ihR a (by omega) (by omega) es24 c24 hm24) rfl rfl rfl pkA (fun w st => hw.out st (fun _ h => h)) (fun v44 S44 ⟨es44, c44, hv44, hS44, hm44⟩ => ?_); subst hv44
    subst hS44
    cases hb44 : dQ (Qry K.tx K.re ⟨i, (m + 1 + js.size : Nat), a, q⟩)
    ·
     have hno2 : ¬ (der1 K.tx y js p a ∧ der K.tx r false a q) := fun h => by rw [dQ_t ((Qry_cat hp h4 hpt).2 h.2)] at hb44; cases hb44
     refine o_nil ?_; refine x_oneS hzB ?_; refine e_tk 30 rfl hzB (s_pick_t rfl rfl) ?_; refine e_done (by kernel_rfl) ?_; refine x_then (hK7 _ _ ?_); refine c_false rfl ?_; refine c_skip ?_; refine x_block ?_; refine x_then (hK6 _ _ ?_); refine c_region ?_; refine o_step rfl (s_move rfl) ?_; refine o_step rfl (s_sub rfl rfl (by omega)) ?_; refine o_step rfl (s_assign rfl) ?_; refine o_nil ?_; exact x_then (x_inv (a, es44, c44) ⟨by omega, by omega, fun m2 h1 h2 => if e : m2 = a then by subst e; exact hno2 else hno m2 (by omega) h2, hm44⟩ (by first | omega | (dsimp only; omega)) (by exact Sub.cons' rfl (by congr 1; omega) sbA) hzB)
    ·
     refine o_nil ?_; refine x_oneS hzB ?_; refine e_tk 30 rfl hzB (s_pick_t rfl rfl) ?_; refine e_done (by kernel_rfl) ?_; refine x_then (hK7 _ _ ?_); refine c_true rfl ?_; refine c_seq fun _ hK8 => ?_; refine c_region ?_; refine o_step rfl (step_cast (v' := .int .i64 (a : Int)) (s_move rfl) (congrArg (Value.int .i64) (by omega))) ?_; refine o_step rfl (s_assign rfl) ?_; refine o_step rfl (s_assign rfl) ?_; refine o_nil ?_; refine x_then (hK8 _ _ ?_); refine c_ret ?_; refine x_block_ret (x_then_ret (x_then_ret (x_block_ret (x_then_ret (?_)))))
     refine x_sub (Sub.refl _) (H' := [(K.bM, mpO es44 c44)]) hzB ?_; exact x_ret rfl (.tmp rfl (.tmp rfl (.nil))) (⟨es44, c44, rfl, hm44, .inl ⟨a, ⟨by omega, by omega, ⟨dQ_iff.1 hb24, (Qry_cat hp h4 hpt).1 (dQ_iff.1 hb44)⟩, fun m2 h1 h2 => hno m2 (by omega) h2⟩, rfl⟩⟩)
  ·
   obtain rfl : n = p := by omega
   refine o_step rfl (step_cast (v' := .bool false) (s_geq rfl rfl) (by rw [decide_eq_false (by omega)])) ?_; refine o_nil ?_; refine x_then (hK5 _ _ ?_); refine c_false rfl ?_; refine c_exit ?_; refine x_then_exit ?_; refine x_then_exit ?_; refine x_block_exit ?_; refine x_then (hK2 _ _ ?_); refine c_seq fun _ hK9 => ?_; refine c_region ?_; refine o_step rfl (s_assign rfl) ?_; refine o_step rfl (s_assign rfl) ?_; refine o_nil ?_; refine x_then (hK9 _ _ ?_); refine c_ret ?_; refine ?_; refine x_sub (Sub.refl _) (H' := [(K.bM, mpO es2 c2)]) hzB ?_; exact x_ret rfl (.tmp rfl (.tmp rfl (.nil))) (⟨es2, c2, rfl, hes2, .inr ⟨fun m2 h1 h2 => hno m2 h1 h2, rfl⟩⟩)

set_option maxHeartbeats 2000000 in
theorem round_fn (K : AskE) (hK : K.ok) (x : Nd) (ks : F) (i i1 p q : Nat) (es : List Me) (c : Nat) (hp : Part K.re (.nd x ks .nil) i i1) (hpq : p ≤ q) (hq : q ≤ K.tx.length) (hes : MapOk K.tx K.re es) (r : Nat) (h6 : x.op = 6) (hrb : r ≤ 300) (hr : x.mx = -1 ∨ (r : Int) ≤ x.mx) (ihN : ∀ y js, ks = .nd y js .nil → NodeK Try.prog K y js) (ihR : ∀ n, p ≤ n → n ≤ q → (n ≠ p ∨ (r : Int) < x.mn ∨ r = 0) → (x.mx = -1 ∨ (r : Int) < x.mx) → RestK Try.prog K ⟨i, (nxtR x r : Nat), n, q⟩) : HL.Fn Try.prog 110 [pt K.bS, .agg (Ek (⟨i, r, p, q⟩ : Ky)).toArray] (fun W => Env W K [K.bM]) [(K.bM, mpO es c)] (KidP K (RQ x (der K.tx ks false) r p q) p q) := by
  refine fn_of Try.func110 rfl rfl rfl fun w0 hw => ?_
  have hsl := hw.d1.sl
  have hst := hw.d2.sl
  have hse := hw.d3.sl
  have htl := hK.tx
  have hrl := hK.len
  obtain rfl : i1 = i + 1 + ks.size := by have := hp.len; simp only [F.size] at this; omega
  obtain ⟨hx, hpk, _⟩ := hp.head
  have hilt := (List.getElem?_eq_some_iff.1 hx).1
  have hxm := List.mem_of_getElem? hx
  have hox := hK.rng x hxm
  have hx8 := hK.no8 x hxm
  have hok : ndOk x = true := hp.wf.1
  have hop : 1 ≤ x.op ∧ x.op ≤ 8 := (flds_iff.1 (by simp only [ndOk, Bool.and_eq_true] at hok; exact hok.1)).1
  have hpkl := hpk.le
  have hei := hK.ends.2 i x ks .nil _ (Nat.zero_le _) hp
  have hell := hK.ends.1
  rw [hell] at hse
  have hrg := rep_rng hok h6
  obtain ⟨y, js, hks⟩ := one_kid hp.wf (.inl h6)
  refine c_seq fun _ hK1 => ?_; refine c_region ?_; refine o_box rfl rfl rfl fun b3 => ?_; refine o_step rfl (s_assign rfl) ?_; refine o_step rfl (s_assign rfl) ?_; refine o_nil ?_; refine x_then (hK1 _ _ ?_); refine c_seq fun _ hK2 => ?_; refine c_drawE ([(b3, .cells (Ek (⟨i, r, p, q⟩ : Ky)).toArray 177 (0, 0))]) (fun i => false) ?_; refine e_tk 0 rfl hzB (s_move rfl) ?_; refine e_tk 1 rfl hzB (s_nil rfl) ?_; refine e_tk 2 rfl hzB (s_field rfl rfl (by decide)) ?_; refine e_tk 3 rfl hzB (s_ld rfl ((RdPK.old hw.p4 hw.n4).cel (j := 0) rfl rfl)) ?_; refine e_tk 4 rfl hzB (s_field rfl rfl (by decide)) ?_; refine e_tk 5 rfl hzB (s_ld rfl ((.own meA rfl : Cel _ _ _ (.int .i64 (i : Int))))) ?_; refine e_tk 6 rfl hzB (s_idx rfl rfl hsl (by omega)) ?_; refine e_tk 7 rfl hzB (s_ldB rfl ((RdK.old hw.d1 hw.a1).lds i hx rfl) (by rfl)) ?_; refine e_one 8 rfl (by kernel_rfl) ?_; refine o_alloc (l := En zN) (by rw [En_zero]; rfl) rfl fun b6 => ?_
  refine o_nil ?_; refine x_oneS hzB ?_; refine e_one 9 rfl (by kernel_rfl) ?_; refine o_stW rfl rfl upA lnA lnA onA ?_; refine o_nil ?_; refine x_oneS hzB ?_; refine e_done (by kernel_rfl) ?_; refine x_then (hK2 _ _ ?_); refine c_seqJ (ι := Unit) (fun g => x.mx = -1 ∨ (r : Int) < x.mx) (fun g => []) [(0, _), (3, _), (6, _)] (fun g => (b6, .cells (En x).toArray 85 (0, 0)) :: [(b3, .cells (Ek (⟨i, r, p, q⟩ : Ky)).toArray 177 (0, 0)), (K.bM, mpO es c)]) sbA ?_ ?_
  ·
   rintro _ hlt
   refine c_seq fun _ hK4 => ?_; refine c_region ?_; refine o_step rfl (s_field rfl rfl (by decide)) ?_; refine o_step rfl (s_ld rfl ((.own meA rfl : Cel _ _ _ (.int .i64 (r : Int))))) ?_; refine o_step rfl (s_add rfl rfl (by omega)) ?_; refine o_step rfl (s_assign rfl) ?_; refine o_nil ?_; refine x_then (hK4 _ _ ?_); refine c_seqJ (ι := Nat) (fun nx => nx = nxtR x r) (fun nx => [(7, .int .i64 nx)]) [(0, _), (3, _), (6, _)] (fun nx => (b6, .cells (En x).toArray 85 (0, 0)) :: [(b3, .cells (Ek (⟨i, r, p, q⟩ : Ky)).toArray 177 (0, 0)), (K.bM, mpO es c)]) sbA ?_ ?_
   ·
    rintro nx hnx
    refine c_seq fun _ hK6 => ?_; refine c_seq fun _ hK7 => ?_; refine c_region ?_; refine o_step rfl (s_field rfl rfl (by decide)) ?_; refine o_step rfl (s_ld rfl ((.own meA rfl : Cel _ _ _ (.int .i64 (q : Int))))) ?_; refine o_step rfl (s_assign rfl) ?_; refine o_nil ?_; refine x_then (hK7 _ _ ?_); refine c_block ?_; refine c_loop3 (fun (n : Nat) (es2 : List Me) (c2 : Nat) => p ≤ n ∧ n ≤ q + 1 ∧ (∀ m2, n ≤ m2 → m2 ≤ q → ¬ (RQ x (der K.tx ks false) r p q) m2) ∧ MapOk K.tx K.re es2) (fun (n : Nat) (es2 : List Me) (c2 : Nat) => [(8, .int .i64 ((n : Int) - 1))]) [(0, _), (3, _), (6, _), (7, _)] (fun (n : Nat) (es2 : List Me) (c2 : Nat) => (K.bM, mpO es2 c2) :: (b6, .cells (En x).toArray 85 (0, 0)) :: [(b3, .cells (Ek (⟨i, r, p, q⟩ : Ky)).toArray 177 (0, 0))]) (fun (n : Nat) (es2 : List Me) (c2 : Nat) => n) (q + 1) es c ⟨by omega, by omega, fun m2 h1 h2 => absurd h1 (by omega), hes⟩ (by exact Sub.cons' rfl (by congr 1; omega) sbA) sbA hzB ?_
    rintro n es2 c2 ⟨hn1, hn2, hno, hes2⟩
    refine c_seq fun _ hK8 => ?_; refine c_seq fun _ hK9 => ?_; refine c_region ?_; refine o_step rfl (s_move rfl) ?_; refine o_step rfl (s_field rfl rfl (by decide)) ?_; refine o_step rfl (s_ld rfl ((.own meA rfl : Cel _ _ _ (.int .i64 (p : Int))))) ?_
    by_cases hnp : (n : Int) - 1 ≥ p
    ·
     obtain ⟨a, rfl⟩ : ∃ a, n = a + 1 := ⟨n - 1, by omega⟩
     refine o_step rfl (step_cast (v' := .bool true) (s_geq rfl rfl) (by rw [decide_eq_true (by omega)])) ?_; refine o_nil ?_; refine x_then (hK9 _ _ ?_); refine c_true rfl ?_; refine c_skip ?_; refine x_then (hK8 _ _ ?_); refine c_seq fun _ hK10 => ?_; refine c_block ?_; refine c_seqJ (ι := Unit) (fun g => a ≠ p ∨ (r : Int) < x.mn ∨ r = 0) (fun g => []) [(0, _), (3, _), (6, _), (7, _), (8, _), (40, _), (41, _), (42, _), (43, _)] (fun g => (K.bM, mpO es2 c2) :: (b6, .cells (En x).toArray 85 (0, 0)) :: [(b3, .cells (Ek (⟨i, r, p, q⟩ : Ky)).toArray 177 (0, 0))]) sbA ?_ ?_
     ·
      rintro _ hst
      refine c_seq fun _ hK12 => ?_; refine c_drawE ([(b6, .cells (En x).toArray 85 (0, 0)), (b3, .cells (Ek (⟨i, r, p, q⟩ : Ky)).toArray 177 (0, 0))]) (fun i => false) ?_; refine e_tk 0 rfl hzB (s_move rfl) ?_; refine e_tk 1 rfl hzB (s_nil rfl) ?_; refine e_tk 2 rfl hzB (s_field rfl rfl (by decide)) ?_; refine e_tk 3 rfl hzB (s_ld rfl ((RdPK.old hw.p4 hw.n4).cel (j := 4) rfl rfl)) ?_; refine e_tk 4 rfl hzB (s_field rfl rfl (by decide)) ?_; refine e_tk 5 rfl hzB (s_ld rfl ((.own meA rfl : Cel _ _ _ (.int .i64 (i : Int))))) ?_; refine e_tk 6 rfl hzB (s_add rfl rfl (by omega)) ?_; refine e_tk 7 rfl hzB (s_field rfl rfl (by decide)) ?_; refine e_tk 8 rfl hzB (s_ld rfl ((.own meA rfl : Cel _ _ _ (.int .i64 (p : Int))))) ?_; refine e_tk 9 rfl hzB (step_cast (v' := .int .i64 (a : Int)) (s_move rfl) (congrArg (Value.int .i64) (by omega))) ?_; refine e_one 10 rfl (by kernel_rfl) ?_; refine o_callC (us := []) (vs := [_, _, _]) (cs := [pt K.bRe, pt K.bTx, pt K.bA]) (ihN y js hks (i + 1) _ p a es2 c2 (hks ▸ hpk) (by omega) (by omega) hes2) rfl rfl rfl pkA (fun w st => hw.out st (fun _ h => h)) (fun v72 S72 ⟨es72, c72, hv72, hS72, hm72⟩ => ?_)
      subst hv72; subst hS72
      cases hb72 : dQ (der1 K.tx y js p a)
      ·
       have hno2 : ¬ (RQ x (der K.tx ks false) r p q) a := fun h => by have h3 := h.2.2.1; rw [hks, der_one] at h3; rw [dQ_t h3] at hb72; cases hb72
       refine o_nil ?_; refine x_oneS hzB ?_; refine e_tk 11 rfl hzB (s_move rfl) ?_; refine e_sk 12 rfl ?_; refine e_sk 13 rfl ?_; refine e_sk 14 rfl ?_; refine e_sk 15 rfl ?_; refine e_sk 16 rfl ?_; refine e_sk 17 rfl ?_; refine e_sk 18 rfl ?_; refine e_sk 19 rfl ?_; refine e_sk 20 rfl ?_; refine e_sk 21 rfl ?_; refine e_sk 22 rfl ?_; refine e_one 23 rfl (by kernel_rfl) ?_; refine o_no rfl rfl rfl rfl ?_; refine o_nil ?_; refine x_oneS hzB ?_; refine e_tk 24 rfl hzB (s_pick_f rfl rfl) ?_; refine e_done (by kernel_rfl) ?_; refine x_then (hK12 _ _ ?_); refine c_false rfl ?_; refine c_skip ?_; refine x_block ?_; refine x_then (hK10 _ _ ?_); refine c_region ?_; refine o_step rfl (s_move rfl) ?_; refine o_step rfl (s_sub rfl rfl (by omega)) ?_; refine o_step rfl (s_assign rfl) ?_; refine o_nil ?_; exact x_then (x_inv (a, es72, c72) ⟨by omega, by omega, fun m2 h1 h2 => if e : m2 = a then by subst e; exact hno2 else hno m2 (by omega) h2, hm72⟩ (by first | omega | (dsimp only; omega)) (by exact Sub.cons' rfl (by congr 1; omega) sbA) hzB)
      ·
       refine o_nil ?_; refine x_oneS hzB ?_; refine e_tk 11 rfl hzB (s_move rfl) ?_; refine e_tg 12 rfl hzB (s_move rfl) ?_; refine e_tg 13 rfl hzB (s_nil rfl) ?_; refine e_tg 14 rfl hzB (s_field rfl rfl (by decide)) ?_; refine e_tg 15 rfl hzB (s_ld rfl ((RdPK.old hw.p4 hw.n4).cel (j := 5) rfl rfl)) ?_; refine e_tg 16 rfl hzB (s_field rfl rfl (by decide)) ?_; refine e_tg 17 rfl hzB (s_ld rfl ((.own meA rfl : Cel _ _ _ (.int .i64 (i : Int))))) ?_; refine e_tg 18 rfl hzB (s_move rfl) ?_; refine e_tg 19 rfl hzB (step_cast (v' := .int .i64 (a : Int)) (s_move rfl) (congrArg (Value.int .i64) (by omega))) ?_; refine e_tg 20 rfl hzB (s_field rfl rfl (by decide)) ?_; refine e_tg 21 rfl hzB (s_ld rfl ((.own meA rfl : Cel _ _ _ (.int .i64 (q : Int))))) ?_; refine e_tg 22 rfl hzB (s_build (cs := [_, _, _, _]) (vs := [_, _, _, _]) rfl rfl (.cons rfl rfl rfl rfl rfl (.cons rfl rfl rfl rfl rfl (.cons rfl rfl rfl rfl rfl (.cons rfl rfl rfl rfl rfl (.nil)))))) ?_
       refine e_one 23 rfl (by kernel_rfl) ?_; refine o_yes rfl rfl ?_; subst hnx
       refine o_callC (us := []) (vs := [_]) (cs := [pt K.bA]) (ihR a (by omega) (by omega) (by omega) (by omega) es72 c72 hm72) rfl rfl rfl pkA (fun w st => hw.out st (fun _ h => h)) (fun v85 S85 ⟨es85, c85, hv85, hS85, hm85⟩ => ?_); subst hv85
       subst hS85
       cases hb85 : dQ (Qry K.tx K.re ⟨i, (nxtR x r : Nat), a, q⟩)
       ·
        have hno2 : ¬ (RQ x (der K.tx ks false) r p q) a := fun h => by rw [dQ_t ((Qry_rep hp h6).2 ((RR_nxt (by omega)).2 h.2.2.2))] at hb85; cases hb85
        refine o_nil ?_; refine x_oneS hzB ?_; refine e_tk 24 rfl hzB (s_pick_t rfl rfl) ?_; refine e_done (by kernel_rfl) ?_; refine x_then (hK12 _ _ ?_); refine c_false rfl ?_; refine c_skip ?_; refine x_block ?_; refine x_then (hK10 _ _ ?_); refine c_region ?_; refine o_step rfl (s_move rfl) ?_; refine o_step rfl (s_sub rfl rfl (by omega)) ?_; refine o_step rfl (s_assign rfl) ?_; refine o_nil ?_; exact x_then (x_inv (a, es85, c85) ⟨by omega, by omega, fun m2 h1 h2 => if e : m2 = a then by subst e; exact hno2 else hno m2 (by omega) h2, hm85⟩ (by first | omega | (dsimp only; omega)) (by exact Sub.cons' rfl (by congr 1; omega) sbA) hzB)
       ·
        refine o_nil ?_; refine x_oneS hzB ?_; refine e_tk 24 rfl hzB (s_pick_t rfl rfl) ?_; refine e_done (by kernel_rfl) ?_; refine x_then (hK12 _ _ ?_); refine c_true rfl ?_; refine c_seq fun _ hK13 => ?_; refine c_region ?_; refine o_step rfl (step_cast (v' := .int .i64 (a : Int)) (s_move rfl) (congrArg (Value.int .i64) (by omega))) ?_; refine o_step rfl (s_assign rfl) ?_; refine o_step rfl (s_assign rfl) ?_; refine o_nil ?_; refine x_then (hK13 _ _ ?_); refine c_ret ?_; refine x_block_ret (x_then_ret (x_then_ret (x_block_ret (x_then_ret (?_)))))
        refine x_sub (Sub.refl _) (H' := [(K.bM, mpO es85 c85)]) hzB ?_; exact x_ret rfl (.tmp rfl (.tmp rfl (.nil))) (⟨es85, c85, rfl, hm85, .inl ⟨a, ⟨by omega, by omega, ⟨hlt, hst, by rw [hks, der_one]; exact dQ_iff.1 hb72, (RR_nxt (by omega)).1 ((Qry_rep hp h6).1 (dQ_iff.1 hb85))⟩, fun m2 h1 h2 => hno m2 (by omega) h2⟩, rfl⟩⟩)
     ·
      intro _ hJ11
      refine c_seq fun _ hK14 => ?_; refine c_region ?_; refine o_step rfl (step_cast (v' := .int .i64 (a : Int)) (s_move rfl) (congrArg (Value.int .i64) (by omega))) ?_; refine o_step rfl (s_field rfl rfl (by decide)) ?_; refine o_step rfl (s_ld rfl ((.own meA rfl : Cel _ _ _ (.int .i64 (p : Int))))) ?_
      by_cases hap : (a : Int) = p
      ·
       refine o_step rfl (step_cast (v' := .bool true) (s_eql rfl rfl) (by rw [decide_eq_true (by omega)])) ?_; refine o_step rfl (s_move rfl) ?_; refine o_yes rfl rfl ?_; refine o_step rfl (s_field rfl rfl (by decide)) ?_; refine o_yes rfl rfl ?_; refine o_step rfl (s_ld rfl ((.own meA rfl : Cel _ _ _ (.int .i64 (r : Int))))) ?_; refine o_yes rfl rfl ?_; refine o_step rfl (s_field rfl rfl (by decide)) ?_; refine o_yes rfl rfl ?_; refine o_step rfl (s_ld rfl (.own meA rfl)) ?_; refine o_yes rfl rfl ?_
       by_cases hge : (r : Int) ≥ x.mn
       ·
        refine o_step rfl (step_cast (v' := .bool true) (s_geq rfl rfl) (by rw [decide_eq_true (by omega)])) ?_; refine o_step rfl (s_pick_t rfl rfl) ?_; refine o_step rfl (s_move rfl) ?_; refine o_yes rfl rfl ?_; refine o_step rfl (s_field rfl rfl (by decide)) ?_; refine o_yes rfl rfl ?_; refine o_step rfl (s_ld rfl ((.own meA rfl : Cel _ _ _ (.int .i64 (r : Int))))) ?_; refine o_yes rfl rfl ?_
        by_cases hr0 : (r : Int) > 0
        ·
         refine o_step rfl (step_cast (v' := .bool true) (s_gtr rfl rfl) (by rw [decide_eq_true (by omega)])) ?_; refine o_step rfl (s_pick_t rfl rfl) ?_; refine o_nil ?_; refine x_then (hK14 _ _ ?_); refine c_true rfl ?_; refine c_exit ?_; refine x_then_exit ?_; refine x_block_pass rfl ?_; refine x_then_exit ?_; refine x_then_exit ?_; refine x_block_exit ?_; refine x_then (hK6 _ _ ?_); refine c_seq fun _ hK15 => ?_; refine c_region ?_; refine o_step rfl (s_assign rfl) ?_; refine o_step rfl (s_assign rfl) ?_; refine o_nil ?_; refine x_then (hK15 _ _ ?_); refine c_ret ?_; refine ?_; refine x_sub (Sub.refl _) (H' := [(K.bM, mpO es2 c2)]) hzB ?_; exact x_ret rfl (.tmp rfl (.tmp rfl (.nil))) (⟨es2, c2, rfl, hes2, .inr ⟨fun m2 h1 h2 h => if e : m2 = a then by have := h.2.1; omega else hno m2 (by omega) h2 h, rfl⟩⟩)
        ·
         refine o_step rfl (step_cast (v' := .bool false) (s_gtr rfl rfl) (by rw [decide_eq_false (by omega)])) ?_; refine o_step rfl (s_pick_t rfl rfl) ?_; refine o_nil ?_; refine x_then (hK14 _ _ ?_); refine c_false rfl ?_; refine c_skip ?_; exact x_then (hJ11 () _ _ (by omega) sbA sbA hzB)
       ·
        refine o_step rfl (step_cast (v' := .bool false) (s_geq rfl rfl) (by rw [decide_eq_false (by omega)])) ?_; refine o_step rfl (s_pick_t rfl rfl) ?_; refine o_step rfl (s_move rfl) ?_; refine o_no rfl rfl rfl rfl ?_; refine o_no rfl rfl rfl rfl ?_; refine o_no rfl rfl rfl rfl ?_; refine o_step rfl (s_pick_f rfl rfl) ?_; refine o_nil ?_; refine x_then (hK14 _ _ ?_); refine c_false rfl ?_; refine c_skip ?_; exact x_then (hJ11 () _ _ (by omega) sbA sbA hzB)
      ·
       refine o_step rfl (step_cast (v' := .bool false) (s_eql rfl rfl) (by rw [decide_eq_false (by omega)])) ?_; refine o_step rfl (s_move rfl) ?_; refine o_no rfl rfl rfl rfl ?_; refine o_no rfl rfl rfl rfl ?_; refine o_no rfl rfl rfl rfl ?_; refine o_no rfl rfl rfl rfl ?_; refine o_no rfl rfl rfl rfl ?_; refine o_step rfl (s_pick_f rfl rfl) ?_; refine o_step rfl (s_move rfl) ?_; refine o_no rfl rfl rfl rfl ?_; refine o_no rfl rfl rfl rfl ?_; refine o_no rfl rfl rfl rfl ?_; refine o_step rfl (s_pick_f rfl rfl) ?_; refine o_nil ?_; refine x_then (hK14 _ _ ?_); refine c_false rfl ?_; refine c_skip ?_; exact x_then (hJ11 () _ _ (by omega) sbA sbA hzB)
    ·
     obtain rfl : n = p := by omega
     refine o_step rfl (step_cast (v' := .bool false) (s_geq rfl rfl) (by rw [decide_eq_false (by omega)])) ?_; refine o_nil ?_; refine x_then (hK9 _ _ ?_); refine c_false rfl ?_; refine c_exit ?_; refine x_then_exit ?_; refine x_then_exit ?_; refine x_block_exit ?_; refine x_then (hK6 _ _ ?_); refine c_seq fun _ hK16 => ?_; refine c_region ?_; refine o_step rfl (s_assign rfl) ?_; refine o_step rfl (s_assign rfl) ?_; refine o_nil ?_; refine x_then (hK16 _ _ ?_); refine c_ret ?_; refine ?_; refine x_sub (Sub.refl _) (H' := [(K.bM, mpO es2 c2)]) hzB ?_; exact x_ret rfl (.tmp rfl (.tmp rfl (.nil))) (⟨es2, c2, rfl, hes2, .inr ⟨fun m2 h1 h2 => hno m2 h1 h2, rfl⟩⟩)
   ·
    intro _ hJ5
    refine c_seq fun _ hK17 => ?_; refine c_region ?_; refine o_step rfl (s_field rfl rfl (by decide)) ?_; refine o_step rfl (s_ld rfl (.own meA rfl)) ?_
    by_cases hml : x.mx < 0
    ·
     refine o_step rfl (step_cast (v' := .bool true) (s_lss rfl rfl) (by rw [decide_eq_true (by omega)])) ?_; refine o_nil ?_; refine x_then (hK17 _ _ ?_); refine c_true rfl ?_; refine c_region ?_; refine o_step rfl (s_move rfl) ?_; refine o_step rfl (s_field rfl rfl (by decide)) ?_; refine o_step rfl (s_ld rfl (.own meA rfl)) ?_; refine o_step rfl (s_max rfl rfl) ?_; refine o_step rfl (step_cast (v' := .int .i64 (nxtR x r : Nat)) (s_min rfl rfl) (congrArg (Value.int .i64) (by rw [nxtR, if_pos hml]; omega))) ?_; refine o_step rfl (s_assign rfl) ?_; refine o_nil ?_; exact x_then (hJ5 (nxtR x r) _ _ rfl sbA sbA hzB)
    ·
     refine o_step rfl (step_cast (v' := .bool false) (s_lss rfl rfl) (by rw [decide_eq_false (by omega)])) ?_; refine o_nil ?_; refine x_then (hK17 _ _ ?_); refine c_false rfl ?_; refine c_skip ?_; exact x_then (hJ5 (r + 1) _ _ (by rw [nxtR, if_neg (by omega)]) sbA sbA hzB)
  ·
   intro _ hJ3
   refine c_seq fun _ hK18 => ?_; refine c_region ?_; refine o_step rfl (s_field rfl rfl (by decide)) ?_; refine o_step rfl (s_ld rfl (.own meA rfl)) ?_
   by_cases hm0 : x.mx ≥ 0
   ·
    refine o_step rfl (step_cast (v' := .bool true) (s_geq rfl rfl) (by rw [decide_eq_true (by omega)])) ?_; refine o_step rfl (s_move rfl) ?_; refine o_yes rfl rfl ?_; refine o_step rfl (s_field rfl rfl (by decide)) ?_; refine o_yes rfl rfl ?_; refine o_step rfl (s_ld rfl ((.own meA rfl : Cel _ _ _ (.int .i64 (r : Int))))) ?_; refine o_yes rfl rfl ?_; refine o_step rfl (s_field rfl rfl (by decide)) ?_; refine o_yes rfl rfl ?_; refine o_step rfl (s_ld rfl (.own meA rfl)) ?_; refine o_yes rfl rfl ?_
    by_cases hrm : (r : Int) = x.mx
    ·
     refine o_step rfl (step_cast (v' := .bool true) (s_eql rfl rfl) (by rw [decide_eq_true (by omega)])) ?_; refine o_step rfl (s_pick_t rfl rfl) ?_; refine o_nil ?_; refine x_then (hK18 _ _ ?_); refine c_true rfl ?_; refine c_seq fun _ hK19 => ?_; refine c_region ?_; refine o_step rfl (s_assign rfl) ?_; refine o_step rfl (s_assign rfl) ?_; refine o_nil ?_; refine x_then (hK19 _ _ ?_); refine c_ret ?_; refine x_then_ret (?_); refine x_sub (Sub.refl _) (H' := [(K.bM, mpO es c)]) hzB ?_; exact x_ret rfl (.tmp rfl (.tmp rfl (.nil))) (⟨es, c, rfl, hes, .inr ⟨fun m2 h1 h2 h => by have := h.1; omega, rfl⟩⟩)
    ·
     refine o_step rfl (step_cast (v' := .bool false) (s_eql rfl rfl) (by rw [decide_eq_false (by omega)])) ?_; refine o_step rfl (s_pick_t rfl rfl) ?_; refine o_nil ?_; refine x_then (hK18 _ _ ?_); refine c_false rfl ?_; refine c_skip ?_; exact x_then (hJ3 () _ _ (by omega) sbA sbA hzB)
   ·
    refine o_step rfl (step_cast (v' := .bool false) (s_geq rfl rfl) (by rw [decide_eq_false (by omega)])) ?_; refine o_step rfl (s_move rfl) ?_; refine o_no rfl rfl rfl rfl ?_; refine o_no rfl rfl rfl rfl ?_; refine o_no rfl rfl rfl rfl ?_; refine o_no rfl rfl rfl rfl ?_; refine o_no rfl rfl rfl rfl ?_; refine o_step rfl (s_pick_f rfl rfl) ?_; refine o_nil ?_; refine x_then (hK18 _ _ ?_); refine c_false rfl ?_; refine c_skip ?_; exact x_then (hJ3 () _ _ (by omega) sbA sbA hzB)
end Go.Proofs.Ytmpeokbongnniaa

/- Part of the proofs over this seat: see the text that holds the theorem. Conditions: each theorem bears its own. -/
namespace Go.Proofs.Ytmpeokbongnniaa
open Go Go.HL Go.Proofs Go.HL.Kl Go.HL.Kl.Mc Go.HL.Kl.Mc.AskE
theorem rest_of {K : AskE} (hr : K.rF = 100) {k : Ky} (hF : FindK Try.prog K 101 k) : RestK Try.prog K k := fun es c hes => by
  rw [hr]; exact rest_clo K k es c hes hF
theorem cat_all {K : AskE} (hK : K.ok) (hr : K.rF = 100) {x : Nd} {ks : F} {i i1 : Nat} (hp : Part K.re (.nd x ks .nil) i i1) (h4 : x.op = 4) (ih : ∀ y js, js.size < ks.size → NodeK Try.prog K y js) :
    ∀ (g : F) (m : Nat), Part K.re g m i1 → g.size ≤ ks.size → ∀ p q, p ≤ q → q ≤ K.tx.length → RestK Try.prog K ⟨i, m, p, q⟩
  | .nil, m, hg, hs, p, q, hpq, hq => rest_of hr fun es c hes => find_cat K hK x ks i i1 p q es c hp hpq hq hes m .nil hg h4 fun y js r h => by cases h
  | .nd y js r, m, hg, hs, p, q, hpq, hq => rest_of hr fun es c hes => find_cat K hK x ks i i1 p q es c hp hpq hq hes m (.nd y js r) hg h4 fun y' js' r' h => by
    cases h
    simp only [F.size] at hs
    intro es c hes
    exact kid_fn K hK x ks i i1 p q es c hp hpq hq hes m y js r hg (ih y js (by omega)) (fun n h1 h2 => by
      have := cat_all hK hr hp h4 ih r (m + 1 + js.size) hg.head.2.2 (by omega) n q h2 hq
      exact this) h4
theorem rep_all {K : AskE} (hK : K.ok) (hr : K.rF = 100) {x : Nd} {ks : F} {i i1 : Nat} (hp : Part K.re (.nd x ks .nil) i i1) (h6 : x.op = 6) (ih : ∀ y js, js.size < ks.size → NodeK Try.prog K y js) (c : Nat) (hc : c = max x.mn.toNat 1) :
    ∀ (M r p q : Nat), (q - p) * (c + 1) + (c - r) < M → p ≤ q → q ≤ K.tx.length → (x.mx = -1 ∧ r ≤ c) ∨ (0 ≤ x.mx ∧ (r : Int) ≤ x.mx) → RestK Try.prog K ⟨i, r, p, q⟩ := by
  have hok : ndOk x = true := hp.wf.1
  have hrg := rep_rng hok h6
  intro M
  induction M with
  | zero => intro r p q h; omega
  | succ M ihM =>
    intro r p q hM hpq hq hv
    refine rest_of hr fun es c' hes => find_rep K hK x ks i i1 p q es c' hp hpq hq hes r h6 (by omega) fun es c' hes => ?_; refine round_fn K hK x ks i i1 p q es c' hp hpq hq hes r h6 (by omega) (by omega) (fun y js h => ih y js (by rw [h]; simp only [F.size]; omega)) fun n h1 h2 h3 h4 => ?_
    have hnx : (x.mx = -1 ∧ nxtR x r = min (r + 1) c) ∨ (0 ≤ x.mx ∧ nxtR x r = r + 1) := by
      unfold nxtR
      by_cases h : x.mx < 0
      · rw [if_pos h, hc]; exact .inl ⟨by omega, rfl⟩
      · rw [if_neg h]; exact .inr ⟨by omega, rfl⟩
    refine ihM (nxtR x r) n q ?_ h2 hq (by omega)
    by_cases e : n = p
    · subst e; omega
    · have h5 : (q - n + 1) * (c + 1) ≤ (q - p) * (c + 1) := Nat.mul_le_mul_right _ (by omega)
      rw [Nat.add_mul, Nat.one_mul] at h5
      omega
theorem node_all {K : AskE} (hK : K.ok) (hn : K.nF = 99) (hr : K.rF = 100) : ∀ (n : Nat) (x : Nd) (ks : F), ks.size < n → NodeK Try.prog K x ks := by
  intro n
  induction n with
  | zero => intro x ks h; omega
  | succ n ihn =>
    intro x ks hs i i1 p q es c hp hpq hq hes
    have ih : ∀ y js, js.size < ks.size → NodeK Try.prog K y js := fun y js h => ihn y js (by omega)
    rw [hn]
    refine node_clo K hK x ks i i1 p q es c hp hpq hq hes (fun _ y js h => ih y js (by rw [h]; simp only [F.size]; omega)) (fun h4 => ?_) (fun h5 => ?_) (fun h6 => ?_)
    · have h1 := hp.head.2.1
      have hl := hp.len
      simp only [F.size] at hl
      exact cat_all hK hr hp h4 ih ks (i + 1) (by rw [hl]; simpa [Nat.add_assoc, Nat.add_comm] using h1) (Nat.le_refl _) p q hpq hq
    · exact rest_of hr fun es c hes => find_alt K hK x ks i i1 p q es c hp hpq hq hes h5 ih
    · have hrg := rep_rng hp.wf.1 h6
      exact rep_all hK hr hp h6 ih _ rfl _ 0 p q (Nat.lt_succ_self _) hpq hq (by omega)
end Go.Proofs.Ytmpeokbongnniaa

/- Part of the proofs over this seat: see the text that holds the theorem. Conditions: each theorem bears its own. -/
namespace Go.Proofs.Ytmpeokbongnniaa
open Go Go.HL Go.Proofs Go.HL.Kl Go.HL.Kl.Mc Go.HL.Kl.Mc.AskE
set_option maxHeartbeats 1000000 in
theorem forget_fn (K : AskE) (hK : K.ok) (y : Nd) (js : F) (a i1 : Nat) (hpa : Part K.re (.nd y js .nil) a i1) (ca : Option Addr) (cc N : Nat) (cs : List Sp) (Sc : Hp) (hcl : cs.length = N) (hsl8 : Slots K.re N) (hO : OwnS Esp 2 51 (.slice ca N cc) cs Sc) : HL.Fn Try.prog 111 [pt K.bS, .int .i64 a, .slice ca N cc] (fun W => Env W K (keys Sc)) Sc (fun _ S' => OwnS Esp 2 51 (.slice ca N cc) (fgt (F.nd y js .nil).flat cs) S') := by
  refine fn_of Try.func111 rfl rfl rfl fun w0 hw => ?_
  have hsl := hw.d1.sl
  have hse := hw.d3.sl
  have hrl := hK.len
  rw [hK.ends.1] at hse
  have hell := hK.ends.1
  have hal := hpa.le
  have hpl := hpa.len
  simp only [F.size] at hpl
  have hei := hK.ends.2 a y js .nil _ (Nat.zero_le _) hpa
  refine c_seq fun _ hK1 => ?_; refine c_region ?_; refine o_step rfl (s_move rfl) ?_; refine o_step rfl (s_assign rfl) ?_; refine o_nil ?_; refine x_then (hK1 _ _ ?_); refine c_block ?_; refine c_loop3 (fun (j : Nat) (l : List Sp) (S : Hp) => a ≤ j ∧ j ≤ a + 1 + js.size ∧ l = fgtTo K.re a j cs ∧ OwnS Esp 2 51 (.slice ca N cc) l S) (fun (j : Nat) (l : List Sp) (S : Hp) => [(6, .int .i64 j)]) [(0, _), (1, _), (2, _)] (fun (j : Nat) (l : List Sp) (S : Hp) => S) (fun (j : Nat) (l : List Sp) (S : Hp) => a + 1 + js.size - j) a cs Sc ⟨Nat.le_refl _, by omega, fgtTo_start.symm, hO⟩ sbA sbA hzB ?_
  rintro j l S ⟨hj1, hj2, hl, hS⟩
  have hll : l.length = N := by rw [hl, fgtTo_len, hcl]
  have hls := hS.sl
  rw [hll] at hls
  refine c_seq fun _ hK2 => ?_; refine c_seq fun _ hK3 => ?_; refine c_region ?_; refine o_step rfl (s_move rfl) ?_; refine o_step rfl (s_move rfl) ?_; refine o_step rfl (s_nil rfl) ?_; refine o_step rfl (s_field rfl rfl (by decide)) ?_; refine o_step rfl (s_ld rfl ((RdPK.old hw.p4 hw.n4).cel (j := 1) rfl rfl)) ?_; refine o_step rfl (s_move rfl) ?_; refine o_step rfl (s_idx rfl rfl hse (by omega)) ?_; refine o_step rfl (s_ld rfl ((RdK.old hw.d3 hw.a3).ld a 0 hei rfl (by decide) (by omega))) ?_
  by_cases hjl : (j : Int) < a + 1 + js.size
  ·
   obtain ⟨x, hxj⟩ : ∃ x, K.re[j]? = some x := ⟨_, List.getElem?_eq_getElem (by omega)⟩
   have hxm := List.mem_of_getElem? hxj
   refine o_step rfl (step_cast (v' := .bool true) (s_lss rfl rfl) (by rw [decide_eq_true (by omega)])) ?_; refine o_nil ?_; refine x_then (hK3 _ _ ?_); refine c_true rfl ?_; refine c_skip ?_; refine x_then (hK2 _ _ ?_); refine c_seq fun _ hK4 => ?_; refine c_block ?_; refine c_seq fun _ hK5 => ?_; refine c_region ?_; refine o_step rfl (s_move rfl) ?_; refine o_step rfl (s_nil rfl) ?_; refine o_step rfl (s_field rfl rfl (by decide)) ?_; refine o_step rfl (s_ld rfl ((RdPK.old hw.p4 hw.n4).cel (j := 0) rfl rfl)) ?_; refine o_step rfl (s_move rfl) ?_; refine o_step rfl (s_idx rfl rfl hsl (by omega)) ?_; refine o_step rfl (s_field rfl rfl (by decide)) ?_; refine o_step rfl (s_ld rfl ((RdK.old hw.d1 hw.a1).ld j 0 hxj rfl (by decide) (by omega))) ?_
   by_cases h7 : x.op = 7
   ·
    have hx7 := hsl8 x hxm h7
    refine o_step rfl (step_cast (v' := .bool true) (s_eql rfl rfl) (by rw [decide_eq_true h7])) ?_; refine o_nil ?_; refine x_then (hK5 _ _ ?_); refine c_true rfl ?_; refine c_region ?_; refine o_step rfl (s_move rfl) ?_; refine o_step rfl (s_move rfl) ?_; refine o_step rfl (s_nil rfl) ?_; refine o_step rfl (s_field rfl rfl (by decide)) ?_; refine o_step rfl (s_ld rfl ((RdPK.old hw.p4 hw.n4).cel (j := 0) rfl rfl)) ?_; refine o_step rfl (s_move rfl) ?_; refine o_step rfl (s_idx rfl rfl hsl (by omega)) ?_; refine o_step rfl (s_field rfl rfl (by decide)) ?_; refine o_step rfl (s_ld rfl ((RdK.old hw.d1 hw.a1).ld j 5 hxj rfl (by decide) (by omega))) ?_; refine o_step rfl (step_cast (v' := .agg (Esp noS).toArray) (s_build (cs := [_, _]) (vs := [_, _]) rfl rfl (.cons rfl rfl rfl rfl rfl (.cons rfl rfl rfl rfl rfl (.nil)))) rfl) ?_; refine o_step rfl (s_idx rfl rfl hls (by omega)) ?_; refine o_stSE x.n.toNat noS hS pkA rfl rfl (by omega) (by rfl) fun S' hS' => ?_
    refine o_nil ?_; refine x_block ?_; refine x_then (hK4 _ _ ?_); refine c_region ?_; refine o_step rfl (s_move rfl) ?_; refine o_step rfl (s_add rfl rfl (by omega)) ?_; refine o_step rfl (s_assign rfl) ?_; refine o_nil ?_; exact x_then (x_inv (j + 1, _, _) ⟨by omega, by omega, by dsimp only; rw [fgtTo_step hxj hj1, ← hl, fg1, if_pos h7], hS'⟩ (by first | omega | (dsimp only; omega)) sbA hzB)
   ·
    refine o_step rfl (step_cast (v' := .bool false) (s_eql rfl rfl) (by rw [decide_eq_false h7])) ?_; refine o_nil ?_; refine x_then (hK5 _ _ ?_); refine c_false rfl ?_; refine c_skip ?_; refine x_block ?_; refine x_then (hK4 _ _ ?_); refine c_region ?_; refine o_step rfl (s_move rfl) ?_; refine o_step rfl (s_add rfl rfl (by omega)) ?_; refine o_step rfl (s_assign rfl) ?_; refine o_nil ?_; exact x_then (x_inv (j + 1, _, _) ⟨by omega, by omega, by dsimp only; rw [fgtTo_step hxj hj1, ← hl, fg1, if_neg h7], hS⟩ (by first | omega | (dsimp only; omega)) sbA hzB)
  ·
   obtain rfl : j = a + 1 + js.size := by omega
   refine o_step rfl (step_cast (v' := .bool false) (s_lss rfl rfl) (by rw [decide_eq_false (by omega)])) ?_; refine o_nil ?_; refine x_then (hK3 _ _ ?_); refine c_false rfl ?_; refine c_exit ?_; refine x_then_exit ?_; refine x_then_exit ?_; refine x_block_exit ?_; refine x_sub (Sub.refl _) (H' := S) hzB ?_; exact x_end rfl (.nil) ((by rw [hl, fgtTo_part (by have h := hpa; rw [show i1 = a + 1 + js.size by omega] at h; exact h)] at hS; exact hS))

theorem groups_fn (ra : Option Addr) (rc : Nat) (re : List Nd) (hre : ∀ x ∈ re, -128 ≤ x.op ∧ x.op < 128) : HL.Fn Try.prog 40 [.slice ra re.length rc] (fun w => Rd En w (.slice ra re.length rc) re) [] (fun v _ => v = .int .i64 ((if shapedB re = true then gcn re else 0 : Nat) : Int)) := by
  refine fn_of Try.func40 rfl rfl rfl fun w0 hw => ?_
  have hsl := hw.sl
  have hbl := hsl.le
  refine c_seq fun _ hK1 => ?_; refine c_region ?_; refine o_step rfl (s_assign rfl) ?_; refine o_nil ?_; refine x_then (hK1 _ _ ?_); refine c_seq fun _ hK2 => ?_; refine c_region ?_; refine o_step rfl (s_assign rfl) ?_; refine o_nil ?_; refine x_then (hK2 _ _ ?_); refine c_seq fun _ hK3 => ?_; refine c_seq fun _ hK4 => ?_; refine c_region ?_; refine o_step rfl (s_move rfl) ?_; refine o_callP (shaped_fn ra rc re hre) rfl rfl rfl (fun w st => (RdK.old0 hw).out w st) (fun v7 hv7 => ?_); subst hv7
  cases hsb : shapedB re
  ·
   refine o_nil ?_; refine x_then (hK4 _ _ ?_); refine c_false rfl ?_; refine c_skip ?_; refine x_then (hK3 _ _ ?_); refine c_seq fun _ hK5 => ?_; refine c_region ?_; refine o_step rfl (s_move rfl) ?_; refine o_step rfl (s_assign rfl) ?_; refine o_nil ?_; refine x_then (hK5 _ _ ?_); refine c_ret ?_; refine ?_; exact x_ret rfl (.tmp rfl (.nil)) ((by rw [hsb]; rfl))
  ·
   refine o_nil ?_; refine x_then (hK4 _ _ ?_); refine c_true rfl ?_; refine c_seq fun _ hK6 => ?_; refine c_region ?_; refine o_step rfl (s_move rfl) ?_; refine o_step rfl (s_len rfl) ?_; refine o_step rfl (s_move rfl) ?_; refine o_nil ?_; refine x_then (hK6 _ _ ?_); refine c_block ?_; refine c_loopB (fun (j : Nat) => j ≤ re.length) (fun (j : Nat) => [(10, .int .i64 j), (3, .int .i64 (gcn (re.take j) : Nat))]) [(2, _), (8, _), (9, _)] (fun (j : Nat) => _) (fun (j : Nat) => re.length - j) 0 (Nat.zero_le _) sbA sbA hzB ?_
   rintro j hj
   refine c_seq fun _ hK7 => ?_; refine c_region ?_
   by_cases hjl : j < re.length
   ·
    obtain ⟨x, hx⟩ : ∃ x, re[j]? = some x := ⟨_, List.getElem?_eq_getElem hjl⟩
    have hxo := hre x (List.mem_of_getElem? hx)
    have hgl : gcn (re.take j) ≤ j := by have h1 := List.countP_le_length (p := fun x => decide (x.op = 7)) (l := re.take j); rw [List.length_take] at h1; unfold gcn; omega
    refine o_step rfl (step_cast (v' := .bool true) (s_lss rfl rfl) (by rw [decide_eq_true (by omega)])) ?_; refine o_nil ?_; refine x_then (hK7 _ _ ?_); refine c_seq fun _ hK8 => ?_; refine c_true rfl ?_; refine c_skip ?_; refine x_then (hK8 _ _ ?_); refine c_seq fun _ hK9 => ?_; refine c_block ?_; refine c_seq fun _ hK10 => ?_; refine c_region ?_; refine o_step rfl (s_idx rfl rfl hsl (by omega)) ?_; refine o_step rfl (s_ldB rfl ((RdK.old0 hw).lds j hx rfl) (by rfl)) ?_; refine o_alloc (l := En zN) (by rw [En_zero]; rfl) rfl fun b5 => ?_; refine o_stW rfl rfl upA lnA lnA onA ?_; refine o_nil ?_; refine x_then (hK10 _ _ ?_); refine c_seq fun _ hK11 => ?_; refine c_region ?_; refine o_step rfl (s_field rfl rfl (by decide)) ?_; refine o_step rfl (s_ld rfl (.own meA rfl)) ?_
    by_cases h7 : x.op = 7
    ·
     refine o_step rfl (step_cast (v' := .bool true) (s_eql rfl rfl) (by rw [decide_eq_true h7])) ?_; refine o_nil ?_; refine x_then (hK11 _ _ ?_); refine c_true rfl ?_; refine c_region ?_; refine o_step rfl (s_move rfl) ?_; refine o_step rfl (s_add rfl rfl (by omega)) ?_; refine o_step rfl (s_assign rfl) ?_; refine o_nil ?_; refine x_block ?_; refine x_then (hK9 _ _ ?_); refine c_region ?_; refine o_step rfl (s_add rfl rfl (by omega)) ?_; refine o_step rfl (s_move rfl) ?_; refine o_nil ?_; exact x_then (x_inv (j + 1) (by omega) (by first | omega | (dsimp only; omega)) (by exact Sub.cons rfl (Sub.cons' rfl (by rw [gcn_take hx, if_pos h7]; rfl) sbA)) hzB)
    ·
     refine o_step rfl (step_cast (v' := .bool false) (s_eql rfl rfl) (by rw [decide_eq_false h7])) ?_; refine o_nil ?_; refine x_then (hK11 _ _ ?_); refine c_false rfl ?_; refine c_skip ?_; refine x_block ?_; refine x_then (hK9 _ _ ?_); refine c_region ?_; refine o_step rfl (s_add rfl rfl (by omega)) ?_; refine o_step rfl (s_move rfl) ?_; refine o_nil ?_; exact x_then (x_inv (j + 1) (by omega) (by first | omega | (dsimp only; omega)) (by exact Sub.cons rfl (Sub.cons' rfl (by rw [gcn_take hx, if_neg h7]; rfl) sbA)) hzB)
   ·
    obtain rfl : j = re.length := by omega
    refine o_step rfl (step_cast (v' := .bool false) (s_lss rfl rfl) (by rw [decide_eq_false (by omega)])) ?_; refine o_nil ?_; refine x_then (hK7 _ _ ?_); refine c_seq fun _ hK12 => ?_; refine c_false rfl ?_; refine c_exit ?_; refine x_then_exit ?_; refine x_then_exit ?_; refine x_block_exit ?_; refine x_then (hK3 _ _ ?_); refine c_seq fun _ hK13 => ?_; refine c_region ?_; refine o_step rfl (s_move rfl) ?_; refine o_step rfl (s_assign rfl) ?_; refine o_nil ?_; refine x_then (hK13 _ _ ?_); refine c_ret ?_; refine ?_; exact x_ret rfl (.tmp rfl (.nil)) ((by rw [hsb, List.take_length]; rfl))
end Go.Proofs.Ytmpeokbongnniaa
