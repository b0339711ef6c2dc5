/- Part of the proofs over this seat: see the text that holds the theorem. Conditions: each theorem bears its own. -/
import Derived.Test.YtiggliigookieaaDoorMK7Z
import Derived.Test.YtiggliigookieaaDoorHlB
import Derived.Test.YtiggliigookieaaDoorQF1Z
namespace Go.Proofs.YtiggliigookieaaDoor
open Go Go.HL Go.Proofs Go.HL.Kl Go.HL.Kl.Mc Go.HL.Kl.Mc.AskE
set_option maxHeartbeats 2000000 in
theorem cat10_fn (K : WalkE) (hK : K.ok) (g0 : F) (m0 e p q : Nat) (hg0 : Part K.re g0 m0 e) (hpq : p ≤ q) (hq : q ≤ K.tx.length) (hd0 : der K.tx g0 false p q) (Z : Nat) (hZ : g0.size ≤ Z) (ihB : ∀ y js, js.size < Z → BestK Tryd.prog K 52 62 y js) (cs : List Sp) (Sc : Hp) (hcl : cs.length = K.N) (hsl8 : Slots K.re K.N) (hO : OwnS Esp 2 62 K.vca cs Sc) : HL.Fn Tryd.prog 68 [pt K.bW, .int .i64 m0, .int .i64 e, .int .i64 p, .int .i64 q] (fun W => EnvW W K (keys Sc)) Sc (fun _ S' => OwnS Esp 2 62 K.vca (bst K.tx g0 false p q cs) S') := by
  refine fn_of Tryd.func68 rfl rfl rfl fun w0 hw => ?_
  have hrl := hK.len
  have htl := hK.tx
  refine c_block ?_
  refine c_loop5 (fun (m : Nat) (g : F) (p2 : Nat) (cs2 : List Sp) (Sc2 : Hp) => Part K.re g m e ∧ g.size ≤ g0.size ∧ p2 ≤ q ∧ der K.tx g false p2 q ∧ bst K.tx g0 false p q cs = bst K.tx g false p2 q cs2 ∧ cs2.length = K.N ∧ OwnS Esp 2 62 K.vca cs2 Sc2) (fun (m : Nat) (g : F) (p2 : Nat) (cs2 : List Sp) (Sc2 : Hp) => [(1, .int .i64 m), (3, .int .i64 p2)]) [(0, _), (2, _), (4, _)] (fun (m : Nat) (g : F) (p2 : Nat) (cs2 : List Sp) (Sc2 : Hp) => Sc2) (fun (m : Nat) (g : F) (p2 : Nat) (cs2 : List Sp) (Sc2 : Hp) => g.size) m0 g0 p cs Sc ⟨hg0, Nat.le_refl _, hpq, hd0, rfl, hcl, hO⟩ sbA sbA hzB ?_
  rintro m g p2 cs2 Sc2 ⟨hpg, hgs, hp2q, hdg, hbe, hcl2, hO2⟩
  have hgl := hpg.len
  have hgle := hpg.le
  refine c_seq fun _ hK1 => ?_
  refine c_seq fun _ hK2 => ?_
  refine c_region ?_
  refine o_step rfl (s_move rfl) ?_
  refine o_step rfl (s_move rfl) ?_
  by_cases hm : (m : Int) < e
  ·
   obtain ⟨y, js, r2, rfl⟩ : ∃ y ks1 r2, g = F.nd y ks1 r2 := by cases g with | nil => simp [F.size] at hgl; omega | nd y a b => exact ⟨y, a, b, rfl⟩
   obtain ⟨hy, hpy, hpt⟩ := hpg.head
   have hpo := hpg.one
   have hply := hpy.le
   simp only [F.size] at hgs hgl
   refine o_step rfl (step_cast (v' := .bool true) (s_lss rfl rfl) (by rw [decide_eq_true (by omega)])) ?_
   refine o_nil ?_
   refine x_then (hK2 _ _ ?_)
   refine c_true rfl ?_
   refine c_skip ?_
   refine x_then (hK1 _ _ ?_)
   refine c_block ?_
   refine c_seq fun _ hK3 => ?_
   refine c_region ?_
   refine o_step rfl (s_move rfl) ?_
   refine o_step rfl (s_nil rfl) ?_
   refine o_step rfl (s_field rfl rfl (by decide)) ?_
   refine o_step rfl (s_ld rfl ((RdPK.old hw.p1 hw.n1).cel (j := 0) rfl rfl)) ?_
   refine o_step rfl (s_move rfl) ?_
   refine o_callP (behind10_fn K.ra K.rc K.re y js m _ hpo) rfl rfl rfl (fun w2 st => (RdK.old hw.d1 hw.a1).out w2 st) (fun v22 hv22 => ?_)
   subst hv22
   refine o_step rfl (s_assign rfl) ?_
   refine o_nil ?_
   refine x_then (hK3 _ _ ?_)
   refine c_seq fun _ hK4 => ?_
   refine c_region ?_
   refine o_step rfl (s_move rfl) ?_
   refine o_step rfl (s_assign rfl) ?_
   refine o_nil ?_
   refine x_then (hK4 _ _ ?_)
   refine c_seq fun _ hK5 => ?_
   refine c_block ?_
   obtain ⟨mm, hmm⟩ : ∃ n, Grt (fun n => der1 K.tx y js p2 n ∧ der K.tx r2 false n q) p2 q n := by obtain ⟨t, h1, h2⟩ := der_cat.1 hdg; exact grt_ex (Q := (fun n => der1 K.tx y js p2 n ∧ der K.tx r2 false n q)) (der1_up _ _ h1) (der_up _ _ _ _ h2) ⟨h1, h2⟩
   have hmp := hmm.1
   refine c_loopB (fun (n : Nat) => mm ≤ n ∧ n ≤ q ∧ (∀ m2, n < m2 → m2 ≤ q → ¬ (fun n => der1 K.tx y js p2 n ∧ der K.tx r2 false n q) m2)) (fun (n : Nat) => [(11, .int .i64 n)]) [(0, _), (1, _), (2, _), (3, _), (4, _), (10, _), (14, _), (15, _), (16, _), (17, _), (18, _), (19, _), (20, _), (21, _), (22, _), (23, _)] (fun (n : Nat) => Sc2) (fun (n : Nat) => n) q ⟨hmm.2.1, Nat.le_refl _, fun m2 h1 h2 => by omega⟩ sbA sbA hzB ?_
   rintro n ⟨hn1, hn2, hno⟩
   refine c_block ?_
   refine c_seq fun _ hK6 => ?_
   refine c_region ?_
   refine o_step rfl (s_move rfl) ?_
   refine o_step rfl (s_move rfl) ?_
   refine o_call (one10_fn K hK n (by omega)) rfl rfl rfl (by exact .nil) (fun w2 st => hw.sub (S := []) st hin_nil) (fun v26 S26 ⟨a26, c26, l26, hv26, hi26, hr26⟩ => ?_)
   subst hv26
   refine o_step rfl (s_assign rfl) ?_
   refine o_nil ?_
   refine x_then (hK6 _ _ ?_)
   refine c_seq fun _ hK7 => ?_
   refine c_seq fun _ hK8 => ?_
   refine c_region ?_
   refine o_step rfl (s_move rfl) ?_
   refine o_step rfl (s_assign rfl) ?_
   refine o_nil ?_
   refine x_then (hK8 _ _ ?_)
   refine c_block ?_
   refine c_loop7 (fun (m3 : Nat) (g3 : F) (a3 : Option Addr) (c3 : Nat) (l3 : List Bool) (S3 : Hp) (SS : (Nat → Prop)) => Part K.re g3 m3 e ∧ IsS l3 K.tx.length SS ∧ (∀ t, SS t → t ≤ K.tx.length) ∧ (∀ t, img (der K.tx g3 false) SS t ↔ der K.tx r2 false n t) ∧ RdS Ebo (.slice a3 l3.length c3) l3 S3) (fun (m3 : Nat) (g3 : F) (a3 : Option Addr) (c3 : Nat) (l3 : List Bool) (S3 : Hp) (SS : (Nat → Prop)) => [(13, .int .i64 m3), (12, .slice a3 l3.length c3)]) [(0, _), (1, _), (2, _), (3, _), (4, _), (10, _), (11, _), (14, _), (15, _), (16, _), (17, _), (18, _), (19, _), (20, _), (21, _), (22, _), (23, _), (24, _), (25, _), (26, _), (27, _)] (fun (m3 : Nat) (g3 : F) (a3 : Option Addr) (c3 : Nat) (l3 : List Bool) (S3 : Hp) (SS : (Nat → Prop)) => S3 ++ Sc2) (fun (m3 : Nat) (g3 : F) (a3 : Option Addr) (c3 : Nat) (l3 : List Bool) (S3 : Hp) (SS : (Nat → Prop)) => g3.size) (m + 1 + js.size) r2 a26 c26 l26 S26 (fun t => t = n) ⟨hpt, hi26, fun t h => by omega, fun t => ⟨fun ⟨u, h1, h2⟩ => (show u = n from h1) ▸ h2, fun h => ⟨n, rfl, h⟩⟩, hr26⟩ sbA sbA hzB ?_
   rintro m3 g3 a3 c3 l3 S3 SS ⟨hpg3, hi3, hSb, him, hr3⟩
   have hgl3 := hpg3.len
   have hgle3 := hpg3.le
   have hll3 := hi3.len
   refine c_seq fun _ hK9 => ?_
   refine c_seq fun _ hK10 => ?_
   refine c_region ?_
   refine o_step rfl (s_move rfl) ?_
   refine o_step rfl (s_move rfl) ?_
   by_cases hm3 : (m3 : Int) < e
   ·
    obtain ⟨y3, js3, r3, rfl⟩ : ∃ y ks1 r2, g3 = F.nd y ks1 r2 := by cases g3 with | nil => simp [F.size] at hgl3; omega | nd y a b => exact ⟨y, a, b, rfl⟩
    obtain ⟨hy3, hpy3, hpt3⟩ := hpg3.head
    have hpo3 := hpg3.one
    have hply3 := hpy3.le
    simp only [F.size] at hgl3
    refine o_step rfl (step_cast (v' := .bool true) (s_lss rfl rfl) (by rw [decide_eq_true (by omega)])) ?_
    refine o_nil ?_
    refine x_then (hK10 _ _ ?_)
    refine c_true rfl ?_
    refine c_skip ?_
    refine x_then (hK9 _ _ ?_)
    refine c_seq fun _ hK11 => ?_
    refine c_block ?_
    refine c_region ?_
    refine o_step rfl (s_move rfl) ?_
    refine o_step rfl (s_move rfl) ?_
    refine o_step rfl (s_move rfl) ?_
    refine o_call (over10_fn K hK y3 js3 m3 _ hpo3 a3 c3 l3 SS hi3 hSb) rfl rfl rfl (by exact .nil) (fun w2 st => ⟨hw.sub (S := []) st hin_nil, (hr3.rdk hiA).out w2 st⟩) (fun v40 S40 hv40 => ?_)
    obtain ⟨a40, c40, l40, rfl, hi40, hr40⟩ := hv40.rds hr3
    refine o_step rfl (s_assign rfl) ?_
    refine o_nil ?_
    refine x_block ?_
    refine x_then (hK11 _ _ ?_)
    refine c_region ?_
    refine o_step rfl (s_move rfl) ?_
    refine o_step rfl (s_nil rfl) ?_
    refine o_step rfl (s_field rfl rfl (by decide)) ?_
    refine o_step rfl (s_ld rfl ((RdPK.old hw.p1 hw.n1).cel (j := 0) rfl rfl)) ?_
    refine o_step rfl (s_move rfl) ?_
    refine o_callP (behind10_fn K.ra K.rc K.re y3 js3 m3 _ hpo3) rfl rfl rfl (fun w2 st => (RdK.old hw.d1 hw.a1).out w2 st) (fun v36 hv36 => ?_)
    subst hv36
    refine o_step rfl (s_assign rfl) ?_
    refine o_nil ?_
    exact x_then (x_inv ((m3 + 1 + js3.size), r3, a40, c40, l40, S40 ++ S3, (img (der1 K.tx y3 js3) SS)) ⟨hpt3, hi40, fun t ⟨u, h1, h2⟩ => der1_inn _ _ (hSb u h1) h2, fun t => (show img (der K.tx r3 false) (img (der1 K.tx y3 js3) SS) t ↔ img (der K.tx (.nd y3 js3 r3) false) SS t from ⟨fun ⟨u, ⟨v, a1, a2⟩, a3⟩ => ⟨v, a1, der_cat.2 ⟨u, a2, a3⟩⟩, fun ⟨v, a1, a2⟩ => by obtain ⟨u, b1, b2⟩ := der_cat.1 a2; exact ⟨u, ⟨v, a1, b1⟩, b2⟩⟩).trans (him t), hr40⟩ (by simp only [F.size]; omega) sbA hzB)
   ·
    obtain rfl : g3 = F.nil := F.size_nil (by omega)
    have hrest : ∀ t, t ≤ K.tx.length → (SS t ↔ der K.tx r2 false n t) := fun t ht => (show SS t ↔ img (der K.tx F.nil false) SS t from ⟨fun h => ⟨t, h, der_nil.2 rfl⟩, fun ⟨u, h1, h2⟩ => (der_nil.1 h2) ▸ h1⟩).trans (him t)
    have hlq := bo0_get (l := l3) (i := q) (by have := hi3.len; omega)
    refine o_step rfl (step_cast (v' := .bool false) (s_lss rfl rfl) (by rw [decide_eq_false (by omega)])) ?_
    refine o_nil ?_
    refine x_then (hK10 _ _ ?_)
    refine c_false rfl ?_
    refine c_exit ?_
    refine x_then_exit ?_
    refine x_then_exit ?_
    refine x_block_exit ?_
    refine x_then (hK7 _ _ ?_)
    refine c_seq fun _ hK12 => ?_
    refine c_seq fun _ hK13 => ?_
    refine c_knw (p := IsSl (.slice a3 l3.length c3) l3.length) (fun w2 st => ((hr3.rdk hiA).out w2 st).sl) fun hls3 => ?_
    refine c_region ?_
    refine o_step rfl (s_move rfl) ?_
    refine o_step rfl (s_move rfl) ?_
    refine o_step rfl (s_idx rfl rfl hls3 (by omega)) ?_
    by_cases hbt : bo0 l3 q = true
    ·
     refine o_step rfl (step_cast (v' := .bool true) (s_ld rfl ((hr3.rdk hiA).ld q 0 hlq rfl (by decide) (by omega))) (by rw [hbt])) ?_
     refine o_step rfl (s_move rfl) ?_
     refine o_yes rfl rfl ?_
     refine o_step rfl (s_move rfl) ?_
     refine o_yes rfl rfl ?_
     refine o_step rfl (s_move rfl) ?_
     refine o_yes rfl rfl ?_
     refine o_step rfl (s_move rfl) ?_
     refine o_yes rfl rfl ?_
     refine o_step rfl (s_move rfl) ?_
     refine o_yes rfl rfl ?_
     refine o_callP (takes10_fn K hK y js m _ hpo p2 n (by omega) (by omega)) rfl rfl rfl (fun w2 st => hw.sub (S := []) st hin_nil) (fun v50 hv50 => ?_)
     subst hv50
     cases hb50 : dQ (der1 K.tx y js p2 n)
     ·
      have hnq : ¬ (fun n => der1 K.tx y js p2 n ∧ der K.tx r2 false n q) n := fun h => by rw [dQ_t h.1] at hb50; cases hb50
      refine o_step rfl (s_pick_t rfl rfl) ?_
      refine o_nil ?_
      refine x_then (hK13 _ _ ?_)
      refine c_false rfl ?_
      refine c_skip ?_
      refine x_then (hK12 _ _ ?_)
      refine c_region ?_
      refine o_step rfl (s_move rfl) ?_
      refine o_step rfl (s_sub rfl rfl (by omega)) ?_
      refine o_step rfl (s_assign rfl) ?_
      refine o_nil ?_
      refine x_block ?_
      obtain ⟨a, rfl⟩ : ∃ a, n = a + 1 := ⟨n - 1, by rcases Nat.lt_or_ge mm n with h | h; (· omega); (· exact absurd ((Nat.le_antisymm hn1 h) ▸ hmm.2.2.1) hnq)⟩
      have hne : mm ≠ a + 1 := fun h => hnq (h ▸ hmm.2.2.1)
      exact x_then (x_inv a ⟨by omega, by omega, fun m2 h1 h2 => if h : m2 = a + 1 then h ▸ hnq else hno m2 (by omega) h2⟩ (by first | omega | (dsimp only; omega)) (by exact Sub.cons' rfl (by congr 1; omega) sbA) hzB)
     ·
      have hG : Grt (fun n => der1 K.tx y js p2 n ∧ der K.tx r2 false n q) p2 q n := ⟨by omega, hn2, ⟨dQ_iff.1 hb50, (hrest q hq).1 ((hi3.get q hq).1 (bo0_true.1 hbt))⟩, hno⟩
      refine o_step rfl (s_pick_t rfl rfl) ?_
      refine o_nil ?_
      refine x_then (hK13 _ _ ?_)
      refine c_true rfl ?_
      refine c_exit ?_
      refine x_then_exit ?_
      refine x_block_pass rfl ?_
      refine x_then_exit ?_
      refine x_block_exit ?_
      refine x_then (hK5 _ _ ?_)
      refine c_seq fun _ hK14 => ?_
      refine c_region ?_
      refine o_step rfl (s_move rfl) ?_
      refine o_step rfl (s_move rfl) ?_
      refine o_step rfl (s_move rfl) ?_
      refine o_step rfl (s_move rfl) ?_
      refine o_call (ihB y js (by omega) m _ p2 n cs2 Sc2 hpo (by omega) (by omega) hG.2.2.1.1 hcl2 hsl8 hO2) rfl rfl rfl pkA (fun w2 st => hw.sub (S := Sc2) st hiA) (fun v58 S58 hO58 => ?_)
      refine o_nil ?_
      refine x_then (hK14 _ _ ?_)
      refine c_seq fun _ hK15 => ?_
      refine c_region ?_
      refine o_step rfl (s_move rfl) ?_
      refine o_step rfl (s_assign rfl) ?_
      refine o_nil ?_
      refine x_then (hK15 _ _ ?_)
      refine c_region ?_
      refine o_step rfl (s_move rfl) ?_
      refine o_step rfl (s_assign rfl) ?_
      refine o_nil ?_
      refine x_block ?_
      exact x_then (x_inv ((m + 1 + js.size), r2, n, (bst1 K.tx y js p2 n cs2), S58) ⟨hpt, by dsimp only; omega, hn2, hG.2.2.1.2, by dsimp only; rw [hbe, bst_cat hG], by dsimp only; rw [bst1_len]; exact hcl2, hO58⟩ (by simp only [F.size]; omega) sbA hzB)
    ·
     have hbtf : bo0 l3 q = false := by simpa using hbt
     have hnq : ¬ (fun n => der1 K.tx y js p2 n ∧ der K.tx r2 false n q) n := fun h => hbt (bo0_true.2 ((hi3.get q hq).2 ((hrest q hq).2 h.2)))
     refine o_step rfl (step_cast (v' := .bool false) (s_ld rfl ((hr3.rdk hiA).ld q 0 hlq rfl (by decide) (by omega))) (by rw [hbtf])) ?_
     refine o_step rfl (s_move rfl) ?_
     refine o_no rfl rfl rfl rfl ?_
     refine o_no rfl rfl rfl rfl ?_
     refine o_no rfl rfl rfl rfl ?_
     refine o_no rfl rfl rfl rfl ?_
     refine o_no rfl rfl rfl rfl ?_
     refine o_step rfl (s_pick_f rfl rfl) ?_
     refine o_nil ?_
     refine x_then (hK13 _ _ ?_)
     refine c_false rfl ?_
     refine c_skip ?_
     refine x_then (hK12 _ _ ?_)
     refine c_region ?_
     refine o_step rfl (s_move rfl) ?_
     refine o_step rfl (s_sub rfl rfl (by omega)) ?_
     refine o_step rfl (s_assign rfl) ?_
     refine o_nil ?_
     refine x_block ?_
     obtain ⟨a, rfl⟩ : ∃ a, n = a + 1 := ⟨n - 1, by rcases Nat.lt_or_ge mm n with h | h; (· omega); (· exact absurd ((Nat.le_antisymm hn1 h) ▸ hmm.2.2.1) hnq)⟩
     have hne : mm ≠ a + 1 := fun h => hnq (h ▸ hmm.2.2.1)
     exact x_then (x_inv a ⟨by omega, by omega, fun m2 h1 h2 => if h : m2 = a + 1 then h ▸ hnq else hno m2 (by omega) h2⟩ (by first | omega | (dsimp only; omega)) (by exact Sub.cons' rfl (by congr 1; omega) sbA) hzB)
  ·
   obtain rfl : g = F.nil := F.size_nil (by omega)
   refine o_step rfl (step_cast (v' := .bool false) (s_lss rfl rfl) (by rw [decide_eq_false (by omega)])) ?_
   refine o_nil ?_
   refine x_then (hK2 _ _ ?_)
   refine c_false rfl ?_
   refine c_exit ?_
   refine x_then_exit ?_
   refine x_then_exit ?_
   refine x_block_exit ?_
   refine x_sub (Sub.refl _) (H' := Sc2) hzB ?_
   exact x_end rfl (.nil) ((by rw [hbe, bst_nil]; exact hO2))

set_option maxHeartbeats 4000000 in
theorem rep10_fn (K : WalkE) (hK : K.ok) (x : Nd) (ks : F) (i i1 : Nat) (hp : Part K.re (.nd x ks .nil) i i1) (h6 : x.op = 6) (p q : Nat) (hpq : p ≤ q) (hq : q ≤ K.tx.length) (ihB : ∀ y js, js.size < ks.size → BestK Tryd.prog K 52 62 y js) (cs : List Sp) (Sc : Hp) (hcl : cs.length = K.N) (hsl8 : Slots K.re K.N) (hO : OwnS Esp 2 62 K.vca cs Sc) : HL.Fn Tryd.prog 71 [pt K.bW, .int .i64 i, .int .i64 p, .int .i64 q] (fun W => EnvW W K (keys Sc)) Sc (fun _ S' => OwnS Esp 2 62 K.vca (bst1 K.tx x ks p q cs) S') := by
  refine fn_of Tryd.func71 rfl rfl rfl fun w0 hw => ?_
  have hsl := hw.d1.sl
  have hst := hw.d2.sl
  have hrl := hK.len
  have htl := hK.tx
  obtain rfl : i1 = i + 1 + ks.size := by have := hp.len; simp only [F.size] at this; omega
  obtain ⟨hx, hpk, _⟩ := hp.head
  have hilt := (List.getElem?_eq_some_iff.1 hx).1
  have hxm := List.mem_of_getElem? hx
  have hox := hK.rng x hxm
  have hx8 := hK.no8 x hxm
  have hok : ndOk x = true := hp.wf.1
  have hop : 1 ≤ x.op ∧ x.op ≤ 8 := (flds_iff.1 (by simp only [ndOk, Bool.and_eq_true] at hok; exact hok.1)).1
  have hpkl := hpk.le
  have hrg := rep_rng hok h6
  obtain ⟨y, js, rfl⟩ := one_kid hp.wf (.inl h6)
  have hys : js.size < (F.nd y js .nil).size := by simp only [F.size]; omega
  refine c_seq fun _ hK1 => ?_
  refine c_region ?_
  refine o_step rfl (s_move rfl) ?_
  refine o_step rfl (s_nil rfl) ?_
  refine o_step rfl (s_field rfl rfl (by decide)) ?_
  refine o_step rfl (s_ld rfl ((RdPK.old hw.p1 hw.n1).cel (j := 0) rfl rfl)) ?_
  refine o_step rfl (s_move rfl) ?_
  refine o_step rfl (s_idx rfl rfl hsl (by omega)) ?_
  refine o_step rfl (s_ldB rfl ((RdK.old hw.d1 hw.a1).lds i hx rfl) (by rfl)) ?_
  refine o_alloc (l := En zN) (by rw [En_zero]; rfl) rfl fun b8 => ?_
  refine o_stW rfl rfl upA lnA lnA onA ?_
  refine o_nil ?_
  refine x_then (hK1 _ _ ?_)
  refine c_seq fun _ hK2 => ?_
  refine c_region ?_
  refine o_step rfl (s_assign rfl) ?_
  refine o_nil ?_
  refine x_then (hK2 _ _ ?_)
  refine c_block ?_
  refine c_loop6 (fun (f0 : Nat) (r : Nat) (s : Nat) (p2 : Nat) (cs2 : List Sp) (Sc2 : Hp) => p ≤ p2 ∧ p2 ≤ q ∧ r ≤ (max x.mn.toNat 1) + (p2 - p) ∧ CapR x r s ∧ ((x.mx = -1 ∧ s ≤ (max x.mn.toNat 1)) ∨ (0 ≤ x.mx ∧ (((s : Nat) : Int) : Int) ≤ x.mx)) ∧ (q - p2) + ((max x.mn.toNat 1) - s) < f0 ∧ (reps x (der K.tx (F.nd y js .nil) false) (fun p q cs => bst K.tx (F.nd y js .nil) false p q (fgt ((F.nd y js .nil)).flat cs)) q ((q - p) + (max x.mn.toNat 1) + 1) 0 p cs) = (reps x (der K.tx (F.nd y js .nil) false) (fun p q cs => bst K.tx (F.nd y js .nil) false p q (fgt ((F.nd y js .nil)).flat cs)) q f0 s p2 cs2) ∧ cs2.length = K.N ∧ OwnS Esp 2 62 K.vca cs2 Sc2) (fun (f0 : Nat) (r : Nat) (s : Nat) (p2 : Nat) (cs2 : List Sp) (Sc2 : Hp) => [(9, .int .i64 r), (2, .int .i64 p2)]) [(0, _), (1, _), (3, _), (8, _)] (fun (f0 : Nat) (r : Nat) (s : Nat) (p2 : Nat) (cs2 : List Sp) (Sc2 : Hp) => Sc2 ++ [(b8, .cells (En x).toArray 70 (0, 0))]) (fun (f0 : Nat) (r : Nat) (s : Nat) (p2 : Nat) (cs2 : List Sp) (Sc2 : Hp) => f0) ((q - p) + (max x.mn.toNat 1) + 1) 0 0 p cs Sc ⟨Nat.le_refl _, hpq, by omega, .inl rfl, by omega, by omega, rfl, hcl, hO⟩ sbA sbA hzB ?_
  rintro f0 r s p2 cs2 Sc2 ⟨hpp, hp2q, hrb, hcap, hv, hfu, hre, hcl2, hO2⟩
  refine c_seqJ (ι := Unit) (fun g => x.mx = -1 ∨ (r : Int) < x.mx) (fun g => []) [(0, _), (1, _), (2, _), (3, _), (8, _), (9, _)] (fun g => Sc2 ++ [(b8, .cells (En x).toArray 70 (0, 0))]) sbA ?_ ?_
  ·
   rintro _ hlt
   refine c_seq fun _ hK4 => ?_
   refine c_block ?_
   refine c_seq fun _ hK5 => ?_
   refine c_region ?_
   refine o_step rfl (s_move rfl) ?_
   refine o_step rfl (s_assign rfl) ?_
   refine o_nil ?_
   refine x_then (hK5 _ _ ?_)
   refine c_seq fun _ hK6 => ?_
   refine c_block ?_
   refine c_loopB (fun (n1 : Nat) => p2 ≤ n1 ∧ n1 ≤ q + 1 ∧ (∀ m2, n1 ≤ m2 → m2 ≤ q → ¬ (RQ x (der K.tx (F.nd y js .nil) false) r p2 q) m2)) (fun (n1 : Nat) => [(10, .int .i64 ((n1 : Int) - 1))]) [(0, _), (1, _), (2, _), (3, _), (8, _), (9, _), (30, _)] (fun (n1 : Nat) => Sc2 ++ [(b8, .cells (En x).toArray 70 (0, 0))]) (fun (n1 : Nat) => n1) (q + 1) ⟨by omega, by omega, fun m2 h1 h2 => by omega⟩ (by exact Sub.cons' rfl (by congr 1; omega) sbA) sbA hzB ?_
   rintro n1 ⟨hn1, hn2, hno1⟩
   refine c_seq fun _ hK7 => ?_
   refine c_seq fun _ hK8 => ?_
   refine c_region ?_
   refine o_step rfl (s_move rfl) ?_
   refine o_step rfl (s_move rfl) ?_
   by_cases hnp : (n1 : Int) - 1 ≥ p2
   ·
    obtain ⟨n, rfl⟩ : ∃ a, n1 = a + 1 := ⟨n1 - 1, by omega⟩
    have hno : ∀ m2, n < m2 → m2 ≤ q → ¬ (RQ x (der K.tx (F.nd y js .nil) false) r p2 q) m2 := fun m2 h1 h2 => hno1 m2 (by omega) h2
    refine o_step rfl (step_cast (v' := .bool true) (s_geq rfl rfl) (by rw [decide_eq_true (by omega)])) ?_
    refine o_nil ?_
    refine x_then (hK8 _ _ ?_)
    refine c_true rfl ?_
    refine c_skip ?_
    refine x_then (hK7 _ _ ?_)
    refine c_block ?_
    refine c_seqJ (ι := Bool) (fun mb => (mb = true ↔ (n ≠ p2 ∨ (r : Int) < x.mn ∨ r = 0))) (fun mb => [(11, .bool mb)]) [(0, _), (1, _), (2, _), (3, _), (8, _), (9, _), (10, _), (30, _), (31, _), (32, _), (33, _)] (fun mb => Sc2 ++ [(b8, .cells (En x).toArray 70 (0, 0))]) sbA ?_ ?_
    ·
     rintro mb hmb
     refine c_seq fun _ hK10 => ?_
     refine c_seq fun _ hK11 => ?_
     refine c_region ?_
     by_cases hmt : mb = true
     ·
      have hmay := hmb.1 hmt
      refine o_step rfl (step_cast (v' := .bool true) (s_move rfl) (by rw [hmt])) ?_
      refine o_step rfl (s_move rfl) ?_
      refine o_yes rfl rfl ?_
      refine o_step rfl (s_move rfl) ?_
      refine o_yes rfl rfl ?_
      refine o_step rfl (s_move rfl) ?_
      refine o_yes rfl rfl ?_
      refine o_step rfl (s_add rfl rfl (by omega)) ?_
      refine o_yes rfl rfl ?_
      refine o_step rfl (s_move rfl) ?_
      refine o_yes rfl rfl ?_
      refine o_step rfl (step_cast (v' := .int .i64 (n : Int)) (s_move rfl) (congrArg (Value.int .i64) (by omega))) ?_
      refine o_yes rfl rfl ?_
      refine o_callP (takes10_fn K hK y js (i + 1) _ hpk p2 n (by omega) (by omega)) rfl rfl rfl (fun w2 st => hw.sub (S := []) st hin_nil) (fun v54 hv54 => ?_)
      subst hv54
      cases hb54 : dQ (der1 K.tx y js p2 n)
      ·
       have hnq : ¬ (RQ x (der K.tx (F.nd y js .nil) false) r p2 q) n := fun h => by have h3 := der_one.1 h.2.2.1; rw [dQ_t h3] at hb54; cases hb54
       refine o_step rfl (s_pick_t rfl rfl) ?_
       refine o_step rfl (s_move rfl) ?_
       refine o_no rfl rfl rfl rfl ?_
       refine o_no rfl rfl rfl rfl ?_
       refine o_no rfl rfl rfl rfl ?_
       refine o_no rfl rfl rfl rfl ?_
       refine o_no rfl rfl rfl rfl ?_
       refine o_no rfl rfl rfl rfl ?_
       refine o_no rfl rfl rfl rfl ?_
       refine o_step rfl (s_pick_f rfl rfl) ?_
       refine o_nil ?_
       refine x_then (hK11 _ _ ?_)
       refine c_false rfl ?_
       refine c_skip ?_
       refine x_then (hK10 _ _ ?_)
       refine c_region ?_
       refine o_step rfl (s_move rfl) ?_
       refine o_step rfl (s_sub rfl rfl (by omega)) ?_
       refine o_step rfl (s_assign rfl) ?_
       refine o_nil ?_
       refine x_block ?_
       exact x_then (x_inv n ⟨by omega, by omega, fun m2 h1 h2 => if e : m2 = n then e ▸ hnq else hno m2 (by omega) h2⟩ (by first | omega | (dsimp only; omega)) (by exact Sub.cons' rfl (by congr 1; omega) sbA) hzB)
      ·
       refine o_step rfl (s_pick_t rfl rfl) ?_
       refine o_step rfl (s_move rfl) ?_
       refine o_yes rfl rfl ?_
       refine o_step rfl (s_move rfl) ?_
       refine o_yes rfl rfl ?_
       refine o_step rfl (s_move rfl) ?_
       refine o_yes rfl rfl ?_
       refine o_step rfl (s_move rfl) ?_
       refine o_yes rfl rfl ?_
       refine o_step rfl (s_add rfl rfl (by omega)) ?_
       refine o_yes rfl rfl ?_
       refine o_step rfl (step_cast (v' := .int .i64 (n : Int)) (s_move rfl) (congrArg (Value.int .i64) (by omega))) ?_
       refine o_yes rfl rfl ?_
       refine o_step rfl (s_move rfl) ?_
       refine o_yes rfl rfl ?_
       refine o_callP (rest10_fn K hK x (F.nd y js .nil) i _ hp h6 (r + 1) n q (by omega) (by omega) (by omega) hq) rfl rfl rfl (fun w2 st => hw.sub (S := []) st hin_nil) (fun v63 hv63 => ?_)
       subst hv63
       cases hb63 : dQ (RR x (der K.tx (F.nd y js .nil) false) (r + 1) n q)
       ·
        have hnq : ¬ (RQ x (der K.tx (F.nd y js .nil) false) r p2 q) n := fun h => by rw [dQ_t h.2.2.2] at hb63; cases hb63
        refine o_step rfl (s_pick_t rfl rfl) ?_
        refine o_nil ?_
        refine x_then (hK11 _ _ ?_)
        refine c_false rfl ?_
        refine c_skip ?_
        refine x_then (hK10 _ _ ?_)
        refine c_region ?_
        refine o_step rfl (s_move rfl) ?_
        refine o_step rfl (s_sub rfl rfl (by omega)) ?_
        refine o_step rfl (s_assign rfl) ?_
        refine o_nil ?_
        refine x_block ?_
        exact x_then (x_inv n ⟨by omega, by omega, fun m2 h1 h2 => if e : m2 = n then e ▸ hnq else hno m2 (by omega) h2⟩ (by first | omega | (dsimp only; omega)) (by exact Sub.cons' rfl (by congr 1; omega) sbA) hzB)
       ·
        have hG0 : Grt (RQ x (der K.tx (F.nd y js .nil) false) r p2 q) p2 q n := ⟨by omega, by omega, ⟨hlt, hmay, der_one.2 (dQ_iff.1 hb54), dQ_iff.1 hb63⟩, hno⟩
        have hG : Grt (RQ x (der K.tx (F.nd y js .nil) false) s p2 q) p2 q n := ⟨hG0.1, hG0.2.1, hcap.rq.1 hG0.2.2.1, fun m2 h1 h2 h3 => hno m2 h1 h2 (hcap.rq.2 h3)⟩
        have hd2 := dQ_iff.1 hb54
        have hG1 := hG0.1
        have hG2 := hG0.2.1
        have hnx : (x.mx = -1 ∧ nxtR x s = min (s + 1) (max x.mn.toNat 1)) ∨ (0 ≤ x.mx ∧ nxtR x s = s + 1) := by unfold nxtR; split <;> omega
        have hst := hG.2.2.1.2.1
        have hlts := hG.2.2.1.1
        obtain ⟨f, rfl⟩ : ∃ a, f0 = a + 1 := ⟨f0 - 1, by omega⟩
        refine o_step rfl (s_pick_t rfl rfl) ?_
        refine o_nil ?_
        refine x_then (hK11 _ _ ?_)
        refine c_true rfl ?_
        refine c_exit ?_
        refine x_then_exit ?_
        refine x_block_pass rfl ?_
        refine x_then_exit ?_
        refine x_block_exit ?_
        refine x_then (hK6 _ _ ?_)
        refine c_seq fun _ hK12 => ?_
        refine c_seq fun _ hK13 => ?_
        refine c_region ?_
        refine o_step rfl (s_move rfl) ?_
        refine o_step rfl (s_move rfl) ?_
        refine o_step rfl (s_lss_f rfl rfl (by omega)) ?_
        refine o_nil ?_
        refine x_then (hK13 _ _ ?_)
        refine c_false rfl ?_
        refine c_skip ?_
        refine x_then (hK12 _ _ ?_)
        refine c_seq fun _ hK14 => ?_
        refine c_region ?_
        refine o_step rfl (s_move rfl) ?_
        refine o_step rfl (s_move rfl) ?_
        refine o_step rfl (s_add rfl rfl (by omega)) ?_
        refine o_call (forget10_fn K hK y js (i + 1) _ hpk cs2 Sc2 hcl2 hsl8 hO2) rfl rfl rfl pkA (fun w2 st => hw.sub (S := Sc2) st hiA) (fun v73 S73 hO73 => ?_)
        refine o_nil ?_
        refine x_then (hK14 _ _ ?_)
        refine c_seq fun _ hK15 => ?_
        refine c_region ?_
        refine o_step rfl (s_move rfl) ?_
        refine o_step rfl (s_move rfl) ?_
        refine o_step rfl (s_add rfl rfl (by omega)) ?_
        refine o_step rfl (s_move rfl) ?_
        refine o_step rfl (step_cast (v' := .int .i64 (n : Int)) (s_move rfl) (congrArg (Value.int .i64) (by omega))) ?_
        refine o_call (ihB y js hys (i + 1) _ p2 n _ S73 hpk hG1 (by omega) hd2 (by rw [fgt_len]; exact hcl2) hsl8 hO73) rfl rfl rfl pkA (fun w2 st => hw.sub (S := S73) st hiA) (fun v79 S79 hO79 => ?_)
        refine o_nil ?_
        refine x_then (hK15 _ _ ?_)
        refine c_region ?_
        refine o_step rfl (step_cast (v' := .int .i64 (n : Int)) (s_move rfl) (congrArg (Value.int .i64) (by omega))) ?_
        refine o_step rfl (s_assign rfl) ?_
        refine o_nil ?_
        refine x_block ?_
        refine x_then (hK4 _ _ ?_)
        refine c_region ?_
        refine o_step rfl (s_move rfl) ?_
        refine o_step rfl (s_add rfl rfl (by omega)) ?_
        refine o_step rfl (s_assign rfl) ?_
        refine o_nil ?_
        exact x_then (x_inv (f, r + 1, (nxtR x s), n, (bst1 K.tx y js p2 n (fgt (F.nd y js .nil).flat cs2)), S79) ⟨by dsimp only; omega, by dsimp only; omega, by dsimp only; omega, hcap.next hv, by dsimp only; omega, by dsimp only; omega, by dsimp only; rw [hre, reps_go hG, bst_one hd2], by dsimp only; rw [bst1_len, fgt_len]; exact hcl2, hO79⟩ (by dsimp only; omega) sbA hzB)
     ·
      have hmf : mb = false := by simpa using hmt
      have hnq : ¬ (RQ x (der K.tx (F.nd y js .nil) false) r p2 q) n := fun h => hmt (hmb.2 h.2.1)
      refine o_step rfl (step_cast (v' := .bool false) (s_move rfl) (by rw [hmf])) ?_
      refine o_step rfl (s_move rfl) ?_
      refine o_no rfl rfl rfl rfl ?_
      refine o_no rfl rfl rfl rfl ?_
      refine o_no rfl rfl rfl rfl ?_
      refine o_no rfl rfl rfl rfl ?_
      refine o_no rfl rfl rfl rfl ?_
      refine o_no rfl rfl rfl rfl ?_
      refine o_step rfl (s_pick_f rfl rfl) ?_
      refine o_step rfl (s_move rfl) ?_
      refine o_no rfl rfl rfl rfl ?_
      refine o_no rfl rfl rfl rfl ?_
      refine o_no rfl rfl rfl rfl ?_
      refine o_no rfl rfl rfl rfl ?_
      refine o_no rfl rfl rfl rfl ?_
      refine o_no rfl rfl rfl rfl ?_
      refine o_no rfl rfl rfl rfl ?_
      refine o_step rfl (s_pick_f rfl rfl) ?_
      refine o_nil ?_
      refine x_then (hK11 _ _ ?_)
      refine c_false rfl ?_
      refine c_skip ?_
      refine x_then (hK10 _ _ ?_)
      refine c_region ?_
      refine o_step rfl (s_move rfl) ?_
      refine o_step rfl (s_sub rfl rfl (by omega)) ?_
      refine o_step rfl (s_assign rfl) ?_
      refine o_nil ?_
      refine x_block ?_
      exact x_then (x_inv n ⟨by omega, by omega, fun m2 h1 h2 => if e : m2 = n then e ▸ hnq else hno m2 (by omega) h2⟩ (by first | omega | (dsimp only; omega)) (by exact Sub.cons' rfl (by congr 1; omega) sbA) hzB)
    ·
     intro _ hJ9
     refine c_region ?_
     refine o_step rfl (step_cast (v' := .int .i64 (n : Int)) (s_move rfl) (congrArg (Value.int .i64) (by omega))) ?_
     refine o_step rfl (s_move rfl) ?_
     by_cases hng : (n : Int) > p2
     ·
      refine o_step rfl (step_cast (v' := .bool true) (s_gtr rfl rfl) (by rw [decide_eq_true (by omega)])) ?_
      refine o_step rfl (s_move rfl) ?_
      refine o_no rfl rfl rfl rfl ?_
      refine o_no rfl rfl rfl rfl ?_
      refine o_no rfl rfl rfl rfl ?_
      refine o_no rfl rfl rfl rfl ?_
      refine o_step rfl (s_pick_t rfl rfl) ?_
      refine o_step rfl (s_move rfl) ?_
      refine o_no rfl rfl rfl rfl ?_
      refine o_no rfl rfl rfl rfl ?_
      refine o_step rfl (s_pick_t rfl rfl) ?_
      refine o_step rfl (s_assign rfl) ?_
      refine o_nil ?_
      exact x_then (hJ9 true _ _ ⟨fun _ => by omega, fun _ => rfl⟩ sbA sbA hzB)
     ·
      refine o_step rfl (step_cast (v' := .bool false) (s_gtr rfl rfl) (by rw [decide_eq_false (by omega)])) ?_
      refine o_step rfl (s_move rfl) ?_
      refine o_yes rfl rfl ?_
      refine o_step rfl (s_move rfl) ?_
      refine o_yes rfl rfl ?_
      refine o_step rfl (s_field rfl rfl (by decide)) ?_
      refine o_yes rfl rfl ?_
      refine o_step rfl (s_ld rfl (.own meA rfl)) ?_
      refine o_yes rfl rfl ?_
      by_cases hrm : (r : Int) < x.mn
      ·
       refine o_step rfl (step_cast (v' := .bool true) (s_lss rfl rfl) (by rw [decide_eq_true (by omega)])) ?_
       refine o_step rfl (s_pick_f rfl rfl) ?_
       refine o_step rfl (s_move rfl) ?_
       refine o_no rfl rfl rfl rfl ?_
       refine o_no rfl rfl rfl rfl ?_
       refine o_step rfl (s_pick_t rfl rfl) ?_
       refine o_step rfl (s_assign rfl) ?_
       refine o_nil ?_
       exact x_then (hJ9 true _ _ ⟨fun _ => by omega, fun _ => rfl⟩ sbA sbA hzB)
      ·
       refine o_step rfl (step_cast (v' := .bool false) (s_lss rfl rfl) (by rw [decide_eq_false (by omega)])) ?_
       refine o_step rfl (s_pick_f rfl rfl) ?_
       refine o_step rfl (s_move rfl) ?_
       refine o_yes rfl rfl ?_
       refine o_step rfl (s_move rfl) ?_
       refine o_yes rfl rfl ?_
       by_cases hr0 : (r : Int) = 0
       ·
        refine o_step rfl (step_cast (v' := .bool true) (s_eql rfl rfl) (by rw [decide_eq_true (by omega)])) ?_
        refine o_step rfl (s_pick_f rfl rfl) ?_
        refine o_step rfl (s_assign rfl) ?_
        refine o_nil ?_
        exact x_then (hJ9 true _ _ ⟨fun _ => by omega, fun _ => rfl⟩ sbA sbA hzB)
       ·
        refine o_step rfl (step_cast (v' := .bool false) (s_eql rfl rfl) (by rw [decide_eq_false (by omega)])) ?_
        refine o_step rfl (s_pick_f rfl rfl) ?_
        refine o_step rfl (s_assign rfl) ?_
        refine o_nil ?_
        exact x_then (hJ9 false _ _ ⟨fun h => (by cases h), fun h => by omega⟩ sbA sbA hzB)
   ·
    obtain rfl : p2 = n1 := by omega
    refine o_step rfl (step_cast (v' := .bool false) (s_geq rfl rfl) (by rw [decide_eq_false (by omega)])) ?_
    refine o_nil ?_
    refine x_then (hK8 _ _ ?_)
    refine c_false rfl ?_
    refine c_exit ?_
    refine x_then_exit ?_
    refine x_then_exit ?_
    refine x_block_exit ?_
    refine x_then (hK6 _ _ ?_)
    refine c_seq fun _ hK16 => ?_
    refine c_seq fun _ hK17 => ?_
    refine c_region ?_
    refine o_step rfl (s_move rfl) ?_
    refine o_step rfl (s_move rfl) ?_
    refine o_step rfl (s_lss_t rfl rfl (by omega)) ?_
    refine o_nil ?_
    refine x_then (hK17 _ _ ?_)
    refine c_true rfl ?_
    refine c_ret ?_
    refine x_then_ret (x_block_ret (x_then_ret (x_then_ret (x_block_ret (?_)))))
    refine x_sub (Sub.refl _) (H' := Sc2) hzB ?_
    exact x_ret rfl (.nil) ((by rw [bst1_6 h6, hre, reps_end fun m2 h1 h2 h3 => hno1 m2 h1 h2 (hcap.rq.2 h3)]; exact hO2))
  ·
   intro _ hJ3
   refine c_seq fun _ hK18 => ?_
   refine c_region ?_
   refine o_step rfl (s_field rfl rfl (by decide)) ?_
   refine o_step rfl (s_ld rfl (.own meA rfl)) ?_
   by_cases hx1 : x.mx = -1
   ·
    refine o_step rfl (step_cast (v' := .bool true) (s_eql rfl rfl) (by rw [decide_eq_true (by omega)])) ?_
    refine o_step rfl (s_move rfl) ?_
    refine o_no rfl rfl rfl rfl ?_
    refine o_no rfl rfl rfl rfl ?_
    refine o_no rfl rfl rfl rfl ?_
    refine o_no rfl rfl rfl rfl ?_
    refine o_step rfl (s_pick_t rfl rfl) ?_
    refine o_nil ?_
    refine x_then (hK18 _ _ ?_)
    refine c_true rfl ?_
    refine c_skip ?_
    exact x_then (hJ3 () _ _ (by omega) sbA sbA hzB)
   ·
    refine o_step rfl (step_cast (v' := .bool false) (s_eql rfl rfl) (by rw [decide_eq_false (by omega)])) ?_
    refine o_step rfl (s_move rfl) ?_
    refine o_yes rfl rfl ?_
    refine o_step rfl (s_move rfl) ?_
    refine o_yes rfl rfl ?_
    refine o_step rfl (s_field rfl rfl (by decide)) ?_
    refine o_yes rfl rfl ?_
    refine o_step rfl (s_ld rfl (.own meA rfl)) ?_
    refine o_yes rfl rfl ?_
    by_cases hx2 : (r : Int) < x.mx
    ·
     refine o_step rfl (step_cast (v' := .bool true) (s_lss rfl rfl) (by rw [decide_eq_true (by omega)])) ?_
     refine o_step rfl (s_pick_f rfl rfl) ?_
     refine o_nil ?_
     refine x_then (hK18 _ _ ?_)
     refine c_true rfl ?_
     refine c_skip ?_
     exact x_then (hJ3 () _ _ (by omega) sbA sbA hzB)
    ·
     refine o_step rfl (step_cast (v' := .bool false) (s_lss rfl rfl) (by rw [decide_eq_false (by omega)])) ?_
     refine o_step rfl (s_pick_f rfl rfl) ?_
     refine o_nil ?_
     refine x_then (hK18 _ _ ?_)
     refine c_false rfl ?_
     refine c_exit ?_
     refine x_then_exit ?_
     refine x_then_exit ?_
     refine x_block_exit ?_
     refine x_sub (Sub.refl _) (H' := Sc2) hzB ?_
     exact x_end rfl (.nil) ((by rw [bst1_6 h6, hre, reps_end fun m2 h1 h2 h3 => absurd (hcap.rq.2 h3).1 (by omega)]; exact hO2))

set_option maxHeartbeats 2000000 in
theorem best_step (K : WalkE) (hK : K.ok) (x : Nd) (ks : F) (i i1 : Nat) (hp : Part K.re (.nd x ks .nil) i i1) (p q : Nat) (hpq : p ≤ q) (hq : q ≤ K.tx.length) (hd : der1 K.tx x ks p q) (ihB : ∀ y js, js.size < ks.size → BestK Tryd.prog K 52 62 y js) (cs : List Sp) (Sc : Hp) (hcl : cs.length = K.N) (hsl8 : Slots K.re K.N) (hO : OwnS Esp 2 62 K.vca cs Sc) : HL.Fn Tryd.prog 52 [pt K.bW, .int .i64 i, .int .i64 p, .int .i64 q] (fun W => EnvW W K (keys Sc)) Sc (fun _ S' => OwnS Esp 2 62 K.vca (bst1 K.tx x ks p q cs) S') := by
  refine fn_of Tryd.func52 rfl rfl rfl fun w0 hw => ?_
  have hsl := hw.d1.sl
  have hst := hw.d2.sl
  have hrl := hK.len
  have htl := hK.tx
  obtain rfl : i1 = i + 1 + ks.size := by have := hp.len; simp only [F.size] at this; omega
  obtain ⟨hx, hpk, _⟩ := hp.head
  have hilt := (List.getElem?_eq_some_iff.1 hx).1
  have hxm := List.mem_of_getElem? hx
  have hox := hK.rng x hxm
  have hx8 := hK.no8 x hxm
  have hok : ndOk x = true := hp.wf.1
  have hop : 1 ≤ x.op ∧ x.op ≤ 8 := (flds_iff.1 (by simp only [ndOk, Bool.and_eq_true] at hok; exact hok.1)).1
  have hpkl := hpk.le
  refine c_seq fun _ hK1 => ?_
  refine c_region ?_
  refine o_step rfl (s_move rfl) ?_
  refine o_step rfl (s_nil rfl) ?_
  refine o_step rfl (s_field rfl rfl (by decide)) ?_
  refine o_step rfl (s_ld rfl ((RdPK.old hw.p1 hw.n1).cel (j := 0) rfl rfl)) ?_
  refine o_step rfl (s_move rfl) ?_
  refine o_step rfl (s_idx rfl rfl hsl (by omega)) ?_
  refine o_step rfl (s_ldB rfl ((RdK.old hw.d1 hw.a1).lds i hx rfl) (by rfl)) ?_
  refine o_alloc (l := En zN) (by rw [En_zero]; rfl) rfl fun b8 => ?_
  refine o_stW rfl rfl upA lnA lnA onA ?_
  refine o_nil ?_
  refine x_then (hK1 _ _ ?_)
  refine c_seq fun _ hK2 => ?_
  refine c_region ?_
  refine o_step rfl (s_field rfl rfl (by decide)) ?_
  refine o_step rfl (s_ld rfl (.own meA rfl)) ?_
  refine o_step rfl (s_convI rfl (by omega)) ?_
  refine o_nil ?_
  refine x_then (hK2 _ _ ?_)
  refine c_block ?_
  refine c_seq fun _ hK3 => ?_
  refine c_region ?_
  by_cases o4 : x.op = 4
  ·
   have hd4 := (der1_4 (.inl o4)).1 hd
   refine o_step rfl (step_cast (v' := .bool true) (s_eql rfl rfl) (by rw [decide_eq_true o4])) ?_
   refine o_step rfl (s_assign rfl) ?_
   refine o_nil ?_
   refine x_then (hK3 _ _ ?_)
   refine c_true rfl ?_
   refine c_region ?_
   refine o_step rfl (s_move rfl) ?_
   refine o_step rfl (s_move rfl) ?_
   refine o_step rfl (s_add rfl rfl (by omega)) ?_
   refine o_step rfl (s_move rfl) ?_
   refine o_step rfl (s_nil rfl) ?_
   refine o_step rfl (s_field rfl rfl (by decide)) ?_
   refine o_step rfl (s_ld rfl ((RdPK.old hw.p1 hw.n1).cel (j := 0) rfl rfl)) ?_
   refine o_step rfl (s_move rfl) ?_
   refine o_callP (behind10_fn K.ra K.rc K.re x ks i _ hp) rfl rfl rfl (fun w2 st => (RdK.old hw.d1 hw.a1).out w2 st) (fun v30 hv30 => ?_)
   subst hv30
   refine o_step rfl (s_move rfl) ?_
   refine o_step rfl (s_move rfl) ?_
   refine o_call (cat10_fn K hK ks (i + 1) _ p q hpk hpq hq hd4 ks.size (Nat.le_refl _) ihB cs Sc hcl hsl8 hO) rfl rfl rfl pkA (fun w2 st => hw.sub (S := Sc) st hiA) (fun v33 S33 hO33 => ?_)
   refine o_nil ?_
   refine x_block ?_
   refine x_sub (Sub.refl _) (H' := S33) hzB ?_
   exact x_end rfl (.nil) ((by rw [bst1_4 o4]; exact hO33))
  ·
   refine o_step rfl (step_cast (v' := .bool false) (s_eql rfl rfl) (by rw [decide_eq_false o4])) ?_
   refine o_step rfl (s_assign rfl) ?_
   refine o_nil ?_
   refine x_then (hK3 _ _ ?_)
   refine c_false rfl ?_
   refine c_seq fun _ hK4 => ?_
   refine c_region ?_
   by_cases o5 : x.op = 5
   ·
    have hd5 := (der1_5 o5).1 hd
    refine o_step rfl (step_cast (v' := .bool true) (s_eql rfl rfl) (by rw [decide_eq_true o5])) ?_
    refine o_step rfl (s_assign rfl) ?_
    refine o_nil ?_
    refine x_then (hK4 _ _ ?_)
    refine c_true rfl ?_
    refine c_seq fun _ hK5 => ?_
    refine c_region ?_
    refine o_step rfl (s_move rfl) ?_
    refine o_step rfl (s_add rfl rfl (by omega)) ?_
    refine o_step rfl (s_assign rfl) ?_
    refine o_nil ?_
    refine x_then (hK5 _ _ ?_)
    refine c_seq fun _ hK6 => ?_
    refine c_block ?_
    refine c_loop2 (fun (kp : Nat) (g : F) => Part K.re g kp (i + 1 + ks.size) ∧ g.size ≤ ks.size ∧ der K.tx g true p q ∧ bst K.tx ks true p q cs = bst K.tx g true p q cs) (fun (kp : Nat) (g : F) => [(9, .int .i64 kp)]) [(0, _), (2, _), (3, _)] (fun (kp : Nat) (g : F) => Sc ++ [(b8, .cells (En x).toArray 70 (0, 0))]) (fun (kp : Nat) (g : F) => g.size) (i + 1) ks ⟨hpk, Nat.le_refl _, hd5, rfl⟩ sbA sbA hzB ?_
    rintro kp g ⟨hpg, hgs, hdg, hbe⟩
    obtain ⟨y, js, r2, rfl⟩ : ∃ y ks1 r2, g = F.nd y ks1 r2 := by cases g with | nil => exact absurd hdg (by rw [der_nil']; exact id) | nd y a b => exact ⟨y, a, b, rfl⟩
    obtain ⟨hy, hpy, hpt⟩ := hpg.head
    have hpo := hpg.one
    simp only [F.size] at hgs
    refine c_seq fun _ hK7 => ?_
    refine c_seq fun _ hK8 => ?_
    refine c_region ?_
    refine o_step rfl (s_move rfl) ?_
    refine o_step rfl (s_move rfl) ?_
    refine o_step rfl (s_move rfl) ?_
    refine o_step rfl (s_move rfl) ?_
    refine o_callP (takes10_fn K hK y js kp _ hpo p q (by omega) (by omega)) rfl rfl rfl (fun w2 st => hw.sub (S := []) st hin_nil) (fun v42 hv42 => ?_)
    subst hv42
    cases hb42 : dQ (der1 K.tx y js p q)
    ·
     have hn42 : ¬ der1 K.tx y js p q := fun h => by rw [dQ_t h] at hb42; cases hb42
     refine o_step rfl (s_not rfl) ?_
     refine o_nil ?_
     refine x_then (hK8 _ _ ?_)
     refine c_true rfl ?_
     refine c_skip ?_
     refine x_then (hK7 _ _ ?_)
     refine c_block ?_
     refine c_region ?_
     refine o_step rfl (s_move rfl) ?_
     refine o_step rfl (s_nil rfl) ?_
     refine o_step rfl (s_field rfl rfl (by decide)) ?_
     refine o_step rfl (s_ld rfl ((RdPK.old hw.p1 hw.n1).cel (j := 0) rfl rfl)) ?_
     refine o_step rfl (s_move rfl) ?_
     refine o_callP (behind10_fn K.ra K.rc K.re y js kp _ hpo) rfl rfl rfl (fun w2 st => (RdK.old hw.d1 hw.a1).out w2 st) (fun v49 hv49 => ?_)
     subst hv49
     refine o_step rfl (s_assign rfl) ?_
     refine o_nil ?_
     refine x_block ?_
     exact x_then (x_inv ((kp + 1 + js.size), r2) ⟨hpt, by dsimp only; omega, (der_alt.1 hdg).resolve_left hn42, by dsimp only; rw [hbe, bst_alt, if_neg (by rw [hb42]; decide)]⟩ (by simp only [F.size]; omega) sbA hzB)
    ·
     refine o_step rfl (s_not rfl) ?_
     refine o_nil ?_
     refine x_then (hK8 _ _ ?_)
     refine c_false rfl ?_
     refine c_exit ?_
     refine x_then_exit ?_
     refine x_then_exit ?_
     refine x_block_exit ?_
     refine x_then (hK6 _ _ ?_)
     refine c_region ?_
     refine o_step rfl (s_move rfl) ?_
     refine o_step rfl (s_move rfl) ?_
     refine o_step rfl (s_move rfl) ?_
     refine o_step rfl (s_move rfl) ?_
     refine o_call (ihB y js (by omega) kp _ p q cs Sc hpo hpq hq (dQ_iff.1 hb42) hcl hsl8 hO) rfl rfl rfl pkA (fun w2 st => hw.sub (S := Sc) st hiA) (fun v54 S54 hO54 => ?_)
     refine o_nil ?_
     refine x_block ?_
     refine x_sub (Sub.refl _) (H' := S54) hzB ?_
     exact x_end rfl (.nil) ((by rw [bst1_5 o5, hbe, bst_alt, if_pos hb42]; exact hO54))
   ·
    refine o_step rfl (step_cast (v' := .bool false) (s_eql rfl rfl) (by rw [decide_eq_false o5])) ?_
    refine o_step rfl (s_assign rfl) ?_
    refine o_nil ?_
    refine x_then (hK4 _ _ ?_)
    refine c_false rfl ?_
    refine c_seq fun _ hK9 => ?_
    refine c_region ?_
    by_cases o6 : x.op = 6
    ·
     refine o_step rfl (step_cast (v' := .bool true) (s_eql rfl rfl) (by rw [decide_eq_true o6])) ?_
     refine o_step rfl (s_assign rfl) ?_
     refine o_nil ?_
     refine x_then (hK9 _ _ ?_)
     refine c_true rfl ?_
     refine c_region ?_
     refine o_step rfl (s_move rfl) ?_
     refine o_step rfl (s_move rfl) ?_
     refine o_step rfl (s_move rfl) ?_
     refine o_step rfl (s_move rfl) ?_
     refine o_call (rep10_fn K hK x ks i _ hp o6 p q hpq hq ihB cs Sc hcl hsl8 hO) rfl rfl rfl pkA (fun w2 st => hw.sub (S := Sc) st hiA) (fun v61 S61 hO61 => ?_)
     refine o_nil ?_
     refine x_block ?_
     refine x_sub (Sub.refl _) (H' := S61) hzB ?_
     exact x_end rfl (.nil) (hO61)
    ·
     refine o_step rfl (step_cast (v' := .bool false) (s_eql rfl rfl) (by rw [decide_eq_false o6])) ?_
     refine o_step rfl (s_assign rfl) ?_
     refine o_nil ?_
     refine x_then (hK9 _ _ ?_)
     refine c_false rfl ?_
     refine c_seq fun _ hK10 => ?_
     refine c_region ?_
     by_cases o7 : x.op = 7
     ·
      obtain ⟨y, js, rfl⟩ := one_kid hp.wf (.inr o7)
      have hd1 := der_one.1 ((der1_4 (.inr o7)).1 hd)
      have hx7 := hsl8 x hxm o7
      refine o_step rfl (step_cast (v' := .bool true) (s_eql rfl rfl) (by rw [decide_eq_true o7])) ?_
      refine o_step rfl (s_assign rfl) ?_
      refine o_nil ?_
      refine x_then (hK10 _ _ ?_)
      refine c_true rfl ?_
      refine c_seq fun _ hK11 => ?_
      refine c_region ?_
      refine o_step rfl (s_move rfl) ?_
      refine o_step rfl (s_move rfl) ?_
      refine o_step rfl (s_add rfl rfl (by omega)) ?_
      refine o_call (forget10_fn K hK y js (i + 1) _ hpk cs Sc hcl hsl8 hO) rfl rfl rfl pkA (fun w2 st => hw.sub (S := Sc) st hiA) (fun v67 S67 hO67 => ?_)
      refine o_nil ?_
      refine x_then (hK11 _ _ ?_)
      refine c_seq fun _ hK12 => ?_
      refine c_region ?_
      refine o_step rfl (s_move rfl) ?_
      refine o_step rfl (s_move rfl) ?_
      refine o_step rfl (s_add rfl rfl (by omega)) ?_
      refine o_step rfl (s_move rfl) ?_
      refine o_step rfl (s_move rfl) ?_
      refine o_call (ihB y js (by simp only [F.size]; omega) (i + 1) _ p q _ S67 hpk hpq hq hd1 (by rw [fgt_len]; exact hcl) hsl8 hO67) rfl rfl rfl pkA (fun w2 st => hw.sub (S := S67) st hiA) (fun v73 S73 hO73 => ?_)
      have hs73 := hO73.sl
      rw [bst1_len, fgt_len, hcl] at hs73
      refine o_nil ?_
      refine x_then (hK12 _ _ ?_)
      refine c_drawE ([(b8, .cells (En x).toArray 70 (0, 0))]) (fun i => false) ?_
      refine e_take 0 rfl (by kernel_rfl) (by kernel_rfl) (by kernel_rfl) (by kernel_rfl) (fun _ _ => rfl) rfl hzB (s_move rfl) ?_
      refine e_take 1 rfl (by kernel_rfl) (by kernel_rfl) (by kernel_rfl) (by kernel_rfl) (fun _ _ => rfl) rfl hzB (s_nil rfl) ?_
      refine e_take 2 rfl (by kernel_rfl) (by kernel_rfl) (by kernel_rfl) (by kernel_rfl) (fun _ _ => rfl) rfl hzB (s_field rfl rfl (by decide)) ?_
      refine e_take 3 rfl (by kernel_rfl) (by kernel_rfl) (by kernel_rfl) (by kernel_rfl) (fun _ _ => rfl) rfl hzB (s_ld rfl ((RdPK.old hw.p1 hw.n1).cel (j := 2) rfl rfl)) ?_
      refine e_take 4 rfl (by kernel_rfl) (by kernel_rfl) (by kernel_rfl) (by kernel_rfl) (fun _ _ => rfl) rfl hzB (s_field rfl rfl (by decide)) ?_
      refine e_take 5 rfl (by kernel_rfl) (by kernel_rfl) (by kernel_rfl) (by kernel_rfl) (fun _ _ => rfl) rfl hzB (s_ld rfl (.own meA rfl)) ?_
      refine e_take 6 rfl (by kernel_rfl) (by kernel_rfl) (by kernel_rfl) (by kernel_rfl) (fun _ _ => rfl) rfl hzB (s_move rfl) ?_
      refine e_take 7 rfl (by kernel_rfl) (by kernel_rfl) (by kernel_rfl) (by kernel_rfl) (fun _ _ => rfl) rfl hzB (s_move rfl) ?_
      refine e_take 8 rfl (by kernel_rfl) (by kernel_rfl) (by kernel_rfl) (by kernel_rfl) (fun _ _ => rfl) rfl hzB (step_cast (v' := .agg (Esp ⟨p, q⟩).toArray) (s_build (cs := [_, _]) (vs := [_, _]) rfl rfl (.cons rfl rfl rfl rfl rfl (.cons rfl rfl rfl rfl rfl (.nil)))) rfl) ?_
      refine e_take 9 rfl (by kernel_rfl) (by kernel_rfl) (by kernel_rfl) (by kernel_rfl) (fun _ _ => rfl) rfl hzB (s_idx rfl rfl hs73 (by omega)) ?_
      refine e_one 10 rfl (by kernel_rfl) ?_
      refine o_stSE x.n.toNat ⟨p, q⟩ hO73 pkA rfl rfl (by rw [bst1_len, fgt_len, hcl]; exact hx7.2) (by rfl) fun S' hS' => ?_
      refine o_nil ?_
      refine x_oneS hzB ?_
      refine e_done (by kernel_rfl) ?_
      refine x_block ?_
      refine x_sub (Sub.refl _) (H' := S') hzB ?_
      exact x_end rfl (.nil) ((by rw [bst1_7 o7, bst_one hd1]; exact hS'))
     ·
      refine o_step rfl (step_cast (v' := .bool false) (s_eql rfl rfl) (by rw [decide_eq_false o7])) ?_
      refine o_step rfl (s_assign rfl) ?_
      refine o_nil ?_
      refine x_then (hK10 _ _ ?_)
      refine c_false rfl ?_
      refine c_skip ?_
      refine x_block ?_
      refine x_sub (Sub.refl _) (H' := Sc) hzB ?_
      exact x_end rfl (.nil) ((by rw [bst1_0 (by omega)]; exact hO))
end Go.Proofs.YtiggliigookieaaDoor

/- Part of the proofs over this seat: see the text that holds the theorem. Conditions: each theorem bears its own. -/
namespace Go.Proofs.YtiggliigookieaaDoor
open Go Go.HL Go.Proofs Go.HL.Kl
theorem has_fn (c : Cl) (x : Nat) (hx : x < 256) : HL.Fn Tryd.prog 58 [.agg (Ec c).toArray, .int .u8 x] (fun _ => True) [] (fun v _ => v = .bool (c.getLsbD x)) := by
  refine fn_of Tryd.func58 rfl rfl rfl fun w0 hw => ?_
  refine c_seq fun _ hK1 => ?_
  refine c_region ?_
  refine o_box rfl rfl rfl fun b2 => ?_
  refine o_step rfl (s_assign rfl) ?_
  refine o_nil ?_
  refine x_then (hK1 _ _ ?_)
  refine c_seq fun _ hK2 => ?_
  refine c_region ?_
  refine o_step rfl (s_move rfl) ?_
  refine o_step rfl (step_cast (v' := .int .u8 ((x / 64 : Nat) : Int)) (s_shr rfl rfl (by decide)) (congrArg _ (shr6_u8 hx))) ?_
  refine o_step rfl (s_idx1 rfl rfl (by omega)) ?_
  refine o_step rfl (s_ld rfl ((RdPK.own meA).cel (j := x / 64) (Ec_get _ (by omega)) (by omega))) ?_
  refine o_step rfl (s_move rfl) ?_
  refine o_step rfl (step_cast (v' := .int .u8 ((x % 64 : Nat) : Int)) (s_and rfl rfl) (congrArg _ (v_and63 hx))) ?_
  refine o_step rfl (s_shr rfl rfl (by omega)) ?_
  refine o_step rfl (s_and rfl rfl) ?_
  refine o_step rfl (step_cast (v' := .bool (c.getLsbD x)) (s_eql rfl rfl) (congrArg Value.bool (hasB c hx))) ?_
  refine o_step rfl (s_assign rfl) ?_
  refine o_nil ?_
  refine x_then (hK2 _ _ ?_)
  refine c_ret ?_
  refine ?_
  exact x_ret rfl (.tmp rfl (.nil)) (rfl)

end Go.Proofs.YtiggliigookieaaDoor
