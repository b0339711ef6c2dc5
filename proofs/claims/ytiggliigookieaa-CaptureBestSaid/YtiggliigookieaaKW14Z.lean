/- Part of the proofs over this seat: see the text that holds the theorem. Conditions: each theorem bears its own. -/
import Derived.Test.YtiggliigookieaaMK11Z
namespace Go.Proofs.Ytiggliigookieaa
open Go Go.HL Go.Proofs Go.HL.Kl Go.HL.Kl.Mc Go.HL.Kl.Mc.AskE
def AllL (K : CntE) (L : Int) : Prop := ∀ (x : Nd) (ks : F) (i e p q : Nat), Part K.re (.nd x ks .nil) i e → p ≤ q → q ≤ K.tx.length → L ≤ 20000 → -1000000000000 ≤ L →
  HL.Fn Try.prog 22 [pt K.bC, K.vre, K.vtx, .int .i64 i, .int .i64 p, .int .i64 q] (PreC K []) [(K.bC, .cells [.int .i64 L].toArray 57 (0, 0))] (AllP 57 K L (loA L) 0 [] (dT K.tx (.nd x ks .nil) false i p q))
def RowsL (K : CntE) (L : Int) : Prop := ∀ (g : F) (x0 : Nd) (ks0 : F) (so : Rw) (sys : List Rw) (ksT : TF) (Sk : Hp) (k e p : Nat), Part K.re g k e → Part K.re (.nd x0 ks0 .nil) so.a e → p ≤ so.q → so.q ≤ K.tx.length → so.kn = sys.length → sys.length + g.num ≤ 1000 →
  (∀ W, Bears Sk W → Rd Erw W so.kv sys ∧ Tie W ksT sys) → L ≤ 20000 → -100000000000 ≤ L →
  HL.Fn Try.prog 34 [pt K.bC, K.vre, K.vtx, .agg (Erw so).toArray, .int .i64 k, .int .i64 p] (PreC K Sk) [(K.bC, .cells [.int .i64 L].toArray 57 (0, 0))] (AllP 57 K L (loR L) 1 Sk (Goes so ksT (dT K.tx g false k p so.q)))
def RndL (K : CntE) (L : Int) : Prop := ∀ (x y : Nd) (js : F) (so : Rw) (sys : List Rw) (ksT : TF) (Sk : Hp) (e p r : Nat), Part K.re (.nd x (.nd y js .nil) .nil) so.a e → x.op = 6 → p ≤ so.q → so.q ≤ K.tx.length → so.kn = sys.length → sys.length = r → (r : Int) + max L 0 ≤ 30000 →
  (∀ W, Bears Sk W → Rd Erw W so.kv sys ∧ Tie W ksT sys) → L ≤ 20000 → -100000000000 ≤ L →
  HL.Fn Try.prog 36 [pt K.bC, K.vre, K.vtx, .agg (Erw so).toArray, .int .i64 p] (PreC K Sk) [(K.bC, .cells [.int .i64 L].toArray 57 (0, 0))] (AllP 57 K L (loR L) 1 Sk (Goes so ksT (fun R => RT x (fun p q R => dT K.tx (.nd y js .nil) false (so.a + 1) p q R) R r p so.q)))
theorem with_fn (la : Option Addr) (lc N : Nat) (ys : List Rw) (x : Rw) (hN : N = ys.length) (hb : ys.length ≤ 100000) : HL.Fn Try.prog 51 [.slice la N lc, .agg (Erw x).toArray] (fun w => Rd Erw w (.slice la N lc) ys) [] (fun v S' => ∃ a c, v = .slice a (ys ++ [x]).length c ∧ OwnS Erw 4 35 (.slice a (ys ++ [x]).length c) (ys ++ [x]) S') := by
  refine fn_of Try.func51 rfl rfl rfl fun w0 hw => ?_
  subst hN
  have hsl := hw.sl
  refine c_seq fun _ hK1 => ?_
  refine c_region ?_
  refine o_box rfl rfl rfl fun b3 => ?_
  refine o_step rfl (s_assign rfl) ?_
  refine o_nil ?_
  refine x_then (hK1 _ _ ?_)
  refine c_seq fun _ hK2 => ?_
  refine c_region ?_
  refine o_step rfl (s_assign rfl) ?_
  refine o_nil ?_
  refine x_then (hK2 _ _ ?_)
  refine c_seq fun _ hK3 => ?_
  refine c_seq fun _ hK4 => ?_
  refine c_region ?_
  refine o_step rfl (s_assign rfl) ?_
  refine o_nil ?_
  refine x_then (hK4 _ _ ?_)
  refine c_block ?_
  refine c_loop3 (fun (i : Nat) (q : Sl Rw) (S : Hp) => i ≤ ys.length ∧ q.xs = ys.take i ∧ OwnS Erw 4 35 (.slice q.a q.xs.length q.c) q.xs S) (fun (i : Nat) (q : Sl Rw) (S : Hp) => [(6, .int .i64 i), (5, .slice q.a q.xs.length q.c)]) [(0, _), (3, _), (4, _)] (fun (i : Nat) (q : Sl Rw) (S : Hp) => S ++ [(b3, .cells (Erw x).toArray 35 (0, 0))]) (fun (i : Nat) (q : Sl Rw) (S : Hp) => ys.length - i) 0 ⟨none, 0, []⟩ [] ⟨by omega, rfl, .nil⟩ sbA sbA hzB ?_
  rintro i q S ⟨hi, hq, hS⟩
  have hql : q.xs.length = i := by rw [hq, List.length_take]; omega
  refine c_seq fun _ hK5 => ?_
  refine c_seq fun _ hK6 => ?_
  refine c_region ?_
  refine o_step rfl (s_move rfl) ?_
  refine o_step rfl (s_move rfl) ?_
  refine o_step rfl (s_len rfl) ?_
  by_cases hil : (i : Int) < ys.length
  ·
   obtain ⟨y, hy⟩ : ∃ y, ys[i]? = some y := ⟨_, List.getElem?_eq_getElem (by omega)⟩
   refine o_step rfl (step_cast (v' := .bool true) (s_lss rfl rfl) (by rw [decide_eq_true (by omega)])) ?_
   refine o_nil ?_
   refine x_then (hK6 _ _ ?_)
   refine c_true rfl ?_
   refine c_skip ?_
   refine x_then (hK5 _ _ ?_)
   refine c_seq fun _ hK7 => ?_
   refine c_block ?_
   refine c_region ?_
   refine o_step rfl (s_move rfl) ?_
   refine o_step rfl (s_move rfl) ?_
   refine o_step rfl (s_move rfl) ?_
   refine o_step rfl (s_idx rfl rfl hsl (by omega)) ?_
   refine o_step rfl (s_ldB rfl ((RdK.old0 hw).lds i hy rfl) lnA) ?_
   refine o_bs (E := Erw) (xs := [y]) (vs := [_]) rfl rfl rfl rfl rfl (by decide) (by decide) fun b18 S18 hS18 => ?_
   refine o_app hS (hS18.rdk hiA) rfl rfl rfl rfl (by simp; omega) (by simp; omega) rfl pkA fun a19 c19 S19 hS19 => ?_
   refine o_step rfl (s_assign rfl) ?_
   refine o_nil ?_
   refine x_block ?_
   refine x_then (hK7 _ _ ?_)
   refine c_region ?_
   refine o_step rfl (s_move rfl) ?_
   refine o_step rfl (s_add rfl rfl (by omega)) ?_
   refine o_step rfl (s_assign rfl) ?_
   refine o_nil ?_
   exact x_then (x_inv (i + 1, ⟨a19, c19, q.xs ++ [y]⟩, S19) ⟨by omega, by dsimp only; rw [List.take_add_one, hy, hq]; rfl, hS19⟩ (by first | omega | (dsimp only; omega)) sbA hzB)
  ·
   obtain rfl : i = ys.length := by omega
   rw [List.take_length] at hq
   refine o_step rfl (step_cast (v' := .bool false) (s_lss rfl rfl) (by rw [decide_eq_false (by omega)])) ?_
   refine o_nil ?_
   refine x_then (hK6 _ _ ?_)
   refine c_false rfl ?_
   refine c_exit ?_
   refine x_then_exit ?_
   refine x_then_exit ?_
   refine x_block_exit ?_
   refine x_then (hK3 _ _ ?_)
   refine c_seq fun _ hK8 => ?_
   refine c_region ?_
   refine o_step rfl (s_move rfl) ?_
   refine o_step rfl (s_ldB rfl (RdPK.cels (.own meA)) lnA) ?_
   refine o_bs (E := Erw) (xs := [x]) (vs := [_]) rfl rfl rfl rfl rfl (by decide) (by decide) fun b22 S22 hS22 => ?_
   refine o_app hS (hS22.rdk hiA) rfl rfl rfl rfl (by simp; omega) (by simp; omega) rfl pkA fun a23 c23 S23 hS23 => ?_
   refine o_step rfl (s_assign rfl) ?_
   refine o_nil ?_
   refine x_then (hK8 _ _ ?_)
   refine c_ret ?_
   refine ?_
   refine x_sub (Sub.refl _) (H' := S23) hzB ?_
   rw [hq] at hS23 ⊢
   exact x_ret rfl (.tmp rfl (.nil)) (⟨a23, c23, rfl, hS23⟩)

set_option maxHeartbeats 2000000 in
theorem rows_fn (K : CntE) (hK : K.ok) (L : Int) (hAll : ∀ L2 : Int, L2.toNat ≤ L.toNat → AllL K L2) (ihR : ∀ L2 : Int, L2.toNat < L.toNat → RowsL K L2) (g : F) (x0 : Nd) (ks0 : F) (so : Rw) (sys : List Rw) (ksT : TF) (Sk : Hp) (k e p : Nat) (hpg : Part K.re g k e) (hp0 : Part K.re (.nd x0 ks0 .nil) so.a e) (hpq : p ≤ so.q) (hqt : so.q ≤ K.tx.length) (hkn : so.kn = sys.length) (hgn : sys.length + g.num ≤ 1000) (hks : ∀ W, Bears Sk W → Rd Erw W so.kv sys ∧ Tie W ksT sys) (hL1 : L ≤ 20000) (hL0 : -100000000000 ≤ L) : HL.Fn Try.prog 34 [pt K.bC, K.vre, K.vtx, .agg (Erw so).toArray, .int .i64 k, .int .i64 p] (PreC K Sk) [(K.bC, .cells [.int .i64 L].toArray 57 (0, 0))] (AllP 57 K L (loR L) 1 Sk (Goes so ksT (dT K.tx g false k p so.q))) := by
  refine fn_of Try.func34 rfl rfl rfl fun w0 hw => ?_
  have htl := hK.tx
  have hrl := hK.len
  have hgl := hpg.len
  have hlo : loR L = loB L - 41 := by unfold loR loB; split <;> omega
  refine c_seq fun _ hK1 => ?_
  refine c_region ?_
  refine o_box rfl rfl rfl fun b9 => ?_
  refine o_step rfl (s_assign rfl) ?_
  refine o_nil ?_
  refine x_then (hK1 _ _ ?_)
  refine c_seq fun _ hK2 => ?_
  refine c_seq fun _ hK3 => ?_
  refine c_region ?_
  refine o_step rfl (s_move rfl) ?_
  refine o_step rfl (s_move rfl) ?_
  refine o_step rfl (s_field rfl rfl (by decide)) ?_
  refine o_step rfl (s_ld rfl (.own meA rfl)) ?_
  refine o_callP (behind10_fn K.ra K.rc K.re x0 ks0 so.a _ hp0) rfl rfl rfl (fun w2 st => (RdK.old hw.d1 hw.a1).out w2 st) (fun v22 hv22 => ?_)
  subst hv22
  by_cases hke : (k : Int) = e
  ·
   obtain rfl : g = F.nil := F.size_nil (by omega)
   refine o_step rfl (step_cast (v' := .bool true) (s_eql rfl rfl) (by rw [decide_eq_true (by omega)])) ?_
   refine o_nil ?_
   refine x_then (hK3 _ _ ?_)
   refine c_true rfl ?_
   refine c_seq fun _ hK4 => ?_
   refine c_seq fun _ hK5 => ?_
   refine c_region ?_
   refine o_step rfl (s_move rfl) ?_
   refine o_step rfl (s_field rfl rfl (by decide)) ?_
   refine o_step rfl (s_ld rfl (.own meA rfl)) ?_
   by_cases hpe : (p : Int) = so.q
   ·
    refine o_step rfl (step_cast (v' := .bool true) (s_eql rfl rfl) (by rw [decide_eq_true (by omega)])) ?_
    refine o_nil ?_
    refine x_then (hK5 _ _ ?_)
    refine c_true rfl ?_
    refine c_seq fun _ hK6 => ?_
    refine c_region ?_
    refine o_step rfl (s_ldB rfl (RdPK.cels (.own meA)) lnA) ?_
    refine o_bs (E := Erw) (xs := [so]) (vs := [_]) rfl rfl rfl rfl rfl (by decide) (by decide) fun b29 S29 hS29 => ?_
    refine o_step rfl (s_assign rfl) ?_
    refine o_nil ?_
    refine x_then (hK6 _ _ ?_)
    refine c_ret ?_
    refine x_then_ret (x_then_ret (?_))
    refine x_sub (Sub.refl _) (H' := (K.bC, .cells [.int .i64 L].toArray 57 (0, 0)) :: S29) hzB ?_
    exact x_ret rfl (.tmp rfl (.nil)) (⟨L, _, _, [so], [.nd so.a so.p so.q ksT .nil], S29, rfl, rfl, hS29.rds, .one (fun W _ hb => ⟨ksT, rfl, sys, hkn, (hks W hb).1, (hks W hb).2⟩) (fun U => rows_nil.trans ⟨fun h => h.2, fun h => ⟨by omega, h⟩⟩), by omega, by rw [hlo]; unfold loB; split <;> omega, by simp; omega⟩)
   ·
    refine o_step rfl (step_cast (v' := .bool false) (s_eql rfl rfl) (by rw [decide_eq_false (by omega)])) ?_
    refine o_nil ?_
    refine x_then (hK5 _ _ ?_)
    refine c_false rfl ?_
    refine c_skip ?_
    refine x_then (hK4 _ _ ?_)
    refine c_seq fun _ hK7 => ?_
    refine c_region ?_
    refine o_step rfl (s_assign rfl) ?_
    refine o_nil ?_
    refine x_then (hK7 _ _ ?_)
    refine c_ret ?_
    refine x_then_ret (?_)
    refine x_sub (Sub.refl _) (H' := (K.bC, .cells [.int .i64 L].toArray 57 (0, 0)) :: []) hzB ?_
    exact x_ret rfl (.tmp rfl (.nil)) (⟨L, none, 0, [], [], [], rfl, rfl, .nil, .nil fun T h => hpe (by have := (rows_nil.1 h).1; omega), by omega, by rw [hlo]; unfold loB; split <;> omega, by simp; omega⟩)
  ·
   obtain ⟨y, js, r2, rfl⟩ : ∃ y ks1 r2, g = F.nd y ks1 r2 := by cases g with | nil => simp [F.size] at hgl; omega | nd y a b => exact ⟨y, a, b, rfl⟩
   refine o_step rfl (step_cast (v' := .bool false) (s_eql rfl rfl) (by rw [decide_eq_false (by omega)])) ?_
   refine o_nil ?_
   refine x_then (hK3 _ _ ?_)
   refine c_false rfl ?_
   refine c_skip ?_
   refine x_then (hK2 _ _ ?_)
   refine c_seq fun _ hK8 => ?_
   refine c_region ?_
   refine o_step rfl (s_assign rfl) ?_
   refine o_nil ?_
   refine x_then (hK8 _ _ ?_)
   refine c_seq fun _ hK9 => ?_
   refine c_seq fun _ hK10 => ?_
   refine c_region ?_
   refine o_step rfl (s_move rfl) ?_
   refine o_step rfl (s_assign rfl) ?_
   refine o_nil ?_
   refine x_then (hK10 _ _ ?_)
   refine c_block ?_
   refine c_loop6 (fun (m : Nat) (L2 : Int) (q : Sl Rw) (So : Hp) (ts : List TF) (G : Hp) => p ≤ m ∧ m ≤ so.q + 1 ∧ OwnS Erw 4 35 (.slice q.a q.xs.length q.c) q.xs So ∧ Acc Sk q.xs ts G (QO (fun _ => False) p (fun m U => dT K.tx (.nd y js .nil) false k p m U) (fun m U T => Goes so (ksT.app U) (dT K.tx r2 false (k + 1 + js.size) m so.q) T) m) L2 ∧ L2 ≤ L ∧ loB L - ((m : Int) - p) ≤ L2 ∧ (q.xs.length : Int) + max L2 0 ≤ max L 0 + 0) (fun (m : Nat) (L2 : Int) (q : Sl Rw) (So : Hp) (ts : List TF) (G : Hp) => [(13, .slice q.a q.xs.length q.c), (14, .int .i64 m)]) [(0, _), (1, _), (2, _), (4, _), (5, _), (9, _), (12, _)] (fun (m : Nat) (L2 : Int) (q : Sl Rw) (So : Hp) (ts : List TF) (G : Hp) => (K.bC, .cells [.int .i64 L2].toArray 57 (0, 0)) :: (So ++ (G ++ [(b9, .cells (Erw so).toArray 35 (0, 0))]))) (fun (m : Nat) (L2 : Int) (q : Sl Rw) (So : Hp) (ts : List TF) (G : Hp) => so.q + 1 - m) p L ⟨none, 0, []⟩ [] [] [] ⟨Nat.le_refl _, by omega, .nil, .nil fun T h => (QO_zero.1 h), by omega, by unfold loB; split <;> omega, by simp⟩ sbA sbA hzB ?_
   rintro m L2 q So ts G ⟨hm1, hm2, hq, hA, hl1, hl2, hl3⟩
   refine c_seq fun _ hK11 => ?_
   refine c_seq fun _ hK12 => ?_
   refine c_region ?_
   refine o_step rfl (s_move rfl) ?_
   refine o_step rfl (s_field rfl rfl (by decide)) ?_
   refine o_step rfl (s_ld rfl (.own meA rfl)) ?_
   by_cases hmq : (m : Int) ≤ so.q
   ·
    refine o_step rfl (step_cast (v' := .bool true) (s_leq rfl rfl) (by rw [decide_eq_true (by omega)])) ?_
    refine o_nil ?_
    refine x_then (hK12 _ _ ?_)
    refine c_true rfl ?_
    refine c_skip ?_
    refine x_then (hK11 _ _ ?_)
    refine c_seq fun _ hK13 => ?_
    refine c_block ?_
    refine c_seq fun _ hK14 => ?_
    refine c_region ?_
    refine o_step rfl (s_move rfl) ?_
    refine o_step rfl (s_move rfl) ?_
    refine o_step rfl (s_move rfl) ?_
    refine o_step rfl (s_move rfl) ?_
    refine o_step rfl (s_move rfl) ?_
    refine o_step rfl (s_move rfl) ?_
    refine o_call (hAll L2 (by omega) y js k _ p m hpg.one hm1 (by omega) (by omega) (by unfold loB at hl2; split at hl2 <;> omega)) rfl rfl rfl pkA (fun w2 st => hw.none st) (fun v43 S43 ⟨L3, a3, c3, zs, us, S3, hv43, hS43, hR3, hA3, h3a, h3b, h3c⟩ => ?_)
    subst hv43
    subst hS43
    have h3d : (0 ≤ L2 → -1000000 * (L2 + 1) ≤ L3) ∧ (L2 < 0 → L2 - 1 ≤ L3) := by unfold loA at h3b; split at h3b <;> omega
    have h3e : loB L ≤ 0 ∧ (0 ≤ L → loB L = -1000000 * (L + 1) - 820000) ∧ (L < 0 → loB L = L) := by unfold loB; split <;> omega
    refine o_step rfl (s_assign rfl) ?_
    refine o_nil ?_
    refine x_then (hK14 _ _ ?_)
    refine c_seq fun _ hK15 => ?_
    refine c_region ?_
    refine o_step rfl (s_assign rfl) ?_
    refine o_nil ?_
    refine x_then (hK15 _ _ ?_)
    refine c_block ?_
    refine c_knw (p := IsSl (.slice a3 zs.length c3) zs.length) (fun w2 st => ((hR3.rdk hiA).out w2 st).sl) fun hs3 => ?_
    refine c_knw (p := zs.length = us.length) (fun w2 st => (hA3.rows w2 (Bears.of st hiA) Bears.nil).len) fun hlen3 => ?_
    refine c_loop6 (fun (i : Nat) (L4 : Int) (q2 : Sl Rw) (So2 : Hp) (ts2 : List TF) (G2 : Hp) => i ≤ zs.length ∧ OwnS Erw 4 35 (.slice q2.a q2.xs.length q2.c) q2.xs So2 ∧ Acc Sk q2.xs ts2 (G2 ++ S3) (QI (QO (fun _ => False) p (fun m U => dT K.tx (.nd y js .nil) false k p m U) (fun m U T => Goes so (ksT.app U) (dT K.tx r2 false (k + 1 + js.size) m so.q) T) m) us (fun U T => Goes so (ksT.app U) (dT K.tx r2 false (k + 1 + js.size) m so.q) T) i) L4 ∧ L4 ≤ L3 ∧ (i = 0 → L4 = L3) ∧ min L3 (-1000000 * (L + 1) - 41 * (i : Int)) ≤ L4 ∧ (q2.xs.length : Int) + ((zs.length : Int) - i) + max L4 0 ≤ max L 0 + 0) (fun (i : Nat) (L4 : Int) (q2 : Sl Rw) (So2 : Hp) (ts2 : List TF) (G2 : Hp) => [(16, .int .i64 i), (13, .slice q2.a q2.xs.length q2.c)]) [(0, _), (1, _), (2, _), (4, _), (5, _), (9, _), (12, _), (14, _), (15, _), (31, _), (32, _), (33, _), (34, _), (37, _), (38, _), (39, _), (40, _), (41, _), (42, _), (43, _)] (fun (i : Nat) (L4 : Int) (q2 : Sl Rw) (So2 : Hp) (ts2 : List TF) (G2 : Hp) => (K.bC, .cells [.int .i64 L4].toArray 57 (0, 0)) :: (So2 ++ (G2 ++ (S3 ++ [(b9, .cells (Erw so).toArray 35 (0, 0))])))) (fun (i : Nat) (L4 : Int) (q2 : Sl Rw) (So2 : Hp) (ts2 : List TF) (G2 : Hp) => zs.length - i) 0 L3 q So ts G ⟨by omega, hq, (hA.grow hiB).low h3a fun _ T => QI_zero.symm, by omega, fun _ => rfl, by omega, by omega⟩ sbA sbA hzB ?_
    rintro i L4 q2 So2 ts2 G2 ⟨hi, hq2, hA2, k1, k2, k3, k4⟩
    refine c_seq fun _ hK16 => ?_
    refine c_seq fun _ hK17 => ?_
    refine c_region ?_
    refine o_step rfl (s_move rfl) ?_
    refine o_step rfl (s_move rfl) ?_
    refine o_step rfl (s_len rfl) ?_
    by_cases hiz : (i : Int) < zs.length
    ·
     obtain ⟨z, hz⟩ : ∃ z, zs[i]? = some z := ⟨_, List.getElem?_eq_getElem (by omega)⟩
     obtain ⟨U, hU⟩ : ∃ U, us[i]? = some U := ⟨_, List.getElem?_eq_getElem (by have := hlen3; omega)⟩
     have hL4 : L4.toNat < L.toNat := by omega
     refine o_step rfl (step_cast (v' := .bool true) (s_lss rfl rfl) (by rw [decide_eq_true (by omega)])) ?_
     refine o_nil ?_
     refine x_then (hK17 _ _ ?_)
     refine c_true rfl ?_
     refine c_skip ?_
     refine x_then (hK16 _ _ ?_)
     refine c_seq fun _ hK18 => ?_
     refine c_block ?_
     refine c_seq fun _ hK19 => ?_
     refine c_region ?_
     refine o_step rfl (s_ldB rfl (RdPK.cels (.own meA)) lnA) ?_
     refine o_alloc (l := Erw ⟨0, 0, 0, none, 0, 0⟩) rfl rfl fun b17 => ?_
     refine o_stW rfl rfl upA lnA lnA onA ?_
     refine o_nil ?_
     refine x_then (hK19 _ _ ?_)
     refine c_seq fun _ hK20 => ?_
     refine c_drawE ((b9, .cells (Erw so).toArray 35 (0, 0)) :: S3) (fun i => false) ?_
     refine e_take 0 rfl (by kernel_rfl) (by kernel_rfl) (by kernel_rfl) (by kernel_rfl) (fun _ _ => rfl) rfl hzB (s_field rfl rfl (by decide)) ?_
     refine e_take 1 rfl (by kernel_rfl) (by kernel_rfl) (by kernel_rfl) (by kernel_rfl) (fun _ _ => rfl) rfl hzB (s_ld rfl (.own meA rfl)) ?_
     refine e_take 2 rfl (by kernel_rfl) (by kernel_rfl) (by kernel_rfl) (by kernel_rfl) (fun _ _ => rfl) rfl hzB (s_move rfl) ?_
     refine e_take 3 rfl (by kernel_rfl) (by kernel_rfl) (by kernel_rfl) (by kernel_rfl) (fun _ _ => rfl) rfl hzB (s_move rfl) ?_
     refine e_take 4 rfl (by kernel_rfl) (by kernel_rfl) (by kernel_rfl) (by kernel_rfl) (fun _ _ => rfl) rfl hzB (s_idx rfl rfl hs3 (by omega)) ?_
     refine e_take 5 rfl (by kernel_rfl) (by kernel_rfl) (by kernel_rfl) (by kernel_rfl) (fun _ _ => rfl) rfl hzB (s_ldB rfl ((hR3.rdk hiA).lds i hz rfl) lnA) ?_
     refine e_one 6 rfl (by kernel_rfl) ?_
     refine o_call (with_fn so.ka so.kc so.kn sys z hkn (by omega)) rfl rfl rfl (by exact .nil) (fun w2 st => (hks w2 (hw.out st)).1) (fun v57 S57 ⟨a57, c57, hv57, hS57⟩ => ?_)
     subst hv57
     refine o_nil ?_
     refine x_oneS hzB ?_
     refine e_one 7 rfl (by kernel_rfl) ?_
     refine o_step rfl (s_field rfl rfl (by decide)) ?_
     refine o_nil ?_
     refine x_oneS hzB ?_
     refine e_one 8 rfl (by kernel_rfl) ?_
     refine o_store rfl rfl rfl upA ltA rfl ?_
     refine o_nil ?_
     refine x_oneS hzB ?_
     refine e_done (by kernel_rfl) ?_
     refine x_then (hK20 _ _ ?_)
     refine c_drawE ([(b17, .cells ((Erw so).set 3 (.slice a57 (sys ++ [z]).length c57)).toArray 35 (0, 0))]) (fun i => false) ?_
     refine e_take 0 rfl (by kernel_rfl) (by kernel_rfl) (by kernel_rfl) (by kernel_rfl) (fun _ _ => rfl) rfl hzB (s_move rfl) ?_
     refine e_take 1 rfl (by kernel_rfl) (by kernel_rfl) (by kernel_rfl) (by kernel_rfl) (fun _ _ => rfl) rfl hzB (s_move rfl) ?_
     refine e_take 2 rfl (by kernel_rfl) (by kernel_rfl) (by kernel_rfl) (by kernel_rfl) (fun _ _ => rfl) rfl hzB (s_move rfl) ?_
     refine e_take 3 rfl (by kernel_rfl) (by kernel_rfl) (by kernel_rfl) (by kernel_rfl) (fun _ _ => rfl) rfl hzB (s_move rfl) ?_
     refine e_take 4 rfl (by kernel_rfl) (by kernel_rfl) (by kernel_rfl) (by kernel_rfl) (fun _ _ => rfl) rfl hzB (s_ldB rfl (RdPK.cels (.own meA)) lnA) ?_
     refine e_take 5 rfl (by kernel_rfl) (by kernel_rfl) (by kernel_rfl) (by kernel_rfl) (fun _ _ => rfl) rfl hzB (s_move rfl) ?_
     refine e_take 6 rfl (by kernel_rfl) (by kernel_rfl) (by kernel_rfl) (by kernel_rfl) (fun _ _ => rfl) rfl hzB (s_move rfl) ?_
     refine e_take 8 rfl (by kernel_rfl) (by kernel_rfl) (by kernel_rfl) (by kernel_rfl) (fun _ _ => rfl) rfl hzB (s_move rfl) ?_
     refine e_one 7 rfl (by kernel_rfl) ?_
     refine o_callP (behind10_fn K.ra K.rc K.re y js k _ hpg.one) rfl rfl rfl (fun w2 st => (RdK.old hw.d1 hw.a1).out w2 st) (fun v66 hv66 => ?_)
     subst hv66
     refine o_nil ?_
     refine x_oneS hzB ?_
     refine e_one 9 rfl (by kernel_rfl) ?_
     refine o_call (ihR L4 hL4 r2 x0 ks0 (⟨so.a, so.p, so.q, a57, (sys ++ [z]).length, c57⟩ : Rw) (sys ++ [z]) (ksT.app U) ((S57 ++ S3) ++ Sk) (k + 1 + js.size) e m hpg.head.2.2 hp0 (by show m ≤ so.q; omega) hqt rfl (by rw [List.length_append]; simp only [F.num, List.length_singleton] at hgn ⊢; omega) (fun W hb => ⟨hS57.rd (Bears.app.1 (Bears.app.1 hb).1).1, Tie.app (hks W (Bears.app.1 hb).2).2 (Tie.one ((hA3.rows W (Bears.app.1 (Bears.app.1 hb).1).2 Bears.nil).get i z U hz hU))⟩) (by omega) (by omega)) rfl rfl rfl pkA (fun w2 st => hw.next st pkA hiB) (fun v68 S68 ⟨L5, a5, c5, ws, us5, S5, hv68, hS68, hR5, hA5, h5a, h5b, h5c⟩ => ?_)
     subst hv68
     subst hS68
     have h5d : (0 ≤ L4 → -1000000 * (L4 + 1) - 820041 ≤ L5) ∧ (L4 < 0 → L4 - 41 ≤ L5) := by unfold loR at h5b; split at h5b <;> omega
     refine o_nil ?_
     refine x_oneS hzB ?_
     refine e_one 10 rfl (by kernel_rfl) ?_
     refine o_app hq2 (hR5.rdk hiA) rfl rfl rfl rfl (by omega) (by omega) rfl pkA fun a69 c69 S69 hS69 => ?_
     refine o_nil ?_
     refine x_oneS hzB ?_
     refine e_one 11 rfl (by kernel_rfl) ?_
     refine o_step rfl (s_assign rfl) ?_
     refine o_nil ?_
     refine x_oneS hzB ?_
     refine e_done (by kernel_rfl) ?_
     refine x_block ?_
     refine x_then (hK18 _ _ ?_)
     refine c_region ?_
     refine o_step rfl (s_move rfl) ?_
     refine o_step rfl (s_add rfl rfl (by omega)) ?_
     refine o_step rfl (s_assign rfl) ?_
     refine o_nil ?_
     exact x_then (x_inv (i + 1, L5, ⟨a69, c69, q2.xs ++ ws⟩, S69, ts2 ++ us5, S5 ++ (S57 ++ G2)) ⟨by omega, hS69, (hA2.more (Sn := S57 ++ S3) hA5 h5a hiB hiB hiB).low (Int.le_refl _) fun _ T => QI_succ hU, by dsimp only; omega, fun h => by dsimp only at h; omega, by dsimp only; omega, by dsimp only; rw [List.length_append]; omega⟩ (by first | omega | (dsimp only; omega)) sbA (by dsimp only; simp only [List.append_assoc, List.cons_append, List.nil_append]; exact hzB))
    ·
     obtain rfl : i = zs.length := by omega
     refine o_step rfl (step_cast (v' := .bool false) (s_lss rfl rfl) (by rw [decide_eq_false (by omega)])) ?_
     refine o_nil ?_
     refine x_then (hK17 _ _ ?_)
     refine c_false rfl ?_
     refine c_exit ?_
     refine x_then_exit ?_
     refine x_then_exit ?_
     refine x_block_exit ?_
     refine x_block ?_
     refine x_then (hK13 _ _ ?_)
     refine c_region ?_
     refine o_step rfl (s_move rfl) ?_
     refine o_step rfl (s_add rfl rfl (by omega)) ?_
     refine o_step rfl (s_assign rfl) ?_
     refine o_nil ?_
     exact x_then (x_inv (m + 1, L4, q2, So2, ts2, G2 ++ S3) ⟨by omega, by omega, hq2, hA2.low (Int.le_refl _) fun h0 T => (QI_all (by omega) (hA3.mem (by dsimp only at h0; omega))).trans (QO_succ hm1), by dsimp only; omega, by dsimp only; omega, by dsimp only; omega⟩ (by first | omega | (dsimp only; omega)) sbA (by dsimp only; simp only [List.append_assoc, List.cons_append, List.nil_append]; exact hzB))
   ·
    obtain rfl : m = so.q + 1 := by omega
    refine o_step rfl (step_cast (v' := .bool false) (s_leq rfl rfl) (by rw [decide_eq_false (by omega)])) ?_
    refine o_nil ?_
    refine x_then (hK12 _ _ ?_)
    refine c_false rfl ?_
    refine c_exit ?_
    refine x_then_exit ?_
    refine x_then_exit ?_
    refine x_block_exit ?_
    refine x_then (hK9 _ _ ?_)
    refine c_seq fun _ hK21 => ?_
    refine c_region ?_
    refine o_step rfl (s_move rfl) ?_
    refine o_step rfl (s_assign rfl) ?_
    refine o_nil ?_
    refine x_then (hK21 _ _ ?_)
    refine c_ret ?_
    refine ?_
    refine x_sub (Sub.refl _) (H' := (K.bC, .cells [.int .i64 L2].toArray 57 (0, 0)) :: (So ++ G)) hzB ?_
    exact x_ret rfl (.tmp rfl (.nil)) (⟨L2, q.a, q.c, q.xs, ts, So ++ G, rfl, rfl, hq.rds.mono hiB, (hA.grow hiB).low (Int.le_refl _) fun _ T => rows_fin hpg.wf, hl1, by omega, by omega⟩)
end Go.Proofs.Ytiggliigookieaa

/- Part of the proofs over this seat: see the text that holds the theorem. Conditions: each theorem bears its own. -/
namespace Go.Proofs.Ytiggliigookieaa
open Go Go.HL Go.Proofs Go.HL.Kl Go.HL.Kl.Mc Go.HL.Kl.Mc.AskE
set_option maxHeartbeats 2000000 in
theorem rounds_fn (K : CntE) (hK : K.ok) (L : Int) (hAll : ∀ L2 : Int, L2.toNat ≤ L.toNat → AllL K L2) (ihR : ∀ L2 : Int, L2.toNat < L.toNat → RndL K L2) (x y : Nd) (js : F) (so : Rw) (sys : List Rw) (ksT : TF) (Sk : Hp) (e p r : Nat) (hp0 : Part K.re (.nd x (.nd y js .nil) .nil) so.a e) (h6 : x.op = 6) (hpq : p ≤ so.q) (hqt : so.q ≤ K.tx.length) (hkn : so.kn = sys.length) (hkr : sys.length = r) (hrb : (r : Int) + max L 0 ≤ 30000) (hks : ∀ W, Bears Sk W → Rd Erw W so.kv sys ∧ Tie W ksT sys) (hL1 : L ≤ 20000) (hL0 : -100000000000 ≤ L) : HL.Fn Try.prog 36 [pt K.bC, K.vre, K.vtx, .agg (Erw so).toArray, .int .i64 p] (PreC K Sk) [(K.bC, .cells [.int .i64 L].toArray 57 (0, 0))] (AllP 57 K L (loR L) 1 Sk (Goes so ksT (fun R => RT x (fun p q R => dT K.tx (.nd y js .nil) false (so.a + 1) p q R) R r p so.q))) := by
  refine fn_of Try.func36 rfl rfl rfl fun w0 hw => ?_
  have htl := hK.tx
  have hrl := hK.len
  have hsl := hw.d1.sl
  have hlo : loR L = loB L - 41 := by unfold loR loB; split <;> omega
  have hkr2 : so.kn = r := by omega
  obtain ⟨hx, hpk, _⟩ := hp0.head
  have hilt := (List.getElem?_eq_some_iff.1 hx).1
  have hok := hp0.wf.1
  have hrg := rep_rng hok h6
  have hwk := hpk.wf
  refine c_seq fun _ hK1 => ?_
  refine c_region ?_
  refine o_box rfl rfl rfl fun b8 => ?_
  refine o_step rfl (s_assign rfl) ?_
  refine o_nil ?_
  refine x_then (hK1 _ _ ?_)
  refine c_seq fun _ hK2 => ?_
  refine c_region ?_
  refine o_step rfl (s_move rfl) ?_
  refine o_step rfl (s_field rfl rfl (by decide)) ?_
  refine o_step rfl (s_ld rfl (.own meA rfl)) ?_
  refine o_step rfl (s_idx rfl rfl hsl (by omega)) ?_
  refine o_step rfl (s_ldB rfl ((RdK.old hw.d1 hw.a1).lds so.a hx rfl) lnA) ?_
  refine o_alloc (l := En zN) (by rw [En_zero]; rfl) rfl fun b11 => ?_
  refine o_stW rfl rfl upA lnA lnA onA ?_
  refine o_nil ?_
  refine x_then (hK2 _ _ ?_)
  refine c_seq fun _ hK3 => ?_
  refine c_region ?_
  refine o_step rfl (s_field rfl rfl (by decide)) ?_
  refine o_step rfl (s_ld rfl (.own meA rfl)) ?_
  refine o_step rfl (s_len rfl) ?_
  refine o_step rfl (s_assign rfl) ?_
  refine o_nil ?_
  refine x_then (hK3 _ _ ?_)
  refine c_seq fun _ hK4 => ?_
  refine c_region ?_
  refine o_step rfl (s_assign rfl) ?_
  refine o_nil ?_
  refine x_then (hK4 _ _ ?_)
  refine c_seqJ (ι := Sl Rw × List TF × Hp) (fun g => OwnS Erw 4 35 (.slice g.1.a g.1.xs.length g.1.c) g.1.xs g.2.2 ∧ Acc Sk g.1.xs g.2.1 [] (fun T => p = so.q ∧ x.mn ≤ (r : Int) ∧ T = .nd so.a so.p so.q ksT .nil) L ∧ g.1.xs.length ≤ 1) (fun g => [(13, .slice g.1.a g.1.xs.length g.1.c)]) [(0, _), (1, _), (2, _), (4, _), (8, _), (10, _), (11, _), (12, _)] (fun g => (K.bC, .cells [.int .i64 L].toArray 57 (0, 0)) :: (g.2.2 ++ [(b11, .cells (En x).toArray 51 (0, 0)), (b8, .cells (Erw so).toArray 35 (0, 0))])) sbA ?_ ?_
  ·
   rintro g ⟨hg1, hg2, hg3⟩
   refine c_seqJ (ι := Unit) (fun _g => (x.mx = -1 ∨ (r : Int) < x.mx)) (fun _g => []) [(0, _), (1, _), (2, _), (4, _), (8, _), (11, _), (12, _), (13, _)] (fun _g => (K.bC, .cells [.int .i64 L].toArray 57 (0, 0)) :: (g.2.2 ++ [(b11, .cells (En x).toArray 51 (0, 0)), (b8, .cells (Erw so).toArray 35 (0, 0))])) sbA ?_ ?_
   ·
    rintro _g hmx
    refine c_seq fun _ hK7 => ?_
    refine c_seq fun _ hK8 => ?_
    refine c_region ?_
    refine o_step rfl (s_move rfl) ?_
    refine o_step rfl (s_assign rfl) ?_
    refine o_nil ?_
    refine x_then (hK8 _ _ ?_)
    refine c_block ?_
    refine c_loop6 (fun (m : Nat) (L2 : Int) (q : Sl Rw) (So : Hp) (ts : List TF) (G : Hp) => p ≤ m ∧ m ≤ so.q + 1 ∧ OwnS Erw 4 35 (.slice q.a q.xs.length q.c) q.xs So ∧ Acc Sk q.xs ts G (QO (fun T => p = so.q ∧ x.mn ≤ (r : Int) ∧ T = .nd so.a so.p so.q ksT .nil) p (fun m U => (m ≠ p ∨ (r : Int) < x.mn ∨ r = 0) ∧ dT K.tx (.nd y js .nil) false (so.a + 1) p m U) (fun m U T => Goes so (ksT.app U) (fun K_ => RT x (fun p q R => dT K.tx (.nd y js .nil) false (so.a + 1) p q R) K_ (r + 1) m so.q) T) m) L2 ∧ L2 ≤ L ∧ loB L - ((m : Int) - p) ≤ L2 ∧ (q.xs.length : Int) + max L2 0 ≤ max L 0 + 1) (fun (m : Nat) (L2 : Int) (q : Sl Rw) (So : Hp) (ts : List TF) (G : Hp) => [(13, .slice q.a q.xs.length q.c), (14, .int .i64 m)]) [(0, _), (1, _), (2, _), (4, _), (8, _), (11, _), (12, _)] (fun (m : Nat) (L2 : Int) (q : Sl Rw) (So : Hp) (ts : List TF) (G : Hp) => (K.bC, .cells [.int .i64 L2].toArray 57 (0, 0)) :: (So ++ (G ++ [(b11, .cells (En x).toArray 51 (0, 0)), (b8, .cells (Erw so).toArray 35 (0, 0))]))) (fun (m : Nat) (L2 : Int) (q : Sl Rw) (So : Hp) (ts : List TF) (G : Hp) => so.q + 1 - m) p L g.1 g.2.2 g.2.1 [] ⟨Nat.le_refl _, by omega, hg1, hg2.low (Int.le_refl _) fun _ T => ⟨fun h => QO_zero.2 h, fun h => QO_zero.1 h⟩, by omega, by unfold loB; split <;> omega, by omega⟩ sbA sbA hzB ?_
    rintro m L2 q So ts G ⟨hm1, hm2, hq, hA, hl1, hl2, hl3⟩
    refine c_seq fun _ hK9 => ?_
    refine c_seq fun _ hK10 => ?_
    refine c_region ?_
    refine o_step rfl (s_move rfl) ?_
    refine o_step rfl (s_field rfl rfl (by decide)) ?_
    refine o_step rfl (s_ld rfl (.own meA rfl)) ?_
    by_cases hmq : (m : Int) ≤ so.q
    ·
     refine o_step rfl (step_cast (v' := .bool true) (s_leq rfl rfl) (by rw [decide_eq_true (by omega)])) ?_
     refine o_nil ?_
     refine x_then (hK10 _ _ ?_)
     refine c_true rfl ?_
     refine c_skip ?_
     refine x_then (hK9 _ _ ?_)
     refine c_seq fun _ hK11 => ?_
     refine c_block ?_
     refine c_seqJ (ι := Unit) (fun _g => (m ≠ p ∨ (r : Int) < x.mn ∨ r = 0)) (fun _g => []) [(0, _), (1, _), (2, _), (4, _), (8, _), (11, _), (12, _), (13, _), (14, _), (51, _), (52, _), (53, _), (54, _)] (fun _g => (K.bC, .cells [.int .i64 L2].toArray 57 (0, 0)) :: (So ++ (G ++ [(b11, .cells (En x).toArray 51 (0, 0)), (b8, .cells (Erw so).toArray 35 (0, 0))]))) sbA ?_ ?_
     ·
      rintro _g hmay
      refine c_seq fun _ hK13 => ?_
      refine c_region ?_
      refine o_step rfl (s_move rfl) ?_
      refine o_step rfl (s_move rfl) ?_
      refine o_step rfl (s_move rfl) ?_
      refine o_step rfl (s_field rfl rfl (by decide)) ?_
      refine o_step rfl (s_ld rfl (.own meA rfl)) ?_
      refine o_step rfl (s_add rfl rfl (by omega)) ?_
      refine o_step rfl (s_move rfl) ?_
      refine o_step rfl (s_move rfl) ?_
      refine o_call (hAll L2 (by omega) y js (so.a + 1) _ p m hpk hm1 (by omega) (by omega) (by unfold loB at hl2; split at hl2 <;> omega)) rfl rfl rfl pkA (fun w2 st => hw.none st) (fun v78 S78 ⟨L3, a3, c3, zs, us, S3, hv78, hS78, hR3, hA3, h3a, h3b, h3c⟩ => ?_)
      subst hv78
      subst hS78
      have h3d : (0 ≤ L2 → -1000000 * (L2 + 1) ≤ L3) ∧ (L2 < 0 → L2 - 1 ≤ L3) := by unfold loA at h3b; split at h3b <;> omega
      have h3e : loB L ≤ 0 ∧ (0 ≤ L → loB L = -1000000 * (L + 1) - 820000) ∧ (L < 0 → loB L = L) := by unfold loB; split <;> omega
      refine o_step rfl (s_assign rfl) ?_
      refine o_nil ?_
      refine x_then (hK13 _ _ ?_)
      refine c_seq fun _ hK14 => ?_
      refine c_region ?_
      refine o_step rfl (s_assign rfl) ?_
      refine o_nil ?_
      refine x_then (hK14 _ _ ?_)
      refine c_block ?_
      refine c_knw (p := IsSl (.slice a3 zs.length c3) zs.length) (fun w2 st => ((hR3.rdk hiA).out w2 st).sl) fun hs3 => ?_
      refine c_knw (p := zs.length = us.length) (fun w2 st => (hA3.rows w2 (Bears.of st hiA) Bears.nil).len) fun hlen3 => ?_
      refine c_loop6 (fun (i : Nat) (L4 : Int) (q2 : Sl Rw) (So2 : Hp) (ts2 : List TF) (G2 : Hp) => i ≤ zs.length ∧ OwnS Erw 4 35 (.slice q2.a q2.xs.length q2.c) q2.xs So2 ∧ Acc Sk q2.xs ts2 (G2 ++ S3) (QI (QO (fun T => p = so.q ∧ x.mn ≤ (r : Int) ∧ T = .nd so.a so.p so.q ksT .nil) p (fun m U => (m ≠ p ∨ (r : Int) < x.mn ∨ r = 0) ∧ dT K.tx (.nd y js .nil) false (so.a + 1) p m U) (fun m U T => Goes so (ksT.app U) (fun K_ => RT x (fun p q R => dT K.tx (.nd y js .nil) false (so.a + 1) p q R) K_ (r + 1) m so.q) T) m) us (fun U T => Goes so (ksT.app U) (fun K_ => RT x (fun p q R => dT K.tx (.nd y js .nil) false (so.a + 1) p q R) K_ (r + 1) m so.q) T) i) L4 ∧ L4 ≤ L3 ∧ (i = 0 → L4 = L3) ∧ min L3 (-1000000 * (L + 1) - 41 * (i : Int)) ≤ L4 ∧ (q2.xs.length : Int) + ((zs.length : Int) - i) + max L4 0 ≤ max L 0 + 1) (fun (i : Nat) (L4 : Int) (q2 : Sl Rw) (So2 : Hp) (ts2 : List TF) (G2 : Hp) => [(16, .int .i64 i), (13, .slice q2.a q2.xs.length q2.c)]) [(0, _), (1, _), (2, _), (4, _), (8, _), (11, _), (12, _), (14, _), (15, _), (51, _), (52, _), (53, _), (54, _), (70, _), (71, _), (72, _), (73, _), (74, _), (75, _), (76, _), (77, _), (78, _)] (fun (i : Nat) (L4 : Int) (q2 : Sl Rw) (So2 : Hp) (ts2 : List TF) (G2 : Hp) => (K.bC, .cells [.int .i64 L4].toArray 57 (0, 0)) :: (So2 ++ (G2 ++ (S3 ++ [(b11, .cells (En x).toArray 51 (0, 0)), (b8, .cells (Erw so).toArray 35 (0, 0))])))) (fun (i : Nat) (L4 : Int) (q2 : Sl Rw) (So2 : Hp) (ts2 : List TF) (G2 : Hp) => zs.length - i) 0 L3 q So ts G ⟨by omega, hq, (hA.grow hiB).low h3a fun _ T => QI_zero.symm, by omega, fun _ => rfl, by omega, by omega⟩ sbA sbA hzB ?_
      rintro i L4 q2 So2 ts2 G2 ⟨hi, hq2, hA2, k1, k2, k3, k4⟩
      refine c_seq fun _ hK15 => ?_
      refine c_seq fun _ hK16 => ?_
      refine c_region ?_
      refine o_step rfl (s_move rfl) ?_
      refine o_step rfl (s_move rfl) ?_
      refine o_step rfl (s_len rfl) ?_
      by_cases hiz : (i : Int) < zs.length
      ·
       obtain ⟨z, hz⟩ : ∃ z, zs[i]? = some z := ⟨_, List.getElem?_eq_getElem (by omega)⟩
       obtain ⟨U, hU⟩ : ∃ U, us[i]? = some U := ⟨_, List.getElem?_eq_getElem (by have := hlen3; omega)⟩
       have hL4 : L4.toNat < L.toNat := by omega
       refine o_step rfl (step_cast (v' := .bool true) (s_lss rfl rfl) (by rw [decide_eq_true (by omega)])) ?_
       refine o_nil ?_
       refine x_then (hK16 _ _ ?_)
       refine c_true rfl ?_
       refine c_skip ?_
       refine x_then (hK15 _ _ ?_)
       refine c_seq fun _ hK17 => ?_
       refine c_block ?_
       refine c_seq fun _ hK18 => ?_
       refine c_region ?_
       refine o_step rfl (s_ldB rfl (RdPK.cels (.own meA)) lnA) ?_
       refine o_alloc (l := Erw ⟨0, 0, 0, none, 0, 0⟩) rfl rfl fun b17 => ?_
       refine o_stW rfl rfl upA lnA lnA onA ?_
       refine o_nil ?_
       refine x_then (hK18 _ _ ?_)
       refine c_seq fun _ hK19 => ?_
       refine c_drawE ((b8, .cells (Erw so).toArray 35 (0, 0)) :: S3) (fun i => false) ?_
       refine e_take 0 rfl (by kernel_rfl) (by kernel_rfl) (by kernel_rfl) (by kernel_rfl) (fun _ _ => rfl) rfl hzB (s_field rfl rfl (by decide)) ?_
       refine e_take 1 rfl (by kernel_rfl) (by kernel_rfl) (by kernel_rfl) (by kernel_rfl) (fun _ _ => rfl) rfl hzB (s_ld rfl (.own meA rfl)) ?_
       refine e_take 2 rfl (by kernel_rfl) (by kernel_rfl) (by kernel_rfl) (by kernel_rfl) (fun _ _ => rfl) rfl hzB (s_move rfl) ?_
       refine e_take 3 rfl (by kernel_rfl) (by kernel_rfl) (by kernel_rfl) (by kernel_rfl) (fun _ _ => rfl) rfl hzB (s_move rfl) ?_
       refine e_take 4 rfl (by kernel_rfl) (by kernel_rfl) (by kernel_rfl) (by kernel_rfl) (fun _ _ => rfl) rfl hzB (s_idx rfl rfl hs3 (by omega)) ?_
       refine e_take 5 rfl (by kernel_rfl) (by kernel_rfl) (by kernel_rfl) (by kernel_rfl) (fun _ _ => rfl) rfl hzB (s_ldB rfl ((hR3.rdk hiA).lds i hz rfl) lnA) ?_
       refine e_one 6 rfl (by kernel_rfl) ?_
       refine o_call (with_fn so.ka so.kc so.kn sys z hkn (by omega)) rfl rfl rfl (by exact .nil) (fun w2 st => (hks w2 (hw.out st)).1) (fun v92 S92 ⟨a92, c92, hv92, hS92⟩ => ?_)
       subst hv92
       refine o_nil ?_
       refine x_oneS hzB ?_
       refine e_one 7 rfl (by kernel_rfl) ?_
       refine o_step rfl (s_field rfl rfl (by decide)) ?_
       refine o_nil ?_
       refine x_oneS hzB ?_
       refine e_one 8 rfl (by kernel_rfl) ?_
       refine o_store rfl rfl rfl upA ltA rfl ?_
       refine o_nil ?_
       refine x_oneS hzB ?_
       refine e_done (by kernel_rfl) ?_
       refine x_then (hK19 _ _ ?_)
       refine c_region ?_
       refine o_step rfl (s_move rfl) ?_
       refine o_step rfl (s_move rfl) ?_
       refine o_step rfl (s_move rfl) ?_
       refine o_step rfl (s_move rfl) ?_
       refine o_step rfl (s_ldB rfl (RdPK.cels (.own meA)) lnA) ?_
       refine o_step rfl (s_move rfl) ?_
       refine o_call (ihR L4 hL4 x y js (⟨so.a, so.p, so.q, a92, (sys ++ [z]).length, c92⟩ : Rw) (sys ++ [z]) (ksT.app U) ((S92 ++ S3) ++ Sk) e m (r + 1) hp0 h6 (by show m ≤ so.q; omega) hqt rfl (by rw [List.length_append, hkr]; rfl) (by omega) (fun W hb => ⟨hS92.rd (Bears.app.1 (Bears.app.1 hb).1).1, Tie.app (hks W (Bears.app.1 hb).2).2 (Tie.one ((hA3.rows W (Bears.app.1 (Bears.app.1 hb).1).2 Bears.nil).get i z U hz hU))⟩) (by omega) (by omega)) rfl rfl rfl pkA (fun w2 st => hw.next st pkA hiB) (fun v100 S100 ⟨L5, a5, c5, ws, us5, S5, hv100, hS100, hR5, hA5, h5a, h5b, h5c⟩ => ?_)
       subst hv100
       subst hS100
       have h5d : (0 ≤ L4 → -1000000 * (L4 + 1) - 820041 ≤ L5) ∧ (L4 < 0 → L4 - 41 ≤ L5) := by unfold loR at h5b; split at h5b <;> omega
       refine o_app hq2 (hR5.rdk hiA) rfl rfl rfl rfl (by omega) (by omega) rfl pkA fun a101 c101 S101 hS101 => ?_
       refine o_step rfl (s_assign rfl) ?_
       refine o_nil ?_
       refine x_block ?_
       refine x_then (hK17 _ _ ?_)
       refine c_region ?_
       refine o_step rfl (s_move rfl) ?_
       refine o_step rfl (s_add rfl rfl (by omega)) ?_
       refine o_step rfl (s_assign rfl) ?_
       refine o_nil ?_
       exact x_then (x_inv (i + 1, L5, ⟨a101, c101, q2.xs ++ ws⟩, S101, ts2 ++ us5, S5 ++ (S92 ++ G2)) ⟨by omega, hS101, (hA2.more (Sn := S92 ++ S3) hA5 h5a hiB hiB hiB).low (Int.le_refl _) fun _ T => QI_succ hU, by dsimp only; omega, fun h => by dsimp only at h; omega, by dsimp only; omega, by dsimp only; rw [List.length_append]; omega⟩ (by first | omega | (dsimp only; omega)) sbA (by dsimp only; simp only [List.append_assoc, List.cons_append, List.nil_append]; exact hzB))
      ·
       obtain rfl : i = zs.length := by omega
       refine o_step rfl (step_cast (v' := .bool false) (s_lss rfl rfl) (by rw [decide_eq_false (by omega)])) ?_
       refine o_nil ?_
       refine x_then (hK16 _ _ ?_)
       refine c_false rfl ?_
       refine c_exit ?_
       refine x_then_exit ?_
       refine x_then_exit ?_
       refine x_block_exit ?_
       refine x_block ?_
       refine x_then (hK11 _ _ ?_)
       refine c_region ?_
       refine o_step rfl (s_move rfl) ?_
       refine o_step rfl (s_add rfl rfl (by omega)) ?_
       refine o_step rfl (s_assign rfl) ?_
       refine o_nil ?_
       exact x_then (x_inv (m + 1, L4, q2, So2, ts2, G2 ++ S3) ⟨by omega, by omega, hq2, hA2.low (Int.le_refl _) fun h0 T => (QI_all (by omega) (fun U => ⟨fun h => ⟨hmay, (hA3.mem (by dsimp only at h0; omega) U).1 h⟩, fun h => (hA3.mem (by dsimp only at h0; omega) U).2 h.2⟩)).trans (QO_succ hm1), by dsimp only; omega, by dsimp only; omega, by dsimp only; omega⟩ (by first | omega | (dsimp only; omega)) sbA (by dsimp only; simp only [List.append_assoc, List.cons_append, List.nil_append]; exact hzB))
     ·
      intro _ hJ12
      refine c_seq fun _ hK20 => ?_
      refine c_region ?_
      refine o_step rfl (s_move rfl) ?_
      refine o_step rfl (s_move rfl) ?_
      by_cases hme : (m : Int) = p
      ·
       refine o_step rfl (step_cast (v' := .bool true) (s_eql rfl rfl) (by rw [decide_eq_true (by omega)])) ?_
       refine o_step rfl (s_move rfl) ?_
       refine o_yes rfl rfl ?_
       refine o_step rfl (s_move rfl) ?_
       refine o_yes rfl rfl ?_
       refine o_step rfl (s_field rfl rfl (by decide)) ?_
       refine o_yes rfl rfl ?_
       refine o_step rfl (s_ld rfl (.own meA rfl)) ?_
       refine o_yes rfl rfl ?_
       by_cases hge2 : (so.kn : Int) ≥ x.mn
       ·
        refine o_step rfl (step_cast (v' := .bool true) (s_geq rfl rfl) (by rw [decide_eq_true (by omega)])) ?_
        refine o_step rfl (s_pick_t rfl rfl) ?_
        refine o_step rfl (s_move rfl) ?_
        refine o_yes rfl rfl ?_
        refine o_step rfl (s_move rfl) ?_
        refine o_yes rfl rfl ?_
        by_cases hg0 : (so.kn : Int) > 0
        ·
         refine o_step rfl (step_cast (v' := .bool true) (s_gtr rfl rfl) (by rw [decide_eq_true (by omega)])) ?_
         refine o_step rfl (s_pick_t rfl rfl) ?_
         refine o_nil ?_
         refine x_then (hK20 _ _ ?_)
         refine c_true rfl ?_
         refine c_exit ?_
         refine x_then_exit ?_
         refine x_block_exit ?_
         refine x_then (hK11 _ _ ?_)
         refine c_region ?_
         refine o_step rfl (s_move rfl) ?_
         refine o_step rfl (s_add rfl rfl (by omega)) ?_
         refine o_step rfl (s_assign rfl) ?_
         refine o_nil ?_
         exact x_then (x_inv (m + 1, L2, q, So, ts, G) ⟨by omega, by omega, hq, hA.low (Int.le_refl _) fun h0 T => QO_skip (fun U h => by have := h.1; omega), by dsimp only; omega, by dsimp only; omega, by dsimp only; omega⟩ (by first | omega | (dsimp only; omega)) sbA hzB)
        ·
         refine o_step rfl (step_cast (v' := .bool false) (s_gtr rfl rfl) (by rw [decide_eq_false (by omega)])) ?_
         refine o_step rfl (s_pick_t rfl rfl) ?_
         refine o_nil ?_
         refine x_then (hK20 _ _ ?_)
         refine c_false rfl ?_
         refine c_skip ?_
         exact x_then (hJ12 () _ _ (.inr (.inr (by omega))) sbA sbA hzB)
       ·
        refine o_step rfl (step_cast (v' := .bool false) (s_geq rfl rfl) (by rw [decide_eq_false (by omega)])) ?_
        refine o_step rfl (s_pick_t rfl rfl) ?_
        refine o_step rfl (s_move rfl) ?_
        refine o_no rfl rfl rfl rfl ?_
        refine o_no rfl rfl rfl rfl ?_
        refine o_step rfl (s_pick_f rfl rfl) ?_
        refine o_nil ?_
        refine x_then (hK20 _ _ ?_)
        refine c_false rfl ?_
        refine c_skip ?_
        exact x_then (hJ12 () _ _ (.inr (.inl (by omega))) sbA sbA hzB)
      ·
       refine o_step rfl (step_cast (v' := .bool false) (s_eql rfl rfl) (by rw [decide_eq_false (by omega)])) ?_
       refine o_step rfl (s_move rfl) ?_
       refine o_no rfl rfl rfl rfl ?_
       refine o_no rfl rfl rfl rfl ?_
       refine o_no rfl rfl rfl rfl ?_
       refine o_no rfl rfl rfl rfl ?_
       refine o_step rfl (s_pick_f rfl rfl) ?_
       refine o_step rfl (s_move rfl) ?_
       refine o_no rfl rfl rfl rfl ?_
       refine o_no rfl rfl rfl rfl ?_
       refine o_step rfl (s_pick_f rfl rfl) ?_
       refine o_nil ?_
       refine x_then (hK20 _ _ ?_)
       refine c_false rfl ?_
       refine c_skip ?_
       exact x_then (hJ12 () _ _ (.inl (by omega)) sbA sbA hzB)
    ·
     obtain rfl : m = so.q + 1 := by omega
     refine o_step rfl (step_cast (v' := .bool false) (s_leq rfl rfl) (by rw [decide_eq_false (by omega)])) ?_
     refine o_nil ?_
     refine x_then (hK10 _ _ ?_)
     refine c_false rfl ?_
     refine c_exit ?_
     refine x_then_exit ?_
     refine x_then_exit ?_
     refine x_block_exit ?_
     refine x_then (hK7 _ _ ?_)
     refine c_seq fun _ hK21 => ?_
     refine c_region ?_
     refine o_step rfl (s_move rfl) ?_
     refine o_step rfl (s_assign rfl) ?_
     refine o_nil ?_
     refine x_then (hK21 _ _ ?_)
     refine c_ret ?_
     refine ?_
     refine x_sub (Sub.refl _) (H' := (K.bC, .cells [.int .i64 L2].toArray 57 (0, 0)) :: (So ++ G)) hzB ?_
     exact x_ret rfl (.tmp rfl (.nil)) (⟨L2, q.a, q.c, q.xs, ts, So ++ G, rfl, rfl, hq.rds.mono hiB, (hA.grow hiB).low (Int.le_refl _) fun _ T => rounds_fin hwk hmx (fun r h => by omega), hl1, by omega, by omega⟩)
   ·
    intro _ hJ6
    refine c_seq fun _ hK22 => ?_
    refine c_region ?_
    refine o_step rfl (s_field rfl rfl (by decide)) ?_
    refine o_step rfl (s_ld rfl (.own meA rfl)) ?_
    by_cases hx1 : x.mx ≠ -1
    ·
     refine o_step rfl (step_cast (v' := .bool true) (s_neq rfl rfl) (by rw [decide_eq_true (by omega)])) ?_
     refine o_step rfl (s_move rfl) ?_
     refine o_yes rfl rfl ?_
     refine o_step rfl (s_move rfl) ?_
     refine o_yes rfl rfl ?_
     refine o_step rfl (s_field rfl rfl (by decide)) ?_
     refine o_yes rfl rfl ?_
     refine o_step rfl (s_ld rfl (.own meA rfl)) ?_
     refine o_yes rfl rfl ?_
     by_cases hx2 : (so.kn : Int) ≥ x.mx
     ·
      refine o_step rfl (step_cast (v' := .bool true) (s_geq rfl rfl) (by rw [decide_eq_true (by omega)])) ?_
      refine o_step rfl (s_pick_t rfl rfl) ?_
      refine o_nil ?_
      refine x_then (hK22 _ _ ?_)
      refine c_true rfl ?_
      refine c_seq fun _ hK23 => ?_
      refine c_region ?_
      refine o_step rfl (s_move rfl) ?_
      refine o_step rfl (s_assign rfl) ?_
      refine o_nil ?_
      refine x_then (hK23 _ _ ?_)
      refine c_ret ?_
      refine x_then_ret (?_)
      refine x_sub (Sub.refl _) (H' := (K.bC, .cells [.int .i64 L].toArray 57 (0, 0)) :: g.2.2) hzB ?_
      exact x_ret rfl (.tmp rfl (.nil)) (⟨L, g.1.a, g.1.c, g.1.xs, g.2.1, g.2.2, rfl, rfl, hg1.rds, (hg2.grow hiB).low (Int.le_refl _) fun _ T => rounds_end (by omega), by omega, by rw [hlo]; unfold loB; split <;> omega, by omega⟩)
     ·
      refine o_step rfl (step_cast (v' := .bool false) (s_geq rfl rfl) (by rw [decide_eq_false (by omega)])) ?_
      refine o_step rfl (s_pick_t rfl rfl) ?_
      refine o_nil ?_
      refine x_then (hK22 _ _ ?_)
      refine c_false rfl ?_
      refine c_skip ?_
      exact x_then (hJ6 () _ _ (.inr (by omega)) sbA sbA hzB)
    ·
     refine o_step rfl (step_cast (v' := .bool false) (s_neq rfl rfl) (by rw [decide_eq_false (by omega)])) ?_
     refine o_step rfl (s_move rfl) ?_
     refine o_no rfl rfl rfl rfl ?_
     refine o_no rfl rfl rfl rfl ?_
     refine o_no rfl rfl rfl rfl ?_
     refine o_no rfl rfl rfl rfl ?_
     refine o_step rfl (s_pick_f rfl rfl) ?_
     refine o_nil ?_
     refine x_then (hK22 _ _ ?_)
     refine c_false rfl ?_
     refine c_skip ?_
     exact x_then (hJ6 () _ _ (.inl (by omega)) sbA sbA hzB)
  ·
   intro _ hJ5
   refine c_seq fun _ hK24 => ?_
   refine c_region ?_
   refine o_step rfl (s_move rfl) ?_
   refine o_step rfl (s_field rfl rfl (by decide)) ?_
   refine o_step rfl (s_ld rfl (.own meA rfl)) ?_
   by_cases hpe : (p : Int) = so.q
   ·
    refine o_step rfl (step_cast (v' := .bool true) (s_eql rfl rfl) (by rw [decide_eq_true (by omega)])) ?_
    refine o_step rfl (s_move rfl) ?_
    refine o_yes rfl rfl ?_
    refine o_step rfl (s_move rfl) ?_
    refine o_yes rfl rfl ?_
    refine o_step rfl (s_field rfl rfl (by decide)) ?_
    refine o_yes rfl rfl ?_
    refine o_step rfl (s_ld rfl (.own meA rfl)) ?_
    refine o_yes rfl rfl ?_
    by_cases hge : (so.kn : Int) ≥ x.mn
    ·
     refine o_step rfl (step_cast (v' := .bool true) (s_geq rfl rfl) (by rw [decide_eq_true (by omega)])) ?_
     refine o_step rfl (s_pick_t rfl rfl) ?_
     refine o_nil ?_
     refine x_then (hK24 _ _ ?_)
     refine c_true rfl ?_
     refine c_region ?_
     refine o_step rfl (s_move rfl) ?_
     refine o_step rfl (s_ldB rfl (RdPK.cels (.own meA)) lnA) ?_
     refine o_bs (E := Erw) (xs := [so]) (vs := [_]) rfl rfl rfl rfl rfl (by decide) (by decide) fun b38 S38 hS38 => ?_
     refine o_app OwnS.nil (hS38.rdk hiA) rfl rfl rfl rfl (by simp) (by simp) rfl pkA fun a39 c39 S39 hS39 => ?_
     refine o_step rfl (s_assign rfl) ?_
     refine o_nil ?_
     exact x_then (hJ5 (⟨a39, c39, [so]⟩, [.nd so.a so.p so.q ksT .nil], S39) _ _ ⟨hS39, .one (fun W _ hb => ⟨ksT, rfl, sys, hkn, (hks W hb).1, (hks W hb).2⟩) (fun U => ⟨fun h => h.2.2, fun h => ⟨by omega, by omega, h⟩⟩), Nat.le_refl _⟩ sbA sbA hzB)
    ·
     refine o_step rfl (step_cast (v' := .bool false) (s_geq rfl rfl) (by rw [decide_eq_false (by omega)])) ?_
     refine o_step rfl (s_pick_t rfl rfl) ?_
     refine o_nil ?_
     refine x_then (hK24 _ _ ?_)
     refine c_false rfl ?_
     refine c_skip ?_
     exact x_then (hJ5 (⟨none, 0, []⟩, [], []) _ _ ⟨.nil, .nil fun T h => by have := h.2.1; omega, Nat.zero_le _⟩ sbA sbA hzB)
   ·
    refine o_step rfl (step_cast (v' := .bool false) (s_eql rfl rfl) (by rw [decide_eq_false (by omega)])) ?_
    refine o_step rfl (s_move rfl) ?_
    refine o_no rfl rfl rfl rfl ?_
    refine o_no rfl rfl rfl rfl ?_
    refine o_no rfl rfl rfl rfl ?_
    refine o_no rfl rfl rfl rfl ?_
    refine o_step rfl (s_pick_f rfl rfl) ?_
    refine o_nil ?_
    refine x_then (hK24 _ _ ?_)
    refine c_false rfl ?_
    refine c_skip ?_
    exact x_then (hJ5 (⟨none, 0, []⟩, [], []) _ _ ⟨.nil, .nil fun T h => by have := h.1; omega, Nat.zero_le _⟩ sbA sbA hzB)
end Go.Proofs.Ytiggliigookieaa
