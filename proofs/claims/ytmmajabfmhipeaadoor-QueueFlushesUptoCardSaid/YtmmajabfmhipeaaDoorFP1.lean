/- A step of a script on both sides, but for a flush. Conditions: none. -/
import Derived.Test.YtmmajabfmhipeaaDoorMC2Z
import Derived.Test.YtmmajabfmhipeaaDoorFB2
import Derived.Test.YtmmajabfmhipeaaDoorFW30
import Derived.Test.YtmmajabfmhipeaaDoorHlB
namespace Go.Proofs.YtmmajabfmhipeaaDoor
open Go Go.HL Go.Proofs Go.Tab
set_option maxHeartbeats 1000000 in
theorem ptext_fn (bp bq br bs bw : Nat) (qa : Option Addr) (qc : Nat) (ql : List IV) (So : Hp) (hq : OwnS Eiv 1 135 (.slice qa ql.length qc) ql So) (hql : ql.length ≤ 4294967290) (a : Option Addr) (c : Nat) (b : List UInt8) (hbl : b.length ≤ 2147483647) : HL.Fn Tryd.prog 42 [.pointer (some ⟨bp, 0, none⟩), .slice a b.length c] (fun w => Rd Eb w (.slice a b.length c) b ∧ Apart (keys ((bp, .cells [.pointer (some ⟨bq, 0, none⟩), .pointer (some ⟨br, 0, none⟩), .pointer (some ⟨bs, 0, none⟩), .pointer (some ⟨bw, 0, none⟩)].toArray 33 (0, 0)) :: (bq, .cells [.bool true, .slice qa ql.length qc].toArray 109 (0, 0)) :: So)) (.slice a b.length c)) ((bp, .cells [.pointer (some ⟨bq, 0, none⟩), .pointer (some ⟨br, 0, none⟩), .pointer (some ⟨bs, 0, none⟩), .pointer (some ⟨bw, 0, none⟩)].toArray 33 (0, 0)) :: (bq, .cells [.bool true, .slice qa ql.length qc].toArray 109 (0, 0)) :: So) (fun v S' => v = .bool true ∧ ∃ qa' qc' a' c' So' Sx, S' = (bp, .cells [.pointer (some ⟨bq, 0, none⟩), .pointer (some ⟨br, 0, none⟩), .pointer (some ⟨bs, 0, none⟩), .pointer (some ⟨bw, 0, none⟩)].toArray 33 (0, 0)) :: (bq, .cells [.bool true, .slice qa' (ql ++ [(⟨141, .slice a' b.length c'⟩ : IV)]).length qc'].toArray 109 (0, 0)) :: (So' ++ Sx) ∧ OwnS Eiv 1 135 (.slice qa' (ql ++ [(⟨141, .slice a' b.length c'⟩ : IV)]).length qc') (ql ++ [(⟨141, .slice a' b.length c'⟩ : IV)]) So' ∧ OwnS Eb 1 5 (.slice a' b.length c') b Sx) := by
  refine fn_of Tryd.func42 rfl rfl rfl fun w0 hw => ?_
  refine c_seq fun _ hK1 => ?_
  refine c_region ?_
  refine o_step rfl (s_assign rfl) ?_
  refine o_nil ?_
  refine x_then (hK1 _ _ ?_)
  refine c_seq fun _ hK2 => ?_
  refine c_region ?_
  refine o_step rfl (s_move rfl) ?_
  refine o_call (wideBytes_fn a c b (by omega)) rfl rfl rfl (by exact .nil) (fun w st => (RdK.old (κ := ⟨_, [], w0, _⟩) hw.1 hw.2).out w st) (fun v9 S9 ⟨aN, hv9, hS9⟩ => ?_)
  subst hv9
  have hin := own_pre hS9
  refine o_step rfl (s_assign rfl) ?_
  refine o_nil ?_
  refine x_then (hK2 _ _ ?_)
  refine c_seq fun _ hK3 => ?_
  refine c_region ?_
  refine o_step rfl (s_move rfl) ?_
  refine o_step rfl (s_nil rfl) ?_
  refine o_step rfl (s_field rfl rfl (by decide)) ?_
  refine o_step rfl (s_ld rfl (.own meA rfl)) ?_
  refine o_step rfl (s_move rfl) ?_
  refine o_call (text_fn bq qa qc ql So hq (by omega) aN (b.length + 64) b) rfl rfl rfl ((Pick.takeC pkA pkA)) (fun w st => ⟨(hin.rdk hiA).out w st, st.apart (S := (bq, .cells [.bool true, .slice qa ql.length qc].toArray 109 (0, 0)) :: So) (Pick.takeC pkA pkA) hin hiA⟩) (fun v15 S15 ⟨hv15, qa15, qc15, a15, c15, So15, Sx15, hS15, hq15, hx15⟩ => ?_)
  subst hv15
  subst hS15
  refine o_nil ?_
  refine x_then (hK3 _ _ ?_)
  refine c_seq fun _ hK4 => ?_
  refine c_region ?_
  refine o_step rfl (s_move rfl) ?_
  refine o_step rfl (s_move rfl) ?_
  refine o_callP (eqT_fn aN a (b.length + 64) c b b rfl) rfl rfl rfl (fun w st => ⟨(hin.rdk hiA).out w st, (RdK.old (κ := ⟨_, [], w0, _⟩) hw.1 hw.2).out w st⟩) (fun v18 hv18 => ?_)
  subst hv18
  refine o_step rfl (s_move rfl) ?_
  refine o_yes rfl rfl ?_
  refine o_step rfl (s_move rfl) ?_
  refine o_yes rfl rfl ?_
  refine o_callP (spareBytes_fn aN (b.length + 64) b (by omega)) rfl rfl rfl (fun w st => (hS9.rdk hiA).out w st) (fun v21 hv21 => ?_)
  subst hv21
  refine o_step rfl (s_pick_t rfl rfl) ?_
  refine o_step rfl (s_assign rfl) ?_
  refine o_nil ?_
  refine x_then (hK4 _ _ ?_)
  refine c_seq fun _ hK5 => ?_
  refine c_seq fun _ hK6 => ?_
  refine c_region ?_
  refine o_step rfl (s_assign rfl) ?_
  refine o_nil ?_
  refine x_then (hK6 _ _ ?_)
  refine c_block ?_
  refine c_loop3 (fun (k : Nat) (l : List UInt8) (Sk : Hp) => k ≤ b.length ∧ l.length = b.length ∧ OwnS Eb 1 5 (.slice aN b.length (b.length + 64)) l Sk) (fun (k : Nat) (l : List UInt8) (Sk : Hp) => [(7, .int .i64 k)]) [(4, _), (5, _), (6, _)] (fun (k : Nat) (l : List UInt8) (Sk : Hp) => (bp, .cells [.pointer (some ⟨bq, 0, none⟩), .pointer (some ⟨br, 0, none⟩), .pointer (some ⟨bs, 0, none⟩), .pointer (some ⟨bw, 0, none⟩)].toArray 33 (0, 0)) :: (bq, .cells [.bool true, .slice qa15 (ql ++ [(⟨141, .slice a15 b.length c15⟩ : IV)]).length qc15].toArray 109 (0, 0)) :: (So15 ++ (Sx15 ++ Sk))) (fun (k : Nat) (l : List UInt8) (Sk : Hp) => b.length - k) 0 _ _ ⟨by omega, rfl, hin⟩ sbA sbA hzB ?_
  rintro k l Sk ⟨hkl, hll, hk⟩
  have hks := hk.sl
  rw [hll] at hks
  refine c_seq fun _ hK7 => ?_
  refine c_seq fun _ hK8 => ?_
  refine c_region ?_
  refine o_step rfl (s_move rfl) ?_
  refine o_step rfl (s_move rfl) ?_
  refine o_step rfl (s_len rfl) ?_
  by_cases hkt : k < b.length
  ·
   obtain ⟨x, hxk⟩ : ∃ x, l[k]? = some x := ⟨_, List.getElem?_eq_getElem (by omega)⟩
   refine o_step rfl (step_cast (v' := .bool true) (s_lss rfl rfl) (by rw [decide_eq_true (by omega)])) ?_
   refine o_nil ?_
   refine x_then (hK8 _ _ ?_)
   refine c_true rfl ?_
   refine c_skip ?_
   refine x_then (hK7 _ _ ?_)
   refine c_seq fun _ hK9 => ?_
   refine c_block ?_
   refine c_region ?_
   refine o_step rfl (s_move rfl) ?_
   refine o_step rfl (s_move rfl) ?_
   refine o_step rfl (s_move rfl) ?_
   refine o_step rfl (s_move rfl) ?_
   refine o_step rfl (s_idx rfl rfl hks (by omega)) ?_
   refine o_step rfl (s_ld rfl ((hk.rdk hiA).ld k 0 hxk rfl (by decide) (by omega))) ?_
   refine o_step rfl (step_cast (v' := .int .u8 (xorB x).toNat) (s_xor rfl rfl) (by rw [xorB, ← wrap_u8]; rfl)) ?_
   refine o_step rfl (s_idx rfl rfl hks (by omega)) ?_
   refine o_stS1 k (xorB x) hk pkA rfl rfl rfl (by omega) (by first | omega | rfl | (rw [Int.toNat_natCast, Nat.mul_one])) fun S' hS' => ?_
   refine o_nil ?_
   refine x_block ?_
   refine x_then (hK9 _ _ ?_)
   refine c_region ?_
   refine o_step rfl (s_move rfl) ?_
   refine o_step rfl (s_add rfl rfl (by omega)) ?_
   refine o_step rfl (s_assign rfl) ?_
   refine o_nil ?_
   exact x_then (x_inv (k + 1, l.set k (xorB x), S') ⟨by omega, by rw [List.length_set]; exact hll, hS'⟩ (by first | omega | (dsimp only; omega)) sbA hzB)
  ·
   refine o_step rfl (step_cast (v' := .bool false) (s_lss rfl rfl) (by rw [decide_eq_false (by omega)])) ?_
   refine o_nil ?_
   refine x_then (hK8 _ _ ?_)
   refine c_false rfl ?_
   refine c_exit ?_
   refine x_then_exit ?_
   refine x_then_exit ?_
   refine x_block_exit ?_
   refine x_then (hK5 _ _ ?_)
   refine c_seq fun _ hK10 => ?_
   refine c_region ?_
   refine o_step rfl (s_move rfl) ?_
   refine o_step rfl (s_assign rfl) ?_
   refine o_nil ?_
   refine x_then (hK10 _ _ ?_)
   refine c_ret ?_
   refine ?_
   refine x_sub (Sub.refl _) (H' := (bp, .cells [.pointer (some ⟨bq, 0, none⟩), .pointer (some ⟨br, 0, none⟩), .pointer (some ⟨bs, 0, none⟩), .pointer (some ⟨bw, 0, none⟩)].toArray 33 (0, 0)) :: (bq, .cells [.bool true, .slice qa15 (ql ++ [(⟨141, .slice a15 b.length c15⟩ : IV)]).length qc15].toArray 109 (0, 0)) :: (So15 ++ Sx15)) hzB ?_
   exact x_ret rfl (.tmp rfl (.nil)) (⟨rfl, _, _, _, _, _, _, rfl, hq15, hx15⟩)
set_option maxHeartbeats 2000000 in
theorem begins_fn (bp bq br bs bw : Nat) (o : OpQ) (x0 x1 x2 x3 x4 x5 x6 x7 x8 x9 x10 x11 x12 x13 x14 x15 x16 x17 x18 x19 x20 x21 x22 x23 x24 x25 x26 x27 x28 x29 : Value) (y0 y1 y2 y3 y4 y5 y6 y7 y8 y9 y10 y11 y12 y13 y14 y15 y16 y17 y18 y19 y20 y21 y22 y23 y24 : Value)  : HL.Fn Tryd.prog 47 [.pointer (some ⟨bp, 0, none⟩), .agg (Eopq o).toArray] (fun _ => True) [(bp, .cells [.pointer (some ⟨bq, 0, none⟩), .pointer (some ⟨br, 0, none⟩), .pointer (some ⟨bs, 0, none⟩), .pointer (some ⟨bw, 0, none⟩)].toArray 33 (0, 0)), (bs, .cells [x0, x1, x2, x3, x4, x5, x6, x7, x8, x9, x10, x11, x12, x13, x14, x15, x16, x17, x18, x19, x20, x21, x22, x23, x24, x25, x26, x27, x28, x29].toArray 45 (0, 0)), (bw, .cells [y0, y1, y2, y3, y4, y5, y6, y7, y8, y9, y10, y11, y12, y13, y14, y15, y16, y17, y18, y19, y20, y21, y22, y23, y24].toArray 43 (0, 0))] (fun v S' => v = .tuple #[] ∧ S' = [(bp, .cells [.pointer (some ⟨bq, 0, none⟩), .pointer (some ⟨br, 0, none⟩), .pointer (some ⟨bs, 0, none⟩), .pointer (some ⟨bw, 0, none⟩)].toArray 33 (0, 0)), (bs, .cells [x0, x1, x2, x3, x4, .int .i64 o.fail, .int .i64 o.err, x7, x8, x9, x10, x11, x12, x13, x14, x15, x16, .int .i64 0, x18, x19, x20, .slice none 0 0, x22, x23, x24, x25, .int .i64 o.during, .slice o.b.a o.b.xs.length o.b.c, .string o.n, x29].toArray 45 (0, 0)), (bw, .cells [y0, y1, y2, y3, y4, .int .i64 o.fail, .int .i64 o.err, y7, .int .i64 o.during, y9, .slice o.b.a o.b.xs.length o.b.c, .string o.n, y12, y13, y14, y15, y16, .int .i64 0, y18, y19, y20, .slice none 0 0, y22, y23, y24].toArray 43 (0, 0))]) := by
  refine fn_of Tryd.func47 rfl rfl rfl fun w0 hw => ?_
  refine c_seq fun _ hK1 => ?_
  refine c_region ?_
  refine o_box rfl rfl rfl fun b3 => ?_
  refine o_nil ?_
  refine x_then (hK1 _ _ ?_)
  refine c_seq fun _ hK2 => ?_
  refine c_drawE ([(bp, .cells [.pointer (some ⟨bq, 0, none⟩), .pointer (some ⟨br, 0, none⟩), .pointer (some ⟨bs, 0, none⟩), .pointer (some ⟨bw, 0, none⟩)].toArray 33 (0, 0)), (b3, .cells (Eopq o).toArray 48 (0, 0))]) (fun i => false) ?_
  refine e_take 0 rfl (by kernel_rfl) (by kernel_rfl) (by kernel_rfl) (by kernel_rfl) (fun _ _ => rfl) rfl hzB (s_move rfl) ?_
  refine e_take 1 rfl (by kernel_rfl) (by kernel_rfl) (by kernel_rfl) (by kernel_rfl) (fun _ _ => rfl) rfl hzB (s_nil rfl) ?_
  refine e_take 2 rfl (by kernel_rfl) (by kernel_rfl) (by kernel_rfl) (by kernel_rfl) (fun _ _ => rfl) rfl hzB (s_field rfl rfl (by decide)) ?_
  refine e_take 3 rfl (by kernel_rfl) (by kernel_rfl) (by kernel_rfl) (by kernel_rfl) (fun _ _ => rfl) rfl hzB (s_ld rfl (.own meA rfl)) ?_
  refine e_take 4 rfl (by kernel_rfl) (by kernel_rfl) (by kernel_rfl) (by kernel_rfl) (fun _ _ => rfl) rfl hzB (s_field rfl rfl (by decide)) ?_
  refine e_take 5 rfl (by kernel_rfl) (by kernel_rfl) (by kernel_rfl) (by kernel_rfl) (fun _ _ => rfl) rfl hzB (s_ld rfl (.own meA rfl)) ?_
  refine e_take 6 rfl (by kernel_rfl) (by kernel_rfl) (by kernel_rfl) (by kernel_rfl) (fun _ _ => rfl) rfl hzB (s_nil rfl) ?_
  refine e_take 7 rfl (by kernel_rfl) (by kernel_rfl) (by kernel_rfl) (by kernel_rfl) (fun _ _ => rfl) rfl hzB (s_field rfl rfl (by decide)) ?_
  refine e_one 8 rfl (by kernel_rfl) ?_
  refine o_store rfl rfl rfl upA (by first | decide | omega | (simp; done) | (simp; omega)) rfl ?_
  refine o_nil ?_
  refine x_oneS hzB ?_
  refine e_done (by kernel_rfl) ?_
  refine x_then (hK2 _ _ ?_)
  refine c_seq fun _ hK3 => ?_
  refine c_drawE ([(bp, .cells [.pointer (some ⟨bq, 0, none⟩), .pointer (some ⟨br, 0, none⟩), .pointer (some ⟨bs, 0, none⟩), .pointer (some ⟨bw, 0, none⟩)].toArray 33 (0, 0)), (b3, .cells (Eopq o).toArray 48 (0, 0))]) (fun i => false) ?_
  refine e_take 0 rfl (by kernel_rfl) (by kernel_rfl) (by kernel_rfl) (by kernel_rfl) (fun _ _ => rfl) rfl hzB (s_move rfl) ?_
  refine e_take 1 rfl (by kernel_rfl) (by kernel_rfl) (by kernel_rfl) (by kernel_rfl) (fun _ _ => rfl) rfl hzB (s_nil rfl) ?_
  refine e_take 2 rfl (by kernel_rfl) (by kernel_rfl) (by kernel_rfl) (by kernel_rfl) (fun _ _ => rfl) rfl hzB (s_field rfl rfl (by decide)) ?_
  refine e_take 3 rfl (by kernel_rfl) (by kernel_rfl) (by kernel_rfl) (by kernel_rfl) (fun _ _ => rfl) rfl hzB (s_ld rfl (.own meA rfl)) ?_
  refine e_take 4 rfl (by kernel_rfl) (by kernel_rfl) (by kernel_rfl) (by kernel_rfl) (fun _ _ => rfl) rfl hzB (s_field rfl rfl (by decide)) ?_
  refine e_take 5 rfl (by kernel_rfl) (by kernel_rfl) (by kernel_rfl) (by kernel_rfl) (fun _ _ => rfl) rfl hzB (s_ld rfl (.own meA rfl)) ?_
  refine e_take 6 rfl (by kernel_rfl) (by kernel_rfl) (by kernel_rfl) (by kernel_rfl) (fun _ _ => rfl) rfl hzB (s_nil rfl) ?_
  refine e_take 7 rfl (by kernel_rfl) (by kernel_rfl) (by kernel_rfl) (by kernel_rfl) (fun _ _ => rfl) rfl hzB (s_field rfl rfl (by decide)) ?_
  refine e_one 8 rfl (by kernel_rfl) ?_
  refine o_store rfl rfl rfl upA (by first | decide | omega | (simp; done) | (simp; omega)) rfl ?_
  refine o_nil ?_
  refine x_oneS hzB ?_
  refine e_done (by kernel_rfl) ?_
  refine x_then (hK3 _ _ ?_)
  refine c_seq fun _ hK4 => ?_
  refine c_drawE ([(bp, .cells [.pointer (some ⟨bq, 0, none⟩), .pointer (some ⟨br, 0, none⟩), .pointer (some ⟨bs, 0, none⟩), .pointer (some ⟨bw, 0, none⟩)].toArray 33 (0, 0)), (b3, .cells (Eopq o).toArray 48 (0, 0))]) (fun i => false) ?_
  refine e_take 0 rfl (by kernel_rfl) (by kernel_rfl) (by kernel_rfl) (by kernel_rfl) (fun _ _ => rfl) rfl hzB (s_move rfl) ?_
  refine e_take 1 rfl (by kernel_rfl) (by kernel_rfl) (by kernel_rfl) (by kernel_rfl) (fun _ _ => rfl) rfl hzB (s_nil rfl) ?_
  refine e_take 2 rfl (by kernel_rfl) (by kernel_rfl) (by kernel_rfl) (by kernel_rfl) (fun _ _ => rfl) rfl hzB (s_field rfl rfl (by decide)) ?_
  refine e_take 3 rfl (by kernel_rfl) (by kernel_rfl) (by kernel_rfl) (by kernel_rfl) (fun _ _ => rfl) rfl hzB (s_ld rfl (.own meA rfl)) ?_
  refine e_take 4 rfl (by kernel_rfl) (by kernel_rfl) (by kernel_rfl) (by kernel_rfl) (fun _ _ => rfl) rfl hzB (s_field rfl rfl (by decide)) ?_
  refine e_take 5 rfl (by kernel_rfl) (by kernel_rfl) (by kernel_rfl) (by kernel_rfl) (fun _ _ => rfl) rfl hzB (s_ld rfl (.own meA rfl)) ?_
  refine e_take 6 rfl (by kernel_rfl) (by kernel_rfl) (by kernel_rfl) (by kernel_rfl) (fun _ _ => rfl) rfl hzB (s_nil rfl) ?_
  refine e_take 7 rfl (by kernel_rfl) (by kernel_rfl) (by kernel_rfl) (by kernel_rfl) (fun _ _ => rfl) rfl hzB (s_field rfl rfl (by decide)) ?_
  refine e_one 8 rfl (by kernel_rfl) ?_
  refine o_store rfl rfl rfl upA (by first | decide | omega | (simp; done) | (simp; omega)) rfl ?_
  refine o_nil ?_
  refine x_oneS hzB ?_
  refine e_done (by kernel_rfl) ?_
  refine x_then (hK4 _ _ ?_)
  refine c_seq fun _ hK5 => ?_
  refine c_drawE ([(bp, .cells [.pointer (some ⟨bq, 0, none⟩), .pointer (some ⟨br, 0, none⟩), .pointer (some ⟨bs, 0, none⟩), .pointer (some ⟨bw, 0, none⟩)].toArray 33 (0, 0)), (b3, .cells (Eopq o).toArray 48 (0, 0))]) (fun i => false) ?_
  refine e_take 0 rfl (by kernel_rfl) (by kernel_rfl) (by kernel_rfl) (by kernel_rfl) (fun _ _ => rfl) rfl hzB (s_move rfl) ?_
  refine e_take 1 rfl (by kernel_rfl) (by kernel_rfl) (by kernel_rfl) (by kernel_rfl) (fun _ _ => rfl) rfl hzB (s_nil rfl) ?_
  refine e_take 2 rfl (by kernel_rfl) (by kernel_rfl) (by kernel_rfl) (by kernel_rfl) (fun _ _ => rfl) rfl hzB (s_field rfl rfl (by decide)) ?_
  refine e_take 3 rfl (by kernel_rfl) (by kernel_rfl) (by kernel_rfl) (by kernel_rfl) (fun _ _ => rfl) rfl hzB (s_ld rfl (.own meA rfl)) ?_
  refine e_take 4 rfl (by kernel_rfl) (by kernel_rfl) (by kernel_rfl) (by kernel_rfl) (fun _ _ => rfl) rfl hzB (s_field rfl rfl (by decide)) ?_
  refine e_take 5 rfl (by kernel_rfl) (by kernel_rfl) (by kernel_rfl) (by kernel_rfl) (fun _ _ => rfl) rfl hzB (s_ld rfl (.own meA rfl)) ?_
  refine e_take 6 rfl (by kernel_rfl) (by kernel_rfl) (by kernel_rfl) (by kernel_rfl) (fun _ _ => rfl) rfl hzB (s_nil rfl) ?_
  refine e_take 7 rfl (by kernel_rfl) (by kernel_rfl) (by kernel_rfl) (by kernel_rfl) (fun _ _ => rfl) rfl hzB (s_field rfl rfl (by decide)) ?_
  refine e_take 8 rfl (by kernel_rfl) (by kernel_rfl) (by kernel_rfl) (by kernel_rfl) (fun _ _ => rfl) rfl hzB (s_field rfl rfl (by decide)) ?_
  refine e_one 9 rfl (by kernel_rfl) ?_
  refine o_store rfl rfl rfl upA (by first | decide | omega | (simp; done) | (simp; omega)) rfl ?_
  refine o_nil ?_
  refine x_oneS hzB ?_
  refine e_done (by kernel_rfl) ?_
  refine x_then (hK5 _ _ ?_)
  refine c_seq fun _ hK6 => ?_
  refine c_drawE ([(bp, .cells [.pointer (some ⟨bq, 0, none⟩), .pointer (some ⟨br, 0, none⟩), .pointer (some ⟨bs, 0, none⟩), .pointer (some ⟨bw, 0, none⟩)].toArray 33 (0, 0)), (b3, .cells (Eopq o).toArray 48 (0, 0))]) (fun i => false) ?_
  refine e_take 0 rfl (by kernel_rfl) (by kernel_rfl) (by kernel_rfl) (by kernel_rfl) (fun _ _ => rfl) rfl hzB (s_move rfl) ?_
  refine e_take 1 rfl (by kernel_rfl) (by kernel_rfl) (by kernel_rfl) (by kernel_rfl) (fun _ _ => rfl) rfl hzB (s_nil rfl) ?_
  refine e_take 2 rfl (by kernel_rfl) (by kernel_rfl) (by kernel_rfl) (by kernel_rfl) (fun _ _ => rfl) rfl hzB (s_field rfl rfl (by decide)) ?_
  refine e_take 3 rfl (by kernel_rfl) (by kernel_rfl) (by kernel_rfl) (by kernel_rfl) (fun _ _ => rfl) rfl hzB (s_ld rfl (.own meA rfl)) ?_
  refine e_take 4 rfl (by kernel_rfl) (by kernel_rfl) (by kernel_rfl) (by kernel_rfl) (fun _ _ => rfl) rfl hzB (s_field rfl rfl (by decide)) ?_
  refine e_take 5 rfl (by kernel_rfl) (by kernel_rfl) (by kernel_rfl) (by kernel_rfl) (fun _ _ => rfl) rfl hzB (s_ld rfl (.own meA rfl)) ?_
  refine e_take 6 rfl (by kernel_rfl) (by kernel_rfl) (by kernel_rfl) (by kernel_rfl) (fun _ _ => rfl) rfl hzB (s_nil rfl) ?_
  refine e_take 7 rfl (by kernel_rfl) (by kernel_rfl) (by kernel_rfl) (by kernel_rfl) (fun _ _ => rfl) rfl hzB (s_field rfl rfl (by decide)) ?_
  refine e_take 8 rfl (by kernel_rfl) (by kernel_rfl) (by kernel_rfl) (by kernel_rfl) (fun _ _ => rfl) rfl hzB (s_field rfl rfl (by decide)) ?_
  refine e_one 9 rfl (by kernel_rfl) ?_
  refine o_store rfl rfl rfl upA (by first | decide | omega | (simp; done) | (simp; omega)) rfl ?_
  refine o_nil ?_
  refine x_oneS hzB ?_
  refine e_done (by kernel_rfl) ?_
  refine x_then (hK6 _ _ ?_)
  refine c_seq fun _ hK7 => ?_
  refine c_region ?_
  refine o_step rfl (s_move rfl) ?_
  refine o_step rfl (s_nil rfl) ?_
  refine o_step rfl (s_field rfl rfl (by decide)) ?_
  refine o_step rfl (s_ld rfl (.own meA rfl)) ?_
  refine o_step rfl (s_nil rfl) ?_
  refine o_step rfl (s_field rfl rfl (by decide)) ?_
  refine o_step rfl (s_field rfl rfl (by decide)) ?_
  refine o_store rfl rfl rfl upA (by first | decide | omega | (simp; done) | (simp; omega)) rfl ?_
  refine o_nil ?_
  refine x_then (hK7 _ _ ?_)
  refine c_seq fun _ hK8 => ?_
  refine c_region ?_
  refine o_step rfl (s_move rfl) ?_
  refine o_step rfl (s_nil rfl) ?_
  refine o_step rfl (s_field rfl rfl (by decide)) ?_
  refine o_step rfl (s_ld rfl (.own meA rfl)) ?_
  refine o_step rfl (s_nil rfl) ?_
  refine o_step rfl (s_field rfl rfl (by decide)) ?_
  refine o_step rfl (s_field rfl rfl (by decide)) ?_
  refine o_store rfl rfl rfl upA (by first | decide | omega | (simp; done) | (simp; omega)) rfl ?_
  refine o_nil ?_
  refine x_then (hK8 _ _ ?_)
  refine c_seq fun _ hK9 => ?_
  refine c_drawE ([(bp, .cells [.pointer (some ⟨bq, 0, none⟩), .pointer (some ⟨br, 0, none⟩), .pointer (some ⟨bs, 0, none⟩), .pointer (some ⟨bw, 0, none⟩)].toArray 33 (0, 0)), (b3, .cells (Eopq o).toArray 48 (0, 0))]) (fun i => false) ?_
  refine e_take 0 rfl (by kernel_rfl) (by kernel_rfl) (by kernel_rfl) (by kernel_rfl) (fun _ _ => rfl) rfl hzB (s_move rfl) ?_
  refine e_take 1 rfl (by kernel_rfl) (by kernel_rfl) (by kernel_rfl) (by kernel_rfl) (fun _ _ => rfl) rfl hzB (s_nil rfl) ?_
  refine e_take 2 rfl (by kernel_rfl) (by kernel_rfl) (by kernel_rfl) (by kernel_rfl) (fun _ _ => rfl) rfl hzB (s_field rfl rfl (by decide)) ?_
  refine e_take 3 rfl (by kernel_rfl) (by kernel_rfl) (by kernel_rfl) (by kernel_rfl) (fun _ _ => rfl) rfl hzB (s_ld rfl (.own meA rfl)) ?_
  refine e_take 4 rfl (by kernel_rfl) (by kernel_rfl) (by kernel_rfl) (by kernel_rfl) (fun _ _ => rfl) rfl hzB (s_field rfl rfl (by decide)) ?_
  refine e_take 5 rfl (by kernel_rfl) (by kernel_rfl) (by kernel_rfl) (by kernel_rfl) (fun _ _ => rfl) rfl hzB (s_ld rfl (.own meA rfl)) ?_
  refine e_take 6 rfl (by kernel_rfl) (by kernel_rfl) (by kernel_rfl) (by kernel_rfl) (fun _ _ => rfl) rfl hzB (s_nil rfl) ?_
  refine e_take 7 rfl (by kernel_rfl) (by kernel_rfl) (by kernel_rfl) (by kernel_rfl) (fun _ _ => rfl) rfl hzB (s_field rfl rfl (by decide)) ?_
  refine e_one 8 rfl (by kernel_rfl) ?_
  refine o_store rfl rfl rfl upA (by first | decide | omega | (simp; done) | (simp; omega)) rfl ?_
  refine o_nil ?_
  refine x_oneS hzB ?_
  refine e_done (by kernel_rfl) ?_
  refine x_then (hK9 _ _ ?_)
  refine c_seq fun _ hK10 => ?_
  refine c_drawE ([(bp, .cells [.pointer (some ⟨bq, 0, none⟩), .pointer (some ⟨br, 0, none⟩), .pointer (some ⟨bs, 0, none⟩), .pointer (some ⟨bw, 0, none⟩)].toArray 33 (0, 0)), (b3, .cells (Eopq o).toArray 48 (0, 0))]) (fun i => false) ?_
  refine e_take 0 rfl (by kernel_rfl) (by kernel_rfl) (by kernel_rfl) (by kernel_rfl) (fun _ _ => rfl) rfl hzB (s_move rfl) ?_
  refine e_take 1 rfl (by kernel_rfl) (by kernel_rfl) (by kernel_rfl) (by kernel_rfl) (fun _ _ => rfl) rfl hzB (s_nil rfl) ?_
  refine e_take 2 rfl (by kernel_rfl) (by kernel_rfl) (by kernel_rfl) (by kernel_rfl) (fun _ _ => rfl) rfl hzB (s_field rfl rfl (by decide)) ?_
  refine e_take 3 rfl (by kernel_rfl) (by kernel_rfl) (by kernel_rfl) (by kernel_rfl) (fun _ _ => rfl) rfl hzB (s_ld rfl (.own meA rfl)) ?_
  refine e_take 4 rfl (by kernel_rfl) (by kernel_rfl) (by kernel_rfl) (by kernel_rfl) (fun _ _ => rfl) rfl hzB (s_field rfl rfl (by decide)) ?_
  refine e_take 5 rfl (by kernel_rfl) (by kernel_rfl) (by kernel_rfl) (by kernel_rfl) (fun _ _ => rfl) rfl hzB (s_ld rfl (.own meA rfl)) ?_
  refine e_take 6 rfl (by kernel_rfl) (by kernel_rfl) (by kernel_rfl) (by kernel_rfl) (fun _ _ => rfl) rfl hzB (s_nil rfl) ?_
  refine e_take 7 rfl (by kernel_rfl) (by kernel_rfl) (by kernel_rfl) (by kernel_rfl) (fun _ _ => rfl) rfl hzB (s_field rfl rfl (by decide)) ?_
  refine e_one 8 rfl (by kernel_rfl) ?_
  refine o_store rfl rfl rfl upA (by first | decide | omega | (simp; done) | (simp; omega)) rfl ?_
  refine o_nil ?_
  refine x_oneS hzB ?_
  refine e_done (by kernel_rfl) ?_
  refine x_then (hK10 _ _ ?_)
  refine c_seq fun _ hK11 => ?_
  refine c_drawE ([(bp, .cells [.pointer (some ⟨bq, 0, none⟩), .pointer (some ⟨br, 0, none⟩), .pointer (some ⟨bs, 0, none⟩), .pointer (some ⟨bw, 0, none⟩)].toArray 33 (0, 0)), (b3, .cells (Eopq o).toArray 48 (0, 0))]) (fun i => false) ?_
  refine e_take 0 rfl (by kernel_rfl) (by kernel_rfl) (by kernel_rfl) (by kernel_rfl) (fun _ _ => rfl) rfl hzB (s_move rfl) ?_
  refine e_take 1 rfl (by kernel_rfl) (by kernel_rfl) (by kernel_rfl) (by kernel_rfl) (fun _ _ => rfl) rfl hzB (s_nil rfl) ?_
  refine e_take 2 rfl (by kernel_rfl) (by kernel_rfl) (by kernel_rfl) (by kernel_rfl) (fun _ _ => rfl) rfl hzB (s_field rfl rfl (by decide)) ?_
  refine e_take 3 rfl (by kernel_rfl) (by kernel_rfl) (by kernel_rfl) (by kernel_rfl) (fun _ _ => rfl) rfl hzB (s_ld rfl (.own meA rfl)) ?_
  refine e_take 4 rfl (by kernel_rfl) (by kernel_rfl) (by kernel_rfl) (by kernel_rfl) (fun _ _ => rfl) rfl hzB (s_field rfl rfl (by decide)) ?_
  refine e_take 5 rfl (by kernel_rfl) (by kernel_rfl) (by kernel_rfl) (by kernel_rfl) (fun _ _ => rfl) rfl hzB (s_ld rfl (.own meA rfl)) ?_
  refine e_take 6 rfl (by kernel_rfl) (by kernel_rfl) (by kernel_rfl) (by kernel_rfl) (fun _ _ => rfl) rfl hzB (s_nil rfl) ?_
  refine e_take 7 rfl (by kernel_rfl) (by kernel_rfl) (by kernel_rfl) (by kernel_rfl) (fun _ _ => rfl) rfl hzB (s_field rfl rfl (by decide)) ?_
  refine e_one 8 rfl (by kernel_rfl) ?_
  refine o_store rfl rfl rfl upA (by first | decide | omega | (simp; done) | (simp; omega)) rfl ?_
  refine o_nil ?_
  refine x_oneS hzB ?_
  refine e_done (by kernel_rfl) ?_
  refine x_then (hK11 _ _ ?_)
  refine c_seq fun _ hK12 => ?_
  refine c_drawE ([(bp, .cells [.pointer (some ⟨bq, 0, none⟩), .pointer (some ⟨br, 0, none⟩), .pointer (some ⟨bs, 0, none⟩), .pointer (some ⟨bw, 0, none⟩)].toArray 33 (0, 0)), (b3, .cells (Eopq o).toArray 48 (0, 0))]) (fun i => false) ?_
  refine e_take 0 rfl (by kernel_rfl) (by kernel_rfl) (by kernel_rfl) (by kernel_rfl) (fun _ _ => rfl) rfl hzB (s_move rfl) ?_
  refine e_take 1 rfl (by kernel_rfl) (by kernel_rfl) (by kernel_rfl) (by kernel_rfl) (fun _ _ => rfl) rfl hzB (s_nil rfl) ?_
  refine e_take 2 rfl (by kernel_rfl) (by kernel_rfl) (by kernel_rfl) (by kernel_rfl) (fun _ _ => rfl) rfl hzB (s_field rfl rfl (by decide)) ?_
  refine e_take 3 rfl (by kernel_rfl) (by kernel_rfl) (by kernel_rfl) (by kernel_rfl) (fun _ _ => rfl) rfl hzB (s_ld rfl (.own meA rfl)) ?_
  refine e_take 4 rfl (by kernel_rfl) (by kernel_rfl) (by kernel_rfl) (by kernel_rfl) (fun _ _ => rfl) rfl hzB (s_field rfl rfl (by decide)) ?_
  refine e_take 5 rfl (by kernel_rfl) (by kernel_rfl) (by kernel_rfl) (by kernel_rfl) (fun _ _ => rfl) rfl hzB (s_ld rfl (.own meA rfl)) ?_
  refine e_take 6 rfl (by kernel_rfl) (by kernel_rfl) (by kernel_rfl) (by kernel_rfl) (fun _ _ => rfl) rfl hzB (s_nil rfl) ?_
  refine e_take 7 rfl (by kernel_rfl) (by kernel_rfl) (by kernel_rfl) (by kernel_rfl) (fun _ _ => rfl) rfl hzB (s_field rfl rfl (by decide)) ?_
  refine e_one 8 rfl (by kernel_rfl) ?_
  refine o_store rfl rfl rfl upA (by first | decide | omega | (simp; done) | (simp; omega)) rfl ?_
  refine o_nil ?_
  refine x_oneS hzB ?_
  refine e_done (by kernel_rfl) ?_
  refine x_then (hK12 _ _ ?_)
  refine c_seq fun _ hK13 => ?_
  refine c_drawE ([(bp, .cells [.pointer (some ⟨bq, 0, none⟩), .pointer (some ⟨br, 0, none⟩), .pointer (some ⟨bs, 0, none⟩), .pointer (some ⟨bw, 0, none⟩)].toArray 33 (0, 0)), (b3, .cells (Eopq o).toArray 48 (0, 0))]) (fun i => false) ?_
  refine e_take 0 rfl (by kernel_rfl) (by kernel_rfl) (by kernel_rfl) (by kernel_rfl) (fun _ _ => rfl) rfl hzB (s_move rfl) ?_
  refine e_take 1 rfl (by kernel_rfl) (by kernel_rfl) (by kernel_rfl) (by kernel_rfl) (fun _ _ => rfl) rfl hzB (s_nil rfl) ?_
  refine e_take 2 rfl (by kernel_rfl) (by kernel_rfl) (by kernel_rfl) (by kernel_rfl) (fun _ _ => rfl) rfl hzB (s_field rfl rfl (by decide)) ?_
  refine e_take 3 rfl (by kernel_rfl) (by kernel_rfl) (by kernel_rfl) (by kernel_rfl) (fun _ _ => rfl) rfl hzB (s_ld rfl (.own meA rfl)) ?_
  refine e_take 4 rfl (by kernel_rfl) (by kernel_rfl) (by kernel_rfl) (by kernel_rfl) (fun _ _ => rfl) rfl hzB (s_field rfl rfl (by decide)) ?_
  refine e_take 5 rfl (by kernel_rfl) (by kernel_rfl) (by kernel_rfl) (by kernel_rfl) (fun _ _ => rfl) rfl hzB (s_ld rfl (.own meA rfl)) ?_
  refine e_take 6 rfl (by kernel_rfl) (by kernel_rfl) (by kernel_rfl) (by kernel_rfl) (fun _ _ => rfl) rfl hzB (s_nil rfl) ?_
  refine e_take 7 rfl (by kernel_rfl) (by kernel_rfl) (by kernel_rfl) (by kernel_rfl) (fun _ _ => rfl) rfl hzB (s_field rfl rfl (by decide)) ?_
  refine e_one 8 rfl (by kernel_rfl) ?_
  refine o_store rfl rfl rfl upA (by first | decide | omega | (simp; done) | (simp; omega)) rfl ?_
  refine o_nil ?_
  refine x_oneS hzB ?_
  refine e_done (by kernel_rfl) ?_
  refine x_then (hK13 _ _ ?_)
  refine c_seq fun _ hK14 => ?_
  refine c_region ?_
  refine o_step rfl (s_move rfl) ?_
  refine o_step rfl (s_nil rfl) ?_
  refine o_step rfl (s_field rfl rfl (by decide)) ?_
  refine o_step rfl (s_ld rfl (.own meA rfl)) ?_
  refine o_step rfl (s_nil rfl) ?_
  refine o_step rfl (s_field rfl rfl (by decide)) ?_
  refine o_store rfl rfl rfl upA (by first | decide | omega | (simp; done) | (simp; omega)) rfl ?_
  refine o_nil ?_
  refine x_then (hK14 _ _ ?_)
  refine c_region ?_
  refine o_step rfl (s_move rfl) ?_
  refine o_step rfl (s_nil rfl) ?_
  refine o_step rfl (s_field rfl rfl (by decide)) ?_
  refine o_step rfl (s_ld rfl (.own meA rfl)) ?_
  refine o_step rfl (s_nil rfl) ?_
  refine o_step rfl (s_field rfl rfl (by decide)) ?_
  refine o_store rfl rfl rfl upA (by first | decide | omega | (simp; done) | (simp; omega)) rfl ?_
  refine o_nil ?_
  refine x_sub (Sub.refl _) (H' := [(bp, .cells [.pointer (some ⟨bq, 0, none⟩), .pointer (some ⟨br, 0, none⟩), .pointer (some ⟨bs, 0, none⟩), .pointer (some ⟨bw, 0, none⟩)].toArray 33 (0, 0)), (bs, .cells [x0, x1, x2, x3, x4, .int .i64 o.fail, .int .i64 o.err, x7, x8, x9, x10, x11, x12, x13, x14, x15, x16, .int .i64 0, x18, x19, x20, .slice none 0 0, x22, x23, x24, x25, .int .i64 o.during, .slice o.b.a o.b.xs.length o.b.c, .string o.n, x29].toArray 45 (0, 0)), (bw, .cells [y0, y1, y2, y3, y4, .int .i64 o.fail, .int .i64 o.err, y7, .int .i64 o.during, y9, .slice o.b.a o.b.xs.length o.b.c, .string o.n, y12, y13, y14, y15, y16, .int .i64 0, y18, y19, y20, .slice none 0 0, y22, y23, y24].toArray 43 (0, 0))]) hzB ?_
  exact x_end rfl (.nil) (⟨rfl, rfl⟩)
set_option maxHeartbeats 1000000 in
theorem does0_fn (bp bq br bs bw : Nat) (qa : Option Addr) (qc : Nat) (ql : List IV) (So : Hp) (hq : OwnS Eiv 1 135 (.slice qa ql.length qc) ql So) (hql : ql.length ≤ 4294967290) (ia : Option Addr) (ic : Nat) (il : List RI) (SI : Hp) (hi : OwnS Eri 3 131 (.slice ia il.length ic) il SI) (hil : il.length ≤ 4294967290) (o : OpQ) (hk : o.k = 0) (hbl : o.b.xs.length ≤ 1048576) : HL.Fn Tryd.prog 9 [.pointer (some ⟨bp, 0, none⟩), .agg (Eopq o).toArray] (fun w => Rd Eb w o.b.v o.b.xs ∧ Apart (keys ((bp, .cells [.pointer (some ⟨bq, 0, none⟩), .pointer (some ⟨br, 0, none⟩), .pointer (some ⟨bs, 0, none⟩), .pointer (some ⟨bw, 0, none⟩)].toArray 33 (0, 0)) :: (bq, .cells [.bool true, .slice qa ql.length qc].toArray 109 (0, 0)) :: (br, .cells [.slice ia il.length ic].toArray 112 (0, 0)) :: (So ++ SI))) o.b.v) ((bp, .cells [.pointer (some ⟨bq, 0, none⟩), .pointer (some ⟨br, 0, none⟩), .pointer (some ⟨bs, 0, none⟩), .pointer (some ⟨bw, 0, none⟩)].toArray 33 (0, 0)) :: (bq, .cells [.bool true, .slice qa ql.length qc].toArray 109 (0, 0)) :: (br, .cells [.slice ia il.length ic].toArray 112 (0, 0)) :: (So ++ SI)) (fun v S' => v = .bool true ∧ ∃ qa' qc' a' c' So' Sx ia' ic' a2 c2 SI' St, S' = (bp, .cells [.pointer (some ⟨bq, 0, none⟩), .pointer (some ⟨br, 0, none⟩), .pointer (some ⟨bs, 0, none⟩), .pointer (some ⟨bw, 0, none⟩)].toArray 33 (0, 0)) :: (bq, .cells [.bool true, .slice qa' (ql ++ [(⟨141, .slice a' o.b.xs.length c'⟩ : IV)]).length qc'].toArray 109 (0, 0)) :: (br, .cells [.slice ia' (il ++ [(⟨false, ⟨#[]⟩, ⟨a2, c2, o.b.xs⟩⟩ : RI)]).length ic'].toArray 112 (0, 0)) :: (So' ++ (Sx ++ (SI' ++ St))) ∧ OwnS Eiv 1 135 (.slice qa' (ql ++ [(⟨141, .slice a' o.b.xs.length c'⟩ : IV)]).length qc') (ql ++ [(⟨141, .slice a' o.b.xs.length c'⟩ : IV)]) So' ∧ OwnS Eb 1 5 (.slice a' o.b.xs.length c') o.b.xs Sx ∧ OwnS Eri 3 131 (.slice ia' (il ++ [(⟨false, ⟨#[]⟩, ⟨a2, c2, o.b.xs⟩⟩ : RI)]).length ic') (il ++ [(⟨false, ⟨#[]⟩, ⟨a2, c2, o.b.xs⟩⟩ : RI)]) SI' ∧ OwnS Eb 1 5 (.slice a2 o.b.xs.length c2) o.b.xs St) := by
  refine fn_of Tryd.func9 rfl rfl rfl fun w0 hw => ?_
  refine c_seq fun _ hK1 => ?_
  refine c_region ?_
  refine o_box rfl rfl rfl fun b3 => ?_
  refine o_step rfl (s_assign rfl) ?_
  refine o_nil ?_
  refine x_then (hK1 _ _ ?_)
  refine c_seq fun _ hK2 => ?_
  refine c_seq fun _ hK3 => ?_
  refine c_region ?_
  refine o_step rfl (s_field rfl rfl (by decide)) ?_
  refine o_step rfl (s_ld rfl (.own meA rfl)) ?_
  refine o_nil ?_
  refine x_then (hK3 _ _ ?_)
  refine c_block ?_
  refine c_seq fun _ hK4 => ?_
  refine c_region ?_
  refine o_step rfl (step_cast (v' := .bool true) (s_eql rfl rfl) (by rw [decide_eq_true (by omega)])) ?_
  refine o_step rfl (s_assign rfl) ?_
  refine o_nil ?_
  refine x_then (hK4 _ _ ?_)
  refine c_true rfl ?_
  refine c_seq fun _ hK5 => ?_
  refine c_drawE ([(bp, .cells [.pointer (some ⟨bq, 0, none⟩), .pointer (some ⟨br, 0, none⟩), .pointer (some ⟨bs, 0, none⟩), .pointer (some ⟨bw, 0, none⟩)].toArray 33 (0, 0)), (b3, .cells (Eopq o).toArray 48 (0, 0))]) (fun i => false) ?_
  refine e_take 0 rfl (by kernel_rfl) (by kernel_rfl) (by kernel_rfl) (by kernel_rfl) (fun _ _ => rfl) rfl hzB (s_move rfl) ?_
  refine e_take 1 rfl (by kernel_rfl) (by kernel_rfl) (by kernel_rfl) (by kernel_rfl) (fun _ _ => rfl) rfl hzB (s_nil rfl) ?_
  refine e_take 2 rfl (by kernel_rfl) (by kernel_rfl) (by kernel_rfl) (by kernel_rfl) (fun _ _ => rfl) rfl hzB (s_field rfl rfl (by decide)) ?_
  refine e_take 3 rfl (by kernel_rfl) (by kernel_rfl) (by kernel_rfl) (by kernel_rfl) (fun _ _ => rfl) rfl hzB (s_ld rfl (.own meA rfl)) ?_
  refine e_take 4 rfl (by kernel_rfl) (by kernel_rfl) (by kernel_rfl) (by kernel_rfl) (fun _ _ => rfl) rfl hzB (s_field rfl rfl (by decide)) ?_
  refine e_take 5 rfl (by kernel_rfl) (by kernel_rfl) (by kernel_rfl) (by kernel_rfl) (fun _ _ => rfl) rfl hzB (s_ld rfl (.own meA rfl)) ?_
  refine e_one 6 rfl (by kernel_rfl) ?_
  refine o_call (rqText_fn br ia ic il SI hi (by omega) o.b.a o.b.c o.b.xs (by omega)) rfl rfl rfl ((Pick.takeC pkA pkA)) (fun w st => ⟨(RdK.old (κ := ⟨_, [], w0, _⟩) hw.1 hw.2).out w st, St.apart_oldM st (hin_sub hzB) hw.1 hw.2 (by decide)⟩) (fun v18 S18 ⟨hv18, ia18, ic18, a18, c18, SI18, St18, hS18, hi18, ht18⟩ => ?_)
  subst hv18
  subst hS18
  refine o_nil ?_
  refine x_oneS hzB ?_
  refine e_done (by kernel_rfl) ?_
  refine x_then (hK5 _ _ ?_)
  refine c_seq fun _ hK6 => ?_
  refine c_region ?_
  refine o_step rfl (s_move rfl) ?_
  refine o_step rfl (s_field rfl rfl (by decide)) ?_
  refine o_step rfl (s_ld rfl (.own meA rfl)) ?_
  refine o_call (ptext_fn bp bq br bs bw qa qc ql So hq hql o.b.a o.b.c o.b.xs (by omega)) rfl rfl rfl ((Pick.takeC pkA (Pick.takeC pkA pkA))) (fun w st => ⟨(RdK.old (κ := ⟨_, [], w0, _⟩) hw.1 hw.2).out w st, St.apart_oldM st (hin_sub hzB) hw.1 hw.2 (by decide)⟩) (fun v22 S22 ⟨hv22, qa22, qc22, a22, c22, So22, Sx22, hS22, hq22, hx22⟩ => ?_)
  subst hv22
  subst hS22
  refine o_step rfl (s_assign rfl) ?_
  refine o_nil ?_
  refine x_then (hK6 _ _ ?_)
  refine c_ret ?_
  refine x_block_ret (x_then_ret (?_))
  refine x_sub (Sub.refl _) (H' := (bp, .cells [.pointer (some ⟨bq, 0, none⟩), .pointer (some ⟨br, 0, none⟩), .pointer (some ⟨bs, 0, none⟩), .pointer (some ⟨bw, 0, none⟩)].toArray 33 (0, 0)) :: (bq, .cells [.bool true, .slice qa22 (ql ++ [(⟨141, .slice a22 o.b.xs.length c22⟩ : IV)]).length qc22].toArray 109 (0, 0)) :: (br, .cells [.slice ia18 (il ++ [(⟨false, ⟨#[]⟩, ⟨a18, c18, o.b.xs⟩⟩ : RI)]).length ic18].toArray 112 (0, 0)) :: (So22 ++ (Sx22 ++ (SI18 ++ St18)))) hzB ?_
  exact x_ret rfl (.tmp rfl (.nil)) (⟨rfl, _, _, _, _, _, _, _, _, _, _, _, _, rfl, hq22, hx22, hi18, ht18⟩)
set_option maxHeartbeats 1000000 in
theorem does1_fn (bp bq br bs bw : Nat) (qa : Option Addr) (qc : Nat) (ql : List IV) (So : Hp) (hq : OwnS Eiv 1 135 (.slice qa ql.length qc) ql So) (hql : ql.length ≤ 4294967290) (ia : Option Addr) (ic : Nat) (il : List RI) (SI : Hp) (hi : OwnS Eri 3 131 (.slice ia il.length ic) il SI) (hil : il.length ≤ 4294967290) (o : OpQ) (hk : o.k = 1) : HL.Fn Tryd.prog 9 [.pointer (some ⟨bp, 0, none⟩), .agg (Eopq o).toArray] (fun _ => True) ((bp, .cells [.pointer (some ⟨bq, 0, none⟩), .pointer (some ⟨br, 0, none⟩), .pointer (some ⟨bs, 0, none⟩), .pointer (some ⟨bw, 0, none⟩)].toArray 33 (0, 0)) :: (bq, .cells [.bool true, .slice qa ql.length qc].toArray 109 (0, 0)) :: (br, .cells [.slice ia il.length ic].toArray 112 (0, 0)) :: (So ++ SI)) (fun v S' => v = .bool true ∧ ∃ qa' qc' So' ia' ic' SI', S' = (bp, .cells [.pointer (some ⟨bq, 0, none⟩), .pointer (some ⟨br, 0, none⟩), .pointer (some ⟨bs, 0, none⟩), .pointer (some ⟨bw, 0, none⟩)].toArray 33 (0, 0)) :: (bq, .cells [.bool true, .slice qa' (ql ++ [(⟨133, .string o.n⟩ : IV)]).length qc'].toArray 109 (0, 0)) :: (br, .cells [.slice ia' (il ++ [(⟨true, o.n, ⟨none, 0, []⟩⟩ : RI)]).length ic'].toArray 112 (0, 0)) :: (So' ++ SI') ∧ OwnS Eiv 1 135 (.slice qa' (ql ++ [(⟨133, .string o.n⟩ : IV)]).length qc') (ql ++ [(⟨133, .string o.n⟩ : IV)]) So' ∧ OwnS Eri 3 131 (.slice ia' (il ++ [(⟨true, o.n, ⟨none, 0, []⟩⟩ : RI)]).length ic') (il ++ [(⟨true, o.n, ⟨none, 0, []⟩⟩ : RI)]) SI') := by
  refine fn_of Tryd.func9 rfl rfl rfl fun w0 hw => ?_
  refine c_seq fun _ hK1 => ?_
  refine c_region ?_
  refine o_box rfl rfl rfl fun b3 => ?_
  refine o_step rfl (s_assign rfl) ?_
  refine o_nil ?_
  refine x_then (hK1 _ _ ?_)
  refine c_seq fun _ hK2 => ?_
  refine c_seq fun _ hK3 => ?_
  refine c_region ?_
  refine o_step rfl (s_field rfl rfl (by decide)) ?_
  refine o_step rfl (s_ld rfl (.own meA rfl)) ?_
  refine o_nil ?_
  refine x_then (hK3 _ _ ?_)
  refine c_block ?_
  refine c_seq fun _ hK4 => ?_
  refine c_region ?_
  refine o_step rfl (step_cast (v' := .bool false) (s_eql rfl rfl) (by rw [decide_eq_false (by omega)])) ?_
  refine o_step rfl (s_assign rfl) ?_
  refine o_nil ?_
  refine x_then (hK4 _ _ ?_)
  refine c_false rfl ?_
  refine c_seq fun _ hK5 => ?_
  refine c_region ?_
  refine o_step rfl (step_cast (v' := .bool true) (s_eql rfl rfl) (by rw [decide_eq_true (by omega)])) ?_
  refine o_step rfl (s_assign rfl) ?_
  refine o_nil ?_
  refine x_then (hK5 _ _ ?_)
  refine c_true rfl ?_
  refine c_seq fun _ hK6 => ?_
  refine c_drawE ([(bp, .cells [.pointer (some ⟨bq, 0, none⟩), .pointer (some ⟨br, 0, none⟩), .pointer (some ⟨bs, 0, none⟩), .pointer (some ⟨bw, 0, none⟩)].toArray 33 (0, 0)), (b3, .cells (Eopq o).toArray 48 (0, 0))]) (fun i => false) ?_
  refine e_take 0 rfl (by kernel_rfl) (by kernel_rfl) (by kernel_rfl) (by kernel_rfl) (fun _ _ => rfl) rfl hzB (s_move rfl) ?_
  refine e_take 1 rfl (by kernel_rfl) (by kernel_rfl) (by kernel_rfl) (by kernel_rfl) (fun _ _ => rfl) rfl hzB (s_nil rfl) ?_
  refine e_take 2 rfl (by kernel_rfl) (by kernel_rfl) (by kernel_rfl) (by kernel_rfl) (fun _ _ => rfl) rfl hzB (s_field rfl rfl (by decide)) ?_
  refine e_take 3 rfl (by kernel_rfl) (by kernel_rfl) (by kernel_rfl) (by kernel_rfl) (fun _ _ => rfl) rfl hzB (s_ld rfl (.own meA rfl)) ?_
  refine e_take 4 rfl (by kernel_rfl) (by kernel_rfl) (by kernel_rfl) (by kernel_rfl) (fun _ _ => rfl) rfl hzB (s_field rfl rfl (by decide)) ?_
  refine e_take 5 rfl (by kernel_rfl) (by kernel_rfl) (by kernel_rfl) (by kernel_rfl) (fun _ _ => rfl) rfl hzB (s_ld rfl (.own meA rfl)) ?_
  refine e_one 6 rfl (by kernel_rfl) ?_
  refine o_call (file_fn bq qa qc ql So hq (by omega) o.n) rfl rfl rfl ((Pick.takeC pkA pkA)) (fun _ _ => trivial) (fun v31 S31 ⟨hv31, qa31, qc31, So31, hS31, hq31⟩ => ?_)
  subst hv31
  subst hS31
  refine o_nil ?_
  refine x_oneS hzB ?_
  refine e_done (by kernel_rfl) ?_
  refine x_then (hK6 _ _ ?_)
  refine c_drawE ([(bp, .cells [.pointer (some ⟨bq, 0, none⟩), .pointer (some ⟨br, 0, none⟩), .pointer (some ⟨bs, 0, none⟩), .pointer (some ⟨bw, 0, none⟩)].toArray 33 (0, 0)), (b3, .cells (Eopq o).toArray 48 (0, 0))]) (fun i => false) ?_
  refine e_take 0 rfl (by kernel_rfl) (by kernel_rfl) (by kernel_rfl) (by kernel_rfl) (fun _ _ => rfl) rfl hzB (s_move rfl) ?_
  refine e_take 1 rfl (by kernel_rfl) (by kernel_rfl) (by kernel_rfl) (by kernel_rfl) (fun _ _ => rfl) rfl hzB (s_nil rfl) ?_
  refine e_take 2 rfl (by kernel_rfl) (by kernel_rfl) (by kernel_rfl) (by kernel_rfl) (fun _ _ => rfl) rfl hzB (s_field rfl rfl (by decide)) ?_
  refine e_take 3 rfl (by kernel_rfl) (by kernel_rfl) (by kernel_rfl) (by kernel_rfl) (fun _ _ => rfl) rfl hzB (s_ld rfl (.own meA rfl)) ?_
  refine e_take 4 rfl (by kernel_rfl) (by kernel_rfl) (by kernel_rfl) (by kernel_rfl) (fun _ _ => rfl) rfl hzB (s_field rfl rfl (by decide)) ?_
  refine e_take 5 rfl (by kernel_rfl) (by kernel_rfl) (by kernel_rfl) (by kernel_rfl) (fun _ _ => rfl) rfl hzB (s_ld rfl (.own meA rfl)) ?_
  refine e_one 6 rfl (by kernel_rfl) ?_
  refine o_call (rqFile_fn br ia ic il SI hi (by omega) o.n) rfl rfl rfl ((Pick.takeC pkA pkA)) (fun _ _ => trivial) (fun v38 S38 ⟨hv38, ia38, ic38, SI38, hS38, hi38⟩ => ?_)
  subst hv38
  subst hS38
  refine o_nil ?_
  refine x_oneS hzB ?_
  refine e_done (by kernel_rfl) ?_
  refine x_block ?_
  refine x_then (hK2 _ _ ?_)
  refine c_seq fun _ hK7 => ?_
  refine c_region ?_
  refine o_step rfl (s_assign rfl) ?_
  refine o_nil ?_
  refine x_then (hK7 _ _ ?_)
  refine c_ret ?_
  refine ?_
  refine x_sub (Sub.refl _) (H' := (bp, .cells [.pointer (some ⟨bq, 0, none⟩), .pointer (some ⟨br, 0, none⟩), .pointer (some ⟨bs, 0, none⟩), .pointer (some ⟨bw, 0, none⟩)].toArray 33 (0, 0)) :: (bq, .cells [.bool true, .slice qa31 (ql ++ [(⟨133, .string o.n⟩ : IV)]).length qc31].toArray 109 (0, 0)) :: (br, .cells [.slice ia38 (il ++ [(⟨true, o.n, ⟨none, 0, []⟩⟩ : RI)]).length ic38].toArray 112 (0, 0)) :: (So31 ++ SI38)) hzB ?_
  exact x_ret rfl (.tmp rfl (.nil)) (⟨rfl, _, _, _, _, _, _, rfl, hq31, hi38⟩)
set_option maxHeartbeats 1000000 in
theorem does2_fn (bp bq br bs bw : Nat) (qa ia : Option Addr) (qc ic : Nat) (ql : List IV) (il : List RI) (he : ql.length = il.length) (o : OpQ) (hk : o.k = 2) : HL.Fn Tryd.prog 9 [.pointer (some ⟨bp, 0, none⟩), .agg (Eopq o).toArray] (fun _ => True) [(bp, .cells [.pointer (some ⟨bq, 0, none⟩), .pointer (some ⟨br, 0, none⟩), .pointer (some ⟨bs, 0, none⟩), .pointer (some ⟨bw, 0, none⟩)].toArray 33 (0, 0)), (bq, .cells [.bool true, .slice qa ql.length qc].toArray 109 (0, 0)), (br, .cells [.slice ia il.length ic].toArray 112 (0, 0))] (fun v S' => v = .bool true ∧ S' = [(bp, .cells [.pointer (some ⟨bq, 0, none⟩), .pointer (some ⟨br, 0, none⟩), .pointer (some ⟨bs, 0, none⟩), .pointer (some ⟨bw, 0, none⟩)].toArray 33 (0, 0)), (bq, .cells [.bool true, .slice qa ql.length qc].toArray 109 (0, 0)), (br, .cells [.slice ia il.length ic].toArray 112 (0, 0))]) := by
  refine fn_of Tryd.func9 rfl rfl rfl fun w0 hw => ?_
  refine c_seq fun _ hK1 => ?_
  refine c_region ?_
  refine o_box rfl rfl rfl fun b3 => ?_
  refine o_step rfl (s_assign rfl) ?_
  refine o_nil ?_
  refine x_then (hK1 _ _ ?_)
  refine c_seq fun _ hK2 => ?_
  refine c_seq fun _ hK3 => ?_
  refine c_region ?_
  refine o_step rfl (s_field rfl rfl (by decide)) ?_
  refine o_step rfl (s_ld rfl (.own meA rfl)) ?_
  refine o_nil ?_
  refine x_then (hK3 _ _ ?_)
  refine c_block ?_
  refine c_seq fun _ hK4 => ?_
  refine c_region ?_
  refine o_step rfl (step_cast (v' := .bool false) (s_eql rfl rfl) (by rw [decide_eq_false (by omega)])) ?_
  refine o_step rfl (s_assign rfl) ?_
  refine o_nil ?_
  refine x_then (hK4 _ _ ?_)
  refine c_false rfl ?_
  refine c_seq fun _ hK5 => ?_
  refine c_region ?_
  refine o_step rfl (step_cast (v' := .bool false) (s_eql rfl rfl) (by rw [decide_eq_false (by omega)])) ?_
  refine o_step rfl (s_assign rfl) ?_
  refine o_nil ?_
  refine x_then (hK5 _ _ ?_)
  refine c_false rfl ?_
  refine c_seq fun _ hK6 => ?_
  refine c_region ?_
  refine o_step rfl (step_cast (v' := .bool true) (s_eql rfl rfl) (by rw [decide_eq_true (by omega)])) ?_
  refine o_step rfl (s_assign rfl) ?_
  refine o_nil ?_
  refine x_then (hK6 _ _ ?_)
  refine c_true rfl ?_
  refine c_seq fun _ hK7 => ?_
  refine c_drawE ([(bp, .cells [.pointer (some ⟨bq, 0, none⟩), .pointer (some ⟨br, 0, none⟩), .pointer (some ⟨bs, 0, none⟩), .pointer (some ⟨bw, 0, none⟩)].toArray 33 (0, 0)), (bq, .cells [.bool true, .slice qa ql.length qc].toArray 109 (0, 0)), (br, .cells [.slice ia il.length ic].toArray 112 (0, 0))]) (fun i => false) ?_
  refine e_take 0 rfl (by kernel_rfl) (by kernel_rfl) (by kernel_rfl) (by kernel_rfl) (fun _ _ => rfl) rfl hzB (s_move rfl) ?_
  refine e_take 1 rfl (by kernel_rfl) (by kernel_rfl) (by kernel_rfl) (by kernel_rfl) (fun _ _ => rfl) rfl hzB (s_nil rfl) ?_
  refine e_take 2 rfl (by kernel_rfl) (by kernel_rfl) (by kernel_rfl) (by kernel_rfl) (fun _ _ => rfl) rfl hzB (s_field rfl rfl (by decide)) ?_
  refine e_take 3 rfl (by kernel_rfl) (by kernel_rfl) (by kernel_rfl) (by kernel_rfl) (fun _ _ => rfl) rfl hzB (s_ld rfl (.own meA rfl)) ?_
  refine e_take 5 rfl (by kernel_rfl) (by kernel_rfl) (by kernel_rfl) (by kernel_rfl) (fun _ _ => rfl) rfl hzB (s_move rfl) ?_
  refine e_take 6 rfl (by kernel_rfl) (by kernel_rfl) (by kernel_rfl) (by kernel_rfl) (fun _ _ => rfl) rfl hzB (s_nil rfl) ?_
  refine e_take 7 rfl (by kernel_rfl) (by kernel_rfl) (by kernel_rfl) (by kernel_rfl) (fun _ _ => rfl) rfl hzB (s_field rfl rfl (by decide)) ?_
  refine e_take 8 rfl (by kernel_rfl) (by kernel_rfl) (by kernel_rfl) (by kernel_rfl) (fun _ _ => rfl) rfl hzB (s_ld rfl (.own meA rfl)) ?_
  refine e_one 4 rfl (by kernel_rfl) ?_
  refine o_callP (len_fn bq (.bool true) qa ql.length qc) rfl rfl rfl (fun w st => (RdPK.own meA).out w st) (fun v45 hv45 => ?_)
  subst hv45
  refine o_nil ?_
  refine x_oneS hzB ?_
  refine e_one 9 rfl (by kernel_rfl) ?_
  refine o_callP (rqLen_fn br ia il.length ic) rfl rfl rfl (fun w st => (RdPK.own meA).out w st) (fun v50 hv50 => ?_)
  subst hv50
  refine o_nil ?_
  refine x_oneS hzB ?_
  refine e_take 10 rfl (by kernel_rfl) (by kernel_rfl) (by kernel_rfl) (by kernel_rfl) (fun _ _ => rfl) rfl hzB (step_cast (v' := .bool true) (s_eql rfl rfl) (by rw [decide_eq_true (by omega)])) ?_
  refine e_take 11 rfl (by kernel_rfl) (by kernel_rfl) (by kernel_rfl) (by kernel_rfl) (fun _ _ => rfl) rfl hzB (s_assign rfl) ?_
  refine e_done (by kernel_rfl) ?_
  refine x_then (hK7 _ _ ?_)
  refine c_ret ?_
  refine x_block_ret (x_then_ret (?_))
  refine x_sub (Sub.refl _) (H' := [(bp, .cells [.pointer (some ⟨bq, 0, none⟩), .pointer (some ⟨br, 0, none⟩), .pointer (some ⟨bs, 0, none⟩), .pointer (some ⟨bw, 0, none⟩)].toArray 33 (0, 0)), (bq, .cells [.bool true, .slice qa ql.length qc].toArray 109 (0, 0)), (br, .cells [.slice ia il.length ic].toArray 112 (0, 0))]) hzB ?_
  exact x_ret rfl (.tmp rfl (.nil)) (⟨rfl, rfl⟩)
set_option maxHeartbeats 1000000 in
theorem doesX_fn (v0 : Value) (o : OpQ) (h0 : o.k ≠ 0) (h1 : o.k ≠ 1) (h2 : o.k ≠ 2) (h3 : o.k ≠ 3) (h4 : o.k ≠ 4) : HL.Fn Tryd.prog 9 [v0, .agg (Eopq o).toArray] (fun _ => True) [] (fun v S' => v = .bool true ∧ S' = []) := by
  refine fn_of Tryd.func9 rfl rfl rfl fun w0 hw => ?_
  refine c_seq fun _ hK1 => ?_
  refine c_region ?_
  refine o_box rfl rfl rfl fun b3 => ?_
  refine o_step rfl (s_assign rfl) ?_
  refine o_nil ?_
  refine x_then (hK1 _ _ ?_)
  refine c_seq fun _ hK2 => ?_
  refine c_seq fun _ hK3 => ?_
  refine c_region ?_
  refine o_step rfl (s_field rfl rfl (by decide)) ?_
  refine o_step rfl (s_ld rfl (.own meA rfl)) ?_
  refine o_nil ?_
  refine x_then (hK3 _ _ ?_)
  refine c_block ?_
  refine c_seq fun _ hK4 => ?_
  refine c_region ?_
  refine o_step rfl (step_cast (v' := .bool false) (s_eql rfl rfl) (by rw [decide_eq_false (by omega)])) ?_
  refine o_step rfl (s_assign rfl) ?_
  refine o_nil ?_
  refine x_then (hK4 _ _ ?_)
  refine c_false rfl ?_
  refine c_seq fun _ hK5 => ?_
  refine c_region ?_
  refine o_step rfl (step_cast (v' := .bool false) (s_eql rfl rfl) (by rw [decide_eq_false (by omega)])) ?_
  refine o_step rfl (s_assign rfl) ?_
  refine o_nil ?_
  refine x_then (hK5 _ _ ?_)
  refine c_false rfl ?_
  refine c_seq fun _ hK6 => ?_
  refine c_region ?_
  refine o_step rfl (step_cast (v' := .bool false) (s_eql rfl rfl) (by rw [decide_eq_false (by omega)])) ?_
  refine o_step rfl (s_assign rfl) ?_
  refine o_nil ?_
  refine x_then (hK6 _ _ ?_)
  refine c_false rfl ?_
  refine c_seq fun _ hK7 => ?_
  refine c_region ?_
  refine o_step rfl (step_cast (v' := .bool false) (s_eql rfl rfl) (by rw [decide_eq_false (by omega)])) ?_
  refine o_step rfl (s_assign rfl) ?_
  refine o_nil ?_
  refine x_then (hK7 _ _ ?_)
  refine c_false rfl ?_
  refine c_seq fun _ hK8 => ?_
  refine c_region ?_
  refine o_step rfl (step_cast (v' := .bool false) (s_eql rfl rfl) (by rw [decide_eq_false (by omega)])) ?_
  refine o_step rfl (s_assign rfl) ?_
  refine o_nil ?_
  refine x_then (hK8 _ _ ?_)
  refine c_false rfl ?_
  refine c_skip ?_
  refine x_block ?_
  refine x_then (hK2 _ _ ?_)
  refine c_seq fun _ hK9 => ?_
  refine c_region ?_
  refine o_step rfl (s_assign rfl) ?_
  refine o_nil ?_
  refine x_then (hK9 _ _ ?_)
  refine c_ret ?_
  refine ?_
  refine x_sub (Sub.refl _) (H' := []) hzB ?_
  exact x_ret rfl (.tmp rfl (.nil)) (⟨rfl, rfl⟩)
set_option maxHeartbeats 2000000 in
theorem does4_fn (bp bq br bs bw : Nat) (fa fb : Option Addr) (fca fcb : Nat) (fs : List FileV) (Sf Sg : Hp) (hf : OwnS Efile 3 115 (.slice fa fs.length fca) fs Sf) (hg : OwnS Efile 3 115 (.slice fb fs.length fcb) fs Sg) (hfl : fs.length ≤ 4294967290) (x0 x1 x2 x3 x5 x6 x7 x8 x9 x10 x11 x12 x13 x14 x15 x16 x17 x18 x19 x20 x21 x22 x23 x24 x25 x26 x27 x28 x29 : Value) (y0 y1 y2 y3 y5 y6 y7 y8 y9 y10 y11 y12 y13 y14 y15 y16 y17 y18 y19 y20 y21 y22 y23 y24 : Value) (o : OpQ) (hk : o.k = 4) : HL.Fn Tryd.prog 9 [.pointer (some ⟨bp, 0, none⟩), .agg (Eopq o).toArray] (fun _ => True) ((bp, .cells [.pointer (some ⟨bq, 0, none⟩), .pointer (some ⟨br, 0, none⟩), .pointer (some ⟨bs, 0, none⟩), .pointer (some ⟨bw, 0, none⟩)].toArray 33 (0, 0)) :: (bs, .cells [x0, x1, x2, x3, .slice fa fs.length fca, x5, x6, x7, x8, x9, x10, x11, x12, x13, x14, x15, x16, x17, x18, x19, x20, x21, x22, x23, x24, x25, x26, x27, x28, x29].toArray 45 (0, 0)) :: (bw, .cells [y0, y1, y2, y3, .slice fb fs.length fcb, y5, y6, y7, y8, y9, y10, y11, y12, y13, y14, y15, y16, y17, y18, y19, y20, y21, y22, y23, y24].toArray 43 (0, 0)) :: (Sf ++ Sg)) (fun v S' => v = .bool true ∧ ∃ fa' fca' fb' fcb' Sf' Sg', S' = ((bp, .cells [.pointer (some ⟨bq, 0, none⟩), .pointer (some ⟨br, 0, none⟩), .pointer (some ⟨bs, 0, none⟩), .pointer (some ⟨bw, 0, none⟩)].toArray 33 (0, 0)) :: (bs, .cells [x0, x1, x2, x3, .slice fa' (fs ++ [(⟨o.n, o.b⟩ : FileV)]).length fca', x5, x6, x7, x8, x9, x10, x11, x12, x13, x14, x15, x16, x17, x18, x19, x20, x21, x22, x23, x24, x25, x26, x27, x28, x29].toArray 45 (0, 0)) :: (bw, .cells [y0, y1, y2, y3, .slice fb' (fs ++ [(⟨o.n, o.b⟩ : FileV)]).length fcb', y5, y6, y7, y8, y9, y10, y11, y12, y13, y14, y15, y16, y17, y18, y19, y20, y21, y22, y23, y24].toArray 43 (0, 0)) :: (Sf' ++ Sg')) ∧ OwnS Efile 3 115 (.slice fa' (fs ++ [(⟨o.n, o.b⟩ : FileV)]).length fca') (fs ++ [(⟨o.n, o.b⟩ : FileV)]) Sf' ∧ OwnS Efile 3 115 (.slice fb' (fs ++ [(⟨o.n, o.b⟩ : FileV)]).length fcb') (fs ++ [(⟨o.n, o.b⟩ : FileV)]) Sg') := by
  refine fn_of Tryd.func9 rfl rfl rfl fun w0 hw => ?_
  refine c_seq fun _ hK1 => ?_
  refine c_region ?_
  refine o_box rfl rfl rfl fun b3 => ?_
  refine o_step rfl (s_assign rfl) ?_
  refine o_nil ?_
  refine x_then (hK1 _ _ ?_)
  refine c_seq fun _ hK2 => ?_
  refine c_seq fun _ hK3 => ?_
  refine c_region ?_
  refine o_step rfl (s_field rfl rfl (by decide)) ?_
  refine o_step rfl (s_ld rfl (.own meA rfl)) ?_
  refine o_nil ?_
  refine x_then (hK3 _ _ ?_)
  refine c_block ?_
  refine c_seq fun _ hK4 => ?_
  refine c_region ?_
  refine o_step rfl (step_cast (v' := .bool false) (s_eql rfl rfl) (by rw [decide_eq_false (by omega)])) ?_
  refine o_step rfl (s_assign rfl) ?_
  refine o_nil ?_
  refine x_then (hK4 _ _ ?_)
  refine c_false rfl ?_
  refine c_seq fun _ hK5 => ?_
  refine c_region ?_
  refine o_step rfl (step_cast (v' := .bool false) (s_eql rfl rfl) (by rw [decide_eq_false (by omega)])) ?_
  refine o_step rfl (s_assign rfl) ?_
  refine o_nil ?_
  refine x_then (hK5 _ _ ?_)
  refine c_false rfl ?_
  refine c_seq fun _ hK6 => ?_
  refine c_region ?_
  refine o_step rfl (step_cast (v' := .bool false) (s_eql rfl rfl) (by rw [decide_eq_false (by omega)])) ?_
  refine o_step rfl (s_assign rfl) ?_
  refine o_nil ?_
  refine x_then (hK6 _ _ ?_)
  refine c_false rfl ?_
  refine c_seq fun _ hK7 => ?_
  refine c_region ?_
  refine o_step rfl (step_cast (v' := .bool true) (s_eql rfl rfl) (by rw [decide_eq_true (by omega)])) ?_
  refine o_step rfl (s_assign rfl) ?_
  refine o_nil ?_
  refine x_then (hK7 _ _ ?_)
  refine c_true rfl ?_
  refine c_seq fun _ hK8 => ?_
  refine c_region ?_
  refine o_step rfl (s_field rfl rfl (by decide)) ?_
  refine o_step rfl (s_ld rfl (.own meA rfl)) ?_
  refine o_step rfl (s_field rfl rfl (by decide)) ?_
  refine o_step rfl (s_ld rfl (.own meA rfl)) ?_
  refine o_step rfl (step_cast (v' := .agg (Efile (⟨o.n, o.b⟩ : FileV)).toArray) (s_build (cs := [_, _, _]) (vs := [_, _]) rfl rfl (.cons rfl rfl rfl rfl rfl (.cons rfl rfl rfl rfl rfl (.nil)))) rfl) ?_
  refine o_alloc (l := Efile fz) rfl rfl fun b5 => ?_
  refine o_stW rfl rfl upA (by rfl) (by rfl) (Enc.one _) ?_
  refine o_nil ?_
  refine x_then (hK8 _ _ ?_)
  refine c_seq fun _ hK9 => ?_
  refine c_drawE ([(bp, .cells [.pointer (some ⟨bq, 0, none⟩), .pointer (some ⟨br, 0, none⟩), .pointer (some ⟨bs, 0, none⟩), .pointer (some ⟨bw, 0, none⟩)].toArray 33 (0, 0)), (b5, .cells (Efile (⟨o.n, o.b⟩ : FileV)).toArray 115 (0, 0)), (bs, .cells [x0, x1, x2, x3, .slice fa fs.length fca, x5, x6, x7, x8, x9, x10, x11, x12, x13, x14, x15, x16, x17, x18, x19, x20, x21, x22, x23, x24, x25, x26, x27, x28, x29].toArray 45 (0, 0))]) (fun i => Nat.beq i 18) ?_
  refine e_take 0 rfl (by kernel_rfl) (by kernel_rfl) (by kernel_rfl) (by kernel_rfl) (fun _ _ => rfl) rfl hzB (s_move rfl) ?_
  refine e_take 1 rfl (by kernel_rfl) (by kernel_rfl) (by kernel_rfl) (by kernel_rfl) (fun _ _ => rfl) rfl hzB (s_nil rfl) ?_
  refine e_take 2 rfl (by kernel_rfl) (by kernel_rfl) (by kernel_rfl) (by kernel_rfl) (fun _ _ => rfl) rfl hzB (s_field rfl rfl (by decide)) ?_
  refine e_take 3 rfl (by kernel_rfl) (by kernel_rfl) (by kernel_rfl) (by kernel_rfl) (fun _ _ => rfl) rfl hzB (s_ld rfl (.own meA rfl)) ?_
  refine e_take 4 rfl (by kernel_rfl) (by kernel_rfl) (by kernel_rfl) (by kernel_rfl) (fun _ _ => rfl) rfl hzB (s_move rfl) ?_
  refine e_take 5 rfl (by kernel_rfl) (by kernel_rfl) (by kernel_rfl) (by kernel_rfl) (fun _ _ => rfl) rfl hzB (s_nil rfl) ?_
  refine e_take 6 rfl (by kernel_rfl) (by kernel_rfl) (by kernel_rfl) (by kernel_rfl) (fun _ _ => rfl) rfl hzB (s_field rfl rfl (by decide)) ?_
  refine e_take 7 rfl (by kernel_rfl) (by kernel_rfl) (by kernel_rfl) (by kernel_rfl) (fun _ _ => rfl) rfl hzB (s_ld rfl (.own meA rfl)) ?_
  refine e_take 8 rfl (by kernel_rfl) (by kernel_rfl) (by kernel_rfl) (by kernel_rfl) (fun _ _ => rfl) rfl hzB (s_nil rfl) ?_
  refine e_take 9 rfl (by kernel_rfl) (by kernel_rfl) (by kernel_rfl) (by kernel_rfl) (fun _ _ => rfl) rfl hzB (s_field rfl rfl (by decide)) ?_
  refine e_take 10 rfl (by kernel_rfl) (by kernel_rfl) (by kernel_rfl) (by kernel_rfl) (fun _ _ => rfl) rfl hzB (s_field rfl rfl (by decide)) ?_
  refine e_take 11 rfl (by kernel_rfl) (by kernel_rfl) (by kernel_rfl) (by kernel_rfl) (fun _ _ => rfl) rfl hzB (s_ld rfl (.own meA rfl)) ?_
  refine e_take 12 rfl (by kernel_rfl) (by kernel_rfl) (by kernel_rfl) (by kernel_rfl) (fun _ _ => rfl) rfl hzB (s_ldB rfl (RdPK.cels (.own meA)) (by rfl)) ?_
  refine e_one 13 rfl (by kernel_rfl) ?_
  refine o_bs (E := Efile) (xs := [(⟨o.n, o.b⟩ : FileV)]) (vs := [_]) rfl rfl rfl rfl rfl (by decide) (by decide) fun b72 S72 hS72 => ?_
  refine o_nil ?_
  refine x_oneS hzB ?_
  refine e_one 14 rfl (by kernel_rfl) ?_
  refine o_app hf (hS72.rdk hiA) rfl rfl rfl rfl (by show (fs.length + 1) * 48 ≤ _; omega) (by show fs.length + 1 ≤ _; omega) rfl pkA fun a73 c73 S73 hS73 => ?_
  refine o_nil ?_
  refine x_oneS hzB ?_
  refine e_one 15 rfl (by kernel_rfl) ?_
  refine o_step rfl (s_nil rfl) ?_
  refine o_nil ?_
  refine x_oneS hzB ?_
  refine e_one 16 rfl (by kernel_rfl) ?_
  refine o_step rfl (s_field rfl rfl (by decide)) ?_
  refine o_nil ?_
  refine x_oneS hzB ?_
  refine e_one 17 rfl (by kernel_rfl) ?_
  refine o_step rfl (s_field rfl rfl (by decide)) ?_
  refine o_nil ?_
  refine x_oneS hzB ?_
  refine e_one 18 rfl (by kernel_rfl) ?_
  refine o_store rfl rfl rfl upA (by first | decide | omega | (simp; done) | (simp; omega)) rfl ?_
  refine o_nil ?_
  refine x_oneL rfl ?_
  refine e_done (by kernel_rfl) ?_
  refine x_then (hK9 _ _ ?_)
  refine c_drawE ([(bp, .cells [.pointer (some ⟨bq, 0, none⟩), .pointer (some ⟨br, 0, none⟩), .pointer (some ⟨bs, 0, none⟩), .pointer (some ⟨bw, 0, none⟩)].toArray 33 (0, 0)), (b5, .cells (Efile (⟨o.n, o.b⟩ : FileV)).toArray 115 (0, 0)), (bw, .cells [y0, y1, y2, y3, .slice fb fs.length fcb, y5, y6, y7, y8, y9, y10, y11, y12, y13, y14, y15, y16, y17, y18, y19, y20, y21, y22, y23, y24].toArray 43 (0, 0))]) (fun i => Nat.beq i 16) ?_
  refine e_take 0 rfl (by kernel_rfl) (by kernel_rfl) (by kernel_rfl) (by kernel_rfl) (fun _ _ => rfl) rfl hzB (s_move rfl) ?_
  refine e_take 1 rfl (by kernel_rfl) (by kernel_rfl) (by kernel_rfl) (by kernel_rfl) (fun _ _ => rfl) rfl hzB (s_nil rfl) ?_
  refine e_take 2 rfl (by kernel_rfl) (by kernel_rfl) (by kernel_rfl) (by kernel_rfl) (fun _ _ => rfl) rfl hzB (s_field rfl rfl (by decide)) ?_
  refine e_take 3 rfl (by kernel_rfl) (by kernel_rfl) (by kernel_rfl) (by kernel_rfl) (fun _ _ => rfl) rfl hzB (s_ld rfl (.own meA rfl)) ?_
  refine e_take 4 rfl (by kernel_rfl) (by kernel_rfl) (by kernel_rfl) (by kernel_rfl) (fun _ _ => rfl) rfl hzB (s_move rfl) ?_
  refine e_take 5 rfl (by kernel_rfl) (by kernel_rfl) (by kernel_rfl) (by kernel_rfl) (fun _ _ => rfl) rfl hzB (s_nil rfl) ?_
  refine e_take 6 rfl (by kernel_rfl) (by kernel_rfl) (by kernel_rfl) (by kernel_rfl) (fun _ _ => rfl) rfl hzB (s_field rfl rfl (by decide)) ?_
  refine e_take 7 rfl (by kernel_rfl) (by kernel_rfl) (by kernel_rfl) (by kernel_rfl) (fun _ _ => rfl) rfl hzB (s_ld rfl (.own meA rfl)) ?_
  refine e_take 8 rfl (by kernel_rfl) (by kernel_rfl) (by kernel_rfl) (by kernel_rfl) (fun _ _ => rfl) rfl hzB (s_nil rfl) ?_
  refine e_take 9 rfl (by kernel_rfl) (by kernel_rfl) (by kernel_rfl) (by kernel_rfl) (fun _ _ => rfl) rfl hzB (s_field rfl rfl (by decide)) ?_
  refine e_take 10 rfl (by kernel_rfl) (by kernel_rfl) (by kernel_rfl) (by kernel_rfl) (fun _ _ => rfl) rfl hzB (s_ld rfl (.own meA rfl)) ?_
  refine e_take 11 rfl (by kernel_rfl) (by kernel_rfl) (by kernel_rfl) (by kernel_rfl) (fun _ _ => rfl) rfl hzB (s_ldB rfl (RdPK.cels (.own meA)) (by rfl)) ?_
  refine e_one 12 rfl (by kernel_rfl) ?_
  refine o_bs (E := Efile) (xs := [(⟨o.n, o.b⟩ : FileV)]) (vs := [_]) rfl rfl rfl rfl rfl (by decide) (by decide) fun b89 S89 hS89 => ?_
  refine o_nil ?_
  refine x_oneS hzB ?_
  refine e_one 13 rfl (by kernel_rfl) ?_
  refine o_app hg (hS89.rdk hiA) rfl rfl rfl rfl (by show (fs.length + 1) * 48 ≤ _; omega) (by show fs.length + 1 ≤ _; omega) rfl pkA fun a90 c90 S90 hS90 => ?_
  refine o_nil ?_
  refine x_oneS hzB ?_
  refine e_one 14 rfl (by kernel_rfl) ?_
  refine o_step rfl (s_nil rfl) ?_
  refine o_nil ?_
  refine x_oneS hzB ?_
  refine e_one 15 rfl (by kernel_rfl) ?_
  refine o_step rfl (s_field rfl rfl (by decide)) ?_
  refine o_nil ?_
  refine x_oneS hzB ?_
  refine e_one 16 rfl (by kernel_rfl) ?_
  refine o_store rfl rfl rfl upA (by first | decide | omega | (simp; done) | (simp; omega)) rfl ?_
  refine o_nil ?_
  refine x_oneL rfl ?_
  refine e_done (by kernel_rfl) ?_
  refine x_block ?_
  refine x_then (hK2 _ _ ?_)
  refine c_seq fun _ hK10 => ?_
  refine c_region ?_
  refine o_step rfl (s_assign rfl) ?_
  refine o_nil ?_
  refine x_then (hK10 _ _ ?_)
  refine c_ret ?_
  refine ?_
  refine x_sub (Sub.refl _) (H' := ((bp, .cells [.pointer (some ⟨bq, 0, none⟩), .pointer (some ⟨br, 0, none⟩), .pointer (some ⟨bs, 0, none⟩), .pointer (some ⟨bw, 0, none⟩)].toArray 33 (0, 0)) :: (bs, .cells [x0, x1, x2, x3, .slice a73 (fs ++ [(⟨o.n, o.b⟩ : FileV)]).length c73, x5, x6, x7, x8, x9, x10, x11, x12, x13, x14, x15, x16, x17, x18, x19, x20, x21, x22, x23, x24, x25, x26, x27, x28, x29].toArray 45 (0, 0)) :: (bw, .cells [y0, y1, y2, y3, .slice a90 (fs ++ [(⟨o.n, o.b⟩ : FileV)]).length c90, y5, y6, y7, y8, y9, y10, y11, y12, y13, y14, y15, y16, y17, y18, y19, y20, y21, y22, y23, y24].toArray 43 (0, 0)) :: (S73 ++ S90))) hzB ?_
  exact x_ret rfl (.tmp rfl (.nil)) (⟨rfl, _, _, _, _, _, _, rfl, hS73, hS90⟩)
end Go.Proofs.YtmmajabfmhipeaaDoor
