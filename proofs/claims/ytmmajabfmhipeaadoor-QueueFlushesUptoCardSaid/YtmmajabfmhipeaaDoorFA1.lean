/- The program's side: what its world notes, lends, tells; Read and Out. Conditions: none. -/
import Derived.Test.YtmmajabfmhipeaaDoorFW30
import Derived.Test.YtmmajabfmhipeaaDoorTC1Z
namespace Go.Proofs.YtmmajabfmhipeaaDoor
open Go Go.HL Go.Proofs Go.Tab
theorem wide_pre {a : Option Addr} {c : Nat} {b : List UInt8} {S : Hp} (h : OwnS Eb 1 5 (.slice a (wide b).length c) (wide b) S) : RdS Eb (.slice a b.length c) b S := by
  have h1 := h.pre b.length (by rw [wide_len]; omega)
  rw [wide_take] at h1
  exact h1.rds
/-- what a Read does to the lists that are lent and to what they were -/
def LStep (fs : List FileV) (b : List UInt8) (ll wl ll' wl' : List (Sl UInt8)) (a' : Option Addr) (Sy : Hp) : Prop := (ll' = ll ∧ wl' = wl) ∨ ∃ p : Sl UInt8, (∃ f ∈ fs, f.b = p) ∧ p.xs = b ∧ ll' = ll ++ [⟨a', b.length + 64, b⟩] ∧ wl' = wl ++ [p] ∧ OwnS Eb 1 5 (.slice a' (wide b).length (b.length + 64)) (wide b) Sy
/-- what comes to wait while it flushes -/
def QPush (yes : Prop) (B : List UInt8) (N : ByteArray) (ql ql' : List IV) (St : Hp) : Prop := (¬ yes ∧ ql' = ql) ∨ (yes ∧ ∃ a c, ql' = (ql ++ [(⟨141, .slice a B.length c⟩ : IV)]) ++ [(⟨133, .string N⟩ : IV)] ∧ OwnS Eb 1 5 (.slice a B.length c) B St)
theorem note3_fn (bs : Nat) (x0 x1 x2 x3 x4 x5 x6 x7 x8 x9 x10 x11 x13 x14 x15 x16 x17 x19 x20 x22 x23 x24 x25 x26 x27 x28 x29 : Value) (sum : Int) (n : ByteArray) (ca : Option Addr) (cc : Nat) (cl : List CallV) (Sc : Hp) (hc : OwnS Ecall 3 204 (.slice ca cl.length cc) cl Sc) (hle : cl.length ≤ 4294967296) (hsum : 0 ≤ sum ∧ sum ≤ 1152921504606846976) (a : Option Addr) (c : Nat) (b : List UInt8) (Sb : Hp) (hb : OwnS Eb 1 5 (.slice a b.length c) b Sb) : HL.Fn Tryd.prog 95 [.pointer (some ⟨bs, 0, none⟩), .int .i64 3, .string n, .slice a b.length c] (fun _ => True) ((bs, .cells [x0, x1, x2, x3, x4, x5, x6, x7, x8, x9, x10, x11, .bool false, x13, x14, x15, x16, x17, .int .i64 sum, x19, x20, .slice ca cl.length cc, x22, x23, x24, x25, x26, x27, x28, x29].toArray 45 (0, 0)) :: (Sc ++ Sb)) (fun v S' => v = .tuple #[] ∧ ∃ a' c' ca' cc' Sc' Sx, S' = (bs, .cells [x0, x1, x2, x3, x4, x5, x6, x7, x8, x9, x10, x11, .bool false, x13, x14, x15, x16, x17, .int .i64 (sum + 1 + b.length), x19, x20, .slice ca' (cl ++ [(⟨3, n, ⟨a', c', b⟩⟩ : CallV)]).length cc', x22, x23, x24, x25, x26, x27, x28, x29].toArray 45 (0, 0)) :: (Sc' ++ (Sx ++ Sb)) ∧ OwnS Ecall 3 204 (.slice ca' (cl ++ [(⟨3, n, ⟨a', c', b⟩⟩ : CallV)]).length cc') (cl ++ [(⟨3, n, ⟨a', c', b⟩⟩ : CallV)]) Sc' ∧ OwnS Eb 1 5 (.slice a' b.length c') b Sx) := by
  refine fn_of Tryd.func95 rfl rfl rfl fun w0 hw => ?_
  have hbs := hb.sl
  have hbl := hbs.le
  refine c_seq fun _ hK1 => ?_
  refine c_region ?_
  refine o_step rfl (s_move rfl) ?_
  refine o_step rfl (s_move rfl) ?_
  refine o_step rfl (s_nil rfl) ?_
  refine o_step rfl (s_field rfl rfl (by decide)) ?_
  refine o_step rfl (s_ld rfl (.own meA rfl)) ?_
  refine o_step rfl (s_add rfl rfl (by omega)) ?_
  refine o_step rfl (s_move rfl) ?_
  refine o_step rfl (s_len rfl) ?_
  refine o_step rfl (s_add rfl rfl (by omega)) ?_
  refine o_step rfl (s_nil rfl) ?_
  refine o_step rfl (s_field rfl rfl (by decide)) ?_
  refine o_store rfl rfl rfl upA (by first | decide | omega | (simp; done) | (simp; omega)) rfl ?_
  refine o_nil ?_
  refine x_then (hK1 _ _ ?_)
  refine c_seq fun _ hK2 => ?_
  refine c_seq fun _ hK3 => ?_
  refine c_region ?_
  refine o_step rfl (s_move rfl) ?_
  refine o_step rfl (s_nil rfl) ?_
  refine o_step rfl (s_field rfl rfl (by decide)) ?_
  refine o_step rfl (s_ld rfl (.own meA rfl)) ?_
  refine o_nil ?_
  refine x_then (hK3 _ _ ?_)
  refine c_false rfl ?_
  refine c_skip ?_
  refine x_then (hK2 _ _ ?_)
  refine c_seq fun _ hK4 => ?_
  refine c_drawE ([(bs, .cells [x0, x1, x2, x3, x4, x5, x6, x7, x8, x9, x10, x11, .bool false, x13, x14, x15, x16, x17, .int .i64 (sum + 1 + b.length), x19, x20, .slice ca cl.length cc, x22, x23, x24, x25, x26, x27, x28, x29].toArray 45 (0, 0))]) (fun i => Nat.beq i 14) ?_
  refine e_take 0 rfl (by kernel_rfl) (by kernel_rfl) (by kernel_rfl) (by kernel_rfl) (fun _ _ => rfl) rfl hzB (s_move rfl) ?_
  refine e_take 1 rfl (by kernel_rfl) (by kernel_rfl) (by kernel_rfl) (by kernel_rfl) (fun _ _ => rfl) rfl hzB (s_move rfl) ?_
  refine e_take 2 rfl (by kernel_rfl) (by kernel_rfl) (by kernel_rfl) (by kernel_rfl) (fun _ _ => rfl) rfl hzB (s_nil rfl) ?_
  refine e_take 3 rfl (by kernel_rfl) (by kernel_rfl) (by kernel_rfl) (by kernel_rfl) (fun _ _ => rfl) rfl hzB (s_field rfl rfl (by decide)) ?_
  refine e_take 4 rfl (by kernel_rfl) (by kernel_rfl) (by kernel_rfl) (by kernel_rfl) (fun _ _ => rfl) rfl hzB (s_ld rfl (.own meA rfl)) ?_
  refine e_take 5 rfl (by kernel_rfl) (by kernel_rfl) (by kernel_rfl) (by kernel_rfl) (fun _ _ => rfl) rfl hzB (s_move rfl) ?_
  refine e_take 6 rfl (by kernel_rfl) (by kernel_rfl) (by kernel_rfl) (by kernel_rfl) (fun _ _ => rfl) rfl hzB (s_move rfl) ?_
  refine e_take 7 rfl (by kernel_rfl) (by kernel_rfl) (by kernel_rfl) (by kernel_rfl) (fun _ _ => rfl) rfl hzB (s_move rfl) ?_
  refine e_one 8 rfl (by kernel_rfl) ?_
  refine o_call (copy_fn a c b) rfl rfl rfl (by exact .nil) (fun w st => (hb.rdk hiA).out w st) (fun v31 S31 ⟨a31, c31, hv31, hS31⟩ => ?_)
  subst hv31
  refine o_nil ?_
  refine x_oneS hzB ?_
  refine e_one 9 rfl (by kernel_rfl) ?_
  refine o_step rfl (s_build (cs := [_, _, _]) (vs := [_, _, _]) rfl rfl (.cons rfl rfl rfl rfl rfl (.cons rfl rfl rfl rfl rfl (.cons rfl rfl rfl rfl rfl (.nil))))) ?_
  refine o_nil ?_
  refine x_oneS hzB ?_
  refine e_one 10 rfl (by kernel_rfl) ?_
  refine o_bs (E := Ecall) (xs := [(⟨3, n, ⟨a31, c31, b⟩⟩ : CallV)]) (vs := [_]) rfl rfl rfl rfl rfl (by decide) (by decide) fun b33 S33 hS33 => ?_
  refine o_nil ?_
  refine x_oneS hzB ?_
  refine e_one 11 rfl (by kernel_rfl) ?_
  refine o_app hc (hS33.rdk hiA) rfl rfl rfl rfl (by show (cl.length + 1) * 48 ≤ _; omega) (by show cl.length + 1 ≤ _; omega) rfl pkA fun a34 c34 S34 hS34 => ?_
  refine o_nil ?_
  refine x_oneS hzB ?_
  refine e_one 12 rfl (by kernel_rfl) ?_
  refine o_step rfl (s_nil rfl) ?_
  refine o_nil ?_
  refine x_oneS hzB ?_
  refine e_one 13 rfl (by kernel_rfl) ?_
  refine o_step rfl (s_field rfl rfl (by decide)) ?_
  refine o_nil ?_
  refine x_oneS hzB ?_
  refine e_one 14 rfl (by kernel_rfl) ?_
  refine o_store rfl rfl rfl upA (by first | decide | omega | (simp; done) | (simp; omega)) rfl ?_
  refine o_nil ?_
  refine x_oneL rfl ?_
  refine e_done (by kernel_rfl) ?_
  refine x_then (hK4 _ _ ?_)
  refine c_seq fun _ hK5 => ?_
  refine c_region ?_
  refine o_step rfl (s_move rfl) ?_
  refine o_step rfl (s_eql_f rfl rfl (by decide)) ?_
  refine o_step rfl (s_move rfl) ?_
  refine o_yes rfl rfl ?_
  refine o_step rfl (s_move rfl) ?_
  refine o_yes rfl rfl ?_
  refine o_step rfl (s_eql_f rfl rfl (by decide)) ?_
  refine o_step rfl (s_pick_f rfl rfl) ?_
  refine o_nil ?_
  refine x_then (hK5 _ _ ?_)
  refine c_false rfl ?_
  refine c_skip ?_
  refine x_sub (Sub.refl _) (H' := (bs, .cells [x0, x1, x2, x3, x4, x5, x6, x7, x8, x9, x10, x11, .bool false, x13, x14, x15, x16, x17, .int .i64 (sum + 1 + b.length), x19, x20, .slice a34 (cl ++ [(⟨3, n, ⟨a31, c31, b⟩⟩ : CallV)]).length c34, x22, x23, x24, x25, x26, x27, x28, x29].toArray 45 (0, 0)) :: (S34 ++ (S31 ++ Sb))) hzB ?_
  exact x_end rfl (.nil) (⟨rfl, _, _, _, _, _, _, rfl, hS34, hS31⟩)
theorem note1_fn (bs : Nat) (x0 x1 x2 x3 x4 x5 x6 x7 x8 x9 x10 x11 x13 x14 x15 x16 x17 x19 x20 x23 x24 x25 x26 x27 x28 x29 : Value) (sum : Int) (n : ByteArray) (ca : Option Addr) (cc : Nat) (cl : List CallV) (Sc : Hp) (hc : OwnS Ecall 3 204 (.slice ca cl.length cc) cl Sc) (hle : cl.length ≤ 4294967296) (hsum : 0 ≤ sum ∧ sum ≤ 1152921504606846976) (a : Option Addr) (c : Nat) (b : List UInt8) (Sb : Hp) (hb : OwnS Eb 1 5 (.slice a b.length c) b Sb) (ga : Option Addr) (gc : Nat) (gl : List (Sl UInt8)) (Sg : Hp) (hg : OwnS Esl 1 40 (.slice ga gl.length gc) gl Sg) (hgl : gl.length ≤ 4294967296) : HL.Fn Tryd.prog 95 [.pointer (some ⟨bs, 0, none⟩), .int .i64 1, .string n, .slice a b.length c] (fun _ => True) ((bs, .cells [x0, x1, x2, x3, x4, x5, x6, x7, x8, x9, x10, x11, .bool false, x13, x14, x15, x16, x17, .int .i64 sum, x19, x20, .slice ca cl.length cc, .slice ga gl.length gc, x23, x24, x25, x26, x27, x28, x29].toArray 45 (0, 0)) :: (Sc ++ (Sg ++ Sb))) (fun v S' => v = .tuple #[] ∧ ∃ a' c' ca' cc' Sc' Sx ga' gc' Sg', S' = (bs, .cells [x0, x1, x2, x3, x4, x5, x6, x7, x8, x9, x10, x11, .bool false, x13, x14, x15, x16, x17, .int .i64 (sum + 1 + b.length), x19, x20, .slice ca' (cl ++ [(⟨1, n, ⟨a', c', b⟩⟩ : CallV)]).length cc', .slice ga' (gl ++ [(⟨a, c, b⟩ : Sl UInt8)]).length gc', x23, x24, x25, x26, x27, x28, x29].toArray 45 (0, 0)) :: (Sc' ++ (Sx ++ (Sg' ++ Sb))) ∧ OwnS Ecall 3 204 (.slice ca' (cl ++ [(⟨1, n, ⟨a', c', b⟩⟩ : CallV)]).length cc') (cl ++ [(⟨1, n, ⟨a', c', b⟩⟩ : CallV)]) Sc' ∧ OwnS Eb 1 5 (.slice a' b.length c') b Sx ∧ OwnS Esl 1 40 (.slice ga' (gl ++ [(⟨a, c, b⟩ : Sl UInt8)]).length gc') (gl ++ [(⟨a, c, b⟩ : Sl UInt8)]) Sg') := by
  refine fn_of Tryd.func95 rfl rfl rfl fun w0 hw => ?_
  have hbs := hb.sl
  have hbl := hbs.le
  refine c_seq fun _ hK1 => ?_
  refine c_region ?_
  refine o_step rfl (s_move rfl) ?_
  refine o_step rfl (s_move rfl) ?_
  refine o_step rfl (s_nil rfl) ?_
  refine o_step rfl (s_field rfl rfl (by decide)) ?_
  refine o_step rfl (s_ld rfl (.own meA rfl)) ?_
  refine o_step rfl (s_add rfl rfl (by omega)) ?_
  refine o_step rfl (s_move rfl) ?_
  refine o_step rfl (s_len rfl) ?_
  refine o_step rfl (s_add rfl rfl (by omega)) ?_
  refine o_step rfl (s_nil rfl) ?_
  refine o_step rfl (s_field rfl rfl (by decide)) ?_
  refine o_store rfl rfl rfl upA (by first | decide | omega | (simp; done) | (simp; omega)) rfl ?_
  refine o_nil ?_
  refine x_then (hK1 _ _ ?_)
  refine c_seq fun _ hK2 => ?_
  refine c_seq fun _ hK3 => ?_
  refine c_region ?_
  refine o_step rfl (s_move rfl) ?_
  refine o_step rfl (s_nil rfl) ?_
  refine o_step rfl (s_field rfl rfl (by decide)) ?_
  refine o_step rfl (s_ld rfl (.own meA rfl)) ?_
  refine o_nil ?_
  refine x_then (hK3 _ _ ?_)
  refine c_false rfl ?_
  refine c_skip ?_
  refine x_then (hK2 _ _ ?_)
  refine c_seq fun _ hK4 => ?_
  refine c_drawE ([(bs, .cells [x0, x1, x2, x3, x4, x5, x6, x7, x8, x9, x10, x11, .bool false, x13, x14, x15, x16, x17, .int .i64 (sum + 1 + b.length), x19, x20, .slice ca cl.length cc, .slice ga gl.length gc, x23, x24, x25, x26, x27, x28, x29].toArray 45 (0, 0))]) (fun i => Nat.beq i 14) ?_
  refine e_take 0 rfl (by kernel_rfl) (by kernel_rfl) (by kernel_rfl) (by kernel_rfl) (fun _ _ => rfl) rfl hzB (s_move rfl) ?_
  refine e_take 1 rfl (by kernel_rfl) (by kernel_rfl) (by kernel_rfl) (by kernel_rfl) (fun _ _ => rfl) rfl hzB (s_move rfl) ?_
  refine e_take 2 rfl (by kernel_rfl) (by kernel_rfl) (by kernel_rfl) (by kernel_rfl) (fun _ _ => rfl) rfl hzB (s_nil rfl) ?_
  refine e_take 3 rfl (by kernel_rfl) (by kernel_rfl) (by kernel_rfl) (by kernel_rfl) (fun _ _ => rfl) rfl hzB (s_field rfl rfl (by decide)) ?_
  refine e_take 4 rfl (by kernel_rfl) (by kernel_rfl) (by kernel_rfl) (by kernel_rfl) (fun _ _ => rfl) rfl hzB (s_ld rfl (.own meA rfl)) ?_
  refine e_take 5 rfl (by kernel_rfl) (by kernel_rfl) (by kernel_rfl) (by kernel_rfl) (fun _ _ => rfl) rfl hzB (s_move rfl) ?_
  refine e_take 6 rfl (by kernel_rfl) (by kernel_rfl) (by kernel_rfl) (by kernel_rfl) (fun _ _ => rfl) rfl hzB (s_move rfl) ?_
  refine e_take 7 rfl (by kernel_rfl) (by kernel_rfl) (by kernel_rfl) (by kernel_rfl) (fun _ _ => rfl) rfl hzB (s_move rfl) ?_
  refine e_one 8 rfl (by kernel_rfl) ?_
  refine o_call (copy_fn a c b) rfl rfl rfl (by exact .nil) (fun w st => (hb.rdk hiA).out w st) (fun v31 S31 ⟨a31, c31, hv31, hS31⟩ => ?_)
  subst hv31
  refine o_nil ?_
  refine x_oneS hzB ?_
  refine e_one 9 rfl (by kernel_rfl) ?_
  refine o_step rfl (s_build (cs := [_, _, _]) (vs := [_, _, _]) rfl rfl (.cons rfl rfl rfl rfl rfl (.cons rfl rfl rfl rfl rfl (.cons rfl rfl rfl rfl rfl (.nil))))) ?_
  refine o_nil ?_
  refine x_oneS hzB ?_
  refine e_one 10 rfl (by kernel_rfl) ?_
  refine o_bs (E := Ecall) (xs := [(⟨1, n, ⟨a31, c31, b⟩⟩ : CallV)]) (vs := [_]) rfl rfl rfl rfl rfl (by decide) (by decide) fun b33 S33 hS33 => ?_
  refine o_nil ?_
  refine x_oneS hzB ?_
  refine e_one 11 rfl (by kernel_rfl) ?_
  refine o_app hc (hS33.rdk hiA) rfl rfl rfl rfl (by show (cl.length + 1) * 48 ≤ _; omega) (by show cl.length + 1 ≤ _; omega) rfl pkA fun a34 c34 S34 hS34 => ?_
  refine o_nil ?_
  refine x_oneS hzB ?_
  refine e_one 12 rfl (by kernel_rfl) ?_
  refine o_step rfl (s_nil rfl) ?_
  refine o_nil ?_
  refine x_oneS hzB ?_
  refine e_one 13 rfl (by kernel_rfl) ?_
  refine o_step rfl (s_field rfl rfl (by decide)) ?_
  refine o_nil ?_
  refine x_oneS hzB ?_
  refine e_one 14 rfl (by kernel_rfl) ?_
  refine o_store rfl rfl rfl upA (by first | decide | omega | (simp; done) | (simp; omega)) rfl ?_
  refine o_nil ?_
  refine x_oneL rfl ?_
  refine e_done (by kernel_rfl) ?_
  refine x_then (hK4 _ _ ?_)
  refine c_seq fun _ hK5 => ?_
  refine c_region ?_
  refine o_step rfl (s_move rfl) ?_
  refine o_step rfl (s_eql_t rfl rfl (by decide)) ?_
  refine o_step rfl (s_move rfl) ?_
  refine o_no rfl rfl rfl rfl ?_
  refine o_no rfl rfl rfl rfl ?_
  refine o_step rfl (s_pick_t rfl rfl) ?_
  refine o_nil ?_
  refine x_then (hK5 _ _ ?_)
  refine c_true rfl ?_
  refine c_region ?_
  refine o_step rfl (s_move rfl) ?_
  refine o_step rfl (s_move rfl) ?_
  refine o_step rfl (s_nil rfl) ?_
  refine o_step rfl (s_field rfl rfl (by decide)) ?_
  refine o_step rfl (s_ld rfl (.own meA rfl)) ?_
  refine o_step rfl (s_move rfl) ?_
  refine o_bs (E := Esl) (xs := [(⟨a, c, b⟩ : Sl UInt8)]) (vs := [_]) rfl rfl rfl rfl rfl (by decide) (by decide) fun b49 S49 hS49 => ?_
  refine o_app hg (hS49.rdk hiA) rfl rfl rfl rfl (by show (gl.length + 1) * 24 ≤ _; omega) (by show gl.length + 1 ≤ _; omega) rfl pkA fun a50 c50 S50 hS50 => ?_
  refine o_step rfl (s_nil rfl) ?_
  refine o_step rfl (s_field rfl rfl (by decide)) ?_
  refine o_store rfl rfl rfl upA (by first | decide | omega | (simp; done) | (simp; omega)) rfl ?_
  refine o_nil ?_
  refine x_sub (Sub.refl _) (H' := (bs, .cells [x0, x1, x2, x3, x4, x5, x6, x7, x8, x9, x10, x11, .bool false, x13, x14, x15, x16, x17, .int .i64 (sum + 1 + b.length), x19, x20, .slice a34 (cl ++ [(⟨1, n, ⟨a31, c31, b⟩⟩ : CallV)]).length c34, .slice a50 (gl ++ [(⟨a, c, b⟩ : Sl UInt8)]).length c50, x23, x24, x25, x26, x27, x28, x29].toArray 45 (0, 0)) :: (S34 ++ (S31 ++ (S50 ++ Sb)))) hzB ?_
  exact x_end rfl (.nil) (⟨rfl, _, _, _, _, _, _, _, _, _, rfl, hS34, hS31, hS50⟩)
theorem told_fn (bs : Nat) (x0 x1 x2 x3 x4 x8 x9 x10 x11 x12 x13 x14 x15 x16 x18 x19 x20 x21 x22 x23 x24 x25 x26 x27 x28 x29 : Value) (fail err outs : Int) : HL.Fn Tryd.prog 98 [.pointer (some ⟨bs, 0, none⟩)] (fun w => RdP w bs 0 [x0, x1, x2, x3, x4, .int .i64 fail, .int .i64 err, .int .i64 0, x8, x9, x10, x11, x12, x13, x14, x15, x16, .int .i64 outs, x18, x19, x20, x21, x22, x23, x24, x25, x26, x27, x28, x29]) [] (fun v _ => v = .int .i64 (if outs = fail then err else 0)) := by
  refine fn_of Tryd.func98 rfl rfl rfl fun w0 hw => ?_
  refine c_seq fun _ hK1 => ?_
  refine c_region ?_
  refine o_step rfl (s_assign rfl) ?_
  refine o_nil ?_
  refine x_then (hK1 _ _ ?_)
  refine c_seq fun _ hK2 => ?_
  refine c_seq fun _ hK3 => ?_
  refine c_quiet (by kernel_rfl) ?_
  refine .op rfl (s_move rfl) ?_
  refine .op rfl (s_nil rfl) ?_
  refine .op rfl (s_field rfl rfl (by decide)) ?_
  refine .op rfl (s_ld rfl ((RdPK.old0 hw).cel (j := 17) rfl rfl)) ?_
  refine .op rfl (s_move rfl) ?_
  refine .op rfl (s_nil rfl) ?_
  refine .op rfl (s_field rfl rfl (by decide)) ?_
  refine .op rfl (s_ld rfl ((RdPK.old0 hw).cel (j := 5) rfl rfl)) ?_
  refine .op rfl (s_eql rfl rfl) ?_
  refine .nil ?_
  refine x_then (hK3 _ _ ?_)
  refine c_if rfl (fun hq => ?_) (fun hq => ?_)
  ·
   refine c_seq fun _ hK4 => ?_
   refine c_region ?_
   refine o_step rfl (s_move rfl) ?_
   refine o_step rfl (s_nil rfl) ?_
   refine o_step rfl (s_field rfl rfl (by decide)) ?_
   refine o_step rfl (s_ld rfl ((RdPK.old0 hw).cel (j := 6) rfl rfl)) ?_
   refine o_step rfl (s_assign rfl) ?_
   refine o_nil ?_
   refine x_then (hK4 _ _ ?_)
   refine c_ret ?_
   refine x_then_ret (?_)
   exact x_ret rfl (.tmp rfl (.nil)) (by rw [if_pos hq]; rfl)
  ·
   refine c_skip ?_
   refine x_then (hK2 _ _ ?_)
   refine c_seq fun _ hK5 => ?_
   refine c_seq fun _ hK6 => ?_
   refine c_quiet (by kernel_rfl) ?_
   refine .op rfl (s_move rfl) ?_
   refine .op rfl (s_nil rfl) ?_
   refine .op rfl (s_field rfl rfl (by decide)) ?_
   refine .op rfl (s_ld rfl ((RdPK.old0 hw).cel (j := 7) rfl rfl)) ?_
   refine .op rfl (s_gtr_f rfl rfl (by decide)) ?_
   refine .op rfl (s_move rfl) ?_
   refine .no rfl rfl rfl rfl ?_
   refine .no rfl rfl rfl rfl ?_
   refine .no rfl rfl rfl rfl ?_
   refine .no rfl rfl rfl rfl ?_
   refine .no rfl rfl rfl rfl ?_
   refine .no rfl rfl rfl rfl ?_
   refine .no rfl rfl rfl rfl ?_
   refine .no rfl rfl rfl rfl ?_
   refine .no rfl rfl rfl rfl ?_
   refine .op rfl (s_pick_f rfl rfl) ?_
   refine .nil ?_
   refine x_then (hK6 _ _ ?_)
   refine c_false rfl ?_
   refine c_skip ?_
   refine x_then (hK5 _ _ ?_)
   refine c_seq fun _ hK7 => ?_
   refine c_region ?_
   refine o_step rfl (s_assign rfl) ?_
   refine o_nil ?_
   refine x_then (hK7 _ _ ?_)
   refine c_ret ?_
   refine ?_
   exact x_ret rfl (.tmp rfl (.nil)) (by rw [if_neg hq]; rfl)
theorem lends_fn (bs : Nat) (x0 x1 x2 x3 x4 x5 x6 x7 x8 x9 x10 x11 x13 x14 x15 x16 x17 x18 x19 x20 x21 x22 x25 x26 x27 x28 x29 : Value) (la wa : Option Addr) (lc wc : Nat) (ll wl : List (Sl UInt8)) (Sn Sw : Hp) (hl : OwnS Esl 1 40 (.slice la ll.length lc) ll Sn) (hw1 : OwnS Esl 1 40 (.slice wa wl.length wc) wl Sw) (hll : ll.length ≤ 1000) (hwl : wl.length = ll.length) (a : Option Addr) (c : Nat) (b : List UInt8) (hbl : b.length ≤ 2147483647) : HL.Fn Tryd.prog 97 [.pointer (some ⟨bs, 0, none⟩), .slice a b.length c] (fun w => Rd Eb w (.slice a b.length c) b ∧ Apart (keys ((bs, .cells [x0, x1, x2, x3, x4, x5, x6, x7, x8, x9, x10, x11, .bool false, x13, x14, x15, x16, x17, x18, x19, x20, x21, x22, .slice la ll.length lc, .slice wa wl.length wc, x25, x26, x27, x28, x29].toArray 45 (0, 0)) :: (Sn ++ Sw))) (.slice a b.length c)) ((bs, .cells [x0, x1, x2, x3, x4, x5, x6, x7, x8, x9, x10, x11, .bool false, x13, x14, x15, x16, x17, x18, x19, x20, x21, x22, .slice la ll.length lc, .slice wa wl.length wc, x25, x26, x27, x28, x29].toArray 45 (0, 0)) :: (Sn ++ Sw)) (fun v S' => ∃ a' la' lc', ∃ ll' : List (Sl UInt8), ∃ wa' wc', ∃ wl' : List (Sl UInt8), ∃ Sn' Sw' Sx, v = .slice a' b.length (b.length + 64) ∧ S' = (bs, .cells [x0, x1, x2, x3, x4, x5, x6, x7, x8, x9, x10, x11, .bool false, x13, x14, x15, x16, x17, x18, x19, x20, x21, x22, .slice la' ll'.length lc', .slice wa' wl'.length wc', x25, x26, x27, x28, x29].toArray 45 (0, 0)) :: (Sn' ++ (Sw' ++ Sx)) ∧ (OwnS Esl 1 40 (.slice la' ll'.length lc') ll' Sn' ∧ OwnS Esl 1 40 (.slice wa' wl'.length wc') wl' Sw' ∧ ll'.length ≤ 1000 ∧ wl'.length = ll'.length) ∧ OwnS Eb 1 5 (.slice a' (wide b).length (b.length + 64)) (wide b) Sx ∧ ((ll' = ll ∧ wl' = wl) ∨ (ll' = ll ++ [⟨a', b.length + 64, b⟩] ∧ wl' = wl ++ [⟨a, c, b⟩]))) := by
  refine fn_of Tryd.func97 rfl rfl rfl fun w0 hw => ?_
  refine c_seq fun _ hK1 => ?_
  refine c_region ?_
  refine o_step rfl (s_assign rfl) ?_
  refine o_nil ?_
  refine x_then (hK1 _ _ ?_)
  refine c_seq fun _ hK2 => ?_
  refine c_region ?_
  refine o_step rfl (s_move rfl) ?_
  refine o_call (wideBytes_fn a c b hbl) rfl rfl rfl (by exact .nil) (fun w st => (RdK.old (κ := ⟨_, [], w0, _⟩) hw.1 hw.2).out w st) (fun v7 S7 ⟨a7, hv7, hS7⟩ => ?_)
  subst hv7
  refine o_step rfl (s_assign rfl) ?_
  refine o_nil ?_
  refine x_then (hK2 _ _ ?_)
  refine c_seq fun _ hK3 => ?_
  refine c_seq fun _ hK4 => ?_
  refine c_region ?_
  refine o_step rfl (s_move rfl) ?_
  refine o_step rfl (s_nil rfl) ?_
  refine o_step rfl (s_field rfl rfl (by decide)) ?_
  refine o_step rfl (s_ld rfl (.own meA rfl)) ?_
  refine o_step rfl (s_not rfl) ?_
  refine o_step rfl (s_move rfl) ?_
  refine o_yes rfl rfl ?_
  refine o_step rfl (s_move rfl) ?_
  refine o_yes rfl rfl ?_
  refine o_step rfl (s_nil rfl) ?_
  refine o_yes rfl rfl ?_
  refine o_step rfl (s_field rfl rfl (by decide)) ?_
  refine o_yes rfl rfl ?_
  refine o_step rfl (s_ld rfl (.own meA rfl)) ?_
  refine o_yes rfl rfl ?_
  refine o_step rfl (s_len rfl) ?_
  refine o_yes rfl rfl ?_
  refine o_step rfl (s_lss rfl rfl) ?_
  refine o_step rfl (s_pick_t rfl rfl) ?_
  refine o_nil ?_
  refine x_then (hK4 _ _ ?_)
  refine c_if rfl (fun h20 => ?_) (fun h20 => ?_)
  ·
   refine c_seq fun _ hK5 => ?_
   refine c_region ?_
   refine o_step rfl (s_move rfl) ?_
   refine o_step rfl (s_move rfl) ?_
   refine o_step rfl (s_nil rfl) ?_
   refine o_step rfl (s_field rfl rfl (by decide)) ?_
   refine o_step rfl (s_ld rfl (.own meA rfl)) ?_
   refine o_step rfl (s_move rfl) ?_
   refine o_bs (E := Esl) (xs := [(⟨a7, b.length + 64, b⟩ : Sl UInt8)]) (vs := [_]) rfl rfl rfl rfl rfl (by decide) (by decide) fun b27 S27 hS27 => ?_
   refine o_app hl (hS27.rdk hiA) rfl rfl rfl rfl (by show (ll.length + 1) * 24 ≤ _; omega) (by show ll.length + 1 ≤ _; omega) rfl pkA fun a28 c28 S28 hS28 => ?_
   refine o_step rfl (s_nil rfl) ?_
   refine o_step rfl (s_field rfl rfl (by decide)) ?_
   refine o_store rfl rfl rfl upA (by first | decide | omega | (simp; done) | (simp; omega)) rfl ?_
   refine o_nil ?_
   refine x_then (hK5 _ _ ?_)
   refine c_region ?_
   refine o_step rfl (s_move rfl) ?_
   refine o_step rfl (s_move rfl) ?_
   refine o_step rfl (s_nil rfl) ?_
   refine o_step rfl (s_field rfl rfl (by decide)) ?_
   refine o_step rfl (s_ld rfl (.own meA rfl)) ?_
   refine o_step rfl (s_move rfl) ?_
   refine o_bs (E := Esl) (xs := [(⟨a, c, b⟩ : Sl UInt8)]) (vs := [_]) rfl rfl rfl rfl rfl (by decide) (by decide) fun b37 S37 hS37 => ?_
   refine o_app hw1 (hS37.rdk hiA) rfl rfl rfl rfl (by show (wl.length + 1) * 24 ≤ _; omega) (by show wl.length + 1 ≤ _; omega) rfl pkA fun a38 c38 S38 hS38 => ?_
   refine o_step rfl (s_nil rfl) ?_
   refine o_step rfl (s_field rfl rfl (by decide)) ?_
   refine o_store rfl rfl rfl upA (by first | decide | omega | (simp; done) | (simp; omega)) rfl ?_
   refine o_nil ?_
   refine x_then (hK3 _ _ ?_)
   refine c_seq fun _ hK6 => ?_
   refine c_region ?_
   refine o_step rfl (s_move rfl) ?_
   refine o_step rfl (s_assign rfl) ?_
   refine o_nil ?_
   refine x_then (hK6 _ _ ?_)
   refine c_ret ?_
   refine ?_
   refine x_sub (Sub.refl _) (H' := (bs, .cells [x0, x1, x2, x3, x4, x5, x6, x7, x8, x9, x10, x11, .bool false, x13, x14, x15, x16, x17, x18, x19, x20, x21, x22, .slice a28 (ll ++ [(⟨a7, b.length + 64, b⟩ : Sl UInt8)]).length c28, .slice a38 (wl ++ [(⟨a, c, b⟩ : Sl UInt8)]).length c38, x25, x26, x27, x28, x29].toArray 45 (0, 0)) :: (S28 ++ (S38 ++ S7))) hzB ?_
   exact x_ret rfl (.tmp rfl (.nil)) (⟨_, _, _, _, _, _, _, _, _, _, rfl, rfl, ⟨hS28, hS38, by simp; omega, by simp; omega⟩, hS7, .inr ⟨rfl, rfl⟩⟩)
  ·
   refine c_skip ?_
   refine x_then (hK3 _ _ ?_)
   refine c_seq fun _ hK7 => ?_
   refine c_region ?_
   refine o_step rfl (s_move rfl) ?_
   refine o_step rfl (s_assign rfl) ?_
   refine o_nil ?_
   refine x_then (hK7 _ _ ?_)
   refine c_ret ?_
   refine ?_
   refine x_sub (Sub.refl _) (H' := (bs, .cells [x0, x1, x2, x3, x4, x5, x6, x7, x8, x9, x10, x11, .bool false, x13, x14, x15, x16, x17, x18, x19, x20, x21, x22, .slice la ll.length lc, .slice wa wl.length wc, x25, x26, x27, x28, x29].toArray 45 (0, 0)) :: (Sn ++ (Sw ++ S7))) hzB ?_
   exact x_ret rfl (.tmp rfl (.nil)) (⟨_, _, _, _, _, _, _, _, _, _, rfl, rfl, ⟨hl, hw1, hll, hwl⟩, hS7, .inl ⟨rfl, rfl⟩⟩)
theorem wread_fn (bs : Nat) (x0 x1 x2 x5 x6 x7 x8 x9 x10 x11 x13 x14 x15 x16 x17 x19 x20 x22 x25 x26 x27 x28 x29 : Value) (fa : Option Addr) (fc : Nat) (fs : List FileV) (Sf : Hp) (hf : OwnS Efile 3 115 (.slice fa fs.length fc) fs Sf) (hfb : ∀ f ∈ fs, f.b.xs.length ≤ 1048576) (ca : Option Addr) (cc : Nat) (cl : List CallV) (Sc : Hp) (hc : OwnS Ecall 3 204 (.slice ca cl.length cc) cl Sc) (hle : cl.length ≤ 4294967296) (sum : Int) (hsum : 0 ≤ sum ∧ sum ≤ 1152921504606846976) (la wa : Option Addr) (lc wc : Nat) (ll wl : List (Sl UInt8)) (Sn Sw : Hp) (hl : OwnS Esl 1 40 (.slice la ll.length lc) ll Sn) (hw1 : OwnS Esl 1 40 (.slice wa wl.length wc) wl Sw) (hll : ll.length ≤ 1000) (hwl : wl.length = ll.length) (n : ByteArray) : HL.Fn Tryd.prog 83 [.pointer (some ⟨bs, 0, none⟩), .string n] (OldL (fs.map FileV.b) ((bs, .cells [x0, x1, x2, .pointer none, .slice fa fs.length fc, x5, x6, x7, x8, x9, x10, x11, .bool false, x13, x14, x15, x16, x17, .int .i64 sum, x19, x20, .slice ca cl.length cc, x22, .slice la ll.length lc, .slice wa wl.length wc, x25, x26, x27, x28, x29].toArray 45 (0, 0)) :: (Sf ++ (Sc ++ (Sn ++ Sw))))) ((bs, .cells [x0, x1, x2, .pointer none, .slice fa fs.length fc, x5, x6, x7, x8, x9, x10, x11, .bool false, x13, x14, x15, x16, x17, .int .i64 sum, x19, x20, .slice ca cl.length cc, x22, .slice la ll.length lc, .slice wa wl.length wc, x25, x26, x27, x28, x29].toArray 45 (0, 0)) :: (Sf ++ (Sc ++ (Sn ++ Sw)))) (fun v S' => ∃ a' c' a2 c2 ca' cc' Sc' la' lc', ∃ ll' : List (Sl UInt8), ∃ wa' wc', ∃ wl' : List (Sl UInt8), ∃ Sn' Sw' Sx Sy, v = .slice a' (look fs n).length c' ∧ S' = (bs, .cells [x0, x1, x2, .pointer none, .slice fa fs.length fc, x5, x6, x7, x8, x9, x10, x11, .bool false, x13, x14, x15, x16, x17, .int .i64 (sum + 1 + ([] : List UInt8).length), x19, x20, .slice ca' (cl ++ [(⟨3, n, ⟨a2, c2, []⟩⟩ : CallV)]).length cc', x22, .slice la' ll'.length lc', .slice wa' wl'.length wc', x25, x26, x27, x28, x29].toArray 45 (0, 0)) :: (Sf ++ (Sc' ++ (Sn' ++ (Sw' ++ (Sx ++ Sy))))) ∧ (OwnS Esl 1 40 (.slice la' ll'.length lc') ll' Sn' ∧ OwnS Esl 1 40 (.slice wa' wl'.length wc') wl' Sw' ∧ ll'.length ≤ 1000 ∧ wl'.length = ll'.length) ∧ OwnS Ecall 3 204 (.slice ca' (cl ++ [(⟨3, n, ⟨a2, c2, []⟩⟩ : CallV)]).length cc') (cl ++ [(⟨3, n, ⟨a2, c2, []⟩⟩ : CallV)]) Sc' ∧ RdS Eb (.slice a2 ([] : List UInt8).length c2) [] Sx ∧ RdS Eb (.slice a' (look fs n).length c') (look fs n) Sy ∧ LStep fs (look fs n) ll wl ll' wl' a' Sy) := by
  refine fn_of Tryd.func83 rfl rfl rfl fun w0 hw => ?_
  have hsf := hf.sl
  have hbf := hsf.le
  refine c_seq fun _ hK1 => ?_
  refine c_region ?_
  refine o_step rfl (s_assign rfl) ?_
  refine o_nil ?_
  refine x_then (hK1 _ _ ?_)
  refine c_seq fun _ hK2 => ?_
  refine c_region ?_
  refine o_step rfl (s_move rfl) ?_
  refine o_step rfl (s_move rfl) ?_
  refine o_call (note3_fn bs (x0) (x1) (x2) (.pointer none) (.slice fa fs.length fc) (x5) (x6) (x7) (x8) (x9) (x10) (x11) (x13) (x14) (x15) (x16) (x17) (x19) (x20) (x22) (.slice la ll.length lc) (.slice wa wl.length wc) (x25) (x26) (x27) (x28) (x29) sum n ca cc cl Sc hc hle hsum none 0 [] [] .nil) rfl rfl rfl (by exact Pick.takeC pkA (Pick.takeA pkA .nil)) (fun _ _ => trivial) (fun v10 S10 ⟨hv10, a10, c10, a10c, c10c, Sc10, Sx10, hS10, hc10, hx10⟩ => ?_)
  subst hv10
  subst hS10
  refine o_nil ?_
  refine x_then (hK2 _ _ ?_)
  refine c_seq fun _ hK3 => ?_
  refine c_seq fun _ hK4 => ?_
  refine c_region ?_
  refine o_step rfl (s_move rfl) ?_
  refine o_step rfl (s_nil rfl) ?_
  refine o_step rfl (s_field rfl rfl (by decide)) ?_
  refine o_step rfl (s_ld rfl (.own meA rfl)) ?_
  refine o_step rfl (step_cast (v' := .bool false) (s_neq_nilp rfl rfl) rfl) ?_
  refine o_nil ?_
  refine x_then (hK4 _ _ ?_)
  refine c_false rfl ?_
  refine c_skip ?_
  refine x_then (hK3 _ _ ?_)
  refine c_seq fun _ hK5 => ?_
  refine c_seq fun _ hK6 => ?_
  refine c_region ?_
  refine o_step rfl (s_move rfl) ?_
  refine o_step rfl (s_nil rfl) ?_
  refine o_step rfl (s_field rfl rfl (by decide)) ?_
  refine o_step rfl (s_ld rfl (.own meA rfl)) ?_
  refine o_step rfl (s_len rfl) ?_
  refine o_step rfl (s_sub rfl rfl (by omega)) ?_
  refine o_step rfl (s_assign rfl) ?_
  refine o_nil ?_
  refine x_then (hK6 _ _ ?_)
  refine c_block ?_
  -- not carried: 4
  refine c_loopB (fun (m : Nat) => m ≤ fs.length ∧ look fs n = look (fs.take m) n) (fun (m : Nat) => [(7, .int .i64 ((m : Int) - 1))]) [(0, _), (1, _)] (fun (m : Nat) => (bs, .cells [x0, x1, x2, .pointer none, .slice fa fs.length fc, x5, x6, x7, x8, x9, x10, x11, .bool false, x13, x14, x15, x16, x17, .int .i64 (sum + 1 + ([] : List UInt8).length), x19, x20, .slice a10c (cl ++ [(⟨3, n, ⟨a10, c10, []⟩⟩ : CallV)]).length c10c, x22, .slice la ll.length lc, .slice wa wl.length wc, x25, x26, x27, x28, x29].toArray 45 (0, 0)) :: (Sf ++ (Sc10 ++ (Sx10 ++ (Sn ++ Sw))))) (fun (m : Nat) => m) fs.length ⟨by omega, by rw [List.take_length]⟩ sbA sbA hzB ?_
  rintro m ⟨hm, hlk⟩
  refine c_seq fun _ hK7 => ?_
  refine c_seq fun _ hK8 => ?_
  refine c_region ?_
  refine o_step rfl (s_move rfl) ?_
  refine o_step rfl (s_geq rfl rfl) ?_
  refine o_nil ?_
  refine x_then (hK8 _ _ ?_)
  refine c_if rfl (fun hlt => ?_) (fun hlt => ?_)
  ·
   obtain ⟨j, rfl⟩ : ∃ j, m = j + 1 := ⟨m - 1, by omega⟩
   have hj : j < fs.length := by omega
   refine c_skip ?_
   refine x_then (hK7 _ _ ?_)
   refine c_seq fun _ hK9 => ?_
   refine c_block ?_
   refine c_seq fun _ hK10 => ?_
   refine c_region ?_
   refine o_step rfl (s_move rfl) ?_
   refine o_step rfl (s_nil rfl) ?_
   refine o_step rfl (s_field rfl rfl (by decide)) ?_
   refine o_step rfl (s_ld rfl (.own meA rfl)) ?_
   refine o_step rfl (s_move rfl) ?_
   refine o_step rfl (s_idx rfl rfl (by assumption) (by omega)) ?_
   refine o_step rfl (s_field rfl rfl (by decide)) ?_
   refine o_step rfl (s_ld rfl ((hf.rdk hiA).ld j 0 (gd_get (d := fz) (by omega)) rfl (by decide) (by omega))) ?_
   refine o_step rfl (s_move rfl) ?_
   refine o_step rfl (s_eql_str rfl rfl) ?_
   refine o_nil ?_
   refine x_then (hK10 _ _ ?_)
   refine c_if rfl (fun hne => ?_) (fun hne => ?_)
   ·
    have e : look fs n = (fs.getD j fz).b.xs := by rw [hlk, look_take hj, if_pos hne]
    refine c_seq fun _ hK11 => ?_
    refine c_region ?_
    refine o_step rfl (s_move rfl) ?_
    refine o_step rfl (s_move rfl) ?_
    refine o_step rfl (s_nil rfl) ?_
    refine o_step rfl (s_field rfl rfl (by decide)) ?_
    refine o_step rfl (s_ld rfl (.own meA rfl)) ?_
    refine o_step rfl (s_move rfl) ?_
    refine o_step rfl (s_idx rfl rfl (by assumption) (by omega)) ?_
    refine o_step rfl (s_field rfl rfl (by decide)) ?_
    refine o_step rfl (s_ld rfl ((hf.rdk hiA).ld j 1 (gd_get (d := fz) (by omega)) rfl (by decide) (by omega))) ?_
    refine o_call (lends_fn bs (x0) (x1) (x2) (.pointer none) (.slice fa fs.length fc) (x5) (x6) (x7) (x8) (x9) (x10) (x11) (x13) (x14) (x15) (x16) (x17) (.int .i64 (sum + 1 + ([] : List UInt8).length)) (x19) (x20) (.slice a10c (cl ++ [(⟨3, n, ⟨a10, c10, []⟩⟩ : CallV)]).length c10c) (x22) (x25) (x26) (x27) (x28) (x29) la wa lc wc ll wl Sn Sw hl hw1 hll hwl (fs.getD j fz).b.a (fs.getD j fz).b.c (fs.getD j fz).b.xs (by have := hfb _ (gd_mem (d := fz) hj); omega)) rfl rfl rfl ((Pick.takeC pkA (Pick.takeA pkA pkA))) (fun w st => OldL.st hw st (hin_sub hzB) _ (List.mem_map_of_mem (gd_mem (d := fz) hj))) (fun v57 S57 ⟨a57, la57, lc57, ll57, wa57, wc57, wl57, Sn57, Sw57, Sx57, hv57, hS57, hlp57, hO57, hst57⟩ => ?_)
    subst hv57
    subst hS57
    refine o_step rfl (s_assign rfl) ?_
    refine o_nil ?_
    refine x_then (hK11 _ _ ?_)
    refine c_ret ?_
    refine x_block_ret (x_then_ret (x_then_ret (x_block_ret (x_then_ret (?_)))))
    refine x_sub (Sub.refl _) (H' := (bs, .cells [x0, x1, x2, .pointer none, .slice fa fs.length fc, x5, x6, x7, x8, x9, x10, x11, .bool false, x13, x14, x15, x16, x17, .int .i64 (sum + 1 + ([] : List UInt8).length), x19, x20, .slice a10c (cl ++ [(⟨3, n, ⟨a10, c10, []⟩⟩ : CallV)]).length c10c, x22, .slice la57 ll57.length lc57, .slice wa57 wl57.length wc57, x25, x26, x27, x28, x29].toArray 45 (0, 0)) :: (Sf ++ (Sc10 ++ (Sn57 ++ (Sw57 ++ (Sx10 ++ Sx57)))))) hzB ?_
    exact x_ret rfl (.tmp rfl (.nil)) (by simp only [e]; exact ⟨_, _, _, _, _, _, _, _, _, _, _, _, _, _, _, _, _, rfl, rfl, hlp57, hc10, hx10.rds, wide_pre hO57, hst57.imp id fun h => ⟨_, ⟨_, gd_mem (d := fz) hj, rfl⟩, rfl, h.1, h.2, hO57⟩⟩)
   ·
    refine c_skip ?_
    refine x_block ?_
    refine x_then (hK9 _ _ ?_)
    refine c_region ?_
    refine o_step rfl (s_move rfl) ?_
    refine o_step rfl (step_cast (v' := .int .i64 ((j : Int) - 1)) (s_sub rfl rfl (by omega)) (congrArg (Value.int .i64) (by omega))) ?_
    refine o_step rfl (s_assign rfl) ?_
    refine o_nil ?_
    exact x_then (x_inv j ⟨by omega, by rw [hlk, look_take hj, if_neg hne]⟩ (by omega) sbA hzB)
  ·
   have hm0 : m = 0 := by omega
   subst hm0
   have e0 : look fs n = [] := hlk
   refine c_exit ?_
   refine x_then_exit ?_
   refine x_then_exit ?_
   refine x_block_exit ?_
   refine x_then (hK5 _ _ ?_)
   refine c_seq fun _ hK12 => ?_
   refine c_region ?_
   refine o_step rfl (s_assign rfl) ?_
   refine o_nil ?_
   refine x_then (hK12 _ _ ?_)
   refine c_ret ?_
   refine ?_
   refine x_sub (Sub.refl _) (H' := (bs, .cells [x0, x1, x2, .pointer none, .slice fa fs.length fc, x5, x6, x7, x8, x9, x10, x11, .bool false, x13, x14, x15, x16, x17, .int .i64 (sum + 1 + ([] : List UInt8).length), x19, x20, .slice a10c (cl ++ [(⟨3, n, ⟨a10, c10, []⟩⟩ : CallV)]).length c10c, x22, .slice la ll.length lc, .slice wa wl.length wc, x25, x26, x27, x28, x29].toArray 45 (0, 0)) :: (Sf ++ (Sc10 ++ (Sn ++ (Sw ++ Sx10))))) hzB ?_
   exact x_ret rfl (.tmp rfl (.nil)) (by simp only [e0]; exact ⟨none, 0, _, _, _, _, _, _, _, _, _, _, _, _, _, _, [], rfl, by rw [List.append_nil], ⟨hl, hw1, hll, hwl⟩, hc10, hx10.rds, RdS.nil, .inl ⟨rfl, rfl⟩⟩)
theorem sread_fn (bs : Nat) (x0 x1 x2 x5 x6 x7 x8 x9 x10 x11 x13 x14 x15 x16 x17 x19 x20 x22 x25 x26 x27 x28 x29 : Value) (fa : Option Addr) (fc : Nat) (fs : List FileV) (Sf : Hp) (hf : OwnS Efile 3 115 (.slice fa fs.length fc) fs Sf) (hfb : ∀ f ∈ fs, f.b.xs.length ≤ 1048576) (ca : Option Addr) (cc : Nat) (cl : List CallV) (Sc : Hp) (hc : OwnS Ecall 3 204 (.slice ca cl.length cc) cl Sc) (hle : cl.length ≤ 4294967296) (sum : Int) (hsum : 0 ≤ sum ∧ sum ≤ 1152921504606846976) (la wa : Option Addr) (lc wc : Nat) (ll wl : List (Sl UInt8)) (Sn Sw : Hp) (hl : OwnS Esl 1 40 (.slice la ll.length lc) ll Sn) (hw1 : OwnS Esl 1 40 (.slice wa wl.length wc) wl Sw) (hll : ll.length ≤ 1000) (hwl : wl.length = ll.length) (n : ByteArray) : HL.Fn Tryd.prog 49 [.pointer (some ⟨bs, 0, none⟩), .string n] (OldL (fs.map FileV.b) ((bs, .cells [x0, x1, x2, .pointer none, .slice fa fs.length fc, x5, x6, x7, x8, x9, x10, x11, .bool false, x13, x14, x15, x16, x17, .int .i64 sum, x19, x20, .slice ca cl.length cc, x22, .slice la ll.length lc, .slice wa wl.length wc, x25, x26, x27, x28, x29].toArray 45 (0, 0)) :: (Sf ++ (Sc ++ (Sn ++ Sw))))) ((bs, .cells [x0, x1, x2, .pointer none, .slice fa fs.length fc, x5, x6, x7, x8, x9, x10, x11, .bool false, x13, x14, x15, x16, x17, .int .i64 sum, x19, x20, .slice ca cl.length cc, x22, .slice la ll.length lc, .slice wa wl.length wc, x25, x26, x27, x28, x29].toArray 45 (0, 0)) :: (Sf ++ (Sc ++ (Sn ++ Sw)))) (fun v S' => ∃ a' c' a2 c2 ca' cc' Sc' la' lc', ∃ ll' : List (Sl UInt8), ∃ wa' wc', ∃ wl' : List (Sl UInt8), ∃ Sn' Sw' Sx Sy, v = .slice a' (look fs n).length c' ∧ S' = (bs, .cells [x0, x1, x2, .pointer none, .slice fa fs.length fc, x5, x6, x7, x8, x9, x10, x11, .bool false, x13, x14, x15, x16, x17, .int .i64 (sum + 1 + ([] : List UInt8).length), x19, x20, .slice ca' (cl ++ [(⟨3, n, ⟨a2, c2, []⟩⟩ : CallV)]).length cc', x22, .slice la' ll'.length lc', .slice wa' wl'.length wc', x25, x26, x27, x28, x29].toArray 45 (0, 0)) :: (Sf ++ (Sc' ++ (Sn' ++ (Sw' ++ (Sx ++ Sy))))) ∧ (OwnS Esl 1 40 (.slice la' ll'.length lc') ll' Sn' ∧ OwnS Esl 1 40 (.slice wa' wl'.length wc') wl' Sw' ∧ ll'.length ≤ 1000 ∧ wl'.length = ll'.length) ∧ OwnS Ecall 3 204 (.slice ca' (cl ++ [(⟨3, n, ⟨a2, c2, []⟩⟩ : CallV)]).length cc') (cl ++ [(⟨3, n, ⟨a2, c2, []⟩⟩ : CallV)]) Sc' ∧ RdS Eb (.slice a2 ([] : List UInt8).length c2) [] Sx ∧ RdS Eb (.slice a' (look fs n).length c') (look fs n) Sy ∧ LStep fs (look fs n) ll wl ll' wl' a' Sy) := by
  refine fn_of Tryd.func49 rfl rfl rfl fun w0 hw => ?_
  refine c_seq fun _ hK1 => ?_
  refine c_region ?_
  refine o_step rfl (s_assign rfl) ?_
  refine o_nil ?_
  refine x_then (hK1 _ _ ?_)
  refine c_seq fun _ hK2 => ?_
  refine c_region ?_
  refine o_step rfl (s_move rfl) ?_
  refine o_step rfl (s_nil rfl) ?_
  refine o_step rfl (s_field rfl rfl (by decide)) ?_
  refine o_step rfl (s_move rfl) ?_
  refine o_call (wread_fn bs (x0) (x1) (x2) (x5) (x6) (x7) (x8) (x9) (x10) (x11) (x13) (x14) (x15) (x16) (x17) (x19) (x20) (x22) (x25) (x26) (x27) (x28) (x29) fa fc fs Sf hf hfb ca cc cl Sc hc hle sum hsum la wa lc wc ll wl Sn Sw hl hw1 hll hwl n) rfl rfl rfl (by exact .all) (fun w st => OldL.st hw st (hin_sub hzB)) (fun v9 S9 h9 => ?_)
  refine o_step rfl (s_assign rfl) ?_
  refine o_nil ?_
  refine x_then (hK2 _ _ ?_)
  refine c_ret ?_
  refine ?_
  refine x_sub (Sub.refl _) (H' := S9) hzB ?_
  exact x_ret rfl (.tmp rfl (.nil)) (h9)
theorem wout_fn (bs : Nat) (x0 x1 x3 x4 x8 x10 x11 x14 x15 x16 x20 x23 x24 x25 x26 x27 x28 x29 : Value) (aa : Option Addr) (ac : Nat) (al : List UInt8) (Sa : Hp) (ha : OwnS Eb 1 5 (.slice aa al.length ac) al Sa) (ga : Option Addr) (gc : Nat) (gl : List (Sl UInt8)) (Sg : Hp) (hg : OwnS Esl 1 40 (.slice ga gl.length gc) gl Sg) (hgl : gl.length ≤ 4294967296) (fail err outs : Int) (hout : 0 ≤ outs ∧ outs ≤ 1152921504606846976) (ca : Option Addr) (cc : Nat) (cl : List CallV) (Sc : Hp) (hc : OwnS Ecall 3 204 (.slice ca cl.length cc) cl Sc) (hle : cl.length ≤ 4294967296) (sum : Int) (hsum : 0 ≤ sum ∧ sum ≤ 1152921504606846976) (a : Option Addr) (c : Nat) (b : List UInt8) (Sb : Hp) (hb : OwnS Eb 1 5 (.slice a b.length c) b Sb) (hal : al.length + b.length ≤ 140737488355328) : HL.Fn Tryd.prog 84 [.pointer (some ⟨bs, 0, none⟩), .slice a b.length c] (fun _ => True) ((bs, .cells [x0, x1, .pointer none, x3, x4, .int .i64 fail, .int .i64 err, .int .i64 0, x8, .pointer none, x10, x11, .bool false, .bool false, x14, x15, x16, .int .i64 outs, .int .i64 sum, .slice aa al.length ac, x20, .slice ca cl.length cc, .slice ga gl.length gc, x23, x24, x25, x26, x27, x28, x29].toArray 45 (0, 0)) :: (Sa ++ (Sc ++ (Sg ++ Sb)))) (fun v S' => v = .int .i64 (if outs + 1 = fail then err else 0) ∧ ∃ a1 c1 aa' ac' ca' cc' ga' gc' Sa' Sc' Sg' Sx, S' = (bs, .cells [x0, x1, .pointer none, x3, x4, .int .i64 fail, .int .i64 err, .int .i64 0, x8, .pointer none, x10, x11, .bool false, .bool false, x14, x15, x16, .int .i64 (outs + 1), .int .i64 (sum + 1 + b.length), .slice aa' (al ++ b).length ac', x20, .slice ca' (cl ++ [(⟨1, ⟨#[]⟩, ⟨a1, c1, b⟩⟩ : CallV)]).length cc', .slice ga' (gl ++ [(⟨a, c, b⟩ : Sl UInt8)]).length gc', x23, x24, x25, x26, x27, x28, x29].toArray 45 (0, 0)) :: (Sa' ++ (Sc' ++ (Sg' ++ (Sx ++ Sb)))) ∧ OwnS Eb 1 5 (.slice aa' (al ++ b).length ac') (al ++ b) Sa' ∧ OwnS Ecall 3 204 (.slice ca' (cl ++ [(⟨1, ⟨#[]⟩, ⟨a1, c1, b⟩⟩ : CallV)]).length cc') (cl ++ [(⟨1, ⟨#[]⟩, ⟨a1, c1, b⟩⟩ : CallV)]) Sc' ∧ OwnS Esl 1 40 (.slice ga' (gl ++ [(⟨a, c, b⟩ : Sl UInt8)]).length gc') (gl ++ [(⟨a, c, b⟩ : Sl UInt8)]) Sg' ∧ OwnS Eb 1 5 (.slice a1 b.length c1) b Sx) := by
  refine fn_of Tryd.func84 rfl rfl rfl fun w0 hw => ?_
  refine c_seq fun _ hK1 => ?_
  refine c_region ?_
  refine o_step rfl (s_assign rfl) ?_
  refine o_nil ?_
  refine x_then (hK1 _ _ ?_)
  refine c_seq fun _ hK2 => ?_
  refine c_region ?_
  refine o_step rfl (s_move rfl) ?_
  refine o_step rfl (s_move rfl) ?_
  refine o_call (note1_fn bs (x0) (x1) (.pointer none) (x3) (x4) (.int .i64 fail) (.int .i64 err) (.int .i64 0) (x8) (.pointer none) (x10) (x11) (.bool false) (x14) (x15) (x16) (.int .i64 outs) (.slice aa al.length ac) (x20) (x23) (x24) (x25) (x26) (x27) (x28) (x29) sum ⟨#[]⟩ ca cc cl Sc hc hle hsum a c b Sb hb ga gc gl Sg hg hgl) rfl rfl rfl ((Pick.takeC pkA (Pick.takeA pkA pkA))) (fun _ _ => trivial) (fun v7 S7 ⟨hv7, a7, c7, a7c, c7c, Sc7, Sx7, ga7, gc7, Sg7, hS7, hc7, hx7, hg7⟩ => ?_)
  subst hv7
  subst hS7
  refine o_nil ?_
  refine x_then (hK2 _ _ ?_)
  refine c_seq fun _ hK3 => ?_
  refine c_region ?_
  refine o_step rfl (s_move rfl) ?_
  refine o_step rfl (s_nil rfl) ?_
  refine o_step rfl (s_field rfl rfl (by decide)) ?_
  refine o_step rfl (s_ld rfl (.own meA rfl)) ?_
  refine o_step rfl (s_add rfl rfl (by omega)) ?_
  refine o_step rfl (s_nil rfl) ?_
  refine o_step rfl (s_field rfl rfl (by decide)) ?_
  refine o_store rfl rfl rfl upA (by first | decide | omega | (simp; done) | (simp; omega)) rfl ?_
  refine o_nil ?_
  refine x_then (hK3 _ _ ?_)
  refine c_seq fun _ hK4 => ?_
  refine c_seq fun _ hK5 => ?_
  refine c_region ?_
  refine o_step rfl (s_move rfl) ?_
  refine o_step rfl (s_nil rfl) ?_
  refine o_step rfl (s_field rfl rfl (by decide)) ?_
  refine o_step rfl (s_ld rfl (.own meA rfl)) ?_
  refine o_step rfl (step_cast (v' := .bool false) (s_neq_nilp rfl rfl) rfl) ?_
  refine o_nil ?_
  refine x_then (hK5 _ _ ?_)
  refine c_false rfl ?_
  refine c_skip ?_
  refine x_then (hK4 _ _ ?_)
  refine c_seq fun _ hK6 => ?_
  refine c_seq fun _ hK7 => ?_
  refine c_region ?_
  refine o_step rfl (s_move rfl) ?_
  refine o_step rfl (s_nil rfl) ?_
  refine o_step rfl (s_field rfl rfl (by decide)) ?_
  refine o_step rfl (s_ld rfl (.own meA rfl)) ?_
  refine o_step rfl (s_not rfl) ?_
  refine o_nil ?_
  refine x_then (hK7 _ _ ?_)
  refine c_true rfl ?_
  refine c_region ?_
  refine o_step rfl (s_move rfl) ?_
  refine o_step rfl (s_move rfl) ?_
  refine o_step rfl (s_nil rfl) ?_
  refine o_step rfl (s_field rfl rfl (by decide)) ?_
  refine o_step rfl (s_ld rfl (.own meA rfl)) ?_
  refine o_step rfl (s_move rfl) ?_
  refine o_app ha (hb.rdk hiA) rfl rfl rfl rfl (by omega) (by omega) rfl pkA fun a38 c38 S38 hS38 => ?_
  refine o_step rfl (s_nil rfl) ?_
  refine o_step rfl (s_field rfl rfl (by decide)) ?_
  refine o_store rfl rfl rfl upA (by first | decide | omega | (simp; done) | (simp; omega)) rfl ?_
  refine o_nil ?_
  refine x_then (hK6 _ _ ?_)
  refine c_seq fun _ hK8 => ?_
  refine c_seq fun _ hK9 => ?_
  refine c_quiet (by kernel_rfl) ?_
  refine .op rfl (s_move rfl) ?_
  refine .op rfl (s_nil rfl) ?_
  refine .op rfl (s_field rfl rfl (by decide)) ?_
  refine .op rfl (s_ld rfl (.own meA rfl)) ?_
  refine .op rfl (step_cast (v' := .bool false) (s_neq_nilp rfl rfl) rfl) ?_
  refine .op rfl (s_move rfl) ?_
  refine .no rfl rfl rfl rfl ?_
  refine .no rfl rfl rfl rfl ?_
  refine .no rfl rfl rfl rfl ?_
  refine .no rfl rfl rfl rfl ?_
  refine .no rfl rfl rfl rfl ?_
  refine .no rfl rfl rfl rfl ?_
  refine .no rfl rfl rfl rfl ?_
  refine .no rfl rfl rfl rfl ?_
  refine .no rfl rfl rfl rfl ?_
  refine .op rfl (s_pick_f rfl rfl) ?_
  refine .nil ?_
  refine x_then (hK9 _ _ ?_)
  refine c_false rfl ?_
  refine c_skip ?_
  refine x_then (hK8 _ _ ?_)
  refine c_seq fun _ hK10 => ?_
  refine c_region ?_
  refine o_step rfl (s_move rfl) ?_
  refine o_callP (told_fn bs (x0) (x1) (.pointer none) (x3) (x4) (x8) (.pointer none) (x10) (x11) (.bool false) (.bool false) (x14) (x15) (x16) (.int .i64 (sum + 1 + b.length)) (.slice a38 (al ++ b).length c38) (x20) (.slice a7c (cl ++ [(⟨1, ⟨#[]⟩, ⟨a7, c7, b⟩⟩ : CallV)]).length c7c) (.slice ga7 (gl ++ [(⟨a, c, b⟩ : Sl UInt8)]).length gc7) (x23) (x24) (x25) (x26) (x27) (x28) (x29) fail err (outs + 1)) rfl rfl rfl (fun w st => (RdPK.own meA).out w st) (fun v76 hv76 => ?_)
  subst hv76
  refine o_step rfl (s_assign rfl) ?_
  refine o_nil ?_
  refine x_then (hK10 _ _ ?_)
  refine c_ret ?_
  refine ?_
  refine x_sub (Sub.refl _) (H' := (bs, .cells [x0, x1, .pointer none, x3, x4, .int .i64 fail, .int .i64 err, .int .i64 0, x8, .pointer none, x10, x11, .bool false, .bool false, x14, x15, x16, .int .i64 (outs + 1), .int .i64 (sum + 1 + b.length), .slice a38 (al ++ b).length c38, x20, .slice a7c (cl ++ [(⟨1, ⟨#[]⟩, ⟨a7, c7, b⟩⟩ : CallV)]).length c7c, .slice ga7 (gl ++ [(⟨a, c, b⟩ : Sl UInt8)]).length gc7, x23, x24, x25, x26, x27, x28, x29].toArray 45 (0, 0)) :: (S38 ++ (Sc7 ++ (Sg7 ++ (Sx7 ++ Sb))))) hzB ?_
  exact x_ret rfl (.tmp rfl (.nil)) (⟨rfl, _, _, _, _, _, _, _, _, _, _, _, _, rfl, hS38, hc7, hg7, hx7⟩)
set_option maxHeartbeats 1000000 in
theorem sout_fn (bs : Nat) (x0 x1 x3 x4 x8 x10 x11 x14 x15 x16 x20 x23 x24 : Value) (aa : Option Addr) (ac : Nat) (al : List UInt8) (Sa : Hp) (ha : OwnS Eb 1 5 (.slice aa al.length ac) al Sa) (ga : Option Addr) (gc : Nat) (gl : List (Sl UInt8)) (Sg : Hp) (hg : OwnS Esl 1 40 (.slice ga gl.length gc) gl Sg) (hgl : gl.length ≤ 4294967296) (fail err outs : Int) (hout : 0 ≤ outs ∧ outs ≤ 1152921504606846976) (ca : Option Addr) (cc : Nat) (cl : List CallV) (Sc : Hp) (hc : OwnS Ecall 3 204 (.slice ca cl.length cc) cl Sc) (hle : cl.length ≤ 4294967296) (sum : Int) (hsum : 0 ≤ sum ∧ sum ≤ 1152921504606846976) (a : Option Addr) (c : Nat) (b : List UInt8) (Sb : Hp) (hb : OwnS Eb 1 5 (.slice a b.length c) b Sb) (hal : al.length + b.length ≤ 140737488355328) (sa : Option Addr) (sc : Nat) (sl : List (Sl UInt8)) (Ss : Hp) (hs : OwnS Esl 1 40 (.slice sa sl.length sc) sl Ss) (hsl : sl.length ≤ 4294967296) (bq : Nat) (dur : Int) (Ba : Option Addr) (Bc : Nat) (B : List UInt8) (N : ByteArray) (qa : Option Addr) (qc : Nat) (ql : List IV) (So : Hp) (hq : OwnS Eiv 1 135 (.slice qa ql.length qc) ql So) (hql : ql.length ≤ 4294967290) : HL.Fn Tryd.prog 50 [.pointer (some ⟨bs, 0, none⟩), .slice a b.length c] (fun w => Rd Eb w (.slice Ba B.length Bc) B ∧ Apart (keys ((bs, .cells [x0, x1, .pointer none, x3, x4, .int .i64 fail, .int .i64 err, .int .i64 0, x8, .pointer none, x10, x11, .bool false, .bool false, x14, x15, x16, .int .i64 outs, .int .i64 sum, .slice aa al.length ac, x20, .slice ca cl.length cc, .slice ga gl.length gc, x23, x24, .pointer (some ⟨bq, 0, none⟩), .int .i64 dur, .slice Ba B.length Bc, .string N, .slice sa sl.length sc].toArray 45 (0, 0)) :: (bq, .cells [.bool true, .slice qa ql.length qc].toArray 109 (0, 0)) :: (Sa ++ (Sc ++ (Sg ++ (Ss ++ (So ++ Sb))))))) (.slice Ba B.length Bc)) ((bs, .cells [x0, x1, .pointer none, x3, x4, .int .i64 fail, .int .i64 err, .int .i64 0, x8, .pointer none, x10, x11, .bool false, .bool false, x14, x15, x16, .int .i64 outs, .int .i64 sum, .slice aa al.length ac, x20, .slice ca cl.length cc, .slice ga gl.length gc, x23, x24, .pointer (some ⟨bq, 0, none⟩), .int .i64 dur, .slice Ba B.length Bc, .string N, .slice sa sl.length sc].toArray 45 (0, 0)) :: (bq, .cells [.bool true, .slice qa ql.length qc].toArray 109 (0, 0)) :: (Sa ++ (Sc ++ (Sg ++ (Ss ++ (So ++ Sb)))))) (fun v S' => v = .int .i64 (if outs + 1 = fail then err else 0) ∧ ∃ a1 c1 aa' ac' ca' cc' ga' gc' sa' sc' a2 c2 qa' qc', ∃ ql' : List IV, ∃ Sa' Sc' Sg' Ss' So' St Sx Sz, S' = (bs, .cells [x0, x1, .pointer none, x3, x4, .int .i64 fail, .int .i64 err, .int .i64 0, x8, .pointer none, x10, x11, .bool false, .bool false, x14, x15, x16, .int .i64 (outs + 1), .int .i64 (sum + 1 + b.length), .slice aa' (al ++ b).length ac', x20, .slice ca' (cl ++ [(⟨1, ⟨#[]⟩, ⟨a1, c1, b⟩⟩ : CallV)]).length cc', .slice ga' (gl ++ [(⟨a, c, b⟩ : Sl UInt8)]).length gc', x23, x24, .pointer (some ⟨bq, 0, none⟩), .int .i64 dur, .slice Ba B.length Bc, .string N, .slice sa' (sl ++ [(⟨a2, c2, b⟩ : Sl UInt8)]).length sc'].toArray 45 (0, 0)) :: (bq, .cells [.bool true, .slice qa' ql'.length qc'].toArray 109 (0, 0)) :: (Sa' ++ (Sc' ++ (Sg' ++ (Ss' ++ (So' ++ (St ++ (Sx ++ (Sz ++ Sb)))))))) ∧ OwnS Eb 1 5 (.slice aa' (al ++ b).length ac') (al ++ b) Sa' ∧ OwnS Ecall 3 204 (.slice ca' (cl ++ [(⟨1, ⟨#[]⟩, ⟨a1, c1, b⟩⟩ : CallV)]).length cc') (cl ++ [(⟨1, ⟨#[]⟩, ⟨a1, c1, b⟩⟩ : CallV)]) Sc' ∧ OwnS Esl 1 40 (.slice ga' (gl ++ [(⟨a, c, b⟩ : Sl UInt8)]).length gc') (gl ++ [(⟨a, c, b⟩ : Sl UInt8)]) Sg' ∧ OwnS Esl 1 40 (.slice sa' (sl ++ [(⟨a2, c2, b⟩ : Sl UInt8)]).length sc') (sl ++ [(⟨a2, c2, b⟩ : Sl UInt8)]) Ss' ∧ RdS Eb (.slice a1 b.length c1) b Sx ∧ RdS Eb (.slice a2 b.length c2) b Sz ∧ OwnS Eiv 1 135 (.slice qa' ql'.length qc') ql' So' ∧ QPush (outs + 1 = dur) B N ql ql' St) := by
  refine fn_of Tryd.func50 rfl rfl rfl fun w0 hw => ?_
  refine c_seq fun _ hK1 => ?_
  refine c_region ?_
  refine o_step rfl (s_assign rfl) ?_
  refine o_nil ?_
  refine x_then (hK1 _ _ ?_)
  refine c_seq fun _ hK2 => ?_
  refine c_region ?_
  refine o_step rfl (s_move rfl) ?_
  refine o_step rfl (s_nil rfl) ?_
  refine o_step rfl (s_field rfl rfl (by decide)) ?_
  refine o_step rfl (s_move rfl) ?_
  refine o_call (wout_fn bs (x0) (x1) (x3) (x4) (x8) (x10) (x11) (x14) (x15) (x16) (x20) (x23) (x24) (.pointer (some ⟨bq, 0, none⟩)) (.int .i64 dur) (.slice Ba B.length Bc) (.string N) (.slice sa sl.length sc) aa ac al Sa ha ga gc gl Sg hg hgl fail err outs hout ca cc cl Sc hc hle sum hsum a c b Sb hb hal) rfl rfl rfl ((Pick.takeC pkA (Pick.takeA pkA (Pick.takeA pkA (Pick.takeA pkA pkA))))) (fun _ _ => trivial) (fun v10 S10 ⟨hv10, a10, c10, aa10, ac10, ca10, cc10, ga10, gc10, Sa10, Sc10, Sg10, Sx10, hS10, ha10, hc10, hg10, hx10⟩ => ?_)
  subst hv10
  subst hS10
  refine o_step rfl (s_assign rfl) ?_
  refine o_nil ?_
  refine x_then (hK2 _ _ ?_)
  refine c_seq fun _ hK3 => ?_
  refine c_drawE ([(bs, .cells [x0, x1, .pointer none, x3, x4, .int .i64 fail, .int .i64 err, .int .i64 0, x8, .pointer none, x10, x11, .bool false, .bool false, x14, x15, x16, .int .i64 (outs + 1), .int .i64 (sum + 1 + b.length), .slice aa10 (al ++ b).length ac10, x20, .slice ca10 (cl ++ [(⟨1, ⟨#[]⟩, ⟨a10, c10, b⟩⟩ : CallV)]).length cc10, .slice ga10 (gl ++ [(⟨a, c, b⟩ : Sl UInt8)]).length gc10, x23, x24, .pointer (some ⟨bq, 0, none⟩), .int .i64 dur, .slice Ba B.length Bc, .string N, .slice sa sl.length sc].toArray 45 (0, 0))]) (fun i => Nat.beq i 11) ?_
  refine e_take 0 rfl (by kernel_rfl) (by kernel_rfl) (by kernel_rfl) (by kernel_rfl) (fun _ _ => rfl) rfl hzB (s_move rfl) ?_
  refine e_take 1 rfl (by kernel_rfl) (by kernel_rfl) (by kernel_rfl) (by kernel_rfl) (fun _ _ => rfl) rfl hzB (s_move rfl) ?_
  refine e_take 2 rfl (by kernel_rfl) (by kernel_rfl) (by kernel_rfl) (by kernel_rfl) (fun _ _ => rfl) rfl hzB (s_nil rfl) ?_
  refine e_take 3 rfl (by kernel_rfl) (by kernel_rfl) (by kernel_rfl) (by kernel_rfl) (fun _ _ => rfl) rfl hzB (s_field rfl rfl (by decide)) ?_
  refine e_take 4 rfl (by kernel_rfl) (by kernel_rfl) (by kernel_rfl) (by kernel_rfl) (fun _ _ => rfl) rfl hzB (s_ld rfl (.own meA rfl)) ?_
  refine e_take 5 rfl (by kernel_rfl) (by kernel_rfl) (by kernel_rfl) (by kernel_rfl) (fun _ _ => rfl) rfl hzB (s_move rfl) ?_
  refine e_one 6 rfl (by kernel_rfl) ?_
  refine o_call (copy_fn a c b) rfl rfl rfl (by exact .nil) (fun w st => (hb.rdk hiA).out w st) (fun v17 S17 ⟨a17, c17, hv17, hS17⟩ => ?_)
  subst hv17
  refine o_nil ?_
  refine x_oneS hzB ?_
  refine e_one 7 rfl (by kernel_rfl) ?_
  refine o_bs (E := Esl) (xs := [(⟨a17, c17, b⟩ : Sl UInt8)]) (vs := [_]) rfl rfl rfl rfl rfl (by decide) (by decide) fun b18 S18 hS18 => ?_
  refine o_nil ?_
  refine x_oneS hzB ?_
  refine e_one 8 rfl (by kernel_rfl) ?_
  refine o_app hs (hS18.rdk hiA) rfl rfl rfl rfl (by show (sl.length + 1) * 24 ≤ _; omega) (by show sl.length + 1 ≤ _; omega) rfl pkA fun a19 c19 S19 hS19 => ?_
  refine o_nil ?_
  refine x_oneS hzB ?_
  refine e_one 9 rfl (by kernel_rfl) ?_
  refine o_step rfl (s_nil rfl) ?_
  refine o_nil ?_
  refine x_oneS hzB ?_
  refine e_one 10 rfl (by kernel_rfl) ?_
  refine o_step rfl (s_field rfl rfl (by decide)) ?_
  refine o_nil ?_
  refine x_oneS hzB ?_
  refine e_one 11 rfl (by kernel_rfl) ?_
  refine o_store rfl rfl rfl upA (by first | decide | omega | (simp; done) | (simp; omega)) rfl ?_
  refine o_nil ?_
  refine x_oneL rfl ?_
  refine e_done (by kernel_rfl) ?_
  refine x_then (hK3 _ _ ?_)
  refine c_seq fun _ hK4 => ?_
  refine c_seq fun _ hK5 => ?_
  refine c_drawE ([(bs, .cells [x0, x1, .pointer none, x3, x4, .int .i64 fail, .int .i64 err, .int .i64 0, x8, .pointer none, x10, x11, .bool false, .bool false, x14, x15, x16, .int .i64 (outs + 1), .int .i64 (sum + 1 + b.length), .slice aa10 (al ++ b).length ac10, x20, .slice ca10 (cl ++ [(⟨1, ⟨#[]⟩, ⟨a10, c10, b⟩⟩ : CallV)]).length cc10, .slice ga10 (gl ++ [(⟨a, c, b⟩ : Sl UInt8)]).length gc10, x23, x24, .pointer (some ⟨bq, 0, none⟩), .int .i64 dur, .slice Ba B.length Bc, .string N, .slice a19 (sl ++ [(⟨a17, c17, b⟩ : Sl UInt8)]).length c19].toArray 45 (0, 0))]) (fun i => false) ?_
  refine e_take 0 rfl (by kernel_rfl) (by kernel_rfl) (by kernel_rfl) (by kernel_rfl) (fun _ _ => rfl) rfl hzB (s_move rfl) ?_
  refine e_take 1 rfl (by kernel_rfl) (by kernel_rfl) (by kernel_rfl) (by kernel_rfl) (fun _ _ => rfl) rfl hzB (s_nil rfl) ?_
  refine e_take 2 rfl (by kernel_rfl) (by kernel_rfl) (by kernel_rfl) (by kernel_rfl) (fun _ _ => rfl) rfl hzB (s_field rfl rfl (by decide)) ?_
  refine e_take 3 rfl (by kernel_rfl) (by kernel_rfl) (by kernel_rfl) (by kernel_rfl) (fun _ _ => rfl) rfl hzB (s_ld rfl (.own meA rfl)) ?_
  refine e_take 4 rfl (by kernel_rfl) (by kernel_rfl) (by kernel_rfl) (by kernel_rfl) (fun _ _ => rfl) rfl hzB (step_cast (v' := .bool true) (s_neq_nilp rfl rfl) rfl) ?_
  refine e_take 5 rfl (by kernel_rfl) (by kernel_rfl) (by kernel_rfl) (by kernel_rfl) (fun _ _ => rfl) rfl hzB (s_move rfl) ?_
  refine e_take 6 rfl (by kernel_rfl) (by kernel_rfl) (by kernel_rfl) (by kernel_rfl) (fun _ fr => by rw [wanted_of fr rfl rfl rfl]; rfl) rfl hzB (s_move rfl) ?_
  refine e_take 7 rfl (by kernel_rfl) (by kernel_rfl) (by kernel_rfl) (by kernel_rfl) (fun _ fr => by rw [wanted_of fr rfl rfl rfl]; rfl) rfl hzB (s_nil rfl) ?_
  refine e_take 8 rfl (by kernel_rfl) (by kernel_rfl) (by kernel_rfl) (by kernel_rfl) (fun _ fr => by rw [wanted_of fr rfl rfl rfl]; rfl) rfl hzB (s_field rfl rfl (by decide)) ?_
  refine e_take 9 rfl (by kernel_rfl) (by kernel_rfl) (by kernel_rfl) (by kernel_rfl) (fun _ fr => by rw [wanted_of fr rfl rfl rfl]; rfl) rfl hzB (s_field rfl rfl (by decide)) ?_
  refine e_take 10 rfl (by kernel_rfl) (by kernel_rfl) (by kernel_rfl) (by kernel_rfl) (fun _ fr => by rw [wanted_of fr rfl rfl rfl]; rfl) rfl hzB (s_ld rfl (.own meA rfl)) ?_
  refine e_take 11 rfl (by kernel_rfl) (by kernel_rfl) (by kernel_rfl) (by kernel_rfl) (fun _ fr => by rw [wanted_of fr rfl rfl rfl]; rfl) rfl hzB (s_move rfl) ?_
  refine e_take 12 rfl (by kernel_rfl) (by kernel_rfl) (by kernel_rfl) (by kernel_rfl) (fun _ fr => by rw [wanted_of fr rfl rfl rfl]; rfl) rfl hzB (s_nil rfl) ?_
  refine e_take 13 rfl (by kernel_rfl) (by kernel_rfl) (by kernel_rfl) (by kernel_rfl) (fun _ fr => by rw [wanted_of fr rfl rfl rfl]; rfl) rfl hzB (s_field rfl rfl (by decide)) ?_
  refine e_take 14 rfl (by kernel_rfl) (by kernel_rfl) (by kernel_rfl) (by kernel_rfl) (fun _ fr => by rw [wanted_of fr rfl rfl rfl]; rfl) rfl hzB (s_ld rfl (.own meA rfl)) ?_
  by_cases hdu : outs + 1 = dur
  ·
   refine e_take 15 rfl (by kernel_rfl) (by kernel_rfl) (by kernel_rfl) (by kernel_rfl) (fun _ fr => by rw [wanted_of fr rfl rfl rfl]; rfl) rfl hzB (step_cast (v' := .bool true) (s_eql rfl rfl) (by rw [decide_eq_true hdu])) ?_
   refine e_take 16 rfl (by kernel_rfl) (by kernel_rfl) (by kernel_rfl) (by kernel_rfl) (fun _ _ => rfl) rfl hzB (s_pick_t rfl rfl) ?_
   refine e_done (by kernel_rfl) ?_
   refine x_then (hK5 _ _ ?_)
   refine c_true rfl ?_
   refine c_seq fun _ hK6 => ?_
   refine c_drawE ([(bs, .cells [x0, x1, .pointer none, x3, x4, .int .i64 fail, .int .i64 err, .int .i64 0, x8, .pointer none, x10, x11, .bool false, .bool false, x14, x15, x16, .int .i64 (outs + 1), .int .i64 (sum + 1 + b.length), .slice aa10 (al ++ b).length ac10, x20, .slice ca10 (cl ++ [(⟨1, ⟨#[]⟩, ⟨a10, c10, b⟩⟩ : CallV)]).length cc10, .slice ga10 (gl ++ [(⟨a, c, b⟩ : Sl UInt8)]).length gc10, x23, x24, .pointer (some ⟨bq, 0, none⟩), .int .i64 dur, .slice Ba B.length Bc, .string N, .slice a19 (sl ++ [(⟨a17, c17, b⟩ : Sl UInt8)]).length c19].toArray 45 (0, 0))]) (fun i => false) ?_
   refine e_take 0 rfl (by kernel_rfl) (by kernel_rfl) (by kernel_rfl) (by kernel_rfl) (fun _ _ => rfl) rfl hzB (s_move rfl) ?_
   refine e_take 1 rfl (by kernel_rfl) (by kernel_rfl) (by kernel_rfl) (by kernel_rfl) (fun _ _ => rfl) rfl hzB (s_nil rfl) ?_
   refine e_take 2 rfl (by kernel_rfl) (by kernel_rfl) (by kernel_rfl) (by kernel_rfl) (fun _ _ => rfl) rfl hzB (s_field rfl rfl (by decide)) ?_
   refine e_take 3 rfl (by kernel_rfl) (by kernel_rfl) (by kernel_rfl) (by kernel_rfl) (fun _ _ => rfl) rfl hzB (s_ld rfl (.own meA rfl)) ?_
   refine e_take 4 rfl (by kernel_rfl) (by kernel_rfl) (by kernel_rfl) (by kernel_rfl) (fun _ _ => rfl) rfl hzB (s_move rfl) ?_
   refine e_take 5 rfl (by kernel_rfl) (by kernel_rfl) (by kernel_rfl) (by kernel_rfl) (fun _ _ => rfl) rfl hzB (s_nil rfl) ?_
   refine e_take 6 rfl (by kernel_rfl) (by kernel_rfl) (by kernel_rfl) (by kernel_rfl) (fun _ _ => rfl) rfl hzB (s_field rfl rfl (by decide)) ?_
   refine e_take 7 rfl (by kernel_rfl) (by kernel_rfl) (by kernel_rfl) (by kernel_rfl) (fun _ _ => rfl) rfl hzB (s_ld rfl (.own meA rfl)) ?_
   refine e_one 8 rfl (by kernel_rfl) ?_
   refine o_call (copy_fn Ba Bc B) rfl rfl rfl (by exact .nil) (fun w st => (RdK.old (κ := ⟨_, [], w0, _⟩) hw.1 hw.2).out w st) (fun v47 S47 ⟨a47, c47, hv47, hS47⟩ => ?_)
   subst hv47
   refine o_nil ?_
   refine x_oneS hzB ?_
   refine e_one 9 rfl (by kernel_rfl) ?_
   refine o_call (text_fn bq qa qc ql So hq (by omega) a47 c47 B) rfl rfl rfl ((Pick.takeC pkA pkA)) (fun w st => ⟨(hS47.rdk hiA).out w st, st.apart (S := (bq, .cells [.bool true, .slice qa ql.length qc].toArray 109 (0, 0)) :: So) (Pick.takeC pkA pkA) hS47 hiA⟩) (fun v48 S48 ⟨hv48, qa48, qc48, a48, c48, So48, Sx48, hS48, hq48, hx48⟩ => ?_)
   subst hv48
   subst hS48
   refine o_nil ?_
   refine x_oneS hzB ?_
   refine e_done (by kernel_rfl) ?_
   refine x_then (hK6 _ _ ?_)
   refine c_drawE ([(bs, .cells [x0, x1, .pointer none, x3, x4, .int .i64 fail, .int .i64 err, .int .i64 0, x8, .pointer none, x10, x11, .bool false, .bool false, x14, x15, x16, .int .i64 (outs + 1), .int .i64 (sum + 1 + b.length), .slice aa10 (al ++ b).length ac10, x20, .slice ca10 (cl ++ [(⟨1, ⟨#[]⟩, ⟨a10, c10, b⟩⟩ : CallV)]).length cc10, .slice ga10 (gl ++ [(⟨a, c, b⟩ : Sl UInt8)]).length gc10, x23, x24, .pointer (some ⟨bq, 0, none⟩), .int .i64 dur, .slice Ba B.length Bc, .string N, .slice a19 (sl ++ [(⟨a17, c17, b⟩ : Sl UInt8)]).length c19].toArray 45 (0, 0))]) (fun i => false) ?_
   refine e_take 0 rfl (by kernel_rfl) (by kernel_rfl) (by kernel_rfl) (by kernel_rfl) (fun _ _ => rfl) rfl hzB (s_move rfl) ?_
   refine e_take 1 rfl (by kernel_rfl) (by kernel_rfl) (by kernel_rfl) (by kernel_rfl) (fun _ _ => rfl) rfl hzB (s_nil rfl) ?_
   refine e_take 2 rfl (by kernel_rfl) (by kernel_rfl) (by kernel_rfl) (by kernel_rfl) (fun _ _ => rfl) rfl hzB (s_field rfl rfl (by decide)) ?_
   refine e_take 3 rfl (by kernel_rfl) (by kernel_rfl) (by kernel_rfl) (by kernel_rfl) (fun _ _ => rfl) rfl hzB (s_ld rfl (.own meA rfl)) ?_
   refine e_take 4 rfl (by kernel_rfl) (by kernel_rfl) (by kernel_rfl) (by kernel_rfl) (fun _ _ => rfl) rfl hzB (s_move rfl) ?_
   refine e_take 5 rfl (by kernel_rfl) (by kernel_rfl) (by kernel_rfl) (by kernel_rfl) (fun _ _ => rfl) rfl hzB (s_nil rfl) ?_
   refine e_take 6 rfl (by kernel_rfl) (by kernel_rfl) (by kernel_rfl) (by kernel_rfl) (fun _ _ => rfl) rfl hzB (s_field rfl rfl (by decide)) ?_
   refine e_take 7 rfl (by kernel_rfl) (by kernel_rfl) (by kernel_rfl) (by kernel_rfl) (fun _ _ => rfl) rfl hzB (s_ld rfl (.own meA rfl)) ?_
   refine e_one 8 rfl (by kernel_rfl) ?_
   refine o_call (file_fn bq qa48 qc48 _ So48 hq48 (by rw [List.length_append, List.length_singleton]; omega) N) rfl rfl rfl ((Pick.takeC pkA pkA)) (fun _ _ => trivial) (fun v57 S57 ⟨hv57, qa57, qc57, So57, hS57, hq57⟩ => ?_)
   subst hv57
   subst hS57
   refine o_nil ?_
   refine x_oneS hzB ?_
   refine e_done (by kernel_rfl) ?_
   refine x_then (hK4 _ _ ?_)
   refine c_seq fun _ hK7 => ?_
   refine c_region ?_
   refine o_step rfl (s_move rfl) ?_
   refine o_step rfl (s_assign rfl) ?_
   refine o_nil ?_
   refine x_then (hK7 _ _ ?_)
   refine c_ret ?_
   refine ?_
   refine x_sub (Sub.refl _) (H' := (bs, .cells [x0, x1, .pointer none, x3, x4, .int .i64 fail, .int .i64 err, .int .i64 0, x8, .pointer none, x10, x11, .bool false, .bool false, x14, x15, x16, .int .i64 (outs + 1), .int .i64 (sum + 1 + b.length), .slice aa10 (al ++ b).length ac10, x20, .slice ca10 (cl ++ [(⟨1, ⟨#[]⟩, ⟨a10, c10, b⟩⟩ : CallV)]).length cc10, .slice ga10 (gl ++ [(⟨a, c, b⟩ : Sl UInt8)]).length gc10, x23, x24, .pointer (some ⟨bq, 0, none⟩), .int .i64 dur, .slice Ba B.length Bc, .string N, .slice a19 (sl ++ [(⟨a17, c17, b⟩ : Sl UInt8)]).length c19].toArray 45 (0, 0)) :: (bq, .cells [.bool true, .slice qa57 ((ql ++ [(⟨141, .slice a48 B.length c48⟩ : IV)]) ++ [(⟨133, .string N⟩ : IV)]).length qc57].toArray 109 (0, 0)) :: (Sa10 ++ (Sc10 ++ (Sg10 ++ (S19 ++ (So57 ++ (Sx48 ++ (Sx10 ++ (S17 ++ Sb))))))))) hzB ?_
   exact x_ret rfl (.tmp rfl (.nil)) (⟨rfl, _, _, _, _, _, _, _, _, _, _, _, _, _, _, _, _, _, _, _, _, _, _, _, rfl, ha10, hc10, hg10, hS19, hx10.rds, hS17.rds, hq57, .inr ⟨hdu, _, _, rfl, hx48⟩⟩)
  ·
   refine e_take 15 rfl (by kernel_rfl) (by kernel_rfl) (by kernel_rfl) (by kernel_rfl) (fun _ fr => by rw [wanted_of fr rfl rfl rfl]; rfl) rfl hzB (step_cast (v' := .bool false) (s_eql rfl rfl) (by rw [decide_eq_false hdu])) ?_
   refine e_take 16 rfl (by kernel_rfl) (by kernel_rfl) (by kernel_rfl) (by kernel_rfl) (fun _ _ => rfl) rfl hzB (s_pick_t rfl rfl) ?_
   refine e_done (by kernel_rfl) ?_
   refine x_then (hK5 _ _ ?_)
   refine c_false rfl ?_
   refine c_skip ?_
   refine x_then (hK4 _ _ ?_)
   refine c_seq fun _ hK8 => ?_
   refine c_region ?_
   refine o_step rfl (s_move rfl) ?_
   refine o_step rfl (s_assign rfl) ?_
   refine o_nil ?_
   refine x_then (hK8 _ _ ?_)
   refine c_ret ?_
   refine ?_
   refine x_sub (Sub.refl _) (H' := (bs, .cells [x0, x1, .pointer none, x3, x4, .int .i64 fail, .int .i64 err, .int .i64 0, x8, .pointer none, x10, x11, .bool false, .bool false, x14, x15, x16, .int .i64 (outs + 1), .int .i64 (sum + 1 + b.length), .slice aa10 (al ++ b).length ac10, x20, .slice ca10 (cl ++ [(⟨1, ⟨#[]⟩, ⟨a10, c10, b⟩⟩ : CallV)]).length cc10, .slice ga10 (gl ++ [(⟨a, c, b⟩ : Sl UInt8)]).length gc10, x23, x24, .pointer (some ⟨bq, 0, none⟩), .int .i64 dur, .slice Ba B.length Bc, .string N, .slice a19 (sl ++ [(⟨a17, c17, b⟩ : Sl UInt8)]).length c19].toArray 45 (0, 0)) :: (bq, .cells [.bool true, .slice qa ql.length qc].toArray 109 (0, 0)) :: (Sa10 ++ (Sc10 ++ (Sg10 ++ (S19 ++ (So ++ (([] : Hp) ++ (Sx10 ++ (S17 ++ Sb))))))))) hzB ?_
   exact x_ret rfl (.tmp rfl (.nil)) (⟨rfl, _, _, _, _, _, _, _, _, _, _, _, _, _, _, _, _, _, _, _, _, _, _, _, rfl, ha10, hc10, hg10, hS19, hx10.rds, hS17.rds, hq, .inl ⟨hdu, rfl⟩⟩)
end Go.Proofs.YtmmajabfmhipeaaDoor
