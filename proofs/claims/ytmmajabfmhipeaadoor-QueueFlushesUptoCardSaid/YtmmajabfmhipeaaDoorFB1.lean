/- The reference's world and queue. Conditions: none. -/
import Derived.Test.YtmmajabfmhipeaaDoorFM18Z
import Derived.Test.YtmmajabfmhipeaaDoorFW30
namespace Go.Proofs.YtmmajabfmhipeaaDoor
open Go Go.HL Go.Proofs Go.Tab
/-- an item of the reference's queue -/
structure RI where
  f : Bool
  n : ByteArray
  t : Sl UInt8
def Eri (x : RI) : List Value := [.bool x.f, .string x.n, x.t.v]
instance : Enc Eri 3 := ⟨fun _ => rfl, fun _ _ h => by simp [Eri] at h; rcases h with rfl | rfl | rfl <;> rfl⟩
def RI.abs (x : RI) : QI := if x.f = true then .file x.n else .text x.t.xs
def RPush (yes : Prop) (B : List UInt8) (N : ByteArray) (il il' : List RI) (St : Hp) : Prop := (¬ yes ∧ il' = il) ∨ (yes ∧ ∃ a c, il' = (il ++ [(⟨false, ⟨#[]⟩, ⟨a, c, B⟩⟩ : RI)]) ++ [(⟨true, N, ⟨none, 0, []⟩⟩ : RI)] ∧ OwnS Eb 1 5 (.slice a B.length c) B St)
theorem note3B_fn (bs : Nat) (x0 x1 x2 x3 x4 x5 x6 x7 x8 x9 x10 x11 x13 x14 x15 x16 x17 x19 x20 x22 x23 x24 : Value) (sum : Int) (n : ByteArray) (ca : Option Addr) (cc : Nat) (cl : List CallV) (Sc : Hp) (hc : OwnS Ecall 3 204 (.slice ca cl.length cc) cl Sc) (hle : cl.length ≤ 4294967296) (hsum : 0 ≤ sum ∧ sum ≤ 1152921504606846976) (a : Option Addr) (c : Nat) (b : List UInt8) (Sb : Hp) (hb : OwnS Eb 1 5 (.slice a b.length c) b Sb) : HL.Fn Tryd.prog 95 [.pointer (some ⟨bs, 0, none⟩), .int .i64 3, .string n, .slice a b.length c] (fun _ => True) ((bs, .cells [x0, x1, x2, x3, x4, x5, x6, x7, x8, x9, x10, x11, .bool false, x13, x14, x15, x16, x17, .int .i64 sum, x19, x20, .slice ca cl.length cc, x22, x23, x24].toArray 43 (0, 0)) :: (Sc ++ Sb)) (fun v S' => v = .tuple #[] ∧ ∃ a' c' ca' cc' Sc' Sx, S' = (bs, .cells [x0, x1, x2, x3, x4, x5, x6, x7, x8, x9, x10, x11, .bool false, x13, x14, x15, x16, x17, .int .i64 (sum + 1 + b.length), x19, x20, .slice ca' (cl ++ [(⟨3, n, ⟨a', c', b⟩⟩ : CallV)]).length cc', x22, x23, x24].toArray 43 (0, 0)) :: (Sc' ++ (Sx ++ Sb)) ∧ OwnS Ecall 3 204 (.slice ca' (cl ++ [(⟨3, n, ⟨a', c', b⟩⟩ : CallV)]).length cc') (cl ++ [(⟨3, n, ⟨a', c', b⟩⟩ : CallV)]) Sc' ∧ OwnS Eb 1 5 (.slice a' b.length c') b Sx) := by
  refine fn_of Tryd.func95 rfl rfl rfl fun w0 hw => ?_
  have hbs := hb.sl
  have hbl := hbs.le
  refine c_seq fun _ hK1 => ?_
  refine c_region ?_
  refine o_step rfl (s_move rfl) ?_
  refine o_step rfl (s_move rfl) ?_
  refine o_step rfl (s_nil rfl) ?_
  refine o_step rfl (s_field rfl rfl (by decide)) ?_
  refine o_step rfl (s_ld rfl (.own meA rfl)) ?_
  refine o_step rfl (s_add rfl rfl (by omega)) ?_
  refine o_step rfl (s_move rfl) ?_
  refine o_step rfl (s_len rfl) ?_
  refine o_step rfl (s_add rfl rfl (by omega)) ?_
  refine o_step rfl (s_nil rfl) ?_
  refine o_step rfl (s_field rfl rfl (by decide)) ?_
  refine o_store rfl rfl rfl upA (by first | decide | omega | (simp; done) | (simp; omega)) rfl ?_
  refine o_nil ?_
  refine x_then (hK1 _ _ ?_)
  refine c_seq fun _ hK2 => ?_
  refine c_seq fun _ hK3 => ?_
  refine c_region ?_
  refine o_step rfl (s_move rfl) ?_
  refine o_step rfl (s_nil rfl) ?_
  refine o_step rfl (s_field rfl rfl (by decide)) ?_
  refine o_step rfl (s_ld rfl (.own meA rfl)) ?_
  refine o_nil ?_
  refine x_then (hK3 _ _ ?_)
  refine c_false rfl ?_
  refine c_skip ?_
  refine x_then (hK2 _ _ ?_)
  refine c_seq fun _ hK4 => ?_
  refine c_drawE ([(bs, .cells [x0, x1, x2, x3, x4, x5, x6, x7, x8, x9, x10, x11, .bool false, x13, x14, x15, x16, x17, .int .i64 (sum + 1 + b.length), x19, x20, .slice ca cl.length cc, x22, x23, x24].toArray 43 (0, 0))]) (fun i => Nat.beq i 14) ?_
  refine e_take 0 rfl (by kernel_rfl) (by kernel_rfl) (by kernel_rfl) (by kernel_rfl) (fun _ _ => rfl) rfl hzB (s_move rfl) ?_
  refine e_take 1 rfl (by kernel_rfl) (by kernel_rfl) (by kernel_rfl) (by kernel_rfl) (fun _ _ => rfl) rfl hzB (s_move rfl) ?_
  refine e_take 2 rfl (by kernel_rfl) (by kernel_rfl) (by kernel_rfl) (by kernel_rfl) (fun _ _ => rfl) rfl hzB (s_nil rfl) ?_
  refine e_take 3 rfl (by kernel_rfl) (by kernel_rfl) (by kernel_rfl) (by kernel_rfl) (fun _ _ => rfl) rfl hzB (s_field rfl rfl (by decide)) ?_
  refine e_take 4 rfl (by kernel_rfl) (by kernel_rfl) (by kernel_rfl) (by kernel_rfl) (fun _ _ => rfl) rfl hzB (s_ld rfl (.own meA rfl)) ?_
  refine e_take 5 rfl (by kernel_rfl) (by kernel_rfl) (by kernel_rfl) (by kernel_rfl) (fun _ _ => rfl) rfl hzB (s_move rfl) ?_
  refine e_take 6 rfl (by kernel_rfl) (by kernel_rfl) (by kernel_rfl) (by kernel_rfl) (fun _ _ => rfl) rfl hzB (s_move rfl) ?_
  refine e_take 7 rfl (by kernel_rfl) (by kernel_rfl) (by kernel_rfl) (by kernel_rfl) (fun _ _ => rfl) rfl hzB (s_move rfl) ?_
  refine e_one 8 rfl (by kernel_rfl) ?_
  refine o_call (copy_fn a c b) rfl rfl rfl (by exact .nil) (fun w st => (hb.rdk hiA).out w st) (fun v31 S31 ⟨a31, c31, hv31, hS31⟩ => ?_)
  subst hv31
  refine o_nil ?_
  refine x_oneS hzB ?_
  refine e_one 9 rfl (by kernel_rfl) ?_
  refine o_step rfl (s_build (cs := [_, _, _]) (vs := [_, _, _]) rfl rfl (.cons rfl rfl rfl rfl rfl (.cons rfl rfl rfl rfl rfl (.cons rfl rfl rfl rfl rfl (.nil))))) ?_
  refine o_nil ?_
  refine x_oneS hzB ?_
  refine e_one 10 rfl (by kernel_rfl) ?_
  refine o_bs (E := Ecall) (xs := [(⟨3, n, ⟨a31, c31, b⟩⟩ : CallV)]) (vs := [_]) rfl rfl rfl rfl rfl (by decide) (by decide) fun b33 S33 hS33 => ?_
  refine o_nil ?_
  refine x_oneS hzB ?_
  refine e_one 11 rfl (by kernel_rfl) ?_
  refine o_app hc (hS33.rdk hiA) rfl rfl rfl rfl (by show (cl.length + 1) * 48 ≤ _; omega) (by show cl.length + 1 ≤ _; omega) rfl pkA fun a34 c34 S34 hS34 => ?_
  refine o_nil ?_
  refine x_oneS hzB ?_
  refine e_one 12 rfl (by kernel_rfl) ?_
  refine o_step rfl (s_nil rfl) ?_
  refine o_nil ?_
  refine x_oneS hzB ?_
  refine e_one 13 rfl (by kernel_rfl) ?_
  refine o_step rfl (s_field rfl rfl (by decide)) ?_
  refine o_nil ?_
  refine x_oneS hzB ?_
  refine e_one 14 rfl (by kernel_rfl) ?_
  refine o_store rfl rfl rfl upA (by first | decide | omega | (simp; done) | (simp; omega)) rfl ?_
  refine o_nil ?_
  refine x_oneL rfl ?_
  refine e_done (by kernel_rfl) ?_
  refine x_then (hK4 _ _ ?_)
  refine c_seq fun _ hK5 => ?_
  refine c_region ?_
  refine o_step rfl (s_move rfl) ?_
  refine o_step rfl (s_eql_f rfl rfl (by decide)) ?_
  refine o_step rfl (s_move rfl) ?_
  refine o_yes rfl rfl ?_
  refine o_step rfl (s_move rfl) ?_
  refine o_yes rfl rfl ?_
  refine o_step rfl (s_eql_f rfl rfl (by decide)) ?_
  refine o_step rfl (s_pick_f rfl rfl) ?_
  refine o_nil ?_
  refine x_then (hK5 _ _ ?_)
  refine c_false rfl ?_
  refine c_skip ?_
  refine x_sub (Sub.refl _) (H' := (bs, .cells [x0, x1, x2, x3, x4, x5, x6, x7, x8, x9, x10, x11, .bool false, x13, x14, x15, x16, x17, .int .i64 (sum + 1 + b.length), x19, x20, .slice a34 (cl ++ [(⟨3, n, ⟨a31, c31, b⟩⟩ : CallV)]).length c34, x22, x23, x24].toArray 43 (0, 0)) :: (S34 ++ (S31 ++ Sb))) hzB ?_
  exact x_end rfl (.nil) (⟨rfl, _, _, _, _, _, _, rfl, hS34, hS31⟩)
theorem note1B_fn (bs : Nat) (x0 x1 x2 x3 x4 x5 x6 x7 x8 x9 x10 x11 x13 x14 x15 x16 x17 x19 x20 x23 x24 : Value) (sum : Int) (n : ByteArray) (ca : Option Addr) (cc : Nat) (cl : List CallV) (Sc : Hp) (hc : OwnS Ecall 3 204 (.slice ca cl.length cc) cl Sc) (hle : cl.length ≤ 4294967296) (hsum : 0 ≤ sum ∧ sum ≤ 1152921504606846976) (a : Option Addr) (c : Nat) (b : List UInt8) (Sb : Hp) (hb : OwnS Eb 1 5 (.slice a b.length c) b Sb) (ga : Option Addr) (gc : Nat) (gl : List (Sl UInt8)) (Sg : Hp) (hg : OwnS Esl 1 40 (.slice ga gl.length gc) gl Sg) (hgl : gl.length ≤ 4294967296) : HL.Fn Tryd.prog 95 [.pointer (some ⟨bs, 0, none⟩), .int .i64 1, .string n, .slice a b.length c] (fun _ => True) ((bs, .cells [x0, x1, x2, x3, x4, x5, x6, x7, x8, x9, x10, x11, .bool false, x13, x14, x15, x16, x17, .int .i64 sum, x19, x20, .slice ca cl.length cc, .slice ga gl.length gc, x23, x24].toArray 43 (0, 0)) :: (Sc ++ (Sg ++ Sb))) (fun v S' => v = .tuple #[] ∧ ∃ a' c' ca' cc' Sc' Sx ga' gc' Sg', S' = (bs, .cells [x0, x1, x2, x3, x4, x5, x6, x7, x8, x9, x10, x11, .bool false, x13, x14, x15, x16, x17, .int .i64 (sum + 1 + b.length), x19, x20, .slice ca' (cl ++ [(⟨1, n, ⟨a', c', b⟩⟩ : CallV)]).length cc', .slice ga' (gl ++ [(⟨a, c, b⟩ : Sl UInt8)]).length gc', x23, x24].toArray 43 (0, 0)) :: (Sc' ++ (Sx ++ (Sg' ++ Sb))) ∧ OwnS Ecall 3 204 (.slice ca' (cl ++ [(⟨1, n, ⟨a', c', b⟩⟩ : CallV)]).length cc') (cl ++ [(⟨1, n, ⟨a', c', b⟩⟩ : CallV)]) Sc' ∧ OwnS Eb 1 5 (.slice a' b.length c') b Sx ∧ OwnS Esl 1 40 (.slice ga' (gl ++ [(⟨a, c, b⟩ : Sl UInt8)]).length gc') (gl ++ [(⟨a, c, b⟩ : Sl UInt8)]) Sg') := by
  refine fn_of Tryd.func95 rfl rfl rfl fun w0 hw => ?_
  have hbs := hb.sl
  have hbl := hbs.le
  refine c_seq fun _ hK1 => ?_
  refine c_region ?_
  refine o_step rfl (s_move rfl) ?_
  refine o_step rfl (s_move rfl) ?_
  refine o_step rfl (s_nil rfl) ?_
  refine o_step rfl (s_field rfl rfl (by decide)) ?_
  refine o_step rfl (s_ld rfl (.own meA rfl)) ?_
  refine o_step rfl (s_add rfl rfl (by omega)) ?_
  refine o_step rfl (s_move rfl) ?_
  refine o_step rfl (s_len rfl) ?_
  refine o_step rfl (s_add rfl rfl (by omega)) ?_
  refine o_step rfl (s_nil rfl) ?_
  refine o_step rfl (s_field rfl rfl (by decide)) ?_
  refine o_store rfl rfl rfl upA (by first | decide | omega | (simp; done) | (simp; omega)) rfl ?_
  refine o_nil ?_
  refine x_then (hK1 _ _ ?_)
  refine c_seq fun _ hK2 => ?_
  refine c_seq fun _ hK3 => ?_
  refine c_region ?_
  refine o_step rfl (s_move rfl) ?_
  refine o_step rfl (s_nil rfl) ?_
  refine o_step rfl (s_field rfl rfl (by decide)) ?_
  refine o_step rfl (s_ld rfl (.own meA rfl)) ?_
  refine o_nil ?_
  refine x_then (hK3 _ _ ?_)
  refine c_false rfl ?_
  refine c_skip ?_
  refine x_then (hK2 _ _ ?_)
  refine c_seq fun _ hK4 => ?_
  refine c_drawE ([(bs, .cells [x0, x1, x2, x3, x4, x5, x6, x7, x8, x9, x10, x11, .bool false, x13, x14, x15, x16, x17, .int .i64 (sum + 1 + b.length), x19, x20, .slice ca cl.length cc, .slice ga gl.length gc, x23, x24].toArray 43 (0, 0))]) (fun i => Nat.beq i 14) ?_
  refine e_take 0 rfl (by kernel_rfl) (by kernel_rfl) (by kernel_rfl) (by kernel_rfl) (fun _ _ => rfl) rfl hzB (s_move rfl) ?_
  refine e_take 1 rfl (by kernel_rfl) (by kernel_rfl) (by kernel_rfl) (by kernel_rfl) (fun _ _ => rfl) rfl hzB (s_move rfl) ?_
  refine e_take 2 rfl (by kernel_rfl) (by kernel_rfl) (by kernel_rfl) (by kernel_rfl) (fun _ _ => rfl) rfl hzB (s_nil rfl) ?_
  refine e_take 3 rfl (by kernel_rfl) (by kernel_rfl) (by kernel_rfl) (by kernel_rfl) (fun _ _ => rfl) rfl hzB (s_field rfl rfl (by decide)) ?_
  refine e_take 4 rfl (by kernel_rfl) (by kernel_rfl) (by kernel_rfl) (by kernel_rfl) (fun _ _ => rfl) rfl hzB (s_ld rfl (.own meA rfl)) ?_
  refine e_take 5 rfl (by kernel_rfl) (by kernel_rfl) (by kernel_rfl) (by kernel_rfl) (fun _ _ => rfl) rfl hzB (s_move rfl) ?_
  refine e_take 6 rfl (by kernel_rfl) (by kernel_rfl) (by kernel_rfl) (by kernel_rfl) (fun _ _ => rfl) rfl hzB (s_move rfl) ?_
  refine e_take 7 rfl (by kernel_rfl) (by kernel_rfl) (by kernel_rfl) (by kernel_rfl) (fun _ _ => rfl) rfl hzB (s_move rfl) ?_
  refine e_one 8 rfl (by kernel_rfl) ?_
  refine o_call (copy_fn a c b) rfl rfl rfl (by exact .nil) (fun w st => (hb.rdk hiA).out w st) (fun v31 S31 ⟨a31, c31, hv31, hS31⟩ => ?_)
  subst hv31
  refine o_nil ?_
  refine x_oneS hzB ?_
  refine e_one 9 rfl (by kernel_rfl) ?_
  refine o_step rfl (s_build (cs := [_, _, _]) (vs := [_, _, _]) rfl rfl (.cons rfl rfl rfl rfl rfl (.cons rfl rfl rfl rfl rfl (.cons rfl rfl rfl rfl rfl (.nil))))) ?_
  refine o_nil ?_
  refine x_oneS hzB ?_
  refine e_one 10 rfl (by kernel_rfl) ?_
  refine o_bs (E := Ecall) (xs := [(⟨1, n, ⟨a31, c31, b⟩⟩ : CallV)]) (vs := [_]) rfl rfl rfl rfl rfl (by decide) (by decide) fun b33 S33 hS33 => ?_
  refine o_nil ?_
  refine x_oneS hzB ?_
  refine e_one 11 rfl (by kernel_rfl) ?_
  refine o_app hc (hS33.rdk hiA) rfl rfl rfl rfl (by show (cl.length + 1) * 48 ≤ _; omega) (by show cl.length + 1 ≤ _; omega) rfl pkA fun a34 c34 S34 hS34 => ?_
  refine o_nil ?_
  refine x_oneS hzB ?_
  refine e_one 12 rfl (by kernel_rfl) ?_
  refine o_step rfl (s_nil rfl) ?_
  refine o_nil ?_
  refine x_oneS hzB ?_
  refine e_one 13 rfl (by kernel_rfl) ?_
  refine o_step rfl (s_field rfl rfl (by decide)) ?_
  refine o_nil ?_
  refine x_oneS hzB ?_
  refine e_one 14 rfl (by kernel_rfl) ?_
  refine o_store rfl rfl rfl upA (by first | decide | omega | (simp; done) | (simp; omega)) rfl ?_
  refine o_nil ?_
  refine x_oneL rfl ?_
  refine e_done (by kernel_rfl) ?_
  refine x_then (hK4 _ _ ?_)
  refine c_seq fun _ hK5 => ?_
  refine c_region ?_
  refine o_step rfl (s_move rfl) ?_
  refine o_step rfl (s_eql_t rfl rfl (by decide)) ?_
  refine o_step rfl (s_move rfl) ?_
  refine o_no rfl rfl rfl rfl ?_
  refine o_no rfl rfl rfl rfl ?_
  refine o_step rfl (s_pick_t rfl rfl) ?_
  refine o_nil ?_
  refine x_then (hK5 _ _ ?_)
  refine c_true rfl ?_
  refine c_region ?_
  refine o_step rfl (s_move rfl) ?_
  refine o_step rfl (s_move rfl) ?_
  refine o_step rfl (s_nil rfl) ?_
  refine o_step rfl (s_field rfl rfl (by decide)) ?_
  refine o_step rfl (s_ld rfl (.own meA rfl)) ?_
  refine o_step rfl (s_move rfl) ?_
  refine o_bs (E := Esl) (xs := [(⟨a, c, b⟩ : Sl UInt8)]) (vs := [_]) rfl rfl rfl rfl rfl (by decide) (by decide) fun b49 S49 hS49 => ?_
  refine o_app hg (hS49.rdk hiA) rfl rfl rfl rfl (by show (gl.length + 1) * 24 ≤ _; omega) (by show gl.length + 1 ≤ _; omega) rfl pkA fun a50 c50 S50 hS50 => ?_
  refine o_step rfl (s_nil rfl) ?_
  refine o_step rfl (s_field rfl rfl (by decide)) ?_
  refine o_store rfl rfl rfl upA (by first | decide | omega | (simp; done) | (simp; omega)) rfl ?_
  refine o_nil ?_
  refine x_sub (Sub.refl _) (H' := (bs, .cells [x0, x1, x2, x3, x4, x5, x6, x7, x8, x9, x10, x11, .bool false, x13, x14, x15, x16, x17, .int .i64 (sum + 1 + b.length), x19, x20, .slice a34 (cl ++ [(⟨1, n, ⟨a31, c31, b⟩⟩ : CallV)]).length c34, .slice a50 (gl ++ [(⟨a, c, b⟩ : Sl UInt8)]).length c50, x23, x24].toArray 43 (0, 0)) :: (S34 ++ (S31 ++ (S50 ++ Sb)))) hzB ?_
  exact x_end rfl (.nil) (⟨rfl, _, _, _, _, _, _, _, _, _, rfl, hS34, hS31, hS50⟩)
theorem toldB_fn (bs : Nat) (x0 x1 x2 x3 x4 x8 x9 x10 x11 x12 x13 x14 x15 x16 x18 x19 x20 x21 x22 x23 x24 : Value) (fail err outs : Int) : HL.Fn Tryd.prog 98 [.pointer (some ⟨bs, 0, none⟩)] (fun w => RdP w bs 0 [x0, x1, x2, x3, x4, .int .i64 fail, .int .i64 err, .int .i64 0, x8, x9, x10, x11, x12, x13, x14, x15, x16, .int .i64 outs, x18, x19, x20, x21, x22, x23, x24]) [] (fun v _ => v = .int .i64 (if outs = fail then err else 0)) := by
  refine fn_of Tryd.func98 rfl rfl rfl fun w0 hw => ?_
  refine c_seq fun _ hK1 => ?_
  refine c_region ?_
  refine o_step rfl (s_assign rfl) ?_
  refine o_nil ?_
  refine x_then (hK1 _ _ ?_)
  refine c_seq fun _ hK2 => ?_
  refine c_seq fun _ hK3 => ?_
  refine c_quiet (by kernel_rfl) ?_
  refine .op rfl (s_move rfl) ?_
  refine .op rfl (s_nil rfl) ?_
  refine .op rfl (s_field rfl rfl (by decide)) ?_
  refine .op rfl (s_ld rfl ((RdPK.old0 hw).cel (j := 17) rfl rfl)) ?_
  refine .op rfl (s_move rfl) ?_
  refine .op rfl (s_nil rfl) ?_
  refine .op rfl (s_field rfl rfl (by decide)) ?_
  refine .op rfl (s_ld rfl ((RdPK.old0 hw).cel (j := 5) rfl rfl)) ?_
  refine .op rfl (s_eql rfl rfl) ?_
  refine .nil ?_
  refine x_then (hK3 _ _ ?_)
  refine c_if rfl (fun hq => ?_) (fun hq => ?_)
  ·
   refine c_seq fun _ hK4 => ?_
   refine c_region ?_
   refine o_step rfl (s_move rfl) ?_
   refine o_step rfl (s_nil rfl) ?_
   refine o_step rfl (s_field rfl rfl (by decide)) ?_
   refine o_step rfl (s_ld rfl ((RdPK.old0 hw).cel (j := 6) rfl rfl)) ?_
   refine o_step rfl (s_assign rfl) ?_
   refine o_nil ?_
   refine x_then (hK4 _ _ ?_)
   refine c_ret ?_
   refine x_then_ret (?_)
   exact x_ret rfl (.tmp rfl (.nil)) (by rw [if_pos hq]; rfl)
  ·
   refine c_skip ?_
   refine x_then (hK2 _ _ ?_)
   refine c_seq fun _ hK5 => ?_
   refine c_seq fun _ hK6 => ?_
   refine c_quiet (by kernel_rfl) ?_
   refine .op rfl (s_move rfl) ?_
   refine .op rfl (s_nil rfl) ?_
   refine .op rfl (s_field rfl rfl (by decide)) ?_
   refine .op rfl (s_ld rfl ((RdPK.old0 hw).cel (j := 7) rfl rfl)) ?_
   refine .op rfl (s_gtr_f rfl rfl (by decide)) ?_
   refine .op rfl (s_move rfl) ?_
   refine .no rfl rfl rfl rfl ?_
   refine .no rfl rfl rfl rfl ?_
   refine .no rfl rfl rfl rfl ?_
   refine .no rfl rfl rfl rfl ?_
   refine .no rfl rfl rfl rfl ?_
   refine .no rfl rfl rfl rfl ?_
   refine .no rfl rfl rfl rfl ?_
   refine .no rfl rfl rfl rfl ?_
   refine .no rfl rfl rfl rfl ?_
   refine .op rfl (s_pick_f rfl rfl) ?_
   refine .nil ?_
   refine x_then (hK6 _ _ ?_)
   refine c_false rfl ?_
   refine c_skip ?_
   refine x_then (hK5 _ _ ?_)
   refine c_seq fun _ hK7 => ?_
   refine c_region ?_
   refine o_step rfl (s_assign rfl) ?_
   refine o_nil ?_
   refine x_then (hK7 _ _ ?_)
   refine c_ret ?_
   refine ?_
   exact x_ret rfl (.tmp rfl (.nil)) (by rw [if_neg hq]; rfl)
theorem lendsB_fn (bs : Nat) (x0 x1 x2 x3 x4 x5 x6 x7 x8 x9 x10 x11 x13 x14 x15 x16 x17 x18 x19 x20 x21 x22 : Value) (la wa : Option Addr) (lc wc : Nat) (ll wl : List (Sl UInt8)) (Sn Sw : Hp) (hl : OwnS Esl 1 40 (.slice la ll.length lc) ll Sn) (hw1 : OwnS Esl 1 40 (.slice wa wl.length wc) wl Sw) (hll : ll.length ≤ 1000) (hwl : wl.length = ll.length) (a : Option Addr) (c : Nat) (b : List UInt8) (hbl : b.length ≤ 2147483647) : HL.Fn Tryd.prog 97 [.pointer (some ⟨bs, 0, none⟩), .slice a b.length c] (fun w => Rd Eb w (.slice a b.length c) b ∧ Apart (keys ((bs, .cells [x0, x1, x2, x3, x4, x5, x6, x7, x8, x9, x10, x11, .bool false, x13, x14, x15, x16, x17, x18, x19, x20, x21, x22, .slice la ll.length lc, .slice wa wl.length wc].toArray 43 (0, 0)) :: (Sn ++ Sw))) (.slice a b.length c)) ((bs, .cells [x0, x1, x2, x3, x4, x5, x6, x7, x8, x9, x10, x11, .bool false, x13, x14, x15, x16, x17, x18, x19, x20, x21, x22, .slice la ll.length lc, .slice wa wl.length wc].toArray 43 (0, 0)) :: (Sn ++ Sw)) (fun v S' => ∃ a' la' lc', ∃ ll' : List (Sl UInt8), ∃ wa' wc', ∃ wl' : List (Sl UInt8), ∃ Sn' Sw' Sx, v = .slice a' b.length (b.length + 64) ∧ S' = (bs, .cells [x0, x1, x2, x3, x4, x5, x6, x7, x8, x9, x10, x11, .bool false, x13, x14, x15, x16, x17, x18, x19, x20, x21, x22, .slice la' ll'.length lc', .slice wa' wl'.length wc'].toArray 43 (0, 0)) :: (Sn' ++ (Sw' ++ Sx)) ∧ (OwnS Esl 1 40 (.slice la' ll'.length lc') ll' Sn' ∧ OwnS Esl 1 40 (.slice wa' wl'.length wc') wl' Sw' ∧ ll'.length ≤ 1000 ∧ wl'.length = ll'.length) ∧ OwnS Eb 1 5 (.slice a' (wide b).length (b.length + 64)) (wide b) Sx ∧ ((ll' = ll ∧ wl' = wl) ∨ (ll' = ll ++ [⟨a', b.length + 64, b⟩] ∧ wl' = wl ++ [⟨a, c, b⟩]))) := by
  refine fn_of Tryd.func97 rfl rfl rfl fun w0 hw => ?_
  refine c_seq fun _ hK1 => ?_
  refine c_region ?_
  refine o_step rfl (s_assign rfl) ?_
  refine o_nil ?_
  refine x_then (hK1 _ _ ?_)
  refine c_seq fun _ hK2 => ?_
  refine c_region ?_
  refine o_step rfl (s_move rfl) ?_
  refine o_call (wideBytes_fn a c b hbl) rfl rfl rfl (by exact .nil) (fun w st => (RdK.old (κ := ⟨_, [], w0, _⟩) hw.1 hw.2).out w st) (fun v7 S7 ⟨a7, hv7, hS7⟩ => ?_)
  subst hv7
  refine o_step rfl (s_assign rfl) ?_
  refine o_nil ?_
  refine x_then (hK2 _ _ ?_)
  refine c_seq fun _ hK3 => ?_
  refine c_seq fun _ hK4 => ?_
  refine c_region ?_
  refine o_step rfl (s_move rfl) ?_
  refine o_step rfl (s_nil rfl) ?_
  refine o_step rfl (s_field rfl rfl (by decide)) ?_
  refine o_step rfl (s_ld rfl (.own meA rfl)) ?_
  refine o_step rfl (s_not rfl) ?_
  refine o_step rfl (s_move rfl) ?_
  refine o_yes rfl rfl ?_
  refine o_step rfl (s_move rfl) ?_
  refine o_yes rfl rfl ?_
  refine o_step rfl (s_nil rfl) ?_
  refine o_yes rfl rfl ?_
  refine o_step rfl (s_field rfl rfl (by decide)) ?_
  refine o_yes rfl rfl ?_
  refine o_step rfl (s_ld rfl (.own meA rfl)) ?_
  refine o_yes rfl rfl ?_
  refine o_step rfl (s_len rfl) ?_
  refine o_yes rfl rfl ?_
  refine o_step rfl (s_lss rfl rfl) ?_
  refine o_step rfl (s_pick_t rfl rfl) ?_
  refine o_nil ?_
  refine x_then (hK4 _ _ ?_)
  refine c_if rfl (fun h20 => ?_) (fun h20 => ?_)
  ·
   refine c_seq fun _ hK5 => ?_
   refine c_region ?_
   refine o_step rfl (s_move rfl) ?_
   refine o_step rfl (s_move rfl) ?_
   refine o_step rfl (s_nil rfl) ?_
   refine o_step rfl (s_field rfl rfl (by decide)) ?_
   refine o_step rfl (s_ld rfl (.own meA rfl)) ?_
   refine o_step rfl (s_move rfl) ?_
   refine o_bs (E := Esl) (xs := [(⟨a7, b.length + 64, b⟩ : Sl UInt8)]) (vs := [_]) rfl rfl rfl rfl rfl (by decide) (by decide) fun b27 S27 hS27 => ?_
   refine o_app hl (hS27.rdk hiA) rfl rfl rfl rfl (by show (ll.length + 1) * 24 ≤ _; omega) (by show ll.length + 1 ≤ _; omega) rfl pkA fun a28 c28 S28 hS28 => ?_
   refine o_step rfl (s_nil rfl) ?_
   refine o_step rfl (s_field rfl rfl (by decide)) ?_
   refine o_store rfl rfl rfl upA (by first | decide | omega | (simp; done) | (simp; omega)) rfl ?_
   refine o_nil ?_
   refine x_then (hK5 _ _ ?_)
   refine c_region ?_
   refine o_step rfl (s_move rfl) ?_
   refine o_step rfl (s_move rfl) ?_
   refine o_step rfl (s_nil rfl) ?_
   refine o_step rfl (s_field rfl rfl (by decide)) ?_
   refine o_step rfl (s_ld rfl (.own meA rfl)) ?_
   refine o_step rfl (s_move rfl) ?_
   refine o_bs (E := Esl) (xs := [(⟨a, c, b⟩ : Sl UInt8)]) (vs := [_]) rfl rfl rfl rfl rfl (by decide) (by decide) fun b37 S37 hS37 => ?_
   refine o_app hw1 (hS37.rdk hiA) rfl rfl rfl rfl (by show (wl.length + 1) * 24 ≤ _; omega) (by show wl.length + 1 ≤ _; omega) rfl pkA fun a38 c38 S38 hS38 => ?_
   refine o_step rfl (s_nil rfl) ?_
   refine o_step rfl (s_field rfl rfl (by decide)) ?_
   refine o_store rfl rfl rfl upA (by first | decide | omega | (simp; done) | (simp; omega)) rfl ?_
   refine o_nil ?_
   refine x_then (hK3 _ _ ?_)
   refine c_seq fun _ hK6 => ?_
   refine c_region ?_
   refine o_step rfl (s_move rfl) ?_
   refine o_step rfl (s_assign rfl) ?_
   refine o_nil ?_
   refine x_then (hK6 _ _ ?_)
   refine c_ret ?_
   refine ?_
   refine x_sub (Sub.refl _) (H' := (bs, .cells [x0, x1, x2, x3, x4, x5, x6, x7, x8, x9, x10, x11, .bool false, x13, x14, x15, x16, x17, x18, x19, x20, x21, x22, .slice a28 (ll ++ [(⟨a7, b.length + 64, b⟩ : Sl UInt8)]).length c28, .slice a38 (wl ++ [(⟨a, c, b⟩ : Sl UInt8)]).length c38].toArray 43 (0, 0)) :: (S28 ++ (S38 ++ S7))) hzB ?_
   exact x_ret rfl (.tmp rfl (.nil)) (⟨_, _, _, _, _, _, _, _, _, _, rfl, rfl, ⟨hS28, hS38, by simp; omega, by simp; omega⟩, hS7, .inr ⟨rfl, rfl⟩⟩)
  ·
   refine c_skip ?_
   refine x_then (hK3 _ _ ?_)
   refine c_seq fun _ hK7 => ?_
   refine c_region ?_
   refine o_step rfl (s_move rfl) ?_
   refine o_step rfl (s_assign rfl) ?_
   refine o_nil ?_
   refine x_then (hK7 _ _ ?_)
   refine c_ret ?_
   refine ?_
   refine x_sub (Sub.refl _) (H' := (bs, .cells [x0, x1, x2, x3, x4, x5, x6, x7, x8, x9, x10, x11, .bool false, x13, x14, x15, x16, x17, x18, x19, x20, x21, x22, .slice la ll.length lc, .slice wa wl.length wc].toArray 43 (0, 0)) :: (Sn ++ (Sw ++ S7))) hzB ?_
   exact x_ret rfl (.tmp rfl (.nil)) (⟨_, _, _, _, _, _, _, _, _, _, rfl, rfl, ⟨hl, hw1, hll, hwl⟩, hS7, .inl ⟨rfl, rfl⟩⟩)
theorem wreadB_fn (bs : Nat) (x0 x1 x2 x5 x6 x7 x8 x9 x10 x11 x13 x14 x15 x16 x17 x19 x20 x22 : Value) (fa : Option Addr) (fc : Nat) (fs : List FileV) (Sf : Hp) (hf : OwnS Efile 3 115 (.slice fa fs.length fc) fs Sf) (hfb : ∀ f ∈ fs, f.b.xs.length ≤ 1048576) (ca : Option Addr) (cc : Nat) (cl : List CallV) (Sc : Hp) (hc : OwnS Ecall 3 204 (.slice ca cl.length cc) cl Sc) (hle : cl.length ≤ 4294967296) (sum : Int) (hsum : 0 ≤ sum ∧ sum ≤ 1152921504606846976) (la wa : Option Addr) (lc wc : Nat) (ll wl : List (Sl UInt8)) (Sn Sw : Hp) (hl : OwnS Esl 1 40 (.slice la ll.length lc) ll Sn) (hw1 : OwnS Esl 1 40 (.slice wa wl.length wc) wl Sw) (hll : ll.length ≤ 1000) (hwl : wl.length = ll.length) (n : ByteArray) : HL.Fn Tryd.prog 83 [.pointer (some ⟨bs, 0, none⟩), .string n] (OldL (fs.map FileV.b) ((bs, .cells [x0, x1, x2, .pointer none, .slice fa fs.length fc, x5, x6, x7, x8, x9, x10, x11, .bool false, x13, x14, x15, x16, x17, .int .i64 sum, x19, x20, .slice ca cl.length cc, x22, .slice la ll.length lc, .slice wa wl.length wc].toArray 43 (0, 0)) :: (Sf ++ (Sc ++ (Sn ++ Sw))))) ((bs, .cells [x0, x1, x2, .pointer none, .slice fa fs.length fc, x5, x6, x7, x8, x9, x10, x11, .bool false, x13, x14, x15, x16, x17, .int .i64 sum, x19, x20, .slice ca cl.length cc, x22, .slice la ll.length lc, .slice wa wl.length wc].toArray 43 (0, 0)) :: (Sf ++ (Sc ++ (Sn ++ Sw)))) (fun v S' => ∃ a' c' a2 c2 ca' cc' Sc' la' lc', ∃ ll' : List (Sl UInt8), ∃ wa' wc', ∃ wl' : List (Sl UInt8), ∃ Sn' Sw' Sx Sy, v = .slice a' (look fs n).length c' ∧ S' = (bs, .cells [x0, x1, x2, .pointer none, .slice fa fs.length fc, x5, x6, x7, x8, x9, x10, x11, .bool false, x13, x14, x15, x16, x17, .int .i64 (sum + 1 + ([] : List UInt8).length), x19, x20, .slice ca' (cl ++ [(⟨3, n, ⟨a2, c2, []⟩⟩ : CallV)]).length cc', x22, .slice la' ll'.length lc', .slice wa' wl'.length wc'].toArray 43 (0, 0)) :: (Sf ++ (Sc' ++ (Sn' ++ (Sw' ++ (Sx ++ Sy))))) ∧ (OwnS Esl 1 40 (.slice la' ll'.length lc') ll' Sn' ∧ OwnS Esl 1 40 (.slice wa' wl'.length wc') wl' Sw' ∧ ll'.length ≤ 1000 ∧ wl'.length = ll'.length) ∧ OwnS Ecall 3 204 (.slice ca' (cl ++ [(⟨3, n, ⟨a2, c2, []⟩⟩ : CallV)]).length cc') (cl ++ [(⟨3, n, ⟨a2, c2, []⟩⟩ : CallV)]) Sc' ∧ RdS Eb (.slice a2 ([] : List UInt8).length c2) [] Sx ∧ RdS Eb (.slice a' (look fs n).length c') (look fs n) Sy ∧ LStep fs (look fs n) ll wl ll' wl' a' Sy) := by
  refine fn_of Tryd.func83 rfl rfl rfl fun w0 hw => ?_
  have hsf := hf.sl
  have hbf := hsf.le
  refine c_seq fun _ hK1 => ?_
  refine c_region ?_
  refine o_step rfl (s_assign rfl) ?_
  refine o_nil ?_
  refine x_then (hK1 _ _ ?_)
  refine c_seq fun _ hK2 => ?_
  refine c_region ?_
  refine o_step rfl (s_move rfl) ?_
  refine o_step rfl (s_move rfl) ?_
  refine o_call (note3B_fn bs (x0) (x1) (x2) (.pointer none) (.slice fa fs.length fc) (x5) (x6) (x7) (x8) (x9) (x10) (x11) (x13) (x14) (x15) (x16) (x17) (x19) (x20) (x22) (.slice la ll.length lc) (.slice wa wl.length wc) sum n ca cc cl Sc hc hle hsum none 0 [] [] .nil) rfl rfl rfl (by exact Pick.takeC pkA (Pick.takeA pkA .nil)) (fun _ _ => trivial) (fun v10 S10 ⟨hv10, a10, c10, a10c, c10c, Sc10, Sx10, hS10, hc10, hx10⟩ => ?_)
  subst hv10
  subst hS10
  refine o_nil ?_
  refine x_then (hK2 _ _ ?_)
  refine c_seq fun _ hK3 => ?_
  refine c_seq fun _ hK4 => ?_
  refine c_region ?_
  refine o_step rfl (s_move rfl) ?_
  refine o_step rfl (s_nil rfl) ?_
  refine o_step rfl (s_field rfl rfl (by decide)) ?_
  refine o_step rfl (s_ld rfl (.own meA rfl)) ?_
  refine o_step rfl (step_cast (v' := .bool false) (s_neq_nilp rfl rfl) rfl) ?_
  refine o_nil ?_
  refine x_then (hK4 _ _ ?_)
  refine c_false rfl ?_
  refine c_skip ?_
  refine x_then (hK3 _ _ ?_)
  refine c_seq fun _ hK5 => ?_
  refine c_seq fun _ hK6 => ?_
  refine c_region ?_
  refine o_step rfl (s_move rfl) ?_
  refine o_step rfl (s_nil rfl) ?_
  refine o_step rfl (s_field rfl rfl (by decide)) ?_
  refine o_step rfl (s_ld rfl (.own meA rfl)) ?_
  refine o_step rfl (s_len rfl) ?_
  refine o_step rfl (s_sub rfl rfl (by omega)) ?_
  refine o_step rfl (s_assign rfl) ?_
  refine o_nil ?_
  refine x_then (hK6 _ _ ?_)
  refine c_block ?_
  -- not carried: 4
  refine c_loopB (fun (m : Nat) => m ≤ fs.length ∧ look fs n = look (fs.take m) n) (fun (m : Nat) => [(7, .int .i64 ((m : Int) - 1))]) [(0, _), (1, _)] (fun (m : Nat) => (bs, .cells [x0, x1, x2, .pointer none, .slice fa fs.length fc, x5, x6, x7, x8, x9, x10, x11, .bool false, x13, x14, x15, x16, x17, .int .i64 (sum + 1 + ([] : List UInt8).length), x19, x20, .slice a10c (cl ++ [(⟨3, n, ⟨a10, c10, []⟩⟩ : CallV)]).length c10c, x22, .slice la ll.length lc, .slice wa wl.length wc].toArray 43 (0, 0)) :: (Sf ++ (Sc10 ++ (Sx10 ++ (Sn ++ Sw))))) (fun (m : Nat) => m) fs.length ⟨by omega, by rw [List.take_length]⟩ sbA sbA hzB ?_
  rintro m ⟨hm, hlk⟩
  refine c_seq fun _ hK7 => ?_
  refine c_seq fun _ hK8 => ?_
  refine c_region ?_
  refine o_step rfl (s_move rfl) ?_
  refine o_step rfl (s_geq rfl rfl) ?_
  refine o_nil ?_
  refine x_then (hK8 _ _ ?_)
  refine c_if rfl (fun hlt => ?_) (fun hlt => ?_)
  ·
   obtain ⟨j, rfl⟩ : ∃ j, m = j + 1 := ⟨m - 1, by omega⟩
   have hj : j < fs.length := by omega
   refine c_skip ?_
   refine x_then (hK7 _ _ ?_)
   refine c_seq fun _ hK9 => ?_
   refine c_block ?_
   refine c_seq fun _ hK10 => ?_
   refine c_region ?_
   refine o_step rfl (s_move rfl) ?_
   refine o_step rfl (s_nil rfl) ?_
   refine o_step rfl (s_field rfl rfl (by decide)) ?_
   refine o_step rfl (s_ld rfl (.own meA rfl)) ?_
   refine o_step rfl (s_move rfl) ?_
   refine o_step rfl (s_idx rfl rfl (by assumption) (by omega)) ?_
   refine o_step rfl (s_field rfl rfl (by decide)) ?_
   refine o_step rfl (s_ld rfl ((hf.rdk hiA).ld j 0 (gd_get (d := fz) (by omega)) rfl (by decide) (by omega))) ?_
   refine o_step rfl (s_move rfl) ?_
   refine o_step rfl (s_eql_str rfl rfl) ?_
   refine o_nil ?_
   refine x_then (hK10 _ _ ?_)
   refine c_if rfl (fun hne => ?_) (fun hne => ?_)
   ·
    have e : look fs n = (fs.getD j fz).b.xs := by rw [hlk, look_take hj, if_pos hne]
    refine c_seq fun _ hK11 => ?_
    refine c_region ?_
    refine o_step rfl (s_move rfl) ?_
    refine o_step rfl (s_move rfl) ?_
    refine o_step rfl (s_nil rfl) ?_
    refine o_step rfl (s_field rfl rfl (by decide)) ?_
    refine o_step rfl (s_ld rfl (.own meA rfl)) ?_
    refine o_step rfl (s_move rfl) ?_
    refine o_step rfl (s_idx rfl rfl (by assumption) (by omega)) ?_
    refine o_step rfl (s_field rfl rfl (by decide)) ?_
    refine o_step rfl (s_ld rfl ((hf.rdk hiA).ld j 1 (gd_get (d := fz) (by omega)) rfl (by decide) (by omega))) ?_
    refine o_call (lendsB_fn bs (x0) (x1) (x2) (.pointer none) (.slice fa fs.length fc) (x5) (x6) (x7) (x8) (x9) (x10) (x11) (x13) (x14) (x15) (x16) (x17) (.int .i64 (sum + 1 + ([] : List UInt8).length)) (x19) (x20) (.slice a10c (cl ++ [(⟨3, n, ⟨a10, c10, []⟩⟩ : CallV)]).length c10c) (x22) la wa lc wc ll wl Sn Sw hl hw1 hll hwl (fs.getD j fz).b.a (fs.getD j fz).b.c (fs.getD j fz).b.xs (by have := hfb _ (gd_mem (d := fz) hj); omega)) rfl rfl rfl ((Pick.takeC pkA (Pick.takeA pkA pkA))) (fun w st => OldL.st hw st (hin_sub hzB) _ (List.mem_map_of_mem (gd_mem (d := fz) hj))) (fun v57 S57 ⟨a57, la57, lc57, ll57, wa57, wc57, wl57, Sn57, Sw57, Sx57, hv57, hS57, hlp57, hO57, hst57⟩ => ?_)
    subst hv57
    subst hS57
    refine o_step rfl (s_assign rfl) ?_
    refine o_nil ?_
    refine x_then (hK11 _ _ ?_)
    refine c_ret ?_
    refine x_block_ret (x_then_ret (x_then_ret (x_block_ret (x_then_ret (?_)))))
    refine x_sub (Sub.refl _) (H' := (bs, .cells [x0, x1, x2, .pointer none, .slice fa fs.length fc, x5, x6, x7, x8, x9, x10, x11, .bool false, x13, x14, x15, x16, x17, .int .i64 (sum + 1 + ([] : List UInt8).length), x19, x20, .slice a10c (cl ++ [(⟨3, n, ⟨a10, c10, []⟩⟩ : CallV)]).length c10c, x22, .slice la57 ll57.length lc57, .slice wa57 wl57.length wc57].toArray 43 (0, 0)) :: (Sf ++ (Sc10 ++ (Sn57 ++ (Sw57 ++ (Sx10 ++ Sx57)))))) hzB ?_
    exact x_ret rfl (.tmp rfl (.nil)) (by simp only [e]; exact ⟨_, _, _, _, _, _, _, _, _, _, _, _, _, _, _, _, _, rfl, rfl, hlp57, hc10, hx10.rds, wide_pre hO57, hst57.imp id fun h => ⟨_, ⟨_, gd_mem (d := fz) hj, rfl⟩, rfl, h.1, h.2, hO57⟩⟩)
   ·
    refine c_skip ?_
    refine x_block ?_
    refine x_then (hK9 _ _ ?_)
    refine c_region ?_
    refine o_step rfl (s_move rfl) ?_
    refine o_step rfl (step_cast (v' := .int .i64 ((j : Int) - 1)) (s_sub rfl rfl (by omega)) (congrArg (Value.int .i64) (by omega))) ?_
    refine o_step rfl (s_assign rfl) ?_
    refine o_nil ?_
    exact x_then (x_inv j ⟨by omega, by rw [hlk, look_take hj, if_neg hne]⟩ (by omega) sbA hzB)
  ·
   have hm0 : m = 0 := by omega
   subst hm0
   have e0 : look fs n = [] := hlk
   refine c_exit ?_
   refine x_then_exit ?_
   refine x_then_exit ?_
   refine x_block_exit ?_
   refine x_then (hK5 _ _ ?_)
   refine c_seq fun _ hK12 => ?_
   refine c_region ?_
   refine o_step rfl (s_assign rfl) ?_
   refine o_nil ?_
   refine x_then (hK12 _ _ ?_)
   refine c_ret ?_
   refine ?_
   refine x_sub (Sub.refl _) (H' := (bs, .cells [x0, x1, x2, .pointer none, .slice fa fs.length fc, x5, x6, x7, x8, x9, x10, x11, .bool false, x13, x14, x15, x16, x17, .int .i64 (sum + 1 + ([] : List UInt8).length), x19, x20, .slice a10c (cl ++ [(⟨3, n, ⟨a10, c10, []⟩⟩ : CallV)]).length c10c, x22, .slice la ll.length lc, .slice wa wl.length wc].toArray 43 (0, 0)) :: (Sf ++ (Sc10 ++ (Sn ++ (Sw ++ Sx10))))) hzB ?_
   exact x_ret rfl (.tmp rfl (.nil)) (by simp only [e0]; exact ⟨none, 0, _, _, _, _, _, _, _, _, _, _, _, _, _, _, [], rfl, by rw [List.append_nil], ⟨hl, hw1, hll, hwl⟩, hc10, hx10.rds, RdS.nil, .inl ⟨rfl, rfl⟩⟩)
theorem rqText_fn (br : Nat) (ia : Option Addr) (ic : Nat) (il : List RI) (SI : Hp) (hi : OwnS Eri 3 131 (.slice ia il.length ic) il SI) (hil : il.length ≤ 4294967295) (a : Option Addr) (c : Nat) (b : List UInt8) (hb : b.length ≤ 140737488355328) : HL.Fn Tryd.prog 41 [.pointer (some ⟨br, 0, none⟩), .slice a b.length c] (fun w => Rd Eb w (.slice a b.length c) b ∧ Apart (keys ((br, .cells [.slice ia il.length ic].toArray 112 (0, 0)) :: SI)) (.slice a b.length c)) ((br, .cells [.slice ia il.length ic].toArray 112 (0, 0)) :: SI) (fun v S' => v = .tuple #[] ∧ ∃ ia' ic' a' c' SI' St, S' = (br, .cells [.slice ia' (il ++ [(⟨false, ⟨#[]⟩, ⟨a', c', b⟩⟩ : RI)]).length ic'].toArray 112 (0, 0)) :: (SI' ++ St) ∧ OwnS Eri 3 131 (.slice ia' (il ++ [(⟨false, ⟨#[]⟩, ⟨a', c', b⟩⟩ : RI)]).length ic') (il ++ [(⟨false, ⟨#[]⟩, ⟨a', c', b⟩⟩ : RI)]) SI' ∧ OwnS Eb 1 5 (.slice a' b.length c') b St) := by
  refine fn_of Tryd.func41 rfl rfl rfl fun w0 hw => ?_
  refine c_seq fun _ hK1 => ?_
  refine c_region ?_
  refine o_step rfl (s_assign rfl) ?_
  refine o_nil ?_
  refine x_then (hK1 _ _ ?_)
  refine c_seq fun _ hK2 => ?_
  refine c_region ?_
  refine o_step rfl (s_move rfl) ?_
  refine o_step rfl (s_move rfl) ?_
  refine o_app (OwnS.nil : OwnS Eb 1 5 (.slice none 0 0) [] []) (RdK.old (κ := ⟨_, [], w0, _⟩) hw.1 hw.2) rfl rfl rfl rfl (by simp; omega) (by simp; omega) rfl (by exact .nil) fun a7 c7 S7 hS7 => ?_
  rw [List.nil_append] at hS7
  rw [List.nil_append]
  refine o_step rfl (s_assign rfl) ?_
  refine o_nil ?_
  refine x_then (hK2 _ _ ?_)
  refine c_seq fun _ hK3 => ?_
  refine c_region ?_
  refine o_step rfl (s_move rfl) ?_
  refine o_step rfl (step_cast (v' := .bool true) (s_neq_nilp rfl rfl) rfl) ?_
  refine o_nil ?_
  refine x_then (hK3 _ _ ?_)
  refine c_true rfl ?_
  refine c_region ?_
  refine o_step rfl (s_move rfl) ?_
  refine o_step rfl (s_move rfl) ?_
  refine o_step rfl (s_nil rfl) ?_
  refine o_step rfl (s_field rfl rfl (by decide)) ?_
  refine o_step rfl (s_ld rfl (.own meA rfl)) ?_
  refine o_step rfl (s_move rfl) ?_
  refine o_step rfl (step_cast (v' := .agg (Eri (⟨false, ⟨#[]⟩, ⟨a7, c7, b⟩⟩ : RI)).toArray) (s_build (cs := [_, _, _]) (vs := [_]) rfl rfl (.cons rfl rfl rfl rfl rfl (.nil))) rfl) ?_
  refine o_bs (E := Eri) (xs := [(⟨false, ⟨#[]⟩, ⟨a7, c7, b⟩⟩ : RI)]) (vs := [_]) rfl rfl rfl rfl rfl (by decide) (by decide) fun b17 S17 hS17 => ?_
  refine o_app hi (hS17.rdk hiA) rfl rfl rfl rfl (by show (il.length + 1) * 48 ≤ _; omega) (by show il.length + 1 ≤ _; omega) rfl pkA fun a18 c18 S18 hS18 => ?_
  refine o_step rfl (s_nil rfl) ?_
  refine o_step rfl (s_field rfl rfl (by decide)) ?_
  refine o_store rfl rfl rfl upA (by first | decide | omega | (simp; done) | (simp; omega)) rfl ?_
  refine o_nil ?_
  refine x_sub (Sub.refl _) (H' := (br, .cells [.slice a18 (il ++ [(⟨false, ⟨#[]⟩, ⟨a7, c7, b⟩⟩ : RI)]).length c18].toArray 112 (0, 0)) :: (S18 ++ S7)) hzB ?_
  exact x_end rfl (.nil) (⟨rfl, _, _, _, _, _, _, rfl, hS18, hS7⟩)
theorem rqFile_fn (br : Nat) (ia : Option Addr) (ic : Nat) (il : List RI) (SI : Hp) (hi : OwnS Eri 3 131 (.slice ia il.length ic) il SI) (hil : il.length ≤ 4294967295) (n : ByteArray) : HL.Fn Tryd.prog 44 [.pointer (some ⟨br, 0, none⟩), .string n] (fun _ => True) ((br, .cells [.slice ia il.length ic].toArray 112 (0, 0)) :: SI) (fun v S' => v = .tuple #[] ∧ ∃ ia' ic' SI', S' = (br, .cells [.slice ia' (il ++ [(⟨true, n, ⟨none, 0, []⟩⟩ : RI)]).length ic'].toArray 112 (0, 0)) :: SI' ∧ OwnS Eri 3 131 (.slice ia' (il ++ [(⟨true, n, ⟨none, 0, []⟩⟩ : RI)]).length ic') (il ++ [(⟨true, n, ⟨none, 0, []⟩⟩ : RI)]) SI') := by
  refine fn_of Tryd.func44 rfl rfl rfl fun w0 hw => ?_
  refine c_seq fun _ hK1 => ?_
  refine c_region ?_
  refine o_step rfl (s_move rfl) ?_
  refine o_step rfl (step_cast (v' := .bool true) (s_neq_nilp rfl rfl) rfl) ?_
  refine o_nil ?_
  refine x_then (hK1 _ _ ?_)
  refine c_true rfl ?_
  refine c_region ?_
  refine o_step rfl (s_move rfl) ?_
  refine o_step rfl (s_move rfl) ?_
  refine o_step rfl (s_nil rfl) ?_
  refine o_step rfl (s_field rfl rfl (by decide)) ?_
  refine o_step rfl (s_ld rfl (.own meA rfl)) ?_
  refine o_step rfl (s_move rfl) ?_
  refine o_step rfl (step_cast (v' := .agg (Eri (⟨true, n, ⟨none, 0, []⟩⟩ : RI)).toArray) (s_build (cs := [_, _, _]) (vs := [_, _]) rfl rfl (.cons rfl rfl rfl rfl rfl (.cons rfl rfl rfl rfl rfl (.nil)))) rfl) ?_
  refine o_bs (E := Eri) (xs := [(⟨true, n, ⟨none, 0, []⟩⟩ : RI)]) (vs := [_]) rfl rfl rfl rfl rfl (by decide) (by decide) fun b13 S13 hS13 => ?_
  refine o_app hi (hS13.rdk hiA) rfl rfl rfl rfl (by show (il.length + 1) * 48 ≤ _; omega) (by show il.length + 1 ≤ _; omega) rfl pkA fun a14 c14 S14 hS14 => ?_
  refine o_step rfl (s_nil rfl) ?_
  refine o_step rfl (s_field rfl rfl (by decide)) ?_
  refine o_store rfl rfl rfl upA (by first | decide | omega | (simp; done) | (simp; omega)) rfl ?_
  refine o_nil ?_
  refine x_sub (Sub.refl _) (H' := (br, .cells [.slice a14 (il ++ [(⟨true, n, ⟨none, 0, []⟩⟩ : RI)]).length c14].toArray 112 (0, 0)) :: S14) hzB ?_
  exact x_end rfl (.nil) (⟨rfl, _, _, _, rfl, hS14⟩)
theorem rqLen_fn (br : Nat) (ia : Option Addr) (n ic : Nat) : HL.Fn Tryd.prog 46 [.pointer (some ⟨br, 0, none⟩)] (fun w => RdP w br 0 [.slice ia n ic]) [] (fun v _ => v = .int .i64 n) := by
  refine fn_of Tryd.func46 rfl rfl rfl fun w0 hw => ?_
  refine c_seq fun _ hK1 => ?_
  refine c_region ?_
  refine o_step rfl (s_assign rfl) ?_
  refine o_nil ?_
  refine x_then (hK1 _ _ ?_)
  refine c_seq fun _ hK2 => ?_
  refine c_seq fun _ hK3 => ?_
  refine c_region ?_
  refine o_step rfl (s_move rfl) ?_
  refine o_step rfl (step_cast (v' := .bool false) (s_eql_nilp rfl rfl) rfl) ?_
  refine o_nil ?_
  refine x_then (hK3 _ _ ?_)
  refine c_false rfl ?_
  refine c_skip ?_
  refine x_then (hK2 _ _ ?_)
  refine c_seq fun _ hK4 => ?_
  refine c_region ?_
  refine o_step rfl (s_move rfl) ?_
  refine o_step rfl (s_nil rfl) ?_
  refine o_step rfl (s_field rfl rfl (by decide)) ?_
  refine o_step rfl (s_ld rfl ((RdPK.old0 hw).cel (j := 0) rfl rfl)) ?_
  refine o_step rfl (s_len rfl) ?_
  refine o_step rfl (s_assign rfl) ?_
  refine o_nil ?_
  refine x_then (hK4 _ _ ?_)
  refine c_ret ?_
  refine ?_
  exact x_ret rfl (.tmp rfl (.nil)) (rfl)
theorem rqNew_fn  : HL.Fn Tryd.prog 8 [] (fun _ => True) [] (fun v S' => ∃ br, v = .pointer (some ⟨br, 0, none⟩) ∧ S' = [(br, .cells [.slice none 0 0].toArray 112 (0, 0))]) := by
  refine fn_of Tryd.func8 rfl rfl rfl fun w0 hw => ?_
  refine c_seq fun _ hK1 => ?_
  refine c_region ?_
  refine o_step rfl (s_assign rfl) ?_
  refine o_nil ?_
  refine x_then (hK1 _ _ ?_)
  refine c_seq fun _ hK2 => ?_
  refine c_region ?_
  refine o_step rfl (step_cast (v' := .agg [.slice none 0 0].toArray) (s_build (cs := [_]) (vs := []) rfl rfl .nil) rfl) ?_
  refine o_box rfl rfl rfl fun b2 => ?_
  refine o_step rfl (s_assign rfl) ?_
  refine o_nil ?_
  refine x_then (hK2 _ _ ?_)
  refine c_ret ?_
  refine ?_
  exact x_ret rfl (.tmp rfl (.nil)) (⟨_, rfl, rfl⟩)
set_option maxHeartbeats 1000000 in
theorem woutQ_fn (bs : Nat) (x0 x1 x3 x4 x14 x15 x16 x20 x23 x24 : Value) (aa : Option Addr) (ac : Nat) (al : List UInt8) (Sa : Hp) (ha : OwnS Eb 1 5 (.slice aa al.length ac) al Sa) (ga : Option Addr) (gc : Nat) (gl : List (Sl UInt8)) (Sg : Hp) (hg : OwnS Esl 1 40 (.slice ga gl.length gc) gl Sg) (hgl : gl.length ≤ 4294967296) (fail err outs : Int) (hout : 0 ≤ outs ∧ outs ≤ 1152921504606846976) (ca : Option Addr) (cc : Nat) (cl : List CallV) (Sc : Hp) (hc : OwnS Ecall 3 204 (.slice ca cl.length cc) cl Sc) (hle : cl.length ≤ 4294967296) (sum : Int) (hsum : 0 ≤ sum ∧ sum ≤ 1152921504606846976) (a : Option Addr) (c : Nat) (b : List UInt8) (Sb : Hp) (hb : OwnS Eb 1 5 (.slice a b.length c) b Sb) (hal : al.length + b.length ≤ 140737488355328) (br : Nat) (dur : Int) (Ba : Option Addr) (Bc : Nat) (B : List UInt8) (N : ByteArray) (ia : Option Addr) (ic : Nat) (il : List RI) (SI : Hp) (hi : OwnS Eri 3 131 (.slice ia il.length ic) il SI) (hil : il.length ≤ 4294967290) (hBl : B.length ≤ 1048576) : HL.Fn Tryd.prog 84 [.pointer (some ⟨bs, 0, none⟩), .slice a b.length c] (fun w => Rd Eb w (.slice Ba B.length Bc) B ∧ Apart (keys ((bs, .cells [x0, x1, .pointer none, x3, x4, .int .i64 fail, .int .i64 err, .int .i64 0, .int .i64 dur, .pointer (some ⟨br, 0, none⟩), .slice Ba B.length Bc, .string N, .bool false, .bool false, x14, x15, x16, .int .i64 outs, .int .i64 sum, .slice aa al.length ac, x20, .slice ca cl.length cc, .slice ga gl.length gc, x23, x24].toArray 43 (0, 0)) :: (br, .cells [.slice ia il.length ic].toArray 112 (0, 0)) :: (Sa ++ (Sc ++ (Sg ++ (SI ++ Sb)))))) (.slice Ba B.length Bc)) ((bs, .cells [x0, x1, .pointer none, x3, x4, .int .i64 fail, .int .i64 err, .int .i64 0, .int .i64 dur, .pointer (some ⟨br, 0, none⟩), .slice Ba B.length Bc, .string N, .bool false, .bool false, x14, x15, x16, .int .i64 outs, .int .i64 sum, .slice aa al.length ac, x20, .slice ca cl.length cc, .slice ga gl.length gc, x23, x24].toArray 43 (0, 0)) :: (br, .cells [.slice ia il.length ic].toArray 112 (0, 0)) :: (Sa ++ (Sc ++ (Sg ++ (SI ++ Sb))))) (fun v S' => v = .int .i64 (if outs + 1 = fail then err else 0) ∧ ∃ a1 c1 aa' ac' ca' cc' ga' gc' ia' ic', ∃ il' : List RI, ∃ Sa' Sc' Sg' SI' St Sx, S' = (bs, .cells [x0, x1, .pointer none, x3, x4, .int .i64 fail, .int .i64 err, .int .i64 0, .int .i64 dur, .pointer (some ⟨br, 0, none⟩), .slice Ba B.length Bc, .string N, .bool false, .bool false, x14, x15, x16, .int .i64 (outs + 1), .int .i64 (sum + 1 + b.length), .slice aa' (al ++ b).length ac', x20, .slice ca' (cl ++ [(⟨1, ⟨#[]⟩, ⟨a1, c1, b⟩⟩ : CallV)]).length cc', .slice ga' (gl ++ [(⟨a, c, b⟩ : Sl UInt8)]).length gc', x23, x24].toArray 43 (0, 0)) :: (br, .cells [.slice ia' il'.length ic'].toArray 112 (0, 0)) :: (Sa' ++ (Sc' ++ (Sg' ++ (SI' ++ (St ++ (Sx ++ Sb)))))) ∧ OwnS Eb 1 5 (.slice aa' (al ++ b).length ac') (al ++ b) Sa' ∧ OwnS Ecall 3 204 (.slice ca' (cl ++ [(⟨1, ⟨#[]⟩, ⟨a1, c1, b⟩⟩ : CallV)]).length cc') (cl ++ [(⟨1, ⟨#[]⟩, ⟨a1, c1, b⟩⟩ : CallV)]) Sc' ∧ OwnS Esl 1 40 (.slice ga' (gl ++ [(⟨a, c, b⟩ : Sl UInt8)]).length gc') (gl ++ [(⟨a, c, b⟩ : Sl UInt8)]) Sg' ∧ RdS Eb (.slice a1 b.length c1) b Sx ∧ OwnS Eri 3 131 (.slice ia' il'.length ic') il' SI' ∧ RPush (outs + 1 = dur) B N il il' St) := by
  refine fn_of Tryd.func84 rfl rfl rfl fun w0 hw => ?_
  refine c_seq fun _ hK1 => ?_
  refine c_region ?_
  refine o_step rfl (s_assign rfl) ?_
  refine o_nil ?_
  refine x_then (hK1 _ _ ?_)
  refine c_seq fun _ hK2 => ?_
  refine c_region ?_
  refine o_step rfl (s_move rfl) ?_
  refine o_step rfl (s_move rfl) ?_
  refine o_call (note1B_fn bs (x0) (x1) (.pointer none) (x3) (x4) (.int .i64 fail) (.int .i64 err) (.int .i64 0) (.int .i64 dur) (.pointer (some ⟨br, 0, none⟩)) (.slice Ba B.length Bc) (.string N) (.bool false) (x14) (x15) (x16) (.int .i64 outs) (.slice aa al.length ac) (x20) (x23) (x24) sum ⟨#[]⟩ ca cc cl Sc hc hle hsum a c b Sb hb ga gc gl Sg hg hgl) rfl rfl rfl ((Pick.takeC pkA (Pick.takeA pkA (Pick.takeA pkA pkA)))) (fun _ _ => trivial) (fun v7 S7 ⟨hv7, a7, c7, a7c, c7c, Sc7, Sx7, ga7, gc7, Sg7, hS7, hc7, hx7, hg7⟩ => ?_)
  subst hv7
  subst hS7
  refine o_nil ?_
  refine x_then (hK2 _ _ ?_)
  refine c_seq fun _ hK3 => ?_
  refine c_region ?_
  refine o_step rfl (s_move rfl) ?_
  refine o_step rfl (s_nil rfl) ?_
  refine o_step rfl (s_field rfl rfl (by decide)) ?_
  refine o_step rfl (s_ld rfl (.own meA rfl)) ?_
  refine o_step rfl (s_add rfl rfl (by omega)) ?_
  refine o_step rfl (s_nil rfl) ?_
  refine o_step rfl (s_field rfl rfl (by decide)) ?_
  refine o_store rfl rfl rfl upA (by first | decide | omega | (simp; done) | (simp; omega)) rfl ?_
  refine o_nil ?_
  refine x_then (hK3 _ _ ?_)
  refine c_seq fun _ hK4 => ?_
  refine c_seq fun _ hK5 => ?_
  refine c_region ?_
  refine o_step rfl (s_move rfl) ?_
  refine o_step rfl (s_nil rfl) ?_
  refine o_step rfl (s_field rfl rfl (by decide)) ?_
  refine o_step rfl (s_ld rfl (.own meA rfl)) ?_
  refine o_step rfl (step_cast (v' := .bool false) (s_neq_nilp rfl rfl) rfl) ?_
  refine o_nil ?_
  refine x_then (hK5 _ _ ?_)
  refine c_false rfl ?_
  refine c_skip ?_
  refine x_then (hK4 _ _ ?_)
  refine c_seq fun _ hK6 => ?_
  refine c_seq fun _ hK7 => ?_
  refine c_region ?_
  refine o_step rfl (s_move rfl) ?_
  refine o_step rfl (s_nil rfl) ?_
  refine o_step rfl (s_field rfl rfl (by decide)) ?_
  refine o_step rfl (s_ld rfl (.own meA rfl)) ?_
  refine o_step rfl (s_not rfl) ?_
  refine o_nil ?_
  refine x_then (hK7 _ _ ?_)
  refine c_true rfl ?_
  refine c_region ?_
  refine o_step rfl (s_move rfl) ?_
  refine o_step rfl (s_move rfl) ?_
  refine o_step rfl (s_nil rfl) ?_
  refine o_step rfl (s_field rfl rfl (by decide)) ?_
  refine o_step rfl (s_ld rfl (.own meA rfl)) ?_
  refine o_step rfl (s_move rfl) ?_
  refine o_app ha (hb.rdk hiA) rfl rfl rfl rfl (by omega) (by omega) rfl pkA fun a38 c38 S38 hS38 => ?_
  refine o_step rfl (s_nil rfl) ?_
  refine o_step rfl (s_field rfl rfl (by decide)) ?_
  refine o_store rfl rfl rfl upA (by first | decide | omega | (simp; done) | (simp; omega)) rfl ?_
  refine o_nil ?_
  refine x_then (hK6 _ _ ?_)
  refine c_seq fun _ hK8 => ?_
  refine c_seq fun _ hK9 => ?_
  refine c_drawE ([(bs, .cells [x0, x1, .pointer none, x3, x4, .int .i64 fail, .int .i64 err, .int .i64 0, .int .i64 dur, .pointer (some ⟨br, 0, none⟩), .slice Ba B.length Bc, .string N, .bool false, .bool false, x14, x15, x16, .int .i64 (outs + 1), .int .i64 (sum + 1 + b.length), .slice a38 (al ++ b).length c38, x20, .slice a7c (cl ++ [(⟨1, ⟨#[]⟩, ⟨a7, c7, b⟩⟩ : CallV)]).length c7c, .slice ga7 (gl ++ [(⟨a, c, b⟩ : Sl UInt8)]).length gc7, x23, x24].toArray 43 (0, 0))]) (fun i => false) ?_
  refine e_take 0 rfl (by kernel_rfl) (by kernel_rfl) (by kernel_rfl) (by kernel_rfl) (fun _ _ => rfl) rfl hzB (s_move rfl) ?_
  refine e_take 1 rfl (by kernel_rfl) (by kernel_rfl) (by kernel_rfl) (by kernel_rfl) (fun _ _ => rfl) rfl hzB (s_nil rfl) ?_
  refine e_take 2 rfl (by kernel_rfl) (by kernel_rfl) (by kernel_rfl) (by kernel_rfl) (fun _ _ => rfl) rfl hzB (s_field rfl rfl (by decide)) ?_
  refine e_take 3 rfl (by kernel_rfl) (by kernel_rfl) (by kernel_rfl) (by kernel_rfl) (fun _ _ => rfl) rfl hzB (s_ld rfl (.own meA rfl)) ?_
  refine e_take 4 rfl (by kernel_rfl) (by kernel_rfl) (by kernel_rfl) (by kernel_rfl) (fun _ _ => rfl) rfl hzB (step_cast (v' := .bool true) (s_neq_nilp rfl rfl) rfl) ?_
  refine e_take 5 rfl (by kernel_rfl) (by kernel_rfl) (by kernel_rfl) (by kernel_rfl) (fun _ _ => rfl) rfl hzB (s_move rfl) ?_
  refine e_take 6 rfl (by kernel_rfl) (by kernel_rfl) (by kernel_rfl) (by kernel_rfl) (fun _ fr => by rw [wanted_of fr rfl rfl rfl]; rfl) rfl hzB (s_move rfl) ?_
  refine e_take 7 rfl (by kernel_rfl) (by kernel_rfl) (by kernel_rfl) (by kernel_rfl) (fun _ fr => by rw [wanted_of fr rfl rfl rfl]; rfl) rfl hzB (s_nil rfl) ?_
  refine e_take 8 rfl (by kernel_rfl) (by kernel_rfl) (by kernel_rfl) (by kernel_rfl) (fun _ fr => by rw [wanted_of fr rfl rfl rfl]; rfl) rfl hzB (s_field rfl rfl (by decide)) ?_
  refine e_take 9 rfl (by kernel_rfl) (by kernel_rfl) (by kernel_rfl) (by kernel_rfl) (fun _ fr => by rw [wanted_of fr rfl rfl rfl]; rfl) rfl hzB (s_ld rfl (.own meA rfl)) ?_
  refine e_take 10 rfl (by kernel_rfl) (by kernel_rfl) (by kernel_rfl) (by kernel_rfl) (fun _ fr => by rw [wanted_of fr rfl rfl rfl]; rfl) rfl hzB (s_move rfl) ?_
  refine e_take 11 rfl (by kernel_rfl) (by kernel_rfl) (by kernel_rfl) (by kernel_rfl) (fun _ fr => by rw [wanted_of fr rfl rfl rfl]; rfl) rfl hzB (s_nil rfl) ?_
  refine e_take 12 rfl (by kernel_rfl) (by kernel_rfl) (by kernel_rfl) (by kernel_rfl) (fun _ fr => by rw [wanted_of fr rfl rfl rfl]; rfl) rfl hzB (s_field rfl rfl (by decide)) ?_
  refine e_take 13 rfl (by kernel_rfl) (by kernel_rfl) (by kernel_rfl) (by kernel_rfl) (fun _ fr => by rw [wanted_of fr rfl rfl rfl]; rfl) rfl hzB (s_ld rfl (.own meA rfl)) ?_
  by_cases hdu : outs + 1 = dur
  ·
   refine e_take 14 rfl (by kernel_rfl) (by kernel_rfl) (by kernel_rfl) (by kernel_rfl) (fun _ fr => by rw [wanted_of fr rfl rfl rfl]; rfl) rfl hzB (step_cast (v' := .bool true) (s_eql rfl rfl) (by rw [decide_eq_true hdu])) ?_
   refine e_take 15 rfl (by kernel_rfl) (by kernel_rfl) (by kernel_rfl) (by kernel_rfl) (fun _ _ => rfl) rfl hzB (s_pick_t rfl rfl) ?_
   refine e_done (by kernel_rfl) ?_
   refine x_then (hK9 _ _ ?_)
   refine c_true rfl ?_
   refine c_seq fun _ hK10 => ?_
   refine c_drawE ([(bs, .cells [x0, x1, .pointer none, x3, x4, .int .i64 fail, .int .i64 err, .int .i64 0, .int .i64 dur, .pointer (some ⟨br, 0, none⟩), .slice Ba B.length Bc, .string N, .bool false, .bool false, x14, x15, x16, .int .i64 (outs + 1), .int .i64 (sum + 1 + b.length), .slice a38 (al ++ b).length c38, x20, .slice a7c (cl ++ [(⟨1, ⟨#[]⟩, ⟨a7, c7, b⟩⟩ : CallV)]).length c7c, .slice ga7 (gl ++ [(⟨a, c, b⟩ : Sl UInt8)]).length gc7, x23, x24].toArray 43 (0, 0))]) (fun i => false) ?_
   refine e_take 0 rfl (by kernel_rfl) (by kernel_rfl) (by kernel_rfl) (by kernel_rfl) (fun _ _ => rfl) rfl hzB (s_move rfl) ?_
   refine e_take 1 rfl (by kernel_rfl) (by kernel_rfl) (by kernel_rfl) (by kernel_rfl) (fun _ _ => rfl) rfl hzB (s_nil rfl) ?_
   refine e_take 2 rfl (by kernel_rfl) (by kernel_rfl) (by kernel_rfl) (by kernel_rfl) (fun _ _ => rfl) rfl hzB (s_field rfl rfl (by decide)) ?_
   refine e_take 3 rfl (by kernel_rfl) (by kernel_rfl) (by kernel_rfl) (by kernel_rfl) (fun _ _ => rfl) rfl hzB (s_ld rfl (.own meA rfl)) ?_
   refine e_take 4 rfl (by kernel_rfl) (by kernel_rfl) (by kernel_rfl) (by kernel_rfl) (fun _ _ => rfl) rfl hzB (s_move rfl) ?_
   refine e_take 5 rfl (by kernel_rfl) (by kernel_rfl) (by kernel_rfl) (by kernel_rfl) (fun _ _ => rfl) rfl hzB (s_nil rfl) ?_
   refine e_take 6 rfl (by kernel_rfl) (by kernel_rfl) (by kernel_rfl) (by kernel_rfl) (fun _ _ => rfl) rfl hzB (s_field rfl rfl (by decide)) ?_
   refine e_take 7 rfl (by kernel_rfl) (by kernel_rfl) (by kernel_rfl) (by kernel_rfl) (fun _ _ => rfl) rfl hzB (s_ld rfl (.own meA rfl)) ?_
   refine e_one 8 rfl (by kernel_rfl) ?_
   refine o_call (rqText_fn br ia ic il SI hi (by omega) Ba Bc B (by omega)) rfl rfl rfl ((Pick.takeC pkA pkA)) (fun w st => ⟨(RdK.old (κ := ⟨_, [], w0, _⟩) hw.1 hw.2).out w st, St.apart_oldM st (hin_sub hzB) hw.1 hw.2 (by decide)⟩) (fun v65 S65 ⟨hv65, ia65, ic65, a65, c65, SI65, St65, hS65, hi65, ht65⟩ => ?_)
   subst hv65
   subst hS65
   refine o_nil ?_
   refine x_oneS hzB ?_
   refine e_done (by kernel_rfl) ?_
   refine x_then (hK10 _ _ ?_)
   refine c_drawE ([(bs, .cells [x0, x1, .pointer none, x3, x4, .int .i64 fail, .int .i64 err, .int .i64 0, .int .i64 dur, .pointer (some ⟨br, 0, none⟩), .slice Ba B.length Bc, .string N, .bool false, .bool false, x14, x15, x16, .int .i64 (outs + 1), .int .i64 (sum + 1 + b.length), .slice a38 (al ++ b).length c38, x20, .slice a7c (cl ++ [(⟨1, ⟨#[]⟩, ⟨a7, c7, b⟩⟩ : CallV)]).length c7c, .slice ga7 (gl ++ [(⟨a, c, b⟩ : Sl UInt8)]).length gc7, x23, x24].toArray 43 (0, 0))]) (fun i => false) ?_
   refine e_take 0 rfl (by kernel_rfl) (by kernel_rfl) (by kernel_rfl) (by kernel_rfl) (fun _ _ => rfl) rfl hzB (s_move rfl) ?_
   refine e_take 1 rfl (by kernel_rfl) (by kernel_rfl) (by kernel_rfl) (by kernel_rfl) (fun _ _ => rfl) rfl hzB (s_nil rfl) ?_
   refine e_take 2 rfl (by kernel_rfl) (by kernel_rfl) (by kernel_rfl) (by kernel_rfl) (fun _ _ => rfl) rfl hzB (s_field rfl rfl (by decide)) ?_
   refine e_take 3 rfl (by kernel_rfl) (by kernel_rfl) (by kernel_rfl) (by kernel_rfl) (fun _ _ => rfl) rfl hzB (s_ld rfl (.own meA rfl)) ?_
   refine e_take 4 rfl (by kernel_rfl) (by kernel_rfl) (by kernel_rfl) (by kernel_rfl) (fun _ _ => rfl) rfl hzB (s_move rfl) ?_
   refine e_take 5 rfl (by kernel_rfl) (by kernel_rfl) (by kernel_rfl) (by kernel_rfl) (fun _ _ => rfl) rfl hzB (s_nil rfl) ?_
   refine e_take 6 rfl (by kernel_rfl) (by kernel_rfl) (by kernel_rfl) (by kernel_rfl) (fun _ _ => rfl) rfl hzB (s_field rfl rfl (by decide)) ?_
   refine e_take 7 rfl (by kernel_rfl) (by kernel_rfl) (by kernel_rfl) (by kernel_rfl) (fun _ _ => rfl) rfl hzB (s_ld rfl (.own meA rfl)) ?_
   refine e_one 8 rfl (by kernel_rfl) ?_
   refine o_call (rqFile_fn br ia65 ic65 _ SI65 hi65 (by rw [List.length_append, List.length_singleton]; omega) N) rfl rfl rfl ((Pick.takeC pkA pkA)) (fun _ _ => trivial) (fun v74 S74 ⟨hv74, ia74, ic74, SI74, hS74, hi74⟩ => ?_)
   subst hv74
   subst hS74
   refine o_nil ?_
   refine x_oneS hzB ?_
   refine e_done (by kernel_rfl) ?_
   refine x_then (hK8 _ _ ?_)
   refine c_seq fun _ hK11 => ?_
   refine c_region ?_
   refine o_step rfl (s_move rfl) ?_
   refine o_callP (toldB_fn bs (x0) (x1) (.pointer none) (x3) (x4) (.int .i64 dur) (.pointer (some ⟨br, 0, none⟩)) (.slice Ba B.length Bc) (.string N) (.bool false) (.bool false) (x14) (x15) (x16) (.int .i64 (sum + 1 + b.length)) (.slice a38 (al ++ b).length c38) (x20) (.slice a7c (cl ++ [(⟨1, ⟨#[]⟩, ⟨a7, c7, b⟩⟩ : CallV)]).length c7c) (.slice ga7 (gl ++ [(⟨a, c, b⟩ : Sl UInt8)]).length gc7) (x23) (x24) fail err (outs + 1)) rfl rfl rfl (fun w st => (RdPK.own meA).out w st) (fun v76 hv76 => ?_)
   subst hv76
   refine o_step rfl (s_assign rfl) ?_
   refine o_nil ?_
   refine x_then (hK11 _ _ ?_)
   refine c_ret ?_
   refine ?_
   refine x_sub (Sub.refl _) (H' := (bs, .cells [x0, x1, .pointer none, x3, x4, .int .i64 fail, .int .i64 err, .int .i64 0, .int .i64 dur, .pointer (some ⟨br, 0, none⟩), .slice Ba B.length Bc, .string N, .bool false, .bool false, x14, x15, x16, .int .i64 (outs + 1), .int .i64 (sum + 1 + b.length), .slice a38 (al ++ b).length c38, x20, .slice a7c (cl ++ [(⟨1, ⟨#[]⟩, ⟨a7, c7, b⟩⟩ : CallV)]).length c7c, .slice ga7 (gl ++ [(⟨a, c, b⟩ : Sl UInt8)]).length gc7, x23, x24].toArray 43 (0, 0)) :: (br, .cells [.slice ia74 ((il ++ [(⟨false, ⟨#[]⟩, ⟨a65, c65, B⟩⟩ : RI)]) ++ [(⟨true, N, ⟨none, 0, []⟩⟩ : RI)]).length ic74].toArray 112 (0, 0)) :: (S38 ++ (Sc7 ++ (Sg7 ++ (SI74 ++ (St65 ++ (Sx7 ++ Sb))))))) hzB ?_
   exact x_ret rfl (.tmp rfl (.nil)) (⟨rfl, _, _, _, _, _, _, _, _, _, _, _, _, _, _, _, _, _, rfl, hS38, hc7, hg7, hx7.rds, hi74, .inr ⟨hdu, _, _, rfl, ht65⟩⟩)
  ·
   refine e_take 14 rfl (by kernel_rfl) (by kernel_rfl) (by kernel_rfl) (by kernel_rfl) (fun _ fr => by rw [wanted_of fr rfl rfl rfl]; rfl) rfl hzB (step_cast (v' := .bool false) (s_eql rfl rfl) (by rw [decide_eq_false hdu])) ?_
   refine e_take 15 rfl (by kernel_rfl) (by kernel_rfl) (by kernel_rfl) (by kernel_rfl) (fun _ _ => rfl) rfl hzB (s_pick_t rfl rfl) ?_
   refine e_done (by kernel_rfl) ?_
   refine x_then (hK9 _ _ ?_)
   refine c_false rfl ?_
   refine c_skip ?_
   refine x_then (hK8 _ _ ?_)
   refine c_seq fun _ hK12 => ?_
   refine c_region ?_
   refine o_step rfl (s_move rfl) ?_
   refine o_callP (toldB_fn bs (x0) (x1) (.pointer none) (x3) (x4) (.int .i64 dur) (.pointer (some ⟨br, 0, none⟩)) (.slice Ba B.length Bc) (.string N) (.bool false) (.bool false) (x14) (x15) (x16) (.int .i64 (sum + 1 + b.length)) (.slice a38 (al ++ b).length c38) (x20) (.slice a7c (cl ++ [(⟨1, ⟨#[]⟩, ⟨a7, c7, b⟩⟩ : CallV)]).length c7c) (.slice ga7 (gl ++ [(⟨a, c, b⟩ : Sl UInt8)]).length gc7) (x23) (x24) fail err (outs + 1)) rfl rfl rfl (fun w st => (RdPK.own meA).out w st) (fun v76 hv76 => ?_)
   subst hv76
   refine o_step rfl (s_assign rfl) ?_
   refine o_nil ?_
   refine x_then (hK12 _ _ ?_)
   refine c_ret ?_
   refine ?_
   refine x_sub (Sub.refl _) (H' := (bs, .cells [x0, x1, .pointer none, x3, x4, .int .i64 fail, .int .i64 err, .int .i64 0, .int .i64 dur, .pointer (some ⟨br, 0, none⟩), .slice Ba B.length Bc, .string N, .bool false, .bool false, x14, x15, x16, .int .i64 (outs + 1), .int .i64 (sum + 1 + b.length), .slice a38 (al ++ b).length c38, x20, .slice a7c (cl ++ [(⟨1, ⟨#[]⟩, ⟨a7, c7, b⟩⟩ : CallV)]).length c7c, .slice ga7 (gl ++ [(⟨a, c, b⟩ : Sl UInt8)]).length gc7, x23, x24].toArray 43 (0, 0)) :: (br, .cells [.slice ia il.length ic].toArray 112 (0, 0)) :: (S38 ++ (Sc7 ++ (Sg7 ++ (SI ++ (([] : Hp) ++ (Sx7 ++ Sb))))))) hzB ?_
   exact x_ret rfl (.tmp rfl (.nil)) (⟨rfl, _, _, _, _, _, _, _, _, _, _, _, _, _, _, _, _, _, rfl, hS38, hc7, hg7, hx7.rds, hi, .inl ⟨hdu, rfl⟩⟩)
end Go.Proofs.YtmmajabfmhipeaaDoor
