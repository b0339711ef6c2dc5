/- Part of the proofs over this seat: see the text that holds the theorem. Conditions: each theorem bears its own. -/
import Derived.Test.YtmmajabfmhipeaaDoorTC3Z
namespace Go.Proofs.YtmmajabfmhipeaaDoor
open Go Go.HL Go.Proofs Go.Tab
theorem err_fn (bo : Nat) (lim err cnt : Int) (fn : Go.Fn) (us cs : Array Value) (kv : Value) : HL.Fn Tryd.prog 23 [.pointer (some ⟨bo, 0, none⟩)] (fun w => RdP w bo 0 [.int .i64 lim, .func fn us cs, kv, .int .i64 err, .int .i64 cnt]) [] (fun v _ => v = .int .i64 err) := by
  refine fn_of Tryd.func23 rfl rfl rfl fun w0 hw => ?_
  refine c_seq fun _ hK1 => ?_
  refine c_region ?_
  refine o_step rfl (s_assign rfl) ?_
  refine o_nil ?_
  refine x_then (hK1 _ _ ?_)
  refine c_seq fun _ hK2 => ?_
  refine c_seq fun _ hK3 => ?_
  refine c_region ?_
  refine o_step rfl (s_move rfl) ?_
  refine o_step rfl (step_cast (v' := .bool false) (s_eql_nilp rfl rfl) rfl) ?_
  refine o_step rfl (s_move rfl) ?_
  refine o_yes rfl rfl ?_
  refine o_step rfl (s_move rfl) ?_
  refine o_yes rfl rfl ?_
  refine o_step rfl (s_nil rfl) ?_
  refine o_yes rfl rfl ?_
  refine o_step rfl (s_field rfl rfl (by decide)) ?_
  refine o_yes rfl rfl ?_
  refine o_step rfl (s_ld rfl ((RdPK.old0 hw).cel (j := 1) rfl rfl)) ?_
  refine o_yes rfl rfl ?_
  refine o_step rfl (s_eql_nilf rfl rfl) ?_
  refine o_step rfl (s_pick_f rfl rfl) ?_
  refine o_nil ?_
  refine x_then (hK3 _ _ ?_)
  refine c_false rfl ?_
  refine c_skip ?_
  refine x_then (hK2 _ _ ?_)
  refine c_seq fun _ hK4 => ?_
  refine c_region ?_
  refine o_step rfl (s_move rfl) ?_
  refine o_step rfl (s_nil rfl) ?_
  refine o_step rfl (s_field rfl rfl (by decide)) ?_
  refine o_step rfl (s_ld rfl ((RdPK.old0 hw).cel (j := 3) rfl rfl)) ?_
  refine o_step rfl (s_assign rfl) ?_
  refine o_nil ?_
  refine x_then (hK4 _ _ ?_)
  refine c_ret ?_
  refine ?_
  exact x_ret rfl (.tmp rfl (.nil)) (rfl)
theorem count_fn (bo : Nat) (lim err cnt : Int) (fv kv : Value) : HL.Fn Tryd.prog 25 [.pointer (some ⟨bo, 0, none⟩)] (fun w => RdP w bo 0 [.int .i64 lim, fv, kv, .int .i64 err, .int .i64 cnt]) [] (fun v _ => v = .int .i64 cnt) := by
  refine fn_of Tryd.func25 rfl rfl rfl fun w0 hw => ?_
  refine c_seq fun _ hK1 => ?_
  refine c_region ?_
  refine o_step rfl (s_assign rfl) ?_
  refine o_nil ?_
  refine x_then (hK1 _ _ ?_)
  refine c_seq fun _ hK2 => ?_
  refine c_seq fun _ hK3 => ?_
  refine c_region ?_
  refine o_step rfl (s_move rfl) ?_
  refine o_step rfl (step_cast (v' := .bool false) (s_eql_nilp rfl rfl) rfl) ?_
  refine o_nil ?_
  refine x_then (hK3 _ _ ?_)
  refine c_false rfl ?_
  refine c_skip ?_
  refine x_then (hK2 _ _ ?_)
  refine c_seq fun _ hK4 => ?_
  refine c_region ?_
  refine o_step rfl (s_move rfl) ?_
  refine o_step rfl (s_nil rfl) ?_
  refine o_step rfl (s_field rfl rfl (by decide)) ?_
  refine o_step rfl (s_ld rfl ((RdPK.old0 hw).cel (j := 4) rfl rfl)) ?_
  refine o_step rfl (s_assign rfl) ?_
  refine o_nil ?_
  refine x_then (hK4 _ _ ?_)
  refine c_ret ?_
  refine ?_
  exact x_ret rfl (.tmp rfl (.nil)) (rfl)
theorem take_raw (bs : Nat) (fail err : Int) (said gl : List (Sl UInt8)) (sa ga a : Option Addr) (sc gc c : Nat) (b : List UInt8) (So Si Sg Sb : Hp) (hO : OwnS Esl 1 40 (.slice sa said.length sc) said So) (hin : ∀ s ∈ said, RdS Eb s.v s.xs Si)
    (hg : OwnS Esl 1 40 (.slice ga gl.length gc) gl Sg) (hgl : gl.length = said.length) (hb : OwnS Eb 1 5 (.slice a b.length c) b Sb) (hbl : b.length ≤ 4294967296) (hle : said.length ≤ 1099511627776) (gx : List (List UInt8)) (Gc : Hp) (hG : OwnL Eb 1 5 gl gx Gc) (hgb : ∀ s ∈ gl, s.xs.length ≤ 4294967296) : HL.Fn Tryd.prog 15 [.pointer (some ⟨bs, 0, none⟩), .slice a b.length c] (fun _ => True) ((bs, .cells [.pointer none, .string ⟨#[]⟩, .int .i64 fail, .int .i64 err, .int .i64 said.length, .slice sa said.length sc, .slice ga gl.length gc].toArray 79 (0, 0)) :: (So ++ (Si ++ (Sg ++ (Gc ++ Sb))))) (fun v S' => v = .int .i64 (if (said.length : Int) + 1 = fail then err else 0) ∧ SinkG bs fail err (said.map Sl.xs ++ [b]) S') := by
  refine fn_of Tryd.func15 rfl rfl rfl fun w0 hw => ?_
  refine c_seq fun _ hK1 => ?_
  refine c_region ?_
  refine o_step rfl (s_assign rfl) ?_
  refine o_nil ?_
  refine x_then (hK1 _ _ ?_)
  refine c_seq fun _ hK2 => ?_
  refine c_region ?_
  refine o_step rfl (s_move rfl) ?_
  refine o_step rfl (s_nil rfl) ?_
  refine o_step rfl (s_field rfl rfl (by decide)) ?_
  refine o_step rfl (s_ld rfl (.own meA rfl)) ?_
  refine o_step rfl (s_add rfl rfl (by omega)) ?_
  refine o_step rfl (s_nil rfl) ?_
  refine o_step rfl (s_field rfl rfl (by decide)) ?_
  refine o_store rfl rfl rfl upA (by first | decide | omega | (simp; done) | (simp; omega)) rfl ?_
  refine o_nil ?_
  refine x_then (hK2 _ _ ?_)
  refine c_seq fun _ hK3 => ?_
  refine c_seq fun _ hK4 => ?_
  refine c_region ?_
  refine o_step rfl (s_move rfl) ?_
  refine o_step rfl (s_nil rfl) ?_
  refine o_step rfl (s_field rfl rfl (by decide)) ?_
  refine o_step rfl (s_ld rfl (.own meA rfl)) ?_
  refine o_step rfl (step_cast (v' := .bool false) (s_neq_nilp rfl rfl) rfl) ?_
  refine o_nil ?_
  refine x_then (hK4 _ _ ?_)
  refine c_false rfl ?_
  refine c_skip ?_
  refine x_then (hK3 _ _ ?_)
  refine c_seq fun _ hK5 => ?_
  refine c_drawE ([(bs, .cells [.pointer none, .string ⟨#[]⟩, .int .i64 fail, .int .i64 err, .int .i64 (said.length + 1), .slice sa said.length sc, .slice ga gl.length gc].toArray 79 (0, 0))]) (fun i => Nat.beq i 11) ?_
  refine e_take 0 rfl (by kernel_rfl) (by kernel_rfl) (by kernel_rfl) (by kernel_rfl) (fun _ _ => rfl) rfl hzB (s_move rfl) ?_
  refine e_take 1 rfl (by kernel_rfl) (by kernel_rfl) (by kernel_rfl) (by kernel_rfl) (fun _ _ => rfl) rfl hzB (s_move rfl) ?_
  refine e_take 2 rfl (by kernel_rfl) (by kernel_rfl) (by kernel_rfl) (by kernel_rfl) (fun _ _ => rfl) rfl hzB (s_nil rfl) ?_
  refine e_take 3 rfl (by kernel_rfl) (by kernel_rfl) (by kernel_rfl) (by kernel_rfl) (fun _ _ => rfl) rfl hzB (s_field rfl rfl (by decide)) ?_
  refine e_take 4 rfl (by kernel_rfl) (by kernel_rfl) (by kernel_rfl) (by kernel_rfl) (fun _ _ => rfl) rfl hzB (s_ld rfl (.own meA rfl)) ?_
  refine e_take 5 rfl (by kernel_rfl) (by kernel_rfl) (by kernel_rfl) (by kernel_rfl) (fun _ _ => rfl) rfl hzB (s_move rfl) ?_
  refine e_one 6 rfl (by kernel_rfl) ?_
  refine o_call (copy_fn a c b) rfl rfl rfl (by exact .nil) (fun w st => (hb.rdk hiA).out w st) (fun v33 S33 ⟨a33, c33, hv33, hS33⟩ => ?_)
  subst hv33
  refine o_nil ?_
  refine x_oneS hzB ?_
  refine e_one 7 rfl (by kernel_rfl) ?_
  refine o_bs (E := Esl) (xs := [(⟨a33, c33, b⟩ : Sl UInt8)]) (vs := [_]) rfl rfl rfl rfl rfl (by decide) (by decide) fun b34 S34 hS34 => ?_
  refine o_nil ?_
  refine x_oneS hzB ?_
  refine e_one 8 rfl (by kernel_rfl) ?_
  refine o_app hO (hS34.rdk hiA) rfl rfl rfl rfl (by show (said.length + 1) * 24 ≤ _; omega) (by show said.length + 1 ≤ _; omega) rfl pkA fun a35 c35 S35 hS35 => ?_
  refine o_nil ?_
  refine x_oneS hzB ?_
  refine e_one 9 rfl (by kernel_rfl) ?_
  refine o_step rfl (s_nil rfl) ?_
  refine o_nil ?_
  refine x_oneS hzB ?_
  refine e_one 10 rfl (by kernel_rfl) ?_
  refine o_step rfl (s_field rfl rfl (by decide)) ?_
  refine o_nil ?_
  refine x_oneS hzB ?_
  refine e_one 11 rfl (by kernel_rfl) ?_
  refine o_store rfl rfl rfl upA (by first | decide | omega | (simp; done) | (simp; omega)) rfl ?_
  refine o_nil ?_
  refine x_oneL rfl ?_
  refine e_done (by kernel_rfl) ?_
  refine x_then (hK5 _ _ ?_)
  refine c_seq fun _ hK6 => ?_
  refine c_region ?_
  refine o_step rfl (s_move rfl) ?_
  refine o_step rfl (s_move rfl) ?_
  refine o_step rfl (s_nil rfl) ?_
  refine o_step rfl (s_field rfl rfl (by decide)) ?_
  refine o_step rfl (s_ld rfl (.own meA rfl)) ?_
  refine o_step rfl (s_move rfl) ?_
  refine o_bs (E := Esl) (xs := [(⟨a, c, b⟩ : Sl UInt8)]) (vs := [_]) rfl rfl rfl rfl rfl (by decide) (by decide) fun b44 S44 hS44 => ?_
  refine o_app hg (hS44.rdk hiA) rfl rfl rfl rfl (by show (gl.length + 1) * 24 ≤ _; omega) (by show gl.length + 1 ≤ _; omega) rfl pkA fun a45 c45 S45 hS45 => ?_
  refine o_step rfl (s_nil rfl) ?_
  refine o_step rfl (s_field rfl rfl (by decide)) ?_
  refine o_store rfl rfl rfl upA (by first | decide | omega | (simp; done) | (simp; omega)) rfl ?_
  refine o_nil ?_
  refine x_then (hK6 _ _ ?_)
  refine c_seq fun _ hK7 => ?_
  refine c_seq fun _ hK8 => ?_
  refine c_quiet (by kernel_rfl) ?_
  refine .op rfl (s_move rfl) ?_
  refine .op rfl (s_nil rfl) ?_
  refine .op rfl (s_field rfl rfl (by decide)) ?_
  refine .op rfl (s_ld rfl (.own meA rfl)) ?_
  refine .op rfl (s_move rfl) ?_
  refine .op rfl (s_nil rfl) ?_
  refine .op rfl (s_field rfl rfl (by decide)) ?_
  refine .op rfl (s_ld rfl (.own meA rfl)) ?_
  refine .op rfl (s_eql rfl rfl) ?_
  refine .nil ?_
  refine x_then (hK8 _ _ ?_)
  refine c_if rfl (fun hq => ?_) (fun hq => ?_)
  ·
   refine c_seq fun _ hK9 => ?_
   refine c_region ?_
   refine o_step rfl (s_move rfl) ?_
   refine o_step rfl (s_nil rfl) ?_
   refine o_step rfl (s_field rfl rfl (by decide)) ?_
   refine o_step rfl (s_ld rfl (.own meA rfl)) ?_
   refine o_step rfl (s_assign rfl) ?_
   refine o_nil ?_
   refine x_then (hK9 _ _ ?_)
   refine c_ret ?_
   refine x_then_ret (?_)
   refine x_sub (Sub.refl _) (H' := (bs, .cells [.pointer none, .string ⟨#[]⟩, .int .i64 fail, .int .i64 err, .int .i64 (said.length + 1), .slice a35 (said ++ [(⟨a33, c33, b⟩ : Sl UInt8)]).length c35, .slice a45 (gl ++ [(⟨a, c, b⟩ : Sl UInt8)]).length c45].toArray 79 (0, 0)) :: (S35 ++ (S33 ++ (Si ++ (S45 ++ (Gc ++ Sb)))))) hzB ?_
   exact x_ret rfl (.tmp rfl (.nil)) (⟨by rw [if_pos hq]; rfl, SinkG.mk1 hS35 (rows_snoc hin hS33) hS45 hgl hG hgb hb hbl⟩)
  ·
   refine c_skip ?_
   refine x_then (hK7 _ _ ?_)
   refine c_seq fun _ hK10 => ?_
   refine c_region ?_
   refine o_step rfl (s_assign rfl) ?_
   refine o_nil ?_
   refine x_then (hK10 _ _ ?_)
   refine c_ret ?_
   refine ?_
   refine x_sub (Sub.refl _) (H' := (bs, .cells [.pointer none, .string ⟨#[]⟩, .int .i64 fail, .int .i64 err, .int .i64 (said.length + 1), .slice a35 (said ++ [(⟨a33, c33, b⟩ : Sl UInt8)]).length c35, .slice a45 (gl ++ [(⟨a, c, b⟩ : Sl UInt8)]).length c45].toArray 79 (0, 0)) :: (S35 ++ (S33 ++ (Si ++ (S45 ++ (Gc ++ Sb)))))) hzB ?_
   exact x_ret rfl (.tmp rfl (.nil)) (⟨by rw [if_neg hq]; rfl, SinkG.mk1 hS35 (rows_snoc hin hS33) hS45 hgl hG hgb hb hbl⟩)
theorem handOnD (bo bt b3 : Nat) (lim err cnt n : Int) (f : Value) (ka : Option Addr) (kn kc : Nat) (h0 : 0 ≤ cnt ∧ cnt ≤ 1099511627776) (h1 : 0 ≤ n ∧ n ≤ 1099511627776) : HL.FnD Tryd.prog 94 [.pointer (some ⟨bt, 0, none⟩), .pointer (some ⟨b3, 0, none⟩)] (fun _ => True) [(bo, .cells [.int .i64 lim, f, (.slice ka kn kc), .int .i64 err, .int .i64 cnt].toArray 122 (0, 0)), (bt, .cells [.pointer (some ⟨bo, 0, none⟩)].toArray 80 (0, 0)), (b3, .cells [.int .i64 n].toArray 3 (0, 0))] (fun _ S' => S' = [(bo, .cells [.int .i64 lim, f, .slice ka 0 kc, .int .i64 err, .int .i64 (if err = 0 then cnt + n else cnt)].toArray 122 (0, 0)), (bt, .cells [.pointer (some ⟨bo, 0, none⟩)].toArray 80 (0, 0)), (b3, .cells [.int .i64 n].toArray 3 (0, 0))]) := by
  refine fnD_of Tryd.func94 rfl rfl rfl fun w0 hw => ?_
  refine c_seq fun _ hK1 => ?_
  refine c_drawE ([(bo, .cells [.int .i64 lim, f, (.slice ka kn kc), .int .i64 err, .int .i64 cnt].toArray 122 (0, 0)), (bt, .cells [.pointer (some ⟨bo, 0, none⟩)].toArray 80 (0, 0)), (b3, .cells [.int .i64 n].toArray 3 (0, 0))]) (fun i => Nat.beq i 8) ?_
  refine e_take 0 rfl (by kernel_rfl) (by kernel_rfl) (by kernel_rfl) (by kernel_rfl) (fun _ _ => rfl) rfl hzB (s_ld rfl (.own meA rfl)) ?_
  refine e_take 1 rfl (by kernel_rfl) (by kernel_rfl) (by kernel_rfl) (by kernel_rfl) (fun _ _ => rfl) rfl hzB (s_ld rfl (.own meA rfl)) ?_
  refine e_take 2 rfl (by kernel_rfl) (by kernel_rfl) (by kernel_rfl) (by kernel_rfl) (fun _ _ => rfl) rfl hzB (s_nil rfl) ?_
  refine e_take 3 rfl (by kernel_rfl) (by kernel_rfl) (by kernel_rfl) (by kernel_rfl) (fun _ _ => rfl) rfl hzB (s_field rfl rfl (by decide)) ?_
  refine e_take 4 rfl (by kernel_rfl) (by kernel_rfl) (by kernel_rfl) (by kernel_rfl) (fun _ _ => rfl) rfl hzB (s_ld rfl (.own meA rfl)) ?_
  refine e_take 5 rfl (by kernel_rfl) (by kernel_rfl) (by kernel_rfl) (by kernel_rfl) (fun _ _ => rfl) rfl hzB (s_slice_hi rfl rfl (by omega)) ?_
  refine e_one 6 rfl (by kernel_rfl) ?_
  refine o_step rfl (s_nil rfl) ?_
  refine o_nil ?_
  refine x_oneS hzB ?_
  refine e_one 7 rfl (by kernel_rfl) ?_
  refine o_step rfl (s_field rfl rfl (by decide)) ?_
  refine o_nil ?_
  refine x_oneS hzB ?_
  refine e_one 8 rfl (by kernel_rfl) ?_
  refine o_store rfl rfl rfl upA (by first | decide | omega | (simp; done) | (simp; omega)) rfl ?_
  refine o_nil ?_
  refine x_oneL rfl ?_
  refine e_done (by kernel_rfl) ?_
  refine x_then (hK1 _ _ ?_)
  refine c_seq fun _ hK2 => ?_
  refine c_region ?_
  refine o_step rfl (s_ld rfl (.own meA rfl)) ?_
  refine o_step rfl (s_nil rfl) ?_
  refine o_step rfl (s_field rfl rfl (by decide)) ?_
  refine o_step rfl (s_ld rfl (.own meA rfl)) ?_
  refine o_step rfl (s_eql rfl rfl) ?_
  refine o_nil ?_
  refine x_then (hK2 _ _ ?_)
  refine c_if rfl (fun he => ?_) (fun he => ?_)
  ·
   refine c_drawE ([(bo, .cells [.int .i64 lim, f, .slice ka 0 kc, .int .i64 err, .int .i64 cnt].toArray 122 (0, 0)), (bt, .cells [.pointer (some ⟨bo, 0, none⟩)].toArray 80 (0, 0)), (b3, .cells [.int .i64 n].toArray 3 (0, 0))]) (fun i => Nat.beq i 8) ?_
   refine e_take 0 rfl (by kernel_rfl) (by kernel_rfl) (by kernel_rfl) (by kernel_rfl) (fun _ _ => rfl) rfl hzB (s_ld rfl (.own meA rfl)) ?_
   refine e_take 1 rfl (by kernel_rfl) (by kernel_rfl) (by kernel_rfl) (by kernel_rfl) (fun _ _ => rfl) rfl hzB (s_nil rfl) ?_
   refine e_take 2 rfl (by kernel_rfl) (by kernel_rfl) (by kernel_rfl) (by kernel_rfl) (fun _ _ => rfl) rfl hzB (s_field rfl rfl (by decide)) ?_
   refine e_take 3 rfl (by kernel_rfl) (by kernel_rfl) (by kernel_rfl) (by kernel_rfl) (fun _ _ => rfl) rfl hzB (s_ld rfl (.own meA rfl)) ?_
   refine e_take 4 rfl (by kernel_rfl) (by kernel_rfl) (by kernel_rfl) (by kernel_rfl) (fun _ _ => rfl) rfl hzB (s_ld rfl (.own meA rfl)) ?_
   refine e_take 5 rfl (by kernel_rfl) (by kernel_rfl) (by kernel_rfl) (by kernel_rfl) (fun _ _ => rfl) rfl hzB (s_add rfl rfl (by omega)) ?_
   refine e_one 6 rfl (by kernel_rfl) ?_
   refine o_step rfl (s_nil rfl) ?_
   refine o_nil ?_
   refine x_oneS hzB ?_
   refine e_one 7 rfl (by kernel_rfl) ?_
   refine o_step rfl (s_field rfl rfl (by decide)) ?_
   refine o_nil ?_
   refine x_oneS hzB ?_
   refine e_one 8 rfl (by kernel_rfl) ?_
   refine o_store rfl rfl rfl upA (by first | decide | omega | (simp; done) | (simp; omega)) rfl ?_
   refine o_nil ?_
   refine x_oneL rfl ?_
   refine e_done (by kernel_rfl) ?_
   exact x_end rfl (.nil) (by rw [if_pos he]; rfl)
  ·
   refine c_skip ?_
   exact x_end rfl (.nil) (by rw [if_neg he]; rfl)
theorem handOn_raw (bo bs : Nat) (lim cnt fail serr : Int) (kept : List UInt8) (ka : Option Addr) (kc : Nat) (said gl : List (Sl UInt8)) (sa ga : Option Addr) (sc gc : Nat) (Sk So Si Sg : Hp) (hk : OwnS Eb 1 5 (.slice ka kept.length kc) kept Sk)
    (hO : OwnS Esl 1 40 (.slice sa said.length sc) said So) (hin : ∀ s ∈ said, RdS Eb s.v s.xs Si) (hg : OwnS Esl 1 40 (.slice ga gl.length gc) gl Sg) (hgl : gl.length = said.length) (hle : said.length ≤ 1099511627776) (hkl : kept.length ≤ 4294967296) (hcn : 0 ≤ cnt ∧ cnt ≤ 1099511627776) (gx : List (List UInt8)) (Gc : Hp) (hG : OwnL Eb 1 5 gl gx Gc) (hgb : ∀ s ∈ gl, s.xs.length ≤ 4294967296) : HL.Fn Tryd.prog 77 [.pointer (some ⟨bo, 0, none⟩)] (fun _ => True) ((bo, .cells [.int .i64 lim, (.func (.func 15) [.pointer (some ⟨bs, 0, none⟩)].toArray [].toArray), (.slice ka kept.length kc), .int .i64 0, .int .i64 cnt].toArray 122 (0, 0)) :: (Sk ++ ((bs, .cells [.pointer none, .string ⟨#[]⟩, .int .i64 fail, .int .i64 serr, .int .i64 said.length, .slice sa said.length sc, .slice ga gl.length gc].toArray 79 (0, 0)) :: (So ++ (Si ++ (Sg ++ Gc)))))) (fun v S' => v = .int .i64 (handE fail serr ⟨kept, 0, cnt, said.map Sl.xs⟩) ∧ StG bo bs lim fail serr (handS fail serr ⟨kept, 0, cnt, said.map Sl.xs⟩) S') := by
  refine fn_ofD Tryd.func77 rfl rfl rfl fun w0 hw => ?_
  refine c_seqD fun _ hK1 => ?_
  refine c_region ?_
  refine o_box rfl rfl rfl fun b1 => ?_
  refine o_step rfl (s_assign rfl) ?_
  refine o_nil ?_
  refine x_then (hK1 _ _ _ ?_)
  refine c_seqD fun _ hK2 => ?_
  refine c_region ?_
  refine o_step rfl (s_ld rfl (.own meA rfl)) ?_
  refine o_step rfl (s_nil rfl) ?_
  refine o_step rfl (s_field rfl rfl (by decide)) ?_
  refine o_step rfl (s_ld rfl (.own meA rfl)) ?_
  refine o_step rfl (s_len rfl) ?_
  refine o_alloc rfl rfl fun b3 => ?_
  refine o_store rfl rfl rfl upA (by first | decide | omega | (simp; done) | (simp; omega)) rfl ?_
  refine o_nil ?_
  refine x_then (hK2 _ _ _ ?_)
  refine c_seqD fun _ hK3 => ?_
  refine c_seqD fun _ hK4 => ?_
  refine c_region ?_
  refine o_step rfl (s_ld rfl (.own meA rfl)) ?_
  refine o_step rfl (s_eql rfl rfl) ?_
  refine o_nil ?_
  refine x_then (hK4 _ _ _ ?_)
  refine c_if rfl (fun hz => ?_) (fun hz => ?_)
  ·
   have hk0 : kept = [] := List.eq_nil_of_length_eq_zero (by omega)
   refine c_seqD fun _ hK5 => ?_
   refine c_region ?_
   refine o_step rfl (s_assign rfl) ?_
   refine o_nil ?_
   refine x_then (hK5 _ _ _ ?_)
   refine c_ret ?_
   refine x_then_ret (?_)
   refine x_sub (Sub.refl _) (H' := ((bo, .cells [.int .i64 lim, (.func (.func 15) [.pointer (some ⟨bs, 0, none⟩)].toArray [].toArray), (.slice ka kept.length kc), .int .i64 0, .int .i64 cnt].toArray 122 (0, 0)) :: (Sk ++ ((bs, .cells [.pointer none, .string ⟨#[]⟩, .int .i64 fail, .int .i64 serr, .int .i64 said.length, .slice sa said.length sc, .slice ga gl.length gc].toArray 79 (0, 0)) :: (So ++ (Si ++ (Sg ++ Gc))))))) hzB ?_
   exact x_retD0 rfl rfl ⟨by rw [handE, if_pos hk0], by rw [handS, if_pos hk0]; exact ⟨_ :: Sk, _, rfl, .mk hk, .mk rfl hO hin hg hgl hG hgb⟩⟩
  ·
   refine c_skip ?_
   refine x_then (hK3 _ _ _ ?_)
   refine c_seqD fun _ hK6 => ?_
   refine c_region ?_
   refine o_step rfl (s_func (us := []) (vs := [_, _]) rfl rfl) ?_
   refine o_defer (us := []) (vs := []) (cs := [_, _]) rfl rfl ?_
   refine o_nil ?_
   refine x_then (hK6 _ _ _ ?_)
   refine c_seqD fun _ hK7 => ?_
   refine c_drawE ([(bo, .cells [.int .i64 lim, (.func (.func 15) [.pointer (some ⟨bs, 0, none⟩)].toArray [].toArray), (.slice ka kept.length kc), .int .i64 0, .int .i64 cnt].toArray 122 (0, 0)), (b1, .cells [.pointer (some ⟨bo, 0, none⟩)].toArray 80 (0, 0)), (b3, .cells [.int .i64 kept.length].toArray 3 (0, 0))]) (fun i => Nat.beq i 13) ?_
   refine e_take 0 rfl (by kernel_rfl) (by kernel_rfl) (by kernel_rfl) (by kernel_rfl) (fun _ _ => rfl) rfl hzB (s_ld rfl (.own meA rfl)) ?_
   refine e_take 1 rfl (by kernel_rfl) (by kernel_rfl) (by kernel_rfl) (by kernel_rfl) (fun _ _ => rfl) rfl hzB (s_ld rfl (.own meA rfl)) ?_
   refine e_take 2 rfl (by kernel_rfl) (by kernel_rfl) (by kernel_rfl) (by kernel_rfl) (fun _ _ => rfl) rfl hzB (s_nil rfl) ?_
   refine e_take 3 rfl (by kernel_rfl) (by kernel_rfl) (by kernel_rfl) (by kernel_rfl) (fun _ _ => rfl) rfl hzB (s_field rfl rfl (by decide)) ?_
   refine e_take 4 rfl (by kernel_rfl) (by kernel_rfl) (by kernel_rfl) (by kernel_rfl) (fun _ _ => rfl) rfl hzB (s_ld rfl (.own meA rfl)) ?_
   refine e_take 5 rfl (by kernel_rfl) (by kernel_rfl) (by kernel_rfl) (by kernel_rfl) (fun _ _ => rfl) rfl hzB (s_ld rfl (.own meA rfl)) ?_
   refine e_take 6 rfl (by kernel_rfl) (by kernel_rfl) (by kernel_rfl) (by kernel_rfl) (fun _ _ => rfl) rfl hzB (s_nil rfl) ?_
   refine e_take 7 rfl (by kernel_rfl) (by kernel_rfl) (by kernel_rfl) (by kernel_rfl) (fun _ _ => rfl) rfl hzB (s_field rfl rfl (by decide)) ?_
   refine e_take 8 rfl (by kernel_rfl) (by kernel_rfl) (by kernel_rfl) (by kernel_rfl) (fun _ _ => rfl) rfl hzB (s_ld rfl (.own meA rfl)) ?_
   refine e_one 9 rfl (by kernel_rfl) ?_
   refine o_call (clone_fn ka kc kept) rfl rfl rfl (by exact .nil) (fun w st => (hk.rdk hiA).out w st) (fun v21 S21 ⟨a21, c21, hv21, hS21⟩ => ?_)
   subst hv21
   refine o_nil ?_
   refine x_oneS hzB ?_
   refine e_one 10 rfl (by kernel_rfl) ?_
   refine o_callC (us := [_]) (vs := [_]) (cs := []) (take_raw bs fail serr said gl sa ga a21 sc gc c21 kept So Si Sg S21 hO hin hg hgl hS21 hkl hle gx Gc hG hgb) rfl rfl rfl ((Pick.takeC pkA (Pick.takeA pkA (Pick.takeA pkA (Pick.takeA pkA (Pick.takeA pkA pkA)))))) (fun _ _ => trivial) (fun v22 S22 ⟨hv22, hS22⟩ => ?_)
   subst hv22
   refine o_nil ?_
   refine x_oneS hzB ?_
   refine e_one 11 rfl (by kernel_rfl) ?_
   refine o_step rfl (s_nil rfl) ?_
   refine o_nil ?_
   refine x_oneS hzB ?_
   refine e_one 12 rfl (by kernel_rfl) ?_
   refine o_step rfl (s_field rfl rfl (by decide)) ?_
   refine o_nil ?_
   refine x_oneS hzB ?_
   refine e_one 13 rfl (by kernel_rfl) ?_
   refine o_store rfl rfl rfl upA (by first | decide | omega | (simp; done) | (simp; omega)) rfl ?_
   refine o_nil ?_
   refine x_oneL rfl ?_
   refine e_done (by kernel_rfl) ?_
   refine x_then (hK7 _ _ _ ?_)
   refine c_seqD fun _ hK8 => ?_
   refine c_region ?_
   refine o_step rfl (s_ld rfl (.own meA rfl)) ?_
   refine o_step rfl (s_nil rfl) ?_
   refine o_step rfl (s_field rfl rfl (by decide)) ?_
   refine o_step rfl (s_ld rfl (.own meA rfl)) ?_
   refine o_step rfl (s_assign rfl) ?_
   refine o_nil ?_
   refine x_then (hK8 _ _ _ ?_)
   refine c_ret ?_
   refine ?_
   exact x_retD1 (us := []) (cs := [_, _]) (handOnD bo b1 b3 lim _ cnt kept.length _ ka kept.length kc hcn (by omega)) rfl rfl (Pick.takeC pkA (Pick.takeC pkA pkA)) (fun _ _ => trivial) (fun v' S' hS' => by
      subst hS'
      exact ⟨_ :: (Sk ++ S22), by exact hzB, handOn_end hz hk hS22⟩)
theorem write_raw (bo bs : Nat) (lim cnt fail serr : Int) (kept : List UInt8) (ka : Option Addr) (kc : Nat) (said gl : List (Sl UInt8)) (sa ga : Option Addr) (sc gc : Nat) (Sk So Si Sg : Hp) (hk : OwnS Eb 1 5 (.slice ka kept.length kc) kept Sk)
    (hO : OwnS Esl 1 40 (.slice sa said.length sc) said So) (hin : ∀ s ∈ said, RdS Eb s.v s.xs Si) (hg : OwnS Esl 1 40 (.slice ga gl.length gc) gl Sg) (hgl : gl.length = said.length) (hle : said.length ≤ 1099511627776)  (hcn : 0 ≤ cnt ∧ cnt ≤ 1099511627776) (gx : List (List UInt8)) (Gc : Hp) (hG : OwnL Eb 1 5 gl gx Gc) (hgb : ∀ s ∈ gl, s.xs.length ≤ 4294967296) (err : Int) (a : Option Addr) (c : Nat) (sls : List (Sl UInt8)) (Sr : Hp) (hsr : IsSl (.slice a sls.length c) sls.length) (hr : RdS Esl (.slice a sls.length c) sls Sr) (hri : ∀ s ∈ sls, RdS Eb s.v s.xs Sr) (hkl : (catK kept sls sls.length).length ≤ 4294967296) : HL.Fn Tryd.prog 21 [.pointer (some ⟨bo, 0, none⟩), .slice a sls.length c] (fun _ => True) ((bo, .cells [.int .i64 lim, (.func (.func 15) [.pointer (some ⟨bs, 0, none⟩)].toArray [].toArray), (.slice ka kept.length kc), .int .i64 err, .int .i64 cnt].toArray 122 (0, 0)) :: (Sk ++ ((bs, .cells [.pointer none, .string ⟨#[]⟩, .int .i64 fail, .int .i64 serr, .int .i64 said.length, .slice sa said.length sc, .slice ga gl.length gc].toArray 79 (0, 0)) :: (So ++ (Si ++ (Sg ++ (Gc ++ Sr))))))) (fun v S' => v = .int .i64 (writeE lim fail serr ⟨kept, err, cnt, said.map Sl.xs⟩ (sls.map Sl.xs).flatten) ∧ ∃ S1, S' = S1 ++ Sr ∧ StG bo bs lim fail serr (writeS lim fail serr ⟨kept, err, cnt, said.map Sl.xs⟩ (sls.map Sl.xs).flatten) S1) := by
  refine fn_of Tryd.func21 rfl rfl rfl fun w0 hw => ?_
  have hbr := hsr.le
  refine c_seq fun _ hK1 => ?_
  refine c_region ?_
  refine o_step rfl (s_assign rfl) ?_
  refine o_nil ?_
  refine x_then (hK1 _ _ ?_)
  refine c_seq fun _ hK2 => ?_
  refine c_seq fun _ hK3 => ?_
  refine c_region ?_
  refine o_step rfl (s_move rfl) ?_
  refine o_callP (err_fn bo lim err cnt (.func 15) [.pointer (some ⟨bs, 0, none⟩)].toArray [].toArray (.slice ka kept.length kc)) rfl rfl rfl (fun w st => (RdPK.own meA).out w st) (fun v9 hv9 => ?_)
  subst hv9
  refine o_step rfl (s_assign rfl) ?_
  refine o_nil ?_
  refine x_then (hK3 _ _ ?_)
  refine c_seq fun _ hK4 => ?_
  refine c_region ?_
  refine o_step rfl (s_move rfl) ?_
  refine o_step rfl (s_neq rfl rfl) ?_
  refine o_nil ?_
  refine x_then (hK4 _ _ ?_)
  refine c_if rfl (fun he => ?_) (fun he => ?_)
  ·
   refine c_seq fun _ hK5 => ?_
   refine c_region ?_
   refine o_step rfl (s_move rfl) ?_
   refine o_step rfl (s_assign rfl) ?_
   refine o_nil ?_
   refine x_then (hK5 _ _ ?_)
   refine c_ret ?_
   refine x_then_ret (?_)
   refine x_sub (Sub.refl _) (H' := ((bo, .cells [.int .i64 lim, (.func (.func 15) [.pointer (some ⟨bs, 0, none⟩)].toArray [].toArray), (.slice ka kept.length kc), .int .i64 err, .int .i64 cnt].toArray 122 (0, 0)) :: (Sk ++ ((bs, .cells [.pointer none, .string ⟨#[]⟩, .int .i64 fail, .int .i64 serr, .int .i64 said.length, .slice sa said.length sc, .slice ga gl.length gc].toArray 79 (0, 0)) :: (So ++ (Si ++ (Sg ++ (Gc ++ Sr)))))))) hzB ?_
   exact x_ret rfl (.tmp rfl (.nil)) (⟨by rw [writeE, if_pos he]; rfl, ((bo, .cells [.int .i64 lim, (.func (.func 15) [.pointer (some ⟨bs, 0, none⟩)].toArray [].toArray), (.slice ka kept.length kc), .int .i64 err, .int .i64 cnt].toArray 122 (0, 0)) :: (Sk ++ ((bs, .cells [.pointer none, .string ⟨#[]⟩, .int .i64 fail, .int .i64 serr, .int .i64 said.length, .slice sa said.length sc, .slice ga gl.length gc].toArray 79 (0, 0)) :: (So ++ (Si ++ (Sg ++ Gc)))))), by simp only [List.cons_append, List.append_assoc], by rw [writeS, if_pos he]; exact ⟨_ :: Sk, _, rfl, .mk hk, .mk rfl hO hin hg hgl hG hgb⟩⟩)
  ·
   obtain rfl : err = 0 := Decidable.not_not.1 he
   refine c_skip ?_
   refine x_then (hK2 _ _ ?_)
   refine c_seq fun _ hK6 => ?_
   refine c_seq fun _ hK7 => ?_
   refine c_region ?_
   refine o_step rfl (s_move rfl) ?_
   refine o_step rfl (s_len rfl) ?_
   refine o_step rfl (s_move rfl) ?_
   refine o_nil ?_
   refine x_then (hK7 _ _ ?_)
   refine c_block ?_
   refine c_loop4 (fun (j : Nat) (ka2 : Option Addr) (kc2 : Nat) (Sk2 : Hp) => j ≤ sls.length ∧ OwnS Eb 1 5 (.slice ka2 (catK kept sls j).length kc2) (catK kept sls j) Sk2) (fun (j : Nat) (ka2 : Option Addr) (kc2 : Nat) (Sk2 : Hp) => [(15, .int .i64 j)]) [(0, _), (4, _), (13, _), (14, _)] (fun (j : Nat) (ka2 : Option Addr) (kc2 : Nat) (Sk2 : Hp) => ((bo, .cells [.int .i64 lim, (.func (.func 15) [.pointer (some ⟨bs, 0, none⟩)].toArray [].toArray), (.slice ka2 (catK kept sls j).length kc2), .int .i64 0, .int .i64 cnt].toArray 122 (0, 0)) :: (Sk2 ++ ((bs, .cells [.pointer none, .string ⟨#[]⟩, .int .i64 fail, .int .i64 serr, .int .i64 said.length, .slice sa said.length sc, .slice ga gl.length gc].toArray 79 (0, 0)) :: (So ++ (Si ++ (Sg ++ (Gc ++ Sr)))))))) (fun (j : Nat) (ka2 : Option Addr) (kc2 : Nat) (Sk2 : Hp) => sls.length - j) 0 ka kc Sk ⟨by omega, by rw [catK_zero]; exact hk⟩ sbA sbA (by rw [catK_zero]; exact HSub.refl _) ?_
   rintro j ka2 kc2 Sk2 ⟨hj, hSk⟩
   refine c_seq fun _ hK8 => ?_
   refine c_region ?_
   refine o_step rfl (s_lss rfl rfl) ?_
   refine o_nil ?_
   refine x_then (hK8 _ _ ?_)
   refine c_seq fun _ hK9 => ?_
   refine c_if rfl (fun hlt => ?_) (fun hlt => ?_)
   ·
    have hmem := row0_mem (sls := sls) (j := j) (by omega)
    have hcl := catK_mono (kept := kept) (sls := sls) (i := j + 1) (by omega)
    rw [catK_succ (by omega), List.length_append] at hcl
    refine c_skip ?_
    refine x_then (hK9 _ _ ?_)
    refine c_seq fun _ hK10 => ?_
    refine c_block ?_
    refine c_seq fun _ hK11 => ?_
    refine c_region ?_
    refine o_step rfl (s_idx rfl rfl (by assumption) (by omega)) ?_
    refine o_step rfl (s_ld rfl ((hr.rdk hiA).ld j 0 (row0_get (by omega)) rfl (by decide) (by omega))) ?_
    refine o_step rfl (s_assign rfl) ?_
    refine o_nil ?_
    refine x_then (hK11 _ _ ?_)
    refine c_region ?_
    refine o_step rfl (s_move rfl) ?_
    refine o_step rfl (s_move rfl) ?_
    refine o_step rfl (s_nil rfl) ?_
    refine o_step rfl (s_field rfl rfl (by decide)) ?_
    refine o_step rfl (s_ld rfl (.own meA rfl)) ?_
    refine o_step rfl (s_move rfl) ?_
    refine o_app hSk ((hri _ hmem).rdk hiA) rfl rfl rfl rfl (by omega) (by omega) rfl pkA fun a25 c25 S25 hS25 => ?_
    refine o_step rfl (s_nil rfl) ?_
    refine o_step rfl (s_field rfl rfl (by decide)) ?_
    refine o_store rfl rfl rfl upA (by first | decide | omega | (simp; done) | (simp; omega)) rfl ?_
    refine o_nil ?_
    refine x_block ?_
    refine x_then (hK10 _ _ ?_)
    refine c_region ?_
    refine o_step rfl (s_add rfl rfl (by omega)) ?_
    refine o_step rfl (s_move rfl) ?_
    refine o_nil ?_
    exact x_then (x_inv (j + 1, a25, c25, S25) ⟨by omega, by rw [catK_succ (by omega)]; exact hS25⟩ (by first | omega | (dsimp only; omega)) sbA (by rw [catK_succ (by omega)]; exact hzB))
   ·
    obtain rfl : j = sls.length := by omega
    refine c_exit ?_
    refine x_then_exit ?_
    refine x_then_exit ?_
    refine x_block_exit ?_
    refine x_then (hK6 _ _ ?_)
    refine c_seq fun _ hK12 => ?_
    refine c_seq fun _ hK13 => ?_
    refine c_quiet (by kernel_rfl) ?_
    refine .op rfl (s_move rfl) ?_
    refine .op rfl (s_nil rfl) ?_
    refine .op rfl (s_field rfl rfl (by decide)) ?_
    refine .op rfl (s_ld rfl (.own meA rfl)) ?_
    refine .op rfl (s_len rfl) ?_
    refine .op rfl (s_move rfl) ?_
    refine .op rfl (s_nil rfl) ?_
    refine .op rfl (s_field rfl rfl (by decide)) ?_
    refine .op rfl (s_ld rfl (.own meA rfl)) ?_
    refine .op rfl (s_lss rfl rfl) ?_
    refine .nil ?_
    refine x_then (hK13 _ _ ?_)
    refine c_if rfl (fun hlm => ?_) (fun hlm => ?_)
    ·
     refine c_seq fun _ hK14 => ?_
     refine c_region ?_
     refine o_step rfl (s_assign rfl) ?_
     refine o_nil ?_
     refine x_then (hK14 _ _ ?_)
     refine c_ret ?_
     refine x_then_ret (?_)
     refine x_sub (Sub.refl _) (H' := ((bo, .cells [.int .i64 lim, (.func (.func 15) [.pointer (some ⟨bs, 0, none⟩)].toArray [].toArray), (.slice ka2 (catK kept sls sls.length).length kc2), .int .i64 0, .int .i64 cnt].toArray 122 (0, 0)) :: (Sk2 ++ ((bs, .cells [.pointer none, .string ⟨#[]⟩, .int .i64 fail, .int .i64 serr, .int .i64 said.length, .slice sa said.length sc, .slice ga gl.length gc].toArray 79 (0, 0)) :: (So ++ (Si ++ (Sg ++ (Gc ++ Sr)))))))) hzB ?_
     rw [catK_all] at hlm hSk ⊢
     exact x_ret rfl (.tmp rfl (.nil)) (⟨by rw [writeE, if_neg (by simp), if_pos hlm]; rfl, ((bo, .cells [.int .i64 lim, (.func (.func 15) [.pointer (some ⟨bs, 0, none⟩)].toArray [].toArray), (.slice ka2 (kept ++ (sls.map Sl.xs).flatten).length kc2), .int .i64 0, .int .i64 cnt].toArray 122 (0, 0)) :: (Sk2 ++ ((bs, .cells [.pointer none, .string ⟨#[]⟩, .int .i64 fail, .int .i64 serr, .int .i64 said.length, .slice sa said.length sc, .slice ga gl.length gc].toArray 79 (0, 0)) :: (So ++ (Si ++ (Sg ++ Gc)))))), by simp only [List.cons_append, List.append_assoc], by rw [writeS, if_neg (by simp), if_pos hlm]; exact ⟨_ :: Sk2, _, rfl, .mk (kept := _ ++ _) hSk, .mk rfl hO hin hg hgl hG hgb⟩⟩)
    ·
     refine c_skip ?_
     refine x_then (hK12 _ _ ?_)
     refine c_seq fun _ hK15 => ?_
     refine c_region ?_
     refine o_step rfl (s_move rfl) ?_
     refine o_call (handOn_raw bo bs lim cnt fail serr (catK kept sls sls.length) ka2 kc2 said gl sa ga sc gc Sk2 So Si Sg hSk hO hin hg hgl hle hkl hcn gx Gc hG hgb) rfl rfl rfl ((Pick.takeC pkA (Pick.takeA pkA (Pick.takeC pkA (Pick.takeA pkA (Pick.takeA pkA (Pick.takeA pkA pkA))))))) (fun _ _ => trivial) (fun v40 S40 ⟨hv40, hS40⟩ => ?_)
     subst hv40
     refine o_step rfl (s_assign rfl) ?_
     refine o_nil ?_
     refine x_then (hK15 _ _ ?_)
     refine c_ret ?_
     refine ?_
     refine x_sub (Sub.refl _) (H' := S40 ++ Sr) hzB ?_
     rw [catK_all] at hS40
     exact x_ret rfl (.tmp rfl (.nil)) (⟨by rw [catK_all, writeE, if_neg (by simp), if_neg (fun h => hlm (catK_lt.2 h))]; rfl, _, rfl, by rw [writeS, if_neg (by simp), if_neg (fun h => hlm (catK_lt.2 h))]; exact hS40⟩)
theorem flush_raw (bo bs : Nat) (lim cnt fail serr : Int) (kept : List UInt8) (ka : Option Addr) (kc : Nat) (said gl : List (Sl UInt8)) (sa ga : Option Addr) (sc gc : Nat) (Sk So Si Sg : Hp) (hk : OwnS Eb 1 5 (.slice ka kept.length kc) kept Sk)
    (hO : OwnS Esl 1 40 (.slice sa said.length sc) said So) (hin : ∀ s ∈ said, RdS Eb s.v s.xs Si) (hg : OwnS Esl 1 40 (.slice ga gl.length gc) gl Sg) (hgl : gl.length = said.length) (hle : said.length ≤ 1099511627776) (err : Int) (hkl : kept.length ≤ 4294967296) (hcn : 0 ≤ cnt ∧ cnt ≤ 1099511627776) (gx : List (List UInt8)) (Gc : Hp) (hG : OwnL Eb 1 5 gl gx Gc) (hgb : ∀ s ∈ gl, s.xs.length ≤ 4294967296) : HL.Fn Tryd.prog 19 [.pointer (some ⟨bo, 0, none⟩)] (fun _ => True) ((bo, .cells [.int .i64 lim, (.func (.func 15) [.pointer (some ⟨bs, 0, none⟩)].toArray [].toArray), (.slice ka kept.length kc), .int .i64 err, .int .i64 cnt].toArray 122 (0, 0)) :: (Sk ++ ((bs, .cells [.pointer none, .string ⟨#[]⟩, .int .i64 fail, .int .i64 serr, .int .i64 said.length, .slice sa said.length sc, .slice ga gl.length gc].toArray 79 (0, 0)) :: (So ++ (Si ++ (Sg ++ Gc)))))) (fun v S' => v = .int .i64 (flushE fail serr ⟨kept, err, cnt, said.map Sl.xs⟩) ∧ StG bo bs lim fail serr (flushS fail serr ⟨kept, err, cnt, said.map Sl.xs⟩) S') := by
  refine fn_of Tryd.func19 rfl rfl rfl fun w0 hw => ?_
  refine c_seq fun _ hK1 => ?_
  refine c_region ?_
  refine o_step rfl (s_assign rfl) ?_
  refine o_nil ?_
  refine x_then (hK1 _ _ ?_)
  refine c_seq fun _ hK2 => ?_
  refine c_seq fun _ hK3 => ?_
  refine c_region ?_
  refine o_step rfl (s_move rfl) ?_
  refine o_callP (err_fn bo lim err cnt (.func 15) [.pointer (some ⟨bs, 0, none⟩)].toArray [].toArray (.slice ka kept.length kc)) rfl rfl rfl (fun w st => (RdPK.own meA).out w st) (fun v5 hv5 => ?_)
  subst hv5
  refine o_step rfl (s_assign rfl) ?_
  refine o_nil ?_
  refine x_then (hK3 _ _ ?_)
  refine c_seq fun _ hK4 => ?_
  refine c_region ?_
  refine o_step rfl (s_move rfl) ?_
  refine o_step rfl (s_neq rfl rfl) ?_
  refine o_nil ?_
  refine x_then (hK4 _ _ ?_)
  refine c_if rfl (fun he => ?_) (fun he => ?_)
  ·
   refine c_seq fun _ hK5 => ?_
   refine c_region ?_
   refine o_step rfl (s_move rfl) ?_
   refine o_step rfl (s_assign rfl) ?_
   refine o_nil ?_
   refine x_then (hK5 _ _ ?_)
   refine c_ret ?_
   refine x_then_ret (?_)
   exact x_ret rfl (.tmp rfl (.nil)) (⟨by rw [flushE, if_pos he]; rfl, by rw [flushS, if_pos he]; exact ⟨_ :: Sk, _, rfl, .mk hk, .mk rfl hO hin hg hgl hG hgb⟩⟩)
  ·
   obtain rfl : err = 0 := Decidable.not_not.1 he
   refine c_skip ?_
   refine x_then (hK2 _ _ ?_)
   refine c_seq fun _ hK6 => ?_
   refine c_region ?_
   refine o_step rfl (s_move rfl) ?_
   refine o_call (handOn_raw bo bs lim cnt fail serr kept ka kc said gl sa ga sc gc Sk So Si Sg hk hO hin hg hgl hle hkl hcn gx Gc hG hgb) rfl rfl rfl ((Pick.takeC pkA (Pick.takeA pkA (Pick.takeC pkA (Pick.takeA pkA (Pick.takeA pkA (Pick.takeA pkA pkA))))))) (fun _ _ => trivial) (fun v10 S10 ⟨hv10, hS10⟩ => ?_)
   subst hv10
   refine o_step rfl (s_assign rfl) ?_
   refine o_nil ?_
   refine x_then (hK6 _ _ ?_)
   refine c_ret ?_
   refine ?_
   refine x_sub (Sub.refl _) (H' := S10) hzB ?_
   exact x_ret rfl (.tmp rfl (.nil)) (⟨by rw [flushE, if_neg (by simp)]; rfl, by rw [flushS, if_neg (by simp)]; exact hS10⟩)
theorem outNew_fn (lim : Int) (fn : Go.Fn) (us cs : Array Value) : HL.Fn Tryd.prog 14 [.int .i64 lim, .func fn us cs] (fun _ => True) [] (fun v S' => (lim < 0 ∧ v = .tuple #[.pointer none, .int .i64 1]) ∨ (0 ≤ lim ∧ ∃ bo, v = .tuple #[.pointer (some ⟨bo, 0, none⟩), .int .i64 0] ∧ S' = [(bo, .cells [.int .i64 lim, .func fn us cs, .slice none 0 0, .int .i64 0, .int .i64 0].toArray 122 (0, 0))])) := by
  refine fn_of Tryd.func14 rfl rfl rfl fun w0 hw => ?_
  refine c_seq fun _ hK1 => ?_
  refine c_region ?_
  refine o_step rfl (s_assign rfl) ?_
  refine o_step rfl (s_assign rfl) ?_
  refine o_nil ?_
  refine x_then (hK1 _ _ ?_)
  refine c_seq fun _ hK2 => ?_
  refine c_seq fun _ hK3 => ?_
  refine c_region ?_
  refine o_step rfl (s_move rfl) ?_
  refine o_step rfl (s_lss rfl rfl) ?_
  refine o_nil ?_
  refine x_then (hK3 _ _ ?_)
  refine c_if rfl (fun hn => ?_) (fun hn => ?_)
  ·
   refine c_seq fun _ hK4 => ?_
   refine c_region ?_
   refine o_step rfl (s_assign rfl) ?_
   refine o_step rfl (s_assign rfl) ?_
   refine o_nil ?_
   refine x_then (hK4 _ _ ?_)
   refine c_ret ?_
   refine x_then_ret (?_)
   exact x_ret rfl (.tmp rfl (.tmp rfl (.nil))) (.inl ⟨hn, rfl⟩)
  ·
   refine c_skip ?_
   refine x_then (hK2 _ _ ?_)
   refine c_seq fun _ hK5 => ?_
   refine c_region ?_
   refine o_step rfl (s_move rfl) ?_
   refine o_step rfl (s_move rfl) ?_
   refine o_step rfl (s_build (cs := [_, _, _, _, _]) (vs := [_, _]) rfl rfl (.cons rfl rfl rfl rfl rfl (.cons rfl rfl rfl rfl rfl (.nil)))) ?_
   refine o_box rfl rfl rfl fun b11 => ?_
   refine o_step rfl (s_assign rfl) ?_
   refine o_step rfl (s_assign rfl) ?_
   refine o_nil ?_
   refine x_then (hK5 _ _ ?_)
   refine c_ret ?_
   refine ?_
   exact x_ret rfl (.tmp rfl (.tmp rfl (.nil))) (.inr ⟨by omega, _, rfl, rfl⟩)
end Go.Proofs.YtmmajabfmhipeaaDoor
