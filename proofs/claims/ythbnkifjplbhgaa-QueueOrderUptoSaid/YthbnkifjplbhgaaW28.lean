/- Part of the proofs over this seat: see the text that holds the theorem. Conditions: each theorem bears its own. -/
import Derived.Test.YthbnkifjplbhgaaW27
namespace Go.Proofs.Ythbnkifjplbhgaa
open Go Go.HL Go.Proofs Go.Tab
theorem wread_fn (bs : Nat) (x0 x1 x2 x5 x6 x7 x8 x9 x10 x11 x13 x14 x15 x16 x17 x19 x20 x22 x25 x26 x27 x28 x29 : Value) (fa : Option Addr) (fc : Nat) (fs : List FileV) (Sf : Hp) (hf : OwnS Efile 3 46 (.slice fa fs.length fc) fs Sf) (hfb : ∀ f ∈ fs, f.b.xs.length ≤ 1048576) (ca : Option Addr) (cc : Nat) (cl : List CallV) (Sc : Hp) (hc : OwnS Ecall 3 49 (.slice ca cl.length cc) cl Sc) (hle : cl.length ≤ 4294967296) (sum : Int) (hsum : 0 ≤ sum ∧ sum ≤ 1152921504606846976) (la wa : Option Addr) (lc wc : Nat) (ll wl : List (Sl UInt8)) (Sn Sw : Hp) (hl : OwnS Esl 1 35 (.slice la ll.length lc) ll Sn) (hw1 : OwnS Esl 1 35 (.slice wa wl.length wc) wl Sw) (hll : ll.length ≤ 1000) (hwl : wl.length = ll.length) (n : ByteArray) : HL.Fn Try.prog 54 [.pointer (some ⟨bs, 0, none⟩), .string n] (OldL (fs.map FileV.b) ((bs, .cells [x0, x1, x2, .pointer none, .slice fa fs.length fc, x5, x6, x7, x8, x9, x10, x11, .bool false, x13, x14, x15, x16, x17, .int .i64 sum, x19, x20, .slice ca cl.length cc, x22, .slice la ll.length lc, .slice wa wl.length wc, x25, x26, x27, x28, x29].toArray 40 (0, 0)) :: (Sf ++ (Sc ++ (Sn ++ Sw))))) ((bs, .cells [x0, x1, x2, .pointer none, .slice fa fs.length fc, x5, x6, x7, x8, x9, x10, x11, .bool false, x13, x14, x15, x16, x17, .int .i64 sum, x19, x20, .slice ca cl.length cc, x22, .slice la ll.length lc, .slice wa wl.length wc, x25, x26, x27, x28, x29].toArray 40 (0, 0)) :: (Sf ++ (Sc ++ (Sn ++ Sw)))) (fun v S' => ∃ a' c' a2 c2 ca' cc' Sc' la' lc', ∃ ll' : List (Sl UInt8), ∃ wa' wc', ∃ wl' : List (Sl UInt8), ∃ Sn' Sw' Sx, v = .slice a' (look fs n).length c' ∧ S' = (bs, .cells [x0, x1, x2, .pointer none, .slice fa fs.length fc, x5, x6, x7, x8, x9, x10, x11, .bool false, x13, x14, x15, x16, x17, .int .i64 (sum + 1 + ([] : List UInt8).length), x19, x20, .slice ca' (cl ++ [(⟨3, n, ⟨a2, c2, []⟩⟩ : CallV)]).length cc', x22, .slice la' ll'.length lc', .slice wa' wl'.length wc', x25, x26, x27, x28, x29].toArray 40 (0, 0)) :: (Sf ++ (Sc' ++ (Sn' ++ (Sw' ++ Sx)))) ∧ (OwnS Esl 1 35 (.slice la' ll'.length lc') ll' Sn' ∧ OwnS Esl 1 35 (.slice wa' wl'.length wc') wl' Sw' ∧ ll'.length ≤ 1000 ∧ wl'.length = ll'.length) ∧ OwnS Ecall 3 49 (.slice ca' (cl ++ [(⟨3, n, ⟨a2, c2, []⟩⟩ : CallV)]).length cc') (cl ++ [(⟨3, n, ⟨a2, c2, []⟩⟩ : CallV)]) Sc' ∧ RdS Eb (.slice a2 ([] : List UInt8).length c2) [] Sx ∧ RdS Eb (.slice a' (look fs n).length c') (look fs n) Sx) := by
  refine fn_of Try.func54 rfl rfl rfl fun w0 hw => ?_
  have hsf := hf.sl
  have hbf := hsf.le
  refine c_seq fun _ hK1 => ?_
  refine c_region ?_
  refine o_step rfl (s_assign rfl) ?_
  refine o_nil ?_
  refine x_then (hK1 _ _ ?_)
  refine c_seq fun _ hK2 => ?_
  refine c_region ?_
  refine o_step rfl (s_move rfl) ?_
  refine o_step rfl (s_move rfl) ?_
  refine o_call (note3_fn bs (x0) (x1) (x2) (.pointer none) (.slice fa fs.length fc) (x5) (x6) (x7) (x8) (x9) (x10) (x11) (x13) (x14) (x15) (x16) (x17) (x19) (x20) (x22) (.slice la ll.length lc) (.slice wa wl.length wc) (x25) (x26) (x27) (x28) (x29) sum n ca cc cl Sc hc hle hsum none 0 [] [] .nil) rfl rfl rfl (by exact Pick.takeC (by first | ((repeat (first | exact .one | exact .here | exact .all | apply Pick.cons | apply Pick.app)); done) | ((repeat (first | exact .one | exact .here | exact .all | apply Pick.cons | apply Pick.assoc | apply Pick.app)); done) | exact Pick.takeA (by repeat (first | exact .one | exact .here | exact .all | apply Pick.cons | apply Pick.assoc | apply Pick.app)) (by repeat (first | exact .one | exact .here | exact .all | apply Pick.cons | apply Pick.assoc | apply Pick.app))) (Pick.takeA (by first | ((repeat (first | exact .one | exact .here | exact .all | apply Pick.cons | apply Pick.app)); done) | ((repeat (first | exact .one | exact .here | exact .all | apply Pick.cons | apply Pick.assoc | apply Pick.app)); done) | exact Pick.takeA (by repeat (first | exact .one | exact .here | exact .all | apply Pick.cons | apply Pick.assoc | apply Pick.app)) (by repeat (first | exact .one | exact .here | exact .all | apply Pick.cons | apply Pick.assoc | apply Pick.app))) .nil)) (fun _ _ => trivial) (fun v10 S10 ⟨hv10, a10, c10, a10c, c10c, Sc10, Sx10, hS10, hc10, hx10⟩ => ?_)
  subst hv10
  subst hS10
  refine o_nil ?_
  refine x_then (hK2 _ _ ?_)
  refine c_seq fun _ hK3 => ?_
  refine c_seq fun _ hK4 => ?_
  refine c_region ?_
  refine o_step rfl (s_move rfl) ?_
  refine o_step rfl (s_nil rfl) ?_
  refine o_step rfl (s_field rfl rfl (by decide)) ?_
  refine o_step rfl (s_ld rfl (.own (by repeat (first | exact List.mem_cons_self | apply List.mem_cons_of_mem | apply mem_assoc | apply mem_app)) rfl)) ?_
  refine o_step rfl (step_cast (v' := .bool false) (s_neq_nilp rfl rfl) rfl) ?_
  refine o_nil ?_
  refine x_then (hK4 _ _ ?_)
  refine c_false rfl ?_
  refine c_skip ?_
  refine x_then (hK3 _ _ ?_)
  refine c_seq fun _ hK5 => ?_
  refine c_seq fun _ hK6 => ?_
  refine c_region ?_
  refine o_step rfl (s_move rfl) ?_
  refine o_step rfl (s_nil rfl) ?_
  refine o_step rfl (s_field rfl rfl (by decide)) ?_
  refine o_step rfl (s_ld rfl (.own (by repeat (first | exact List.mem_cons_self | apply List.mem_cons_of_mem | apply mem_assoc | apply mem_app)) rfl)) ?_
  refine o_step rfl (s_len rfl) ?_
  refine o_step rfl (s_sub rfl rfl (by omega)) ?_
  refine o_step rfl (s_assign rfl) ?_
  refine o_nil ?_
  refine x_then (hK6 _ _ ?_)
  refine c_block ?_
  -- not carried: 4
  refine c_loopB (fun (m : Nat) => m ≤ fs.length ∧ look fs n = look (fs.take m) n) (fun (m : Nat) => [(7, .int .i64 ((m : Int) - 1))]) [(0, _), (1, _)] (fun (m : Nat) => (bs, .cells [x0, x1, x2, .pointer none, .slice fa fs.length fc, x5, x6, x7, x8, x9, x10, x11, .bool false, x13, x14, x15, x16, x17, .int .i64 (sum + 1 + ([] : List UInt8).length), x19, x20, .slice a10c (cl ++ [(⟨3, n, ⟨a10, c10, []⟩⟩ : CallV)]).length c10c, x22, .slice la ll.length lc, .slice wa wl.length wc, x25, x26, x27, x28, x29].toArray 40 (0, 0)) :: (Sf ++ (Sc10 ++ (Sx10 ++ (Sn ++ Sw))))) (fun (m : Nat) => m) fs.length ⟨by omega, by rw [List.take_length]⟩ (by repeat (first | exact Sub.nil | refine Sub.cons rfl ?_)) (by repeat (first | exact Sub.nil | refine Sub.cons rfl ?_)) (by repeat (first | exact HSub.refl _ | exact HSub.nil | refine HSub.takeC (by first | ((repeat (first | exact .one | exact .here | exact .all | apply Pick.cons | apply Pick.app)); done) | ((repeat (first | exact .one | exact .here | exact .all | apply Pick.cons | apply Pick.assoc | apply Pick.app)); done) | exact Pick.takeA (by repeat (first | exact .one | exact .here | exact .all | apply Pick.cons | apply Pick.assoc | apply Pick.app)) (by repeat (first | exact .one | exact .here | exact .all | apply Pick.cons | apply Pick.assoc | apply Pick.app))) ?_ | refine HSub.take (by first | ((repeat (first | exact .one | exact .here | exact .all | apply Pick.cons | apply Pick.app)); done) | ((repeat (first | exact .one | exact .here | exact .all | apply Pick.cons | apply Pick.assoc | apply Pick.app)); done) | exact Pick.takeA (by repeat (first | exact .one | exact .here | exact .all | apply Pick.cons | apply Pick.assoc | apply Pick.app)) (by repeat (first | exact .one | exact .here | exact .all | apply Pick.cons | apply Pick.assoc | apply Pick.app))) ?_ | exact HSub.of_pick (by first | ((repeat (first | exact .one | exact .here | exact .all | apply Pick.cons | apply Pick.app)); done) | ((repeat (first | exact .one | exact .here | exact .all | apply Pick.cons | apply Pick.assoc | apply Pick.app)); done) | exact Pick.takeA (by repeat (first | exact .one | exact .here | exact .all | apply Pick.cons | apply Pick.assoc | apply Pick.app)) (by repeat (first | exact .one | exact .here | exact .all | apply Pick.cons | apply Pick.assoc | apply Pick.app))))) ?_
  rintro m ⟨hm, hlk⟩
  refine c_seq fun _ hK7 => ?_
  refine c_seq fun _ hK8 => ?_
  refine c_region ?_
  refine o_step rfl (s_move rfl) ?_
  refine o_step rfl (s_geq rfl rfl) ?_
  refine o_nil ?_
  refine x_then (hK8 _ _ ?_)
  refine c_if rfl (fun hlt => ?_) (fun hlt => ?_)
  · skip
    obtain ⟨j, rfl⟩ : ∃ j, m = j + 1 := ⟨m - 1, by omega⟩
    have hj : j < fs.length := by omega
    refine c_skip ?_
    refine x_then (hK7 _ _ ?_)
    refine c_seq fun _ hK9 => ?_
    refine c_block ?_
    refine c_seq fun _ hK10 => ?_
    refine c_region ?_
    refine o_step rfl (s_move rfl) ?_
    refine o_step rfl (s_nil rfl) ?_
    refine o_step rfl (s_field rfl rfl (by decide)) ?_
    refine o_step rfl (s_ld rfl (.own (by repeat (first | exact List.mem_cons_self | apply List.mem_cons_of_mem | apply mem_assoc | apply mem_app)) rfl)) ?_
    refine o_step rfl (s_move rfl) ?_
    refine o_step rfl (s_idx rfl rfl (by assumption) (by omega)) ?_
    refine o_step rfl (s_field rfl rfl (by decide)) ?_
    refine o_step rfl (s_ld rfl ((hf.rdk (by repeat (first | exact HIn.here | exact HIn.all | exact HIn.one | apply HIn.cons | apply HIn.assoc | apply HIn.app))).ld j 0 (gd_get (d := fz) (by omega)) rfl (by decide) (by omega))) ?_
    refine o_step rfl (s_move rfl) ?_
    refine o_step rfl (s_eql_str rfl rfl) ?_
    refine o_nil ?_
    refine x_then (hK10 _ _ ?_)
    refine c_if rfl (fun hne => ?_) (fun hne => ?_)
    · skip
      have e : look fs n = (fs.getD j fz).b.xs := by rw [hlk, look_take hj, if_pos hne]
      refine c_seq fun _ hK11 => ?_
      refine c_region ?_
      refine o_step rfl (s_move rfl) ?_
      refine o_step rfl (s_move rfl) ?_
      refine o_step rfl (s_nil rfl) ?_
      refine o_step rfl (s_field rfl rfl (by decide)) ?_
      refine o_step rfl (s_ld rfl (.own (by repeat (first | exact List.mem_cons_self | apply List.mem_cons_of_mem | apply mem_assoc | apply mem_app)) rfl)) ?_
      refine o_step rfl (s_move rfl) ?_
      refine o_step rfl (s_idx rfl rfl (by assumption) (by omega)) ?_
      refine o_step rfl (s_field rfl rfl (by decide)) ?_
      refine o_step rfl (s_ld rfl ((hf.rdk (by repeat (first | exact HIn.here | exact HIn.all | exact HIn.one | apply HIn.cons | apply HIn.assoc | apply HIn.app))).ld j 1 (gd_get (d := fz) (by omega)) rfl (by decide) (by omega))) ?_
      refine o_call (lends_fn bs (x0) (x1) (x2) (.pointer none) (.slice fa fs.length fc) (x5) (x6) (x7) (x8) (x9) (x10) (x11) (x13) (x14) (x15) (x16) (x17) (.int .i64 (sum + 1 + ([] : List UInt8).length)) (x19) (x20) (.slice a10c (cl ++ [(⟨3, n, ⟨a10, c10, []⟩⟩ : CallV)]).length c10c) (x22) (x25) (x26) (x27) (x28) (x29) la wa lc wc ll wl Sn Sw hl hw1 hll hwl (fs.getD j fz).b.a (fs.getD j fz).b.c (fs.getD j fz).b.xs (by have := hfb _ (gd_mem (d := fz) hj); omega)) rfl rfl rfl ((Pick.takeC (by first | ((repeat (first | exact .one | exact .here | exact .all | apply Pick.cons | apply Pick.app)); done) | ((repeat (first | exact .one | exact .here | exact .all | apply Pick.cons | apply Pick.assoc | apply Pick.app)); done) | exact Pick.takeA (by repeat (first | exact .one | exact .here | exact .all | apply Pick.cons | apply Pick.assoc | apply Pick.app)) (by repeat (first | exact .one | exact .here | exact .all | apply Pick.cons | apply Pick.assoc | apply Pick.app))) (Pick.takeA (by first | ((repeat (first | exact .one | exact .here | exact .all | apply Pick.cons | apply Pick.app)); done) | ((repeat (first | exact .one | exact .here | exact .all | apply Pick.cons | apply Pick.assoc | apply Pick.app)); done) | exact Pick.takeA (by repeat (first | exact .one | exact .here | exact .all | apply Pick.cons | apply Pick.assoc | apply Pick.app)) (by repeat (first | exact .one | exact .here | exact .all | apply Pick.cons | apply Pick.assoc | apply Pick.app))) (by first | ((repeat (first | exact .one | exact .here | exact .all | apply Pick.cons | apply Pick.app)); done) | ((repeat (first | exact .one | exact .here | exact .all | apply Pick.cons | apply Pick.assoc | apply Pick.app)); done) | exact Pick.takeA (by repeat (first | exact .one | exact .here | exact .all | apply Pick.cons | apply Pick.assoc | apply Pick.app)) (by repeat (first | exact .one | exact .here | exact .all | apply Pick.cons | apply Pick.assoc | apply Pick.app)))))) (fun w st => OldL.st hw st (hin_sub (by repeat (first | exact HSub.refl _ | exact HSub.nil | refine HSub.takeC (by first | ((repeat (first | exact .one | exact .here | exact .all | apply Pick.cons | apply Pick.app)); done) | ((repeat (first | exact .one | exact .here | exact .all | apply Pick.cons | apply Pick.assoc | apply Pick.app)); done) | exact Pick.takeA (by repeat (first | exact .one | exact .here | exact .all | apply Pick.cons | apply Pick.assoc | apply Pick.app)) (by repeat (first | exact .one | exact .here | exact .all | apply Pick.cons | apply Pick.assoc | apply Pick.app))) ?_ | refine HSub.take (by first | ((repeat (first | exact .one | exact .here | exact .all | apply Pick.cons | apply Pick.app)); done) | ((repeat (first | exact .one | exact .here | exact .all | apply Pick.cons | apply Pick.assoc | apply Pick.app)); done) | exact Pick.takeA (by repeat (first | exact .one | exact .here | exact .all | apply Pick.cons | apply Pick.assoc | apply Pick.app)) (by repeat (first | exact .one | exact .here | exact .all | apply Pick.cons | apply Pick.assoc | apply Pick.app))) ?_ | exact HSub.of_pick (by first | ((repeat (first | exact .one | exact .here | exact .all | apply Pick.cons | apply Pick.app)); done) | ((repeat (first | exact .one | exact .here | exact .all | apply Pick.cons | apply Pick.assoc | apply Pick.app)); done) | exact Pick.takeA (by repeat (first | exact .one | exact .here | exact .all | apply Pick.cons | apply Pick.assoc | apply Pick.app)) (by repeat (first | exact .one | exact .here | exact .all | apply Pick.cons | apply Pick.assoc | apply Pick.app)))))) _ (List.mem_map_of_mem (gd_mem (d := fz) hj))) (fun v57 S57 ⟨a57, c57, la57, lc57, ll57, wa57, wc57, wl57, Sn57, Sw57, Sx57, hv57, hS57, hlp57, hr57⟩ => ?_)
      subst hv57
      subst hS57
      refine o_step rfl (s_assign rfl) ?_
      refine o_nil ?_
      refine x_then (hK11 _ _ ?_)
      refine c_ret ?_
      refine x_block_ret (x_then_ret (x_then_ret (x_block_ret (x_then_ret (?_)))))
      refine x_sub (Sub.refl _) (H' := (bs, .cells [x0, x1, x2, .pointer none, .slice fa fs.length fc, x5, x6, x7, x8, x9, x10, x11, .bool false, x13, x14, x15, x16, x17, .int .i64 (sum + 1 + ([] : List UInt8).length), x19, x20, .slice a10c (cl ++ [(⟨3, n, ⟨a10, c10, []⟩⟩ : CallV)]).length c10c, x22, .slice la57 ll57.length lc57, .slice wa57 wl57.length wc57, x25, x26, x27, x28, x29].toArray 40 (0, 0)) :: (Sf ++ (Sc10 ++ (Sn57 ++ (Sw57 ++ (Sx10 ++ Sx57)))))) (by repeat (first | exact HSub.refl _ | exact HSub.nil | refine HSub.takeC (by first | ((repeat (first | exact .one | exact .here | exact .all | apply Pick.cons | apply Pick.app)); done) | ((repeat (first | exact .one | exact .here | exact .all | apply Pick.cons | apply Pick.assoc | apply Pick.app)); done) | exact Pick.takeA (by repeat (first | exact .one | exact .here | exact .all | apply Pick.cons | apply Pick.assoc | apply Pick.app)) (by repeat (first | exact .one | exact .here | exact .all | apply Pick.cons | apply Pick.assoc | apply Pick.app))) ?_ | refine HSub.take (by first | ((repeat (first | exact .one | exact .here | exact .all | apply Pick.cons | apply Pick.app)); done) | ((repeat (first | exact .one | exact .here | exact .all | apply Pick.cons | apply Pick.assoc | apply Pick.app)); done) | exact Pick.takeA (by repeat (first | exact .one | exact .here | exact .all | apply Pick.cons | apply Pick.assoc | apply Pick.app)) (by repeat (first | exact .one | exact .here | exact .all | apply Pick.cons | apply Pick.assoc | apply Pick.app))) ?_ | exact HSub.of_pick (by first | ((repeat (first | exact .one | exact .here | exact .all | apply Pick.cons | apply Pick.app)); done) | ((repeat (first | exact .one | exact .here | exact .all | apply Pick.cons | apply Pick.assoc | apply Pick.app)); done) | exact Pick.takeA (by repeat (first | exact .one | exact .here | exact .all | apply Pick.cons | apply Pick.assoc | apply Pick.app)) (by repeat (first | exact .one | exact .here | exact .all | apply Pick.cons | apply Pick.assoc | apply Pick.app))))) ?_
      exact x_ret rfl (.tmp rfl (.nil)) (by simp only [e]; exact ⟨_, _, _, _, _, _, _, _, _, _, _, _, _, _, _, _, rfl, rfl, hlp57, hc10, hx10.rds.mono HIn.appL, hr57.mono HIn.appR⟩)
    · skip
      refine c_skip ?_
      refine x_block ?_
      refine x_then (hK9 _ _ ?_)
      refine c_region ?_
      refine o_step rfl (s_move rfl) ?_
      refine o_step rfl (step_cast (v' := .int .i64 ((j : Int) - 1)) (s_sub rfl rfl (by omega)) (congrArg (Value.int .i64) (by omega))) ?_
      refine o_step rfl (s_assign rfl) ?_
      refine o_nil ?_
      exact x_then (x_inv j ⟨by omega, by rw [hlk, look_take hj, if_neg hne]⟩ (by omega) (by repeat (first | exact Sub.nil | refine Sub.cons rfl ?_)) (by repeat (first | exact HSub.refl _ | exact HSub.nil | refine HSub.takeC (by first | ((repeat (first | exact .one | exact .here | exact .all | apply Pick.cons | apply Pick.app)); done) | ((repeat (first | exact .one | exact .here | exact .all | apply Pick.cons | apply Pick.assoc | apply Pick.app)); done) | exact Pick.takeA (by repeat (first | exact .one | exact .here | exact .all | apply Pick.cons | apply Pick.assoc | apply Pick.app)) (by repeat (first | exact .one | exact .here | exact .all | apply Pick.cons | apply Pick.assoc | apply Pick.app))) ?_ | refine HSub.take (by first | ((repeat (first | exact .one | exact .here | exact .all | apply Pick.cons | apply Pick.app)); done) | ((repeat (first | exact .one | exact .here | exact .all | apply Pick.cons | apply Pick.assoc | apply Pick.app)); done) | exact Pick.takeA (by repeat (first | exact .one | exact .here | exact .all | apply Pick.cons | apply Pick.assoc | apply Pick.app)) (by repeat (first | exact .one | exact .here | exact .all | apply Pick.cons | apply Pick.assoc | apply Pick.app))) ?_ | exact HSub.of_pick (by first | ((repeat (first | exact .one | exact .here | exact .all | apply Pick.cons | apply Pick.app)); done) | ((repeat (first | exact .one | exact .here | exact .all | apply Pick.cons | apply Pick.assoc | apply Pick.app)); done) | exact Pick.takeA (by repeat (first | exact .one | exact .here | exact .all | apply Pick.cons | apply Pick.assoc | apply Pick.app)) (by repeat (first | exact .one | exact .here | exact .all | apply Pick.cons | apply Pick.assoc | apply Pick.app))))))
  · skip
    have hm0 : m = 0 := by omega
    subst hm0
    have e0 : look fs n = [] := hlk
    refine c_exit ?_
    refine x_then_exit ?_
    refine x_then_exit ?_
    refine x_block_exit ?_
    refine x_then (hK5 _ _ ?_)
    refine c_seq fun _ hK12 => ?_
    refine c_region ?_
    refine o_step rfl (s_assign rfl) ?_
    refine o_nil ?_
    refine x_then (hK12 _ _ ?_)
    refine c_ret ?_
    refine ?_
    refine x_sub (Sub.refl _) (H' := (bs, .cells [x0, x1, x2, .pointer none, .slice fa fs.length fc, x5, x6, x7, x8, x9, x10, x11, .bool false, x13, x14, x15, x16, x17, .int .i64 (sum + 1 + ([] : List UInt8).length), x19, x20, .slice a10c (cl ++ [(⟨3, n, ⟨a10, c10, []⟩⟩ : CallV)]).length c10c, x22, .slice la ll.length lc, .slice wa wl.length wc, x25, x26, x27, x28, x29].toArray 40 (0, 0)) :: (Sf ++ (Sc10 ++ (Sn ++ (Sw ++ Sx10))))) (by repeat (first | exact HSub.refl _ | exact HSub.nil | refine HSub.takeC (by first | ((repeat (first | exact .one | exact .here | exact .all | apply Pick.cons | apply Pick.app)); done) | ((repeat (first | exact .one | exact .here | exact .all | apply Pick.cons | apply Pick.assoc | apply Pick.app)); done) | exact Pick.takeA (by repeat (first | exact .one | exact .here | exact .all | apply Pick.cons | apply Pick.assoc | apply Pick.app)) (by repeat (first | exact .one | exact .here | exact .all | apply Pick.cons | apply Pick.assoc | apply Pick.app))) ?_ | refine HSub.take (by first | ((repeat (first | exact .one | exact .here | exact .all | apply Pick.cons | apply Pick.app)); done) | ((repeat (first | exact .one | exact .here | exact .all | apply Pick.cons | apply Pick.assoc | apply Pick.app)); done) | exact Pick.takeA (by repeat (first | exact .one | exact .here | exact .all | apply Pick.cons | apply Pick.assoc | apply Pick.app)) (by repeat (first | exact .one | exact .here | exact .all | apply Pick.cons | apply Pick.assoc | apply Pick.app))) ?_ | exact HSub.of_pick (by first | ((repeat (first | exact .one | exact .here | exact .all | apply Pick.cons | apply Pick.app)); done) | ((repeat (first | exact .one | exact .here | exact .all | apply Pick.cons | apply Pick.assoc | apply Pick.app)); done) | exact Pick.takeA (by repeat (first | exact .one | exact .here | exact .all | apply Pick.cons | apply Pick.assoc | apply Pick.app)) (by repeat (first | exact .one | exact .here | exact .all | apply Pick.cons | apply Pick.assoc | apply Pick.app))))) ?_
    exact x_ret rfl (.tmp rfl (.nil)) (by simp only [e0]; exact ⟨none, 0, _, _, _, _, _, _, _, _, _, _, _, _, _, _, rfl, rfl, ⟨hl, hw1, hll, hwl⟩, hc10, hx10.rds, RdS.nil⟩)

theorem sread_fn (bs : Nat) (x0 x1 x2 x5 x6 x7 x8 x9 x10 x11 x13 x14 x15 x16 x17 x19 x20 x22 x25 x26 x27 x28 x29 : Value) (fa : Option Addr) (fc : Nat) (fs : List FileV) (Sf : Hp) (hf : OwnS Efile 3 46 (.slice fa fs.length fc) fs Sf) (hfb : ∀ f ∈ fs, f.b.xs.length ≤ 1048576) (ca : Option Addr) (cc : Nat) (cl : List CallV) (Sc : Hp) (hc : OwnS Ecall 3 49 (.slice ca cl.length cc) cl Sc) (hle : cl.length ≤ 4294967296) (sum : Int) (hsum : 0 ≤ sum ∧ sum ≤ 1152921504606846976) (la wa : Option Addr) (lc wc : Nat) (ll wl : List (Sl UInt8)) (Sn Sw : Hp) (hl : OwnS Esl 1 35 (.slice la ll.length lc) ll Sn) (hw1 : OwnS Esl 1 35 (.slice wa wl.length wc) wl Sw) (hll : ll.length ≤ 1000) (hwl : wl.length = ll.length) (n : ByteArray) : HL.Fn Try.prog 22 [.pointer (some ⟨bs, 0, none⟩), .string n] (OldL (fs.map FileV.b) ((bs, .cells [x0, x1, x2, .pointer none, .slice fa fs.length fc, x5, x6, x7, x8, x9, x10, x11, .bool false, x13, x14, x15, x16, x17, .int .i64 sum, x19, x20, .slice ca cl.length cc, x22, .slice la ll.length lc, .slice wa wl.length wc, x25, x26, x27, x28, x29].toArray 40 (0, 0)) :: (Sf ++ (Sc ++ (Sn ++ Sw))))) ((bs, .cells [x0, x1, x2, .pointer none, .slice fa fs.length fc, x5, x6, x7, x8, x9, x10, x11, .bool false, x13, x14, x15, x16, x17, .int .i64 sum, x19, x20, .slice ca cl.length cc, x22, .slice la ll.length lc, .slice wa wl.length wc, x25, x26, x27, x28, x29].toArray 40 (0, 0)) :: (Sf ++ (Sc ++ (Sn ++ Sw)))) (fun v S' => ∃ a' c' a2 c2 ca' cc' Sc' la' lc', ∃ ll' : List (Sl UInt8), ∃ wa' wc', ∃ wl' : List (Sl UInt8), ∃ Sn' Sw' Sx, v = .slice a' (look fs n).length c' ∧ S' = (bs, .cells [x0, x1, x2, .pointer none, .slice fa fs.length fc, x5, x6, x7, x8, x9, x10, x11, .bool false, x13, x14, x15, x16, x17, .int .i64 (sum + 1 + ([] : List UInt8).length), x19, x20, .slice ca' (cl ++ [(⟨3, n, ⟨a2, c2, []⟩⟩ : CallV)]).length cc', x22, .slice la' ll'.length lc', .slice wa' wl'.length wc', x25, x26, x27, x28, x29].toArray 40 (0, 0)) :: (Sf ++ (Sc' ++ (Sn' ++ (Sw' ++ Sx)))) ∧ (OwnS Esl 1 35 (.slice la' ll'.length lc') ll' Sn' ∧ OwnS Esl 1 35 (.slice wa' wl'.length wc') wl' Sw' ∧ ll'.length ≤ 1000 ∧ wl'.length = ll'.length) ∧ OwnS Ecall 3 49 (.slice ca' (cl ++ [(⟨3, n, ⟨a2, c2, []⟩⟩ : CallV)]).length cc') (cl ++ [(⟨3, n, ⟨a2, c2, []⟩⟩ : CallV)]) Sc' ∧ RdS Eb (.slice a2 ([] : List UInt8).length c2) [] Sx ∧ RdS Eb (.slice a' (look fs n).length c') (look fs n) Sx) := by
  refine fn_of Try.func22 rfl rfl rfl fun w0 hw => ?_
  refine c_seq fun _ hK1 => ?_
  refine c_region ?_
  refine o_step rfl (s_assign rfl) ?_
  refine o_nil ?_
  refine x_then (hK1 _ _ ?_)
  refine c_seq fun _ hK2 => ?_
  refine c_region ?_
  refine o_step rfl (s_move rfl) ?_
  refine o_step rfl (s_nil rfl) ?_
  refine o_step rfl (s_field rfl rfl (by decide)) ?_
  refine o_step rfl (s_move rfl) ?_
  refine o_call (wread_fn bs (x0) (x1) (x2) (x5) (x6) (x7) (x8) (x9) (x10) (x11) (x13) (x14) (x15) (x16) (x17) (x19) (x20) (x22) (x25) (x26) (x27) (x28) (x29) fa fc fs Sf hf hfb ca cc cl Sc hc hle sum hsum la wa lc wc ll wl Sn Sw hl hw1 hll hwl n) rfl rfl rfl (by exact .all) (fun w st => OldL.st hw st (hin_sub (by repeat (first | exact HSub.refl _ | exact HSub.nil | refine HSub.takeC (by first | ((repeat (first | exact .one | exact .here | exact .all | apply Pick.cons | apply Pick.app)); done) | ((repeat (first | exact .one | exact .here | exact .all | apply Pick.cons | apply Pick.assoc | apply Pick.app)); done) | exact Pick.takeA (by repeat (first | exact .one | exact .here | exact .all | apply Pick.cons | apply Pick.assoc | apply Pick.app)) (by repeat (first | exact .one | exact .here | exact .all | apply Pick.cons | apply Pick.assoc | apply Pick.app))) ?_ | refine HSub.take (by first | ((repeat (first | exact .one | exact .here | exact .all | apply Pick.cons | apply Pick.app)); done) | ((repeat (first | exact .one | exact .here | exact .all | apply Pick.cons | apply Pick.assoc | apply Pick.app)); done) | exact Pick.takeA (by repeat (first | exact .one | exact .here | exact .all | apply Pick.cons | apply Pick.assoc | apply Pick.app)) (by repeat (first | exact .one | exact .here | exact .all | apply Pick.cons | apply Pick.assoc | apply Pick.app))) ?_ | exact HSub.of_pick (by first | ((repeat (first | exact .one | exact .here | exact .all | apply Pick.cons | apply Pick.app)); done) | ((repeat (first | exact .one | exact .here | exact .all | apply Pick.cons | apply Pick.assoc | apply Pick.app)); done) | exact Pick.takeA (by repeat (first | exact .one | exact .here | exact .all | apply Pick.cons | apply Pick.assoc | apply Pick.app)) (by repeat (first | exact .one | exact .here | exact .all | apply Pick.cons | apply Pick.assoc | apply Pick.app))))))) (fun v9 S9 h9 => ?_)
  refine o_step rfl (s_assign rfl) ?_
  refine o_nil ?_
  refine x_then (hK2 _ _ ?_)
  refine c_ret ?_
  refine ?_
  refine x_sub (Sub.refl _) (H' := S9) (by repeat (first | exact HSub.refl _ | exact HSub.nil | refine HSub.takeC (by first | ((repeat (first | exact .one | exact .here | exact .all | apply Pick.cons | apply Pick.app)); done) | ((repeat (first | exact .one | exact .here | exact .all | apply Pick.cons | apply Pick.assoc | apply Pick.app)); done) | exact Pick.takeA (by repeat (first | exact .one | exact .here | exact .all | apply Pick.cons | apply Pick.assoc | apply Pick.app)) (by repeat (first | exact .one | exact .here | exact .all | apply Pick.cons | apply Pick.assoc | apply Pick.app))) ?_ | refine HSub.take (by first | ((repeat (first | exact .one | exact .here | exact .all | apply Pick.cons | apply Pick.app)); done) | ((repeat (first | exact .one | exact .here | exact .all | apply Pick.cons | apply Pick.assoc | apply Pick.app)); done) | exact Pick.takeA (by repeat (first | exact .one | exact .here | exact .all | apply Pick.cons | apply Pick.assoc | apply Pick.app)) (by repeat (first | exact .one | exact .here | exact .all | apply Pick.cons | apply Pick.assoc | apply Pick.app))) ?_ | exact HSub.of_pick (by first | ((repeat (first | exact .one | exact .here | exact .all | apply Pick.cons | apply Pick.app)); done) | ((repeat (first | exact .one | exact .here | exact .all | apply Pick.cons | apply Pick.assoc | apply Pick.app)); done) | exact Pick.takeA (by repeat (first | exact .one | exact .here | exact .all | apply Pick.cons | apply Pick.assoc | apply Pick.app)) (by repeat (first | exact .one | exact .here | exact .all | apply Pick.cons | apply Pick.assoc | apply Pick.app))))) ?_
  exact x_ret rfl (.tmp rfl (.nil)) (h9)

theorem wout_fn (bs : Nat) (x0 x1 x3 x4 x8 x10 x11 x14 x15 x16 x20 x23 x24 x25 x26 x27 x28 x29 : Value) (aa : Option Addr) (ac : Nat) (al : List UInt8) (Sa : Hp) (ha : OwnS Eb 1 5 (.slice aa al.length ac) al Sa) (ga : Option Addr) (gc : Nat) (gl : List (Sl UInt8)) (Sg : Hp) (hg : OwnS Esl 1 35 (.slice ga gl.length gc) gl Sg) (hgl : gl.length ≤ 4294967296) (fail err outs : Int) (hout : 0 ≤ outs ∧ outs ≤ 1152921504606846976) (ca : Option Addr) (cc : Nat) (cl : List CallV) (Sc : Hp) (hc : OwnS Ecall 3 49 (.slice ca cl.length cc) cl Sc) (hle : cl.length ≤ 4294967296) (sum : Int) (hsum : 0 ≤ sum ∧ sum ≤ 1152921504606846976) (a : Option Addr) (c : Nat) (b : List UInt8) (Sb : Hp) (hb : OwnS Eb 1 5 (.slice a b.length c) b Sb) (hal : al.length + b.length ≤ 140737488355328) : HL.Fn Try.prog 55 [.pointer (some ⟨bs, 0, none⟩), .slice a b.length c] (fun _ => True) ((bs, .cells [x0, x1, .pointer none, x3, x4, .int .i64 fail, .int .i64 err, .int .i64 0, x8, .pointer none, x10, x11, .bool false, .bool false, x14, x15, x16, .int .i64 outs, .int .i64 sum, .slice aa al.length ac, x20, .slice ca cl.length cc, .slice ga gl.length gc, x23, x24, x25, x26, x27, x28, x29].toArray 40 (0, 0)) :: (Sa ++ (Sc ++ (Sg ++ Sb)))) (fun v S' => v = .int .i64 (if outs + 1 = fail then err else 0) ∧ ∃ a1 c1 aa' ac' ca' cc' ga' gc' Sa' Sc' Sg' Sx, S' = (bs, .cells [x0, x1, .pointer none, x3, x4, .int .i64 fail, .int .i64 err, .int .i64 0, x8, .pointer none, x10, x11, .bool false, .bool false, x14, x15, x16, .int .i64 (outs + 1), .int .i64 (sum + 1 + b.length), .slice aa' (al ++ b).length ac', x20, .slice ca' (cl ++ [(⟨1, ⟨#[]⟩, ⟨a1, c1, b⟩⟩ : CallV)]).length cc', .slice ga' (gl ++ [(⟨a, c, b⟩ : Sl UInt8)]).length gc', x23, x24, x25, x26, x27, x28, x29].toArray 40 (0, 0)) :: (Sa' ++ (Sc' ++ (Sg' ++ (Sx ++ Sb)))) ∧ OwnS Eb 1 5 (.slice aa' (al ++ b).length ac') (al ++ b) Sa' ∧ OwnS Ecall 3 49 (.slice ca' (cl ++ [(⟨1, ⟨#[]⟩, ⟨a1, c1, b⟩⟩ : CallV)]).length cc') (cl ++ [(⟨1, ⟨#[]⟩, ⟨a1, c1, b⟩⟩ : CallV)]) Sc' ∧ OwnS Esl 1 35 (.slice ga' (gl ++ [(⟨a, c, b⟩ : Sl UInt8)]).length gc') (gl ++ [(⟨a, c, b⟩ : Sl UInt8)]) Sg' ∧ OwnS Eb 1 5 (.slice a1 b.length c1) b Sx) := by
  refine fn_of Try.func55 rfl rfl rfl fun w0 hw => ?_
  refine c_seq fun _ hK1 => ?_
  refine c_region ?_
  refine o_step rfl (s_assign rfl) ?_
  refine o_nil ?_
  refine x_then (hK1 _ _ ?_)
  refine c_seq fun _ hK2 => ?_
  refine c_region ?_
  refine o_step rfl (s_move rfl) ?_
  refine o_step rfl (s_move rfl) ?_
  refine o_call (note1_fn bs (x0) (x1) (.pointer none) (x3) (x4) (.int .i64 fail) (.int .i64 err) (.int .i64 0) (x8) (.pointer none) (x10) (x11) (.bool false) (x14) (x15) (x16) (.int .i64 outs) (.slice aa al.length ac) (x20) (x23) (x24) (x25) (x26) (x27) (x28) (x29) sum ⟨#[]⟩ ca cc cl Sc hc hle hsum a c b Sb hb ga gc gl Sg hg hgl) rfl rfl rfl ((Pick.takeC (by first | ((repeat (first | exact .one | exact .here | exact .all | apply Pick.cons | apply Pick.app)); done) | ((repeat (first | exact .one | exact .here | exact .all | apply Pick.cons | apply Pick.assoc | apply Pick.app)); done) | exact Pick.takeA (by repeat (first | exact .one | exact .here | exact .all | apply Pick.cons | apply Pick.assoc | apply Pick.app)) (by repeat (first | exact .one | exact .here | exact .all | apply Pick.cons | apply Pick.assoc | apply Pick.app))) (Pick.takeA (by first | ((repeat (first | exact .one | exact .here | exact .all | apply Pick.cons | apply Pick.app)); done) | ((repeat (first | exact .one | exact .here | exact .all | apply Pick.cons | apply Pick.assoc | apply Pick.app)); done) | exact Pick.takeA (by repeat (first | exact .one | exact .here | exact .all | apply Pick.cons | apply Pick.assoc | apply Pick.app)) (by repeat (first | exact .one | exact .here | exact .all | apply Pick.cons | apply Pick.assoc | apply Pick.app))) (by first | ((repeat (first | exact .one | exact .here | exact .all | apply Pick.cons | apply Pick.app)); done) | ((repeat (first | exact .one | exact .here | exact .all | apply Pick.cons | apply Pick.assoc | apply Pick.app)); done) | exact Pick.takeA (by repeat (first | exact .one | exact .here | exact .all | apply Pick.cons | apply Pick.assoc | apply Pick.app)) (by repeat (first | exact .one | exact .here | exact .all | apply Pick.cons | apply Pick.assoc | apply Pick.app)))))) (fun _ _ => trivial) (fun v7 S7 ⟨hv7, a7, c7, a7c, c7c, Sc7, Sx7, ga7, gc7, Sg7, hS7, hc7, hx7, hg7⟩ => ?_)
  subst hv7
  subst hS7
  refine o_nil ?_
  refine x_then (hK2 _ _ ?_)
  refine c_seq fun _ hK3 => ?_
  refine c_region ?_
  refine o_step rfl (s_move rfl) ?_
  refine o_step rfl (s_nil rfl) ?_
  refine o_step rfl (s_field rfl rfl (by decide)) ?_
  refine o_step rfl (s_ld rfl (.own (by repeat (first | exact List.mem_cons_self | apply List.mem_cons_of_mem | apply mem_assoc | apply mem_app)) rfl)) ?_
  refine o_step rfl (s_add rfl rfl (by omega)) ?_
  refine o_step rfl (s_nil rfl) ?_
  refine o_step rfl (s_field rfl rfl (by decide)) ?_
  refine o_store rfl rfl rfl (by repeat (first | exact .here | apply Upd.there | apply Upd.assoc | apply Upd.skip)) (by first | decide | omega | (simp; done) | (simp; omega)) rfl ?_
  refine o_nil ?_
  refine x_then (hK3 _ _ ?_)
  refine c_seq fun _ hK4 => ?_
  refine c_seq fun _ hK5 => ?_
  refine c_region ?_
  refine o_step rfl (s_move rfl) ?_
  refine o_step rfl (s_nil rfl) ?_
  refine o_step rfl (s_field rfl rfl (by decide)) ?_
  refine o_step rfl (s_ld rfl (.own (by repeat (first | exact List.mem_cons_self | apply List.mem_cons_of_mem | apply mem_assoc | apply mem_app)) rfl)) ?_
  refine o_step rfl (step_cast (v' := .bool false) (s_neq_nilp rfl rfl) rfl) ?_
  refine o_nil ?_
  refine x_then (hK5 _ _ ?_)
  refine c_false rfl ?_
  refine c_skip ?_
  refine x_then (hK4 _ _ ?_)
  refine c_seq fun _ hK6 => ?_
  refine c_seq fun _ hK7 => ?_
  refine c_region ?_
  refine o_step rfl (s_move rfl) ?_
  refine o_step rfl (s_nil rfl) ?_
  refine o_step rfl (s_field rfl rfl (by decide)) ?_
  refine o_step rfl (s_ld rfl (.own (by repeat (first | exact List.mem_cons_self | apply List.mem_cons_of_mem | apply mem_assoc | apply mem_app)) rfl)) ?_
  refine o_step rfl (s_not rfl) ?_
  refine o_nil ?_
  refine x_then (hK7 _ _ ?_)
  refine c_true rfl ?_
  refine c_region ?_
  refine o_step rfl (s_move rfl) ?_
  refine o_step rfl (s_move rfl) ?_
  refine o_step rfl (s_nil rfl) ?_
  refine o_step rfl (s_field rfl rfl (by decide)) ?_
  refine o_step rfl (s_ld rfl (.own (by repeat (first | exact List.mem_cons_self | apply List.mem_cons_of_mem | apply mem_assoc | apply mem_app)) rfl)) ?_
  refine o_step rfl (s_move rfl) ?_
  refine o_app ha (hb.rdk (by repeat (first | exact HIn.here | exact HIn.all | exact HIn.one | apply HIn.cons | apply HIn.assoc | apply HIn.app))) rfl rfl rfl rfl (by omega) (by omega) rfl (by first | ((repeat (first | exact .one | exact .here | exact .all | apply Pick.cons | apply Pick.app)); done) | ((repeat (first | exact .one | exact .here | exact .all | apply Pick.cons | apply Pick.assoc | apply Pick.app)); done) | exact Pick.takeA (by repeat (first | exact .one | exact .here | exact .all | apply Pick.cons | apply Pick.assoc | apply Pick.app)) (by repeat (first | exact .one | exact .here | exact .all | apply Pick.cons | apply Pick.assoc | apply Pick.app))) fun a38 c38 S38 hS38 => ?_
  refine o_step rfl (s_nil rfl) ?_
  refine o_step rfl (s_field rfl rfl (by decide)) ?_
  refine o_store rfl rfl rfl (by repeat (first | exact .here | apply Upd.there | apply Upd.assoc | apply Upd.skip)) (by first | decide | omega | (simp; done) | (simp; omega)) rfl ?_
  refine o_nil ?_
  refine x_then (hK6 _ _ ?_)
  refine c_seq fun _ hK8 => ?_
  refine c_seq fun _ hK9 => ?_
  refine c_quiet (by kernel_rfl) ?_
  refine .op rfl (s_move rfl) ?_
  refine .op rfl (s_nil rfl) ?_
  refine .op rfl (s_field rfl rfl (by decide)) ?_
  refine .op rfl (s_ld rfl (.own (by repeat (first | exact List.mem_cons_self | apply List.mem_cons_of_mem | apply mem_assoc | apply mem_app)) rfl)) ?_
  refine .op rfl (step_cast (v' := .bool false) (s_neq_nilp rfl rfl) rfl) ?_
  refine .op rfl (s_move rfl) ?_
  refine .no rfl rfl rfl rfl ?_
  refine .no rfl rfl rfl rfl ?_
  refine .no rfl rfl rfl rfl ?_
  refine .no rfl rfl rfl rfl ?_
  refine .no rfl rfl rfl rfl ?_
  refine .no rfl rfl rfl rfl ?_
  refine .no rfl rfl rfl rfl ?_
  refine .no rfl rfl rfl rfl ?_
  refine .no rfl rfl rfl rfl ?_
  refine .op rfl (s_pick_f rfl rfl) ?_
  refine .nil ?_
  refine x_then (hK9 _ _ ?_)
  refine c_false rfl ?_
  refine c_skip ?_
  refine x_then (hK8 _ _ ?_)
  refine c_seq fun _ hK10 => ?_
  refine c_region ?_
  refine o_step rfl (s_move rfl) ?_
  refine o_callP (told_fn bs (x0) (x1) (.pointer none) (x3) (x4) (x8) (.pointer none) (x10) (x11) (.bool false) (.bool false) (x14) (x15) (x16) (.int .i64 (sum + 1 + b.length)) (.slice a38 (al ++ b).length c38) (x20) (.slice a7c (cl ++ [(⟨1, ⟨#[]⟩, ⟨a7, c7, b⟩⟩ : CallV)]).length c7c) (.slice ga7 (gl ++ [(⟨a, c, b⟩ : Sl UInt8)]).length gc7) (x23) (x24) (x25) (x26) (x27) (x28) (x29) fail err (outs + 1)) rfl rfl rfl (fun w st => (RdPK.own (by repeat (first | exact List.mem_cons_self | apply List.mem_cons_of_mem | apply mem_assoc | apply mem_app))).out w st) (fun v76 hv76 => ?_)
  subst hv76
  refine o_step rfl (s_assign rfl) ?_
  refine o_nil ?_
  refine x_then (hK10 _ _ ?_)
  refine c_ret ?_
  refine ?_
  refine x_sub (Sub.refl _) (H' := (bs, .cells [x0, x1, .pointer none, x3, x4, .int .i64 fail, .int .i64 err, .int .i64 0, x8, .pointer none, x10, x11, .bool false, .bool false, x14, x15, x16, .int .i64 (outs + 1), .int .i64 (sum + 1 + b.length), .slice a38 (al ++ b).length c38, x20, .slice a7c (cl ++ [(⟨1, ⟨#[]⟩, ⟨a7, c7, b⟩⟩ : CallV)]).length c7c, .slice ga7 (gl ++ [(⟨a, c, b⟩ : Sl UInt8)]).length gc7, x23, x24, x25, x26, x27, x28, x29].toArray 40 (0, 0)) :: (S38 ++ (Sc7 ++ (Sg7 ++ (Sx7 ++ Sb))))) (by repeat (first | exact HSub.refl _ | exact HSub.nil | refine HSub.takeC (by first | ((repeat (first | exact .one | exact .here | exact .all | apply Pick.cons | apply Pick.app)); done) | ((repeat (first | exact .one | exact .here | exact .all | apply Pick.cons | apply Pick.assoc | apply Pick.app)); done) | exact Pick.takeA (by repeat (first | exact .one | exact .here | exact .all | apply Pick.cons | apply Pick.assoc | apply Pick.app)) (by repeat (first | exact .one | exact .here | exact .all | apply Pick.cons | apply Pick.assoc | apply Pick.app))) ?_ | refine HSub.take (by first | ((repeat (first | exact .one | exact .here | exact .all | apply Pick.cons | apply Pick.app)); done) | ((repeat (first | exact .one | exact .here | exact .all | apply Pick.cons | apply Pick.assoc | apply Pick.app)); done) | exact Pick.takeA (by repeat (first | exact .one | exact .here | exact .all | apply Pick.cons | apply Pick.assoc | apply Pick.app)) (by repeat (first | exact .one | exact .here | exact .all | apply Pick.cons | apply Pick.assoc | apply Pick.app))) ?_ | exact HSub.of_pick (by first | ((repeat (first | exact .one | exact .here | exact .all | apply Pick.cons | apply Pick.app)); done) | ((repeat (first | exact .one | exact .here | exact .all | apply Pick.cons | apply Pick.assoc | apply Pick.app)); done) | exact Pick.takeA (by repeat (first | exact .one | exact .here | exact .all | apply Pick.cons | apply Pick.assoc | apply Pick.app)) (by repeat (first | exact .one | exact .here | exact .all | apply Pick.cons | apply Pick.assoc | apply Pick.app))))) ?_
  exact x_ret rfl (.tmp rfl (.nil)) (⟨rfl, _, _, _, _, _, _, _, _, _, _, _, _, rfl, hS38, hc7, hg7, hx7⟩)

theorem sout_fn (bs : Nat) (x0 x1 x3 x4 x8 x10 x11 x14 x15 x16 x20 x23 x24 x26 x27 x28 : Value) (aa : Option Addr) (ac : Nat) (al : List UInt8) (Sa : Hp) (ha : OwnS Eb 1 5 (.slice aa al.length ac) al Sa) (ga : Option Addr) (gc : Nat) (gl : List (Sl UInt8)) (Sg : Hp) (hg : OwnS Esl 1 35 (.slice ga gl.length gc) gl Sg) (hgl : gl.length ≤ 4294967296) (fail err outs : Int) (hout : 0 ≤ outs ∧ outs ≤ 1152921504606846976) (ca : Option Addr) (cc : Nat) (cl : List CallV) (Sc : Hp) (hc : OwnS Ecall 3 49 (.slice ca cl.length cc) cl Sc) (hle : cl.length ≤ 4294967296) (sum : Int) (hsum : 0 ≤ sum ∧ sum ≤ 1152921504606846976) (a : Option Addr) (c : Nat) (b : List UInt8) (Sb : Hp) (hb : OwnS Eb 1 5 (.slice a b.length c) b Sb) (hal : al.length + b.length ≤ 140737488355328) (sa : Option Addr) (sc : Nat) (sl : List (Sl UInt8)) (Ss : Hp) (hs : OwnS Esl 1 35 (.slice sa sl.length sc) sl Ss) (hsl : sl.length ≤ 4294967296) : HL.Fn Try.prog 23 [.pointer (some ⟨bs, 0, none⟩), .slice a b.length c] (fun _ => True) ((bs, .cells [x0, x1, .pointer none, x3, x4, .int .i64 fail, .int .i64 err, .int .i64 0, x8, .pointer none, x10, x11, .bool false, .bool false, x14, x15, x16, .int .i64 outs, .int .i64 sum, .slice aa al.length ac, x20, .slice ca cl.length cc, .slice ga gl.length gc, x23, x24, .pointer none, x26, x27, x28, .slice sa sl.length sc].toArray 40 (0, 0)) :: (Sa ++ (Sc ++ (Sg ++ (Ss ++ Sb))))) (fun v S' => v = .int .i64 (if outs + 1 = fail then err else 0) ∧ ∃ a1 c1 aa' ac' ca' cc' ga' gc' sa' sc' a2 c2 Sa' Sc' Sg' Ss' Sx, S' = (bs, .cells [x0, x1, .pointer none, x3, x4, .int .i64 fail, .int .i64 err, .int .i64 0, x8, .pointer none, x10, x11, .bool false, .bool false, x14, x15, x16, .int .i64 (outs + 1), .int .i64 (sum + 1 + b.length), .slice aa' (al ++ b).length ac', x20, .slice ca' (cl ++ [(⟨1, ⟨#[]⟩, ⟨a1, c1, b⟩⟩ : CallV)]).length cc', .slice ga' (gl ++ [(⟨a, c, b⟩ : Sl UInt8)]).length gc', x23, x24, .pointer none, x26, x27, x28, .slice sa' (sl ++ [(⟨a2, c2, b⟩ : Sl UInt8)]).length sc'].toArray 40 (0, 0)) :: (Sa' ++ (Sc' ++ (Sg' ++ (Ss' ++ Sx)))) ∧ OwnS Eb 1 5 (.slice aa' (al ++ b).length ac') (al ++ b) Sa' ∧ OwnS Ecall 3 49 (.slice ca' (cl ++ [(⟨1, ⟨#[]⟩, ⟨a1, c1, b⟩⟩ : CallV)]).length cc') (cl ++ [(⟨1, ⟨#[]⟩, ⟨a1, c1, b⟩⟩ : CallV)]) Sc' ∧ OwnS Esl 1 35 (.slice ga' (gl ++ [(⟨a, c, b⟩ : Sl UInt8)]).length gc') (gl ++ [(⟨a, c, b⟩ : Sl UInt8)]) Sg' ∧ OwnS Esl 1 35 (.slice sa' (sl ++ [(⟨a2, c2, b⟩ : Sl UInt8)]).length sc') (sl ++ [(⟨a2, c2, b⟩ : Sl UInt8)]) Ss' ∧ RdS Eb (.slice a1 b.length c1) b Sx) := by
  refine fn_of Try.func23 rfl rfl rfl fun w0 hw => ?_
  refine c_seq fun _ hK1 => ?_
  refine c_region ?_
  refine o_step rfl (s_assign rfl) ?_
  refine o_nil ?_
  refine x_then (hK1 _ _ ?_)
  refine c_seq fun _ hK2 => ?_
  refine c_region ?_
  refine o_step rfl (s_move rfl) ?_
  refine o_step rfl (s_nil rfl) ?_
  refine o_step rfl (s_field rfl rfl (by decide)) ?_
  refine o_step rfl (s_move rfl) ?_
  refine o_call (wout_fn bs (x0) (x1) (x3) (x4) (x8) (x10) (x11) (x14) (x15) (x16) (x20) (x23) (x24) (.pointer none) (x26) (x27) (x28) (.slice sa sl.length sc) aa ac al Sa ha ga gc gl Sg hg hgl fail err outs hout ca cc cl Sc hc hle sum hsum a c b Sb hb hal) rfl rfl rfl ((Pick.takeC (by first | ((repeat (first | exact .one | exact .here | exact .all | apply Pick.cons | apply Pick.app)); done) | ((repeat (first | exact .one | exact .here | exact .all | apply Pick.cons | apply Pick.assoc | apply Pick.app)); done) | exact Pick.takeA (by repeat (first | exact .one | exact .here | exact .all | apply Pick.cons | apply Pick.assoc | apply Pick.app)) (by repeat (first | exact .one | exact .here | exact .all | apply Pick.cons | apply Pick.assoc | apply Pick.app))) (Pick.takeA (by first | ((repeat (first | exact .one | exact .here | exact .all | apply Pick.cons | apply Pick.app)); done) | ((repeat (first | exact .one | exact .here | exact .all | apply Pick.cons | apply Pick.assoc | apply Pick.app)); done) | exact Pick.takeA (by repeat (first | exact .one | exact .here | exact .all | apply Pick.cons | apply Pick.assoc | apply Pick.app)) (by repeat (first | exact .one | exact .here | exact .all | apply Pick.cons | apply Pick.assoc | apply Pick.app))) (Pick.takeA (by first | ((repeat (first | exact .one | exact .here | exact .all | apply Pick.cons | apply Pick.app)); done) | ((repeat (first | exact .one | exact .here | exact .all | apply Pick.cons | apply Pick.assoc | apply Pick.app)); done) | exact Pick.takeA (by repeat (first | exact .one | exact .here | exact .all | apply Pick.cons | apply Pick.assoc | apply Pick.app)) (by repeat (first | exact .one | exact .here | exact .all | apply Pick.cons | apply Pick.assoc | apply Pick.app))) (by first | ((repeat (first | exact .one | exact .here | exact .all | apply Pick.cons | apply Pick.app)); done) | ((repeat (first | exact .one | exact .here | exact .all | apply Pick.cons | apply Pick.assoc | apply Pick.app)); done) | exact Pick.takeA (by repeat (first | exact .one | exact .here | exact .all | apply Pick.cons | apply Pick.assoc | apply Pick.app)) (by repeat (first | exact .one | exact .here | exact .all | apply Pick.cons | apply Pick.assoc | apply Pick.app))))))) (fun _ _ => trivial) (fun v10 S10 ⟨hv10, a10, c10, aa10, ac10, ca10, cc10, ga10, gc10, Sa10, Sc10, Sg10, Sx10, hS10, ha10, hc10, hg10, hx10⟩ => ?_)
  subst hv10
  subst hS10
  refine o_step rfl (s_assign rfl) ?_
  refine o_nil ?_
  refine x_then (hK2 _ _ ?_)
  refine c_seq fun _ hK3 => ?_
  refine c_drawE ([(bs, .cells [x0, x1, .pointer none, x3, x4, .int .i64 fail, .int .i64 err, .int .i64 0, x8, .pointer none, x10, x11, .bool false, .bool false, x14, x15, x16, .int .i64 (outs + 1), .int .i64 (sum + 1 + b.length), .slice aa10 (al ++ b).length ac10, x20, .slice ca10 (cl ++ [(⟨1, ⟨#[]⟩, ⟨a10, c10, b⟩⟩ : CallV)]).length cc10, .slice ga10 (gl ++ [(⟨a, c, b⟩ : Sl UInt8)]).length gc10, x23, x24, .pointer none, x26, x27, x28, .slice sa sl.length sc].toArray 40 (0, 0))]) (fun i => Nat.beq i 11) ?_
  refine e_take 0 rfl (by kernel_rfl) (by kernel_rfl) (by kernel_rfl) (by kernel_rfl) (fun _ _ => rfl) rfl (by repeat (first | exact HSub.refl _ | exact HSub.nil | refine HSub.takeC (by first | ((repeat (first | exact .one | exact .here | exact .all | apply Pick.cons | apply Pick.app)); done) | ((repeat (first | exact .one | exact .here | exact .all | apply Pick.cons | apply Pick.assoc | apply Pick.app)); done) | exact Pick.takeA (by repeat (first | exact .one | exact .here | exact .all | apply Pick.cons | apply Pick.assoc | apply Pick.app)) (by repeat (first | exact .one | exact .here | exact .all | apply Pick.cons | apply Pick.assoc | apply Pick.app))) ?_ | refine HSub.take (by first | ((repeat (first | exact .one | exact .here | exact .all | apply Pick.cons | apply Pick.app)); done) | ((repeat (first | exact .one | exact .here | exact .all | apply Pick.cons | apply Pick.assoc | apply Pick.app)); done) | exact Pick.takeA (by repeat (first | exact .one | exact .here | exact .all | apply Pick.cons | apply Pick.assoc | apply Pick.app)) (by repeat (first | exact .one | exact .here | exact .all | apply Pick.cons | apply Pick.assoc | apply Pick.app))) ?_ | exact HSub.of_pick (by first | ((repeat (first | exact .one | exact .here | exact .all | apply Pick.cons | apply Pick.app)); done) | ((repeat (first | exact .one | exact .here | exact .all | apply Pick.cons | apply Pick.assoc | apply Pick.app)); done) | exact Pick.takeA (by repeat (first | exact .one | exact .here | exact .all | apply Pick.cons | apply Pick.assoc | apply Pick.app)) (by repeat (first | exact .one | exact .here | exact .all | apply Pick.cons | apply Pick.assoc | apply Pick.app))))) (s_move rfl) ?_
  refine e_take 1 rfl (by kernel_rfl) (by kernel_rfl) (by kernel_rfl) (by kernel_rfl) (fun _ _ => rfl) rfl (by repeat (first | exact HSub.refl _ | exact HSub.nil | refine HSub.takeC (by first | ((repeat (first | exact .one | exact .here | exact .all | apply Pick.cons | apply Pick.app)); done) | ((repeat (first | exact .one | exact .here | exact .all | apply Pick.cons | apply Pick.assoc | apply Pick.app)); done) | exact Pick.takeA (by repeat (first | exact .one | exact .here | exact .all | apply Pick.cons | apply Pick.assoc | apply Pick.app)) (by repeat (first | exact .one | exact .here | exact .all | apply Pick.cons | apply Pick.assoc | apply Pick.app))) ?_ | refine HSub.take (by first | ((repeat (first | exact .one | exact .here | exact .all | apply Pick.cons | apply Pick.app)); done) | ((repeat (first | exact .one | exact .here | exact .all | apply Pick.cons | apply Pick.assoc | apply Pick.app)); done) | exact Pick.takeA (by repeat (first | exact .one | exact .here | exact .all | apply Pick.cons | apply Pick.assoc | apply Pick.app)) (by repeat (first | exact .one | exact .here | exact .all | apply Pick.cons | apply Pick.assoc | apply Pick.app))) ?_ | exact HSub.of_pick (by first | ((repeat (first | exact .one | exact .here | exact .all | apply Pick.cons | apply Pick.app)); done) | ((repeat (first | exact .one | exact .here | exact .all | apply Pick.cons | apply Pick.assoc | apply Pick.app)); done) | exact Pick.takeA (by repeat (first | exact .one | exact .here | exact .all | apply Pick.cons | apply Pick.assoc | apply Pick.app)) (by repeat (first | exact .one | exact .here | exact .all | apply Pick.cons | apply Pick.assoc | apply Pick.app))))) (s_move rfl) ?_
  refine e_take 2 rfl (by kernel_rfl) (by kernel_rfl) (by kernel_rfl) (by kernel_rfl) (fun _ _ => rfl) rfl (by repeat (first | exact HSub.refl _ | exact HSub.nil | refine HSub.takeC (by first | ((repeat (first | exact .one | exact .here | exact .all | apply Pick.cons | apply Pick.app)); done) | ((repeat (first | exact .one | exact .here | exact .all | apply Pick.cons | apply Pick.assoc | apply Pick.app)); done) | exact Pick.takeA (by repeat (first | exact .one | exact .here | exact .all | apply Pick.cons | apply Pick.assoc | apply Pick.app)) (by repeat (first | exact .one | exact .here | exact .all | apply Pick.cons | apply Pick.assoc | apply Pick.app))) ?_ | refine HSub.take (by first | ((repeat (first | exact .one | exact .here | exact .all | apply Pick.cons | apply Pick.app)); done) | ((repeat (first | exact .one | exact .here | exact .all | apply Pick.cons | apply Pick.assoc | apply Pick.app)); done) | exact Pick.takeA (by repeat (first | exact .one | exact .here | exact .all | apply Pick.cons | apply Pick.assoc | apply Pick.app)) (by repeat (first | exact .one | exact .here | exact .all | apply Pick.cons | apply Pick.assoc | apply Pick.app))) ?_ | exact HSub.of_pick (by first | ((repeat (first | exact .one | exact .here | exact .all | apply Pick.cons | apply Pick.app)); done) | ((repeat (first | exact .one | exact .here | exact .all | apply Pick.cons | apply Pick.assoc | apply Pick.app)); done) | exact Pick.takeA (by repeat (first | exact .one | exact .here | exact .all | apply Pick.cons | apply Pick.assoc | apply Pick.app)) (by repeat (first | exact .one | exact .here | exact .all | apply Pick.cons | apply Pick.assoc | apply Pick.app))))) (s_nil rfl) ?_
  refine e_take 3 rfl (by kernel_rfl) (by kernel_rfl) (by kernel_rfl) (by kernel_rfl) (fun _ _ => rfl) rfl (by repeat (first | exact HSub.refl _ | exact HSub.nil | refine HSub.takeC (by first | ((repeat (first | exact .one | exact .here | exact .all | apply Pick.cons | apply Pick.app)); done) | ((repeat (first | exact .one | exact .here | exact .all | apply Pick.cons | apply Pick.assoc | apply Pick.app)); done) | exact Pick.takeA (by repeat (first | exact .one | exact .here | exact .all | apply Pick.cons | apply Pick.assoc | apply Pick.app)) (by repeat (first | exact .one | exact .here | exact .all | apply Pick.cons | apply Pick.assoc | apply Pick.app))) ?_ | refine HSub.take (by first | ((repeat (first | exact .one | exact .here | exact .all | apply Pick.cons | apply Pick.app)); done) | ((repeat (first | exact .one | exact .here | exact .all | apply Pick.cons | apply Pick.assoc | apply Pick.app)); done) | exact Pick.takeA (by repeat (first | exact .one | exact .here | exact .all | apply Pick.cons | apply Pick.assoc | apply Pick.app)) (by repeat (first | exact .one | exact .here | exact .all | apply Pick.cons | apply Pick.assoc | apply Pick.app))) ?_ | exact HSub.of_pick (by first | ((repeat (first | exact .one | exact .here | exact .all | apply Pick.cons | apply Pick.app)); done) | ((repeat (first | exact .one | exact .here | exact .all | apply Pick.cons | apply Pick.assoc | apply Pick.app)); done) | exact Pick.takeA (by repeat (first | exact .one | exact .here | exact .all | apply Pick.cons | apply Pick.assoc | apply Pick.app)) (by repeat (first | exact .one | exact .here | exact .all | apply Pick.cons | apply Pick.assoc | apply Pick.app))))) (s_field rfl rfl (by decide)) ?_
  refine e_take 4 rfl (by kernel_rfl) (by kernel_rfl) (by kernel_rfl) (by kernel_rfl) (fun _ _ => rfl) rfl (by repeat (first | exact HSub.refl _ | exact HSub.nil | refine HSub.takeC (by first | ((repeat (first | exact .one | exact .here | exact .all | apply Pick.cons | apply Pick.app)); done) | ((repeat (first | exact .one | exact .here | exact .all | apply Pick.cons | apply Pick.assoc | apply Pick.app)); done) | exact Pick.takeA (by repeat (first | exact .one | exact .here | exact .all | apply Pick.cons | apply Pick.assoc | apply Pick.app)) (by repeat (first | exact .one | exact .here | exact .all | apply Pick.cons | apply Pick.assoc | apply Pick.app))) ?_ | refine HSub.take (by first | ((repeat (first | exact .one | exact .here | exact .all | apply Pick.cons | apply Pick.app)); done) | ((repeat (first | exact .one | exact .here | exact .all | apply Pick.cons | apply Pick.assoc | apply Pick.app)); done) | exact Pick.takeA (by repeat (first | exact .one | exact .here | exact .all | apply Pick.cons | apply Pick.assoc | apply Pick.app)) (by repeat (first | exact .one | exact .here | exact .all | apply Pick.cons | apply Pick.assoc | apply Pick.app))) ?_ | exact HSub.of_pick (by first | ((repeat (first | exact .one | exact .here | exact .all | apply Pick.cons | apply Pick.app)); done) | ((repeat (first | exact .one | exact .here | exact .all | apply Pick.cons | apply Pick.assoc | apply Pick.app)); done) | exact Pick.takeA (by repeat (first | exact .one | exact .here | exact .all | apply Pick.cons | apply Pick.assoc | apply Pick.app)) (by repeat (first | exact .one | exact .here | exact .all | apply Pick.cons | apply Pick.assoc | apply Pick.app))))) (s_ld rfl (.own (by repeat (first | exact List.mem_cons_self | apply List.mem_cons_of_mem | apply mem_assoc | apply mem_app)) rfl)) ?_
  refine e_take 5 rfl (by kernel_rfl) (by kernel_rfl) (by kernel_rfl) (by kernel_rfl) (fun _ _ => rfl) rfl (by repeat (first | exact HSub.refl _ | exact HSub.nil | refine HSub.takeC (by first | ((repeat (first | exact .one | exact .here | exact .all | apply Pick.cons | apply Pick.app)); done) | ((repeat (first | exact .one | exact .here | exact .all | apply Pick.cons | apply Pick.assoc | apply Pick.app)); done) | exact Pick.takeA (by repeat (first | exact .one | exact .here | exact .all | apply Pick.cons | apply Pick.assoc | apply Pick.app)) (by repeat (first | exact .one | exact .here | exact .all | apply Pick.cons | apply Pick.assoc | apply Pick.app))) ?_ | refine HSub.take (by first | ((repeat (first | exact .one | exact .here | exact .all | apply Pick.cons | apply Pick.app)); done) | ((repeat (first | exact .one | exact .here | exact .all | apply Pick.cons | apply Pick.assoc | apply Pick.app)); done) | exact Pick.takeA (by repeat (first | exact .one | exact .here | exact .all | apply Pick.cons | apply Pick.assoc | apply Pick.app)) (by repeat (first | exact .one | exact .here | exact .all | apply Pick.cons | apply Pick.assoc | apply Pick.app))) ?_ | exact HSub.of_pick (by first | ((repeat (first | exact .one | exact .here | exact .all | apply Pick.cons | apply Pick.app)); done) | ((repeat (first | exact .one | exact .here | exact .all | apply Pick.cons | apply Pick.assoc | apply Pick.app)); done) | exact Pick.takeA (by repeat (first | exact .one | exact .here | exact .all | apply Pick.cons | apply Pick.assoc | apply Pick.app)) (by repeat (first | exact .one | exact .here | exact .all | apply Pick.cons | apply Pick.assoc | apply Pick.app))))) (s_move rfl) ?_
  refine e_one 6 rfl (by kernel_rfl) ?_
  refine o_call (copy_fn a c b) rfl rfl rfl (by exact .nil) (fun w st => (hb.rdk (by repeat (first | exact HIn.here | exact HIn.all | exact HIn.one | apply HIn.cons | apply HIn.assoc | apply HIn.app))).out w st) (fun v17 S17 ⟨a17, c17, hv17, hS17⟩ => ?_)
  subst hv17
  refine o_nil ?_
  refine x_oneS (by repeat (first | exact HSub.refl _ | exact HSub.nil | refine HSub.takeC (by first | ((repeat (first | exact .one | exact .here | exact .all | apply Pick.cons | apply Pick.app)); done) | ((repeat (first | exact .one | exact .here | exact .all | apply Pick.cons | apply Pick.assoc | apply Pick.app)); done) | exact Pick.takeA (by repeat (first | exact .one | exact .here | exact .all | apply Pick.cons | apply Pick.assoc | apply Pick.app)) (by repeat (first | exact .one | exact .here | exact .all | apply Pick.cons | apply Pick.assoc | apply Pick.app))) ?_ | refine HSub.take (by first | ((repeat (first | exact .one | exact .here | exact .all | apply Pick.cons | apply Pick.app)); done) | ((repeat (first | exact .one | exact .here | exact .all | apply Pick.cons | apply Pick.assoc | apply Pick.app)); done) | exact Pick.takeA (by repeat (first | exact .one | exact .here | exact .all | apply Pick.cons | apply Pick.assoc | apply Pick.app)) (by repeat (first | exact .one | exact .here | exact .all | apply Pick.cons | apply Pick.assoc | apply Pick.app))) ?_ | exact HSub.of_pick (by first | ((repeat (first | exact .one | exact .here | exact .all | apply Pick.cons | apply Pick.app)); done) | ((repeat (first | exact .one | exact .here | exact .all | apply Pick.cons | apply Pick.assoc | apply Pick.app)); done) | exact Pick.takeA (by repeat (first | exact .one | exact .here | exact .all | apply Pick.cons | apply Pick.assoc | apply Pick.app)) (by repeat (first | exact .one | exact .here | exact .all | apply Pick.cons | apply Pick.assoc | apply Pick.app))))) ?_
  refine e_one 7 rfl (by kernel_rfl) ?_
  refine o_bs (E := Esl) (xs := [(⟨a17, c17, b⟩ : Sl UInt8)]) (vs := [_]) rfl rfl rfl rfl rfl (by decide) (by decide) fun b18 S18 hS18 => ?_
  refine o_nil ?_
  refine x_oneS (by repeat (first | exact HSub.refl _ | exact HSub.nil | refine HSub.takeC (by first | ((repeat (first | exact .one | exact .here | exact .all | apply Pick.cons | apply Pick.app)); done) | ((repeat (first | exact .one | exact .here | exact .all | apply Pick.cons | apply Pick.assoc | apply Pick.app)); done) | exact Pick.takeA (by repeat (first | exact .one | exact .here | exact .all | apply Pick.cons | apply Pick.assoc | apply Pick.app)) (by repeat (first | exact .one | exact .here | exact .all | apply Pick.cons | apply Pick.assoc | apply Pick.app))) ?_ | refine HSub.take (by first | ((repeat (first | exact .one | exact .here | exact .all | apply Pick.cons | apply Pick.app)); done) | ((repeat (first | exact .one | exact .here | exact .all | apply Pick.cons | apply Pick.assoc | apply Pick.app)); done) | exact Pick.takeA (by repeat (first | exact .one | exact .here | exact .all | apply Pick.cons | apply Pick.assoc | apply Pick.app)) (by repeat (first | exact .one | exact .here | exact .all | apply Pick.cons | apply Pick.assoc | apply Pick.app))) ?_ | exact HSub.of_pick (by first | ((repeat (first | exact .one | exact .here | exact .all | apply Pick.cons | apply Pick.app)); done) | ((repeat (first | exact .one | exact .here | exact .all | apply Pick.cons | apply Pick.assoc | apply Pick.app)); done) | exact Pick.takeA (by repeat (first | exact .one | exact .here | exact .all | apply Pick.cons | apply Pick.assoc | apply Pick.app)) (by repeat (first | exact .one | exact .here | exact .all | apply Pick.cons | apply Pick.assoc | apply Pick.app))))) ?_
  refine e_one 8 rfl (by kernel_rfl) ?_
  refine o_app hs (hS18.rdk (by repeat (first | exact HIn.here | exact HIn.all | exact HIn.one | apply HIn.cons | apply HIn.assoc | apply HIn.app))) rfl rfl rfl rfl (by show (sl.length + 1) * 24 ≤ _; omega) (by show sl.length + 1 ≤ _; omega) rfl (by first | ((repeat (first | exact .one | exact .here | exact .all | apply Pick.cons | apply Pick.app)); done) | ((repeat (first | exact .one | exact .here | exact .all | apply Pick.cons | apply Pick.assoc | apply Pick.app)); done) | exact Pick.takeA (by repeat (first | exact .one | exact .here | exact .all | apply Pick.cons | apply Pick.assoc | apply Pick.app)) (by repeat (first | exact .one | exact .here | exact .all | apply Pick.cons | apply Pick.assoc | apply Pick.app))) fun a19 c19 S19 hS19 => ?_
  refine o_nil ?_
  refine x_oneS (by repeat (first | exact HSub.refl _ | exact HSub.nil | refine HSub.takeC (by first | ((repeat (first | exact .one | exact .here | exact .all | apply Pick.cons | apply Pick.app)); done) | ((repeat (first | exact .one | exact .here | exact .all | apply Pick.cons | apply Pick.assoc | apply Pick.app)); done) | exact Pick.takeA (by repeat (first | exact .one | exact .here | exact .all | apply Pick.cons | apply Pick.assoc | apply Pick.app)) (by repeat (first | exact .one | exact .here | exact .all | apply Pick.cons | apply Pick.assoc | apply Pick.app))) ?_ | refine HSub.take (by first | ((repeat (first | exact .one | exact .here | exact .all | apply Pick.cons | apply Pick.app)); done) | ((repeat (first | exact .one | exact .here | exact .all | apply Pick.cons | apply Pick.assoc | apply Pick.app)); done) | exact Pick.takeA (by repeat (first | exact .one | exact .here | exact .all | apply Pick.cons | apply Pick.assoc | apply Pick.app)) (by repeat (first | exact .one | exact .here | exact .all | apply Pick.cons | apply Pick.assoc | apply Pick.app))) ?_ | exact HSub.of_pick (by first | ((repeat (first | exact .one | exact .here | exact .all | apply Pick.cons | apply Pick.app)); done) | ((repeat (first | exact .one | exact .here | exact .all | apply Pick.cons | apply Pick.assoc | apply Pick.app)); done) | exact Pick.takeA (by repeat (first | exact .one | exact .here | exact .all | apply Pick.cons | apply Pick.assoc | apply Pick.app)) (by repeat (first | exact .one | exact .here | exact .all | apply Pick.cons | apply Pick.assoc | apply Pick.app))))) ?_
  refine e_one 9 rfl (by kernel_rfl) ?_
  refine o_step rfl (s_nil rfl) ?_
  refine o_nil ?_
  refine x_oneS (by repeat (first | exact HSub.refl _ | exact HSub.nil | refine HSub.takeC (by first | ((repeat (first | exact .one | exact .here | exact .all | apply Pick.cons | apply Pick.app)); done) | ((repeat (first | exact .one | exact .here | exact .all | apply Pick.cons | apply Pick.assoc | apply Pick.app)); done) | exact Pick.takeA (by repeat (first | exact .one | exact .here | exact .all | apply Pick.cons | apply Pick.assoc | apply Pick.app)) (by repeat (first | exact .one | exact .here | exact .all | apply Pick.cons | apply Pick.assoc | apply Pick.app))) ?_ | refine HSub.take (by first | ((repeat (first | exact .one | exact .here | exact .all | apply Pick.cons | apply Pick.app)); done) | ((repeat (first | exact .one | exact .here | exact .all | apply Pick.cons | apply Pick.assoc | apply Pick.app)); done) | exact Pick.takeA (by repeat (first | exact .one | exact .here | exact .all | apply Pick.cons | apply Pick.assoc | apply Pick.app)) (by repeat (first | exact .one | exact .here | exact .all | apply Pick.cons | apply Pick.assoc | apply Pick.app))) ?_ | exact HSub.of_pick (by first | ((repeat (first | exact .one | exact .here | exact .all | apply Pick.cons | apply Pick.app)); done) | ((repeat (first | exact .one | exact .here | exact .all | apply Pick.cons | apply Pick.assoc | apply Pick.app)); done) | exact Pick.takeA (by repeat (first | exact .one | exact .here | exact .all | apply Pick.cons | apply Pick.assoc | apply Pick.app)) (by repeat (first | exact .one | exact .here | exact .all | apply Pick.cons | apply Pick.assoc | apply Pick.app))))) ?_
  refine e_one 10 rfl (by kernel_rfl) ?_
  refine o_step rfl (s_field rfl rfl (by decide)) ?_
  refine o_nil ?_
  refine x_oneS (by repeat (first | exact HSub.refl _ | exact HSub.nil | refine HSub.takeC (by first | ((repeat (first | exact .one | exact .here | exact .all | apply Pick.cons | apply Pick.app)); done) | ((repeat (first | exact .one | exact .here | exact .all | apply Pick.cons | apply Pick.assoc | apply Pick.app)); done) | exact Pick.takeA (by repeat (first | exact .one | exact .here | exact .all | apply Pick.cons | apply Pick.assoc | apply Pick.app)) (by repeat (first | exact .one | exact .here | exact .all | apply Pick.cons | apply Pick.assoc | apply Pick.app))) ?_ | refine HSub.take (by first | ((repeat (first | exact .one | exact .here | exact .all | apply Pick.cons | apply Pick.app)); done) | ((repeat (first | exact .one | exact .here | exact .all | apply Pick.cons | apply Pick.assoc | apply Pick.app)); done) | exact Pick.takeA (by repeat (first | exact .one | exact .here | exact .all | apply Pick.cons | apply Pick.assoc | apply Pick.app)) (by repeat (first | exact .one | exact .here | exact .all | apply Pick.cons | apply Pick.assoc | apply Pick.app))) ?_ | exact HSub.of_pick (by first | ((repeat (first | exact .one | exact .here | exact .all | apply Pick.cons | apply Pick.app)); done) | ((repeat (first | exact .one | exact .here | exact .all | apply Pick.cons | apply Pick.assoc | apply Pick.app)); done) | exact Pick.takeA (by repeat (first | exact .one | exact .here | exact .all | apply Pick.cons | apply Pick.assoc | apply Pick.app)) (by repeat (first | exact .one | exact .here | exact .all | apply Pick.cons | apply Pick.assoc | apply Pick.app))))) ?_
  refine e_one 11 rfl (by kernel_rfl) ?_
  refine o_store rfl rfl rfl (by repeat (first | exact .here | apply Upd.there | apply Upd.assoc | apply Upd.skip)) (by first | decide | omega | (simp; done) | (simp; omega)) rfl ?_
  refine o_nil ?_
  refine x_oneL rfl ?_
  refine e_done (by kernel_rfl) ?_
  refine x_then (hK3 _ _ ?_)
  refine c_seq fun _ hK4 => ?_
  refine c_seq fun _ hK5 => ?_
  refine c_quiet (by kernel_rfl) ?_
  refine .op rfl (s_move rfl) ?_
  refine .op rfl (s_nil rfl) ?_
  refine .op rfl (s_field rfl rfl (by decide)) ?_
  refine .op rfl (s_ld rfl (.own (by repeat (first | exact List.mem_cons_self | apply List.mem_cons_of_mem | apply mem_assoc | apply mem_app)) rfl)) ?_
  refine .op rfl (step_cast (v' := .bool false) (s_neq_nilp rfl rfl) rfl) ?_
  refine .op rfl (s_move rfl) ?_
  refine .no rfl rfl rfl rfl ?_
  refine .no rfl rfl rfl rfl ?_
  refine .no rfl rfl rfl rfl ?_
  refine .no rfl rfl rfl rfl ?_
  refine .no rfl rfl rfl rfl ?_
  refine .no rfl rfl rfl rfl ?_
  refine .no rfl rfl rfl rfl ?_
  refine .no rfl rfl rfl rfl ?_
  refine .no rfl rfl rfl rfl ?_
  refine .no rfl rfl rfl rfl ?_
  refine .op rfl (s_pick_f rfl rfl) ?_
  refine .nil ?_
  refine x_then (hK5 _ _ ?_)
  refine c_false rfl ?_
  refine c_skip ?_
  refine x_then (hK4 _ _ ?_)
  refine c_seq fun _ hK6 => ?_
  refine c_region ?_
  refine o_step rfl (s_move rfl) ?_
  refine o_step rfl (s_assign rfl) ?_
  refine o_nil ?_
  refine x_then (hK6 _ _ ?_)
  refine c_ret ?_
  refine ?_
  refine x_sub (Sub.refl _) (H' := (bs, .cells [x0, x1, .pointer none, x3, x4, .int .i64 fail, .int .i64 err, .int .i64 0, x8, .pointer none, x10, x11, .bool false, .bool false, x14, x15, x16, .int .i64 (outs + 1), .int .i64 (sum + 1 + b.length), .slice aa10 (al ++ b).length ac10, x20, .slice ca10 (cl ++ [(⟨1, ⟨#[]⟩, ⟨a10, c10, b⟩⟩ : CallV)]).length cc10, .slice ga10 (gl ++ [(⟨a, c, b⟩ : Sl UInt8)]).length gc10, x23, x24, .pointer none, x26, x27, x28, .slice a19 (sl ++ [(⟨a17, c17, b⟩ : Sl UInt8)]).length c19].toArray 40 (0, 0)) :: (Sa10 ++ (Sc10 ++ (Sg10 ++ (S19 ++ Sx10))))) (by repeat (first | exact HSub.refl _ | exact HSub.nil | refine HSub.takeC (by first | ((repeat (first | exact .one | exact .here | exact .all | apply Pick.cons | apply Pick.app)); done) | ((repeat (first | exact .one | exact .here | exact .all | apply Pick.cons | apply Pick.assoc | apply Pick.app)); done) | exact Pick.takeA (by repeat (first | exact .one | exact .here | exact .all | apply Pick.cons | apply Pick.assoc | apply Pick.app)) (by repeat (first | exact .one | exact .here | exact .all | apply Pick.cons | apply Pick.assoc | apply Pick.app))) ?_ | refine HSub.take (by first | ((repeat (first | exact .one | exact .here | exact .all | apply Pick.cons | apply Pick.app)); done) | ((repeat (first | exact .one | exact .here | exact .all | apply Pick.cons | apply Pick.assoc | apply Pick.app)); done) | exact Pick.takeA (by repeat (first | exact .one | exact .here | exact .all | apply Pick.cons | apply Pick.assoc | apply Pick.app)) (by repeat (first | exact .one | exact .here | exact .all | apply Pick.cons | apply Pick.assoc | apply Pick.app))) ?_ | exact HSub.of_pick (by first | ((repeat (first | exact .one | exact .here | exact .all | apply Pick.cons | apply Pick.app)); done) | ((repeat (first | exact .one | exact .here | exact .all | apply Pick.cons | apply Pick.assoc | apply Pick.app)); done) | exact Pick.takeA (by repeat (first | exact .one | exact .here | exact .all | apply Pick.cons | apply Pick.assoc | apply Pick.app)) (by repeat (first | exact .one | exact .here | exact .all | apply Pick.cons | apply Pick.assoc | apply Pick.app))))) ?_
  exact x_ret rfl (.tmp rfl (.nil)) (⟨rfl, _, _, _, _, _, _, _, _, _, _, _, _, _, _, _, _, _, rfl, ha10, hc10, hg10, hS19, hx10.rds⟩)
end Go.Proofs.Ythbnkifjplbhgaa
