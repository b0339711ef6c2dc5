/- Part of the proofs over this seat: see the text that holds the theorem. Conditions: each theorem bears its own. -/
import Derived.Test.YthbnkifjplbhgaaW24
import Derived.Test.YthbnkifjplbhgaaHlB
namespace Go.Proofs.Ythbnkifjplbhgaa
open Go Go.HL Go.Proofs
theorem text_fn (bq : Nat) (qa : Option Addr) (qc : Nat) (ql : List IV) (So : Hp) (hO : OwnS Eiv 1 106 (.slice qa ql.length qc) ql So) (hle : ql.length ≤ 4294967296) (a : Option Addr) (c : Nat) (xs : List UInt8) : HL.Fn Try.prog 17 [.pointer (some ⟨bq, 0, none⟩), .slice a xs.length c] (fun w => Rd Eb w (.slice a xs.length c) xs ∧ Apart (keys ((bq, .cells [.bool true, .slice qa ql.length qc].toArray 58 (0, 0)) :: So)) (.slice a xs.length c)) ((bq, .cells [.bool true, .slice qa ql.length qc].toArray 58 (0, 0)) :: So) (fun v S' => v = .tuple #[] ∧ ∃ qa' qc' a' c' So' Sx, S' = (bq, .cells [.bool true, .slice qa' (ql ++ [(⟨103, .slice a' xs.length c'⟩ : IV)]).length qc'].toArray 58 (0, 0)) :: (So' ++ Sx) ∧ OwnS Eiv 1 106 (.slice qa' (ql ++ [(⟨103, .slice a' xs.length c'⟩ : IV)]).length qc') (ql ++ [(⟨103, .slice a' xs.length c'⟩ : IV)]) So' ∧ OwnS Eb 1 5 (.slice a' xs.length c') xs Sx) := by
  refine fn_of Try.func17 rfl rfl rfl fun w0 hw => ?_
  refine c_region ?_
  refine o_step rfl (s_move rfl) ?_
  refine o_step rfl (s_move rfl) ?_
  refine o_call (clone_fn a c xs) rfl rfl rfl (by exact .nil) (fun w st => (RdK.old (κ := ⟨_, [], w0, _⟩) hw.1 hw.2).out w st) (fun v6 S6 ⟨a6, c6, hv6, hS6⟩ => ?_)
  subst hv6
  refine o_step rfl (s_iface (by kernel_rfl) rfl) ?_
  refine o_call (put_raw bq ⟨103, .slice a6 xs.length c6⟩ qa qc ql So hO hle) rfl rfl rfl ((Pick.takeC (by first | ((repeat (first | exact .one | exact .here | exact .all | apply Pick.cons | apply Pick.app)); done) | ((repeat (first | exact .one | exact .here | exact .all | apply Pick.cons | apply Pick.assoc | apply Pick.app)); done) | exact Pick.takeA (by repeat (first | exact .one | exact .here | exact .all | apply Pick.cons | apply Pick.assoc | apply Pick.app)) (by repeat (first | exact .one | exact .here | exact .all | apply Pick.cons | apply Pick.assoc | apply Pick.app))) (by first | ((repeat (first | exact .one | exact .here | exact .all | apply Pick.cons | apply Pick.app)); done) | ((repeat (first | exact .one | exact .here | exact .all | apply Pick.cons | apply Pick.assoc | apply Pick.app)); done) | exact Pick.takeA (by repeat (first | exact .one | exact .here | exact .all | apply Pick.cons | apply Pick.assoc | apply Pick.app)) (by repeat (first | exact .one | exact .here | exact .all | apply Pick.cons | apply Pick.assoc | apply Pick.app))))) (fun _ _ => trivial) (fun v8 S8 ⟨hv8, qa8, qc8, So8, hS8, hO8⟩ => ?_)
  subst hv8
  subst hS8
  refine o_nil ?_
  refine x_sub (Sub.refl _) (H' := (bq, .cells [.bool true, .slice qa8 (ql ++ [(⟨103, .slice a6 xs.length c6⟩ : IV)]).length qc8].toArray 58 (0, 0)) :: (So8 ++ S6)) (by repeat (first | exact HSub.refl _ | exact HSub.nil | refine HSub.takeC (by first | ((repeat (first | exact .one | exact .here | exact .all | apply Pick.cons | apply Pick.app)); done) | ((repeat (first | exact .one | exact .here | exact .all | apply Pick.cons | apply Pick.assoc | apply Pick.app)); done) | exact Pick.takeA (by repeat (first | exact .one | exact .here | exact .all | apply Pick.cons | apply Pick.assoc | apply Pick.app)) (by repeat (first | exact .one | exact .here | exact .all | apply Pick.cons | apply Pick.assoc | apply Pick.app))) ?_ | refine HSub.take (by first | ((repeat (first | exact .one | exact .here | exact .all | apply Pick.cons | apply Pick.app)); done) | ((repeat (first | exact .one | exact .here | exact .all | apply Pick.cons | apply Pick.assoc | apply Pick.app)); done) | exact Pick.takeA (by repeat (first | exact .one | exact .here | exact .all | apply Pick.cons | apply Pick.assoc | apply Pick.app)) (by repeat (first | exact .one | exact .here | exact .all | apply Pick.cons | apply Pick.assoc | apply Pick.app))) ?_ | exact HSub.of_pick (by first | ((repeat (first | exact .one | exact .here | exact .all | apply Pick.cons | apply Pick.app)); done) | ((repeat (first | exact .one | exact .here | exact .all | apply Pick.cons | apply Pick.assoc | apply Pick.app)); done) | exact Pick.takeA (by repeat (first | exact .one | exact .here | exact .all | apply Pick.cons | apply Pick.assoc | apply Pick.app)) (by repeat (first | exact .one | exact .here | exact .all | apply Pick.cons | apply Pick.assoc | apply Pick.app))))) ?_
  exact x_end rfl (.nil) (⟨rfl, _, _, _, _, _, _, rfl, hO8, hS6⟩)

theorem file_fn (bq : Nat) (qa : Option Addr) (qc : Nat) (ql : List IV) (So : Hp) (hO : OwnS Eiv 1 106 (.slice qa ql.length qc) ql So) (hle : ql.length ≤ 4294967296) (s : ByteArray) : HL.Fn Try.prog 18 [.pointer (some ⟨bq, 0, none⟩), .string s] (fun _ => True) ((bq, .cells [.bool true, .slice qa ql.length qc].toArray 58 (0, 0)) :: So) (fun v S' => v = .tuple #[] ∧ ∃ qa' qc' So', S' = (bq, .cells [.bool true, .slice qa' (ql ++ [(⟨104, .string s⟩ : IV)]).length qc'].toArray 58 (0, 0)) :: So' ∧ OwnS Eiv 1 106 (.slice qa' (ql ++ [(⟨104, .string s⟩ : IV)]).length qc') (ql ++ [(⟨104, .string s⟩ : IV)]) So') := by
  refine fn_of Try.func18 rfl rfl rfl fun w0 hw => ?_
  refine c_region ?_
  refine o_step rfl (s_move rfl) ?_
  refine o_step rfl (s_move rfl) ?_
  refine o_step rfl (s_iface (by kernel_rfl) rfl) ?_
  refine o_call (put_raw bq ⟨104, .string s⟩ qa qc ql So hO hle) rfl rfl rfl ((Pick.takeC (by first | ((repeat (first | exact .one | exact .here | exact .all | apply Pick.cons | apply Pick.app)); done) | ((repeat (first | exact .one | exact .here | exact .all | apply Pick.cons | apply Pick.assoc | apply Pick.app)); done) | exact Pick.takeA (by repeat (first | exact .one | exact .here | exact .all | apply Pick.cons | apply Pick.assoc | apply Pick.app)) (by repeat (first | exact .one | exact .here | exact .all | apply Pick.cons | apply Pick.assoc | apply Pick.app))) (by first | ((repeat (first | exact .one | exact .here | exact .all | apply Pick.cons | apply Pick.app)); done) | ((repeat (first | exact .one | exact .here | exact .all | apply Pick.cons | apply Pick.assoc | apply Pick.app)); done) | exact Pick.takeA (by repeat (first | exact .one | exact .here | exact .all | apply Pick.cons | apply Pick.assoc | apply Pick.app)) (by repeat (first | exact .one | exact .here | exact .all | apply Pick.cons | apply Pick.assoc | apply Pick.app))))) (fun _ _ => trivial) (fun v7 S7 ⟨hv7, qa7, qc7, So7, hS7, hO7⟩ => ?_)
  subst hv7
  subst hS7
  refine o_nil ?_
  refine x_sub (Sub.refl _) (H' := (bq, .cells [.bool true, .slice qa7 (ql ++ [(⟨104, .string s⟩ : IV)]).length qc7].toArray 58 (0, 0)) :: So7) (by repeat (first | exact HSub.refl _ | exact HSub.nil | refine HSub.takeC (by first | ((repeat (first | exact .one | exact .here | exact .all | apply Pick.cons | apply Pick.app)); done) | ((repeat (first | exact .one | exact .here | exact .all | apply Pick.cons | apply Pick.assoc | apply Pick.app)); done) | exact Pick.takeA (by repeat (first | exact .one | exact .here | exact .all | apply Pick.cons | apply Pick.assoc | apply Pick.app)) (by repeat (first | exact .one | exact .here | exact .all | apply Pick.cons | apply Pick.assoc | apply Pick.app))) ?_ | refine HSub.take (by first | ((repeat (first | exact .one | exact .here | exact .all | apply Pick.cons | apply Pick.app)); done) | ((repeat (first | exact .one | exact .here | exact .all | apply Pick.cons | apply Pick.assoc | apply Pick.app)); done) | exact Pick.takeA (by repeat (first | exact .one | exact .here | exact .all | apply Pick.cons | apply Pick.assoc | apply Pick.app)) (by repeat (first | exact .one | exact .here | exact .all | apply Pick.cons | apply Pick.assoc | apply Pick.app))) ?_ | exact HSub.of_pick (by first | ((repeat (first | exact .one | exact .here | exact .all | apply Pick.cons | apply Pick.app)); done) | ((repeat (first | exact .one | exact .here | exact .all | apply Pick.cons | apply Pick.assoc | apply Pick.app)); done) | exact Pick.takeA (by repeat (first | exact .one | exact .here | exact .all | apply Pick.cons | apply Pick.assoc | apply Pick.app)) (by repeat (first | exact .one | exact .here | exact .all | apply Pick.cons | apply Pick.assoc | apply Pick.app))))) ?_
  exact x_end rfl (.nil) (⟨rfl, _, _, _, rfl, hO7⟩)

theorem livesR_fn (s : ByteArray) (hs : s.size ≤ 1099511627776) : HL.Fn Try.prog 50 [.string s] (fun _ => True) [] (fun v S' => ∃ c b, v = .slice (some ⟨b, 0, none⟩) (s ++ s).data.toList.length c ∧ OwnS Eb 1 5 (.slice (some ⟨b, 0, none⟩) (s ++ s).data.toList.length c) (s ++ s).data.toList S') := by
  refine fn_of Try.func50 rfl rfl rfl fun w0 hw => ?_
  refine c_seq fun _ hK1 => ?_
  refine c_region ?_
  refine o_step rfl (s_assign rfl) ?_
  refine o_nil ?_
  refine x_then (hK1 _ _ ?_)
  refine c_seq fun _ hK2 => ?_
  refine c_region ?_
  refine o_step rfl (s_move rfl) ?_
  refine o_step rfl (s_move rfl) ?_
  refine o_step rfl (s_addstr rfl rfl (by omega)) ?_
  refine o_str2b rfl rfl (by rw [ByteArray.size_append]; omega) fun b6 c6 S6 hS6 => ?_
  refine o_step rfl (s_assign rfl) ?_
  refine o_nil ?_
  refine x_then (hK2 _ _ ?_)
  refine c_ret ?_
  refine ?_
  refine x_sub (Sub.refl _) (H' := S6) (by repeat (first | exact HSub.refl _ | exact HSub.nil | refine HSub.takeC (by first | ((repeat (first | exact .one | exact .here | exact .all | apply Pick.cons | apply Pick.app)); done) | ((repeat (first | exact .one | exact .here | exact .all | apply Pick.cons | apply Pick.assoc | apply Pick.app)); done) | exact Pick.takeA (by repeat (first | exact .one | exact .here | exact .all | apply Pick.cons | apply Pick.assoc | apply Pick.app)) (by repeat (first | exact .one | exact .here | exact .all | apply Pick.cons | apply Pick.assoc | apply Pick.app))) ?_ | refine HSub.take (by first | ((repeat (first | exact .one | exact .here | exact .all | apply Pick.cons | apply Pick.app)); done) | ((repeat (first | exact .one | exact .here | exact .all | apply Pick.cons | apply Pick.assoc | apply Pick.app)); done) | exact Pick.takeA (by repeat (first | exact .one | exact .here | exact .all | apply Pick.cons | apply Pick.assoc | apply Pick.app)) (by repeat (first | exact .one | exact .here | exact .all | apply Pick.cons | apply Pick.assoc | apply Pick.app))) ?_ | exact HSub.of_pick (by first | ((repeat (first | exact .one | exact .here | exact .all | apply Pick.cons | apply Pick.app)); done) | ((repeat (first | exact .one | exact .here | exact .all | apply Pick.cons | apply Pick.assoc | apply Pick.app)); done) | exact Pick.takeA (by repeat (first | exact .one | exact .here | exact .all | apply Pick.cons | apply Pick.assoc | apply Pick.app)) (by repeat (first | exact .one | exact .here | exact .all | apply Pick.cons | apply Pick.assoc | apply Pick.app))))) ?_
  exact x_ret rfl (.tmp rfl (.nil)) (⟨_, _, rfl, hS6⟩)

theorem livesO_fn (bn ba : Nat) (n : Int) (aa : Option Addr) (ca : Nat) (al : List UInt8) (Sa : Hp) (hA : OwnS Eb 1 5 (.slice aa al.length ca) al Sa) (a : Option Addr) (c : Nat) (xs : List UInt8) (hn : 0 ≤ n ∧ n ≤ 1000) (hl : al.length + xs.length ≤ 1099511627776) : HL.Fn Try.prog 51 [.slice a xs.length c, .pointer (some ⟨bn, 0, none⟩), .pointer (some ⟨ba, 0, none⟩)] (fun w => Rd Eb w (.slice a xs.length c) xs ∧ Apart (keys ((bn, .cells [.int .i64 n].toArray 3 (0, 0)) :: (ba, .cells [.slice aa al.length ca].toArray 35 (0, 0)) :: Sa)) (.slice a xs.length c)) ((bn, .cells [.int .i64 n].toArray 3 (0, 0)) :: (ba, .cells [.slice aa al.length ca].toArray 35 (0, 0)) :: Sa) (fun v S' => v = .int .i64 0 ∧ ∃ a' c' Sa', S' = (bn, .cells [.int .i64 (n + 1)].toArray 3 (0, 0)) :: (ba, .cells [.slice a' (al ++ xs).length c'].toArray 35 (0, 0)) :: Sa' ∧ OwnS Eb 1 5 (.slice a' (al ++ xs).length c') (al ++ xs) Sa') := by
  refine fn_of Try.func51 rfl rfl rfl fun w0 hw => ?_
  refine c_seq fun _ hK1 => ?_
  refine c_region ?_
  refine o_step rfl (s_assign rfl) ?_
  refine o_nil ?_
  refine x_then (hK1 _ _ ?_)
  refine c_seq fun _ hK2 => ?_
  refine c_region ?_
  refine o_step rfl (s_ld rfl (.own (by repeat (first | exact List.mem_cons_self | apply List.mem_cons_of_mem | apply mem_assoc | apply mem_app)) rfl)) ?_
  refine o_step rfl (s_add rfl rfl (by omega)) ?_
  refine o_store rfl rfl rfl (by repeat (first | exact .here | apply Upd.there | apply Upd.assoc | apply Upd.skip)) (by first | decide | omega | (simp; done) | (simp; omega)) rfl ?_
  refine o_nil ?_
  refine x_then (hK2 _ _ ?_)
  refine c_seq fun _ hK3 => ?_
  refine c_region ?_
  refine o_step rfl (s_ld rfl (.own (by repeat (first | exact List.mem_cons_self | apply List.mem_cons_of_mem | apply mem_assoc | apply mem_app)) rfl)) ?_
  refine o_step rfl (s_move rfl) ?_
  refine o_app hA (RdK.old hw.1 hw.2) rfl rfl rfl rfl (by omega) (by omega) rfl (by first | ((repeat (first | exact .one | exact .here | exact .all | apply Pick.cons | apply Pick.app)); done) | ((repeat (first | exact .one | exact .here | exact .all | apply Pick.cons | apply Pick.assoc | apply Pick.app)); done) | exact Pick.takeA (by repeat (first | exact .one | exact .here | exact .all | apply Pick.cons | apply Pick.assoc | apply Pick.app)) (by repeat (first | exact .one | exact .here | exact .all | apply Pick.cons | apply Pick.assoc | apply Pick.app))) fun a9 c9 S9 hS9 => ?_
  refine o_store rfl rfl rfl (by repeat (first | exact .here | apply Upd.there | apply Upd.assoc | apply Upd.skip)) (by first | decide | omega | (simp; done) | (simp; omega)) rfl ?_
  refine o_nil ?_
  refine x_then (hK3 _ _ ?_)
  refine c_seq fun _ hK4 => ?_
  refine c_region ?_
  refine o_step rfl (s_assign rfl) ?_
  refine o_nil ?_
  refine x_then (hK4 _ _ ?_)
  refine c_ret ?_
  refine ?_
  refine x_sub (Sub.refl _) (H' := (bn, .cells [.int .i64 (n + 1)].toArray 3 (0, 0)) :: (ba, .cells [.slice a9 (al ++ xs).length c9].toArray 35 (0, 0)) :: S9) (by repeat (first | exact HSub.refl _ | exact HSub.nil | refine HSub.takeC (by first | ((repeat (first | exact .one | exact .here | exact .all | apply Pick.cons | apply Pick.app)); done) | ((repeat (first | exact .one | exact .here | exact .all | apply Pick.cons | apply Pick.assoc | apply Pick.app)); done) | exact Pick.takeA (by repeat (first | exact .one | exact .here | exact .all | apply Pick.cons | apply Pick.assoc | apply Pick.app)) (by repeat (first | exact .one | exact .here | exact .all | apply Pick.cons | apply Pick.assoc | apply Pick.app))) ?_ | refine HSub.take (by first | ((repeat (first | exact .one | exact .here | exact .all | apply Pick.cons | apply Pick.app)); done) | ((repeat (first | exact .one | exact .here | exact .all | apply Pick.cons | apply Pick.assoc | apply Pick.app)); done) | exact Pick.takeA (by repeat (first | exact .one | exact .here | exact .all | apply Pick.cons | apply Pick.assoc | apply Pick.app)) (by repeat (first | exact .one | exact .here | exact .all | apply Pick.cons | apply Pick.assoc | apply Pick.app))) ?_ | exact HSub.of_pick (by first | ((repeat (first | exact .one | exact .here | exact .all | apply Pick.cons | apply Pick.app)); done) | ((repeat (first | exact .one | exact .here | exact .all | apply Pick.cons | apply Pick.assoc | apply Pick.app)); done) | exact Pick.takeA (by repeat (first | exact .one | exact .here | exact .all | apply Pick.cons | apply Pick.assoc | apply Pick.app)) (by repeat (first | exact .one | exact .here | exact .all | apply Pick.cons | apply Pick.assoc | apply Pick.app))))) ?_
  exact x_ret rfl (.tmp rfl (.nil)) (⟨rfl, _, _, _, rfl, hS9⟩)
end Go.Proofs.Ythbnkifjplbhgaa
