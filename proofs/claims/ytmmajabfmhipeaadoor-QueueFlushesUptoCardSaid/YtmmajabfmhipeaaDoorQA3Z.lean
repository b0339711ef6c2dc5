/- Part of the proofs over this seat: see the text that holds the theorem. Conditions: each theorem bears its own. -/
import Derived.Test.YtmmajabfmhipeaaDoorQA2
import Derived.Test.YtmmajabfmhipeaaDoorHlB
namespace Go.Proofs.YtmmajabfmhipeaaDoor
open Go Go.HL Go.Proofs Go.Tab
theorem rErr_fn (bo : Nat) (lim err cnt : Int) (pv kv : Value) : HL.Fn Tryd.prog 24 [.pointer (some ⟨bo, 0, none⟩)] (fun w => RdP w bo 0 [.bool true, .int .i64 lim, pv, kv, .int .i64 err, .int .i64 cnt]) [] (fun v _ => v = .int .i64 err) := by
  refine fn_of Tryd.func24 rfl rfl rfl fun w0 hw => ?_
  refine c_seq fun _ hK1 => ?_
  refine c_region ?_
  refine o_step rfl (s_assign rfl) ?_
  refine o_nil ?_
  refine x_then (hK1 _ _ ?_)
  refine c_seq fun _ hK2 => ?_
  refine c_seq fun _ hK3 => ?_
  refine c_region ?_
  refine o_step rfl (s_move rfl) ?_
  refine o_step rfl (step_cast (v' := .bool false) (s_eql_nilp rfl rfl) rfl) ?_
  refine o_step rfl (s_move rfl) ?_
  refine o_yes rfl rfl ?_
  refine o_step rfl (s_move rfl) ?_
  refine o_yes rfl rfl ?_
  refine o_step rfl (s_nil rfl) ?_
  refine o_yes rfl rfl ?_
  refine o_step rfl (s_field rfl rfl (by decide)) ?_
  refine o_yes rfl rfl ?_
  refine o_step rfl (s_ld rfl ((RdPK.old0 hw).cel (j := 0) rfl rfl)) ?_
  refine o_yes rfl rfl ?_
  refine o_step rfl (s_not rfl) ?_
  refine o_step rfl (s_pick_f rfl rfl) ?_
  refine o_nil ?_
  refine x_then (hK3 _ _ ?_)
  refine c_false rfl ?_
  refine c_skip ?_
  refine x_then (hK2 _ _ ?_)
  refine c_seq fun _ hK4 => ?_
  refine c_region ?_
  refine o_step rfl (s_move rfl) ?_
  refine o_step rfl (s_nil rfl) ?_
  refine o_step rfl (s_field rfl rfl (by decide)) ?_
  refine o_step rfl (s_ld rfl ((RdPK.old0 hw).cel (j := 4) rfl rfl)) ?_
  refine o_step rfl (s_assign rfl) ?_
  refine o_nil ?_
  refine x_then (hK4 _ _ ?_)
  refine c_ret ?_
  refine ?_
  exact x_ret rfl (.tmp rfl (.nil)) (rfl)
theorem rCount_fn (bo : Nat) (lim err cnt : Int) (pv kv : Value) : HL.Fn Tryd.prog 26 [.pointer (some ⟨bo, 0, none⟩)] (fun w => RdP w bo 0 [.bool true, .int .i64 lim, pv, kv, .int .i64 err, .int .i64 cnt]) [] (fun v _ => v = .int .i64 cnt) := by
  refine fn_of Tryd.func26 rfl rfl rfl fun w0 hw => ?_
  refine c_seq fun _ hK1 => ?_
  refine c_region ?_
  refine o_step rfl (s_assign rfl) ?_
  refine o_nil ?_
  refine x_then (hK1 _ _ ?_)
  refine c_seq fun _ hK2 => ?_
  refine c_seq fun _ hK3 => ?_
  refine c_region ?_
  refine o_step rfl (s_move rfl) ?_
  refine o_step rfl (step_cast (v' := .bool false) (s_eql_nilp rfl rfl) rfl) ?_
  refine o_step rfl (s_move rfl) ?_
  refine o_yes rfl rfl ?_
  refine o_step rfl (s_move rfl) ?_
  refine o_yes rfl rfl ?_
  refine o_step rfl (s_nil rfl) ?_
  refine o_yes rfl rfl ?_
  refine o_step rfl (s_field rfl rfl (by decide)) ?_
  refine o_yes rfl rfl ?_
  refine o_step rfl (s_ld rfl ((RdPK.old0 hw).cel (j := 0) rfl rfl)) ?_
  refine o_yes rfl rfl ?_
  refine o_step rfl (s_not rfl) ?_
  refine o_step rfl (s_pick_f rfl rfl) ?_
  refine o_nil ?_
  refine x_then (hK3 _ _ ?_)
  refine c_false rfl ?_
  refine c_skip ?_
  refine x_then (hK2 _ _ ?_)
  refine c_seq fun _ hK4 => ?_
  refine c_region ?_
  refine o_step rfl (s_move rfl) ?_
  refine o_step rfl (s_nil rfl) ?_
  refine o_step rfl (s_field rfl rfl (by decide)) ?_
  refine o_step rfl (s_ld rfl ((RdPK.old0 hw).cel (j := 5) rfl rfl)) ?_
  refine o_step rfl (s_assign rfl) ?_
  refine o_nil ?_
  refine x_then (hK4 _ _ ?_)
  refine c_ret ?_
  refine ?_
  exact x_ret rfl (.tmp rfl (.nil)) (rfl)
theorem rNew_fn (lim : Int) (bs : Nat) : HL.Fn Tryd.prog 16 [.int .i64 lim, .pointer (some ⟨bs, 0, none⟩)] (fun _ => True) [] (fun v S' => (lim < 0 ∧ v = .tuple #[.pointer none, .int .i64 1]) ∨ (0 ≤ lim ∧ ∃ bo, v = .tuple #[.pointer (some ⟨bo, 0, none⟩), .int .i64 0] ∧ S' = [(bo, .cells [.bool true, .int .i64 lim, .pointer (some ⟨bs, 0, none⟩), .slice none 0 0, .int .i64 0, .int .i64 0].toArray 125 (0, 0))])) := by
  refine fn_of Tryd.func16 rfl rfl rfl fun w0 hw => ?_
  refine c_seq fun _ hK1 => ?_
  refine c_region ?_
  refine o_step rfl (s_assign rfl) ?_
  refine o_step rfl (s_assign rfl) ?_
  refine o_nil ?_
  refine x_then (hK1 _ _ ?_)
  refine c_seq fun _ hK2 => ?_
  refine c_seq fun _ hK3 => ?_
  refine c_region ?_
  refine o_step rfl (s_move rfl) ?_
  refine o_step rfl (s_lss rfl rfl) ?_
  refine o_nil ?_
  refine x_then (hK3 _ _ ?_)
  refine c_if rfl (fun hn => ?_) (fun hn => ?_)
  ·
   refine c_seq fun _ hK4 => ?_
   refine c_region ?_
   refine o_step rfl (s_assign rfl) ?_
   refine o_step rfl (s_assign rfl) ?_
   refine o_nil ?_
   refine x_then (hK4 _ _ ?_)
   refine c_ret ?_
   refine x_then_ret (?_)
   exact x_ret rfl (.tmp rfl (.tmp rfl (.nil))) (.inl ⟨hn, rfl⟩)
  ·
   refine c_skip ?_
   refine x_then (hK2 _ _ ?_)
   refine c_seq fun _ hK5 => ?_
   refine c_region ?_
   refine o_step rfl (s_move rfl) ?_
   refine o_step rfl (s_move rfl) ?_
   refine o_step rfl (s_build (cs := [_, _, _, _, _, _]) (vs := [_, _, _]) rfl rfl (.cons rfl rfl rfl rfl rfl (.cons rfl rfl rfl rfl rfl (.cons rfl rfl rfl rfl rfl (.nil))))) ?_
   refine o_box rfl rfl rfl fun b11 => ?_
   refine o_step rfl (s_assign rfl) ?_
   refine o_step rfl (s_assign rfl) ?_
   refine o_nil ?_
   refine x_then (hK5 _ _ ?_)
   refine c_ret ?_
   refine ?_
   exact x_ret rfl (.tmp rfl (.tmp rfl (.nil))) (.inr ⟨by omega, _, rfl, rfl⟩)
theorem rHandOn_raw (bo bs : Nat) (lim cnt fail serr : Int) (kept : List UInt8) (ka : Option Addr) (kc : Nat) (said gl : List (Sl UInt8)) (sa ga : Option Addr) (sc gc : Nat) (Sk So Si Sg : Hp) (hk : OwnS Eb 1 5 (.slice ka kept.length kc) kept Sk)
    (hO : OwnS Esl 1 40 (.slice sa said.length sc) said So) (hin : ∀ s ∈ said, RdS Eb s.v s.xs Si) (hg : OwnS Esl 1 40 (.slice ga gl.length gc) gl Sg) (hgl : gl.length = said.length) (hle : said.length ≤ 1099511627776) (hkl : kept.length ≤ 4294967296) (hcn : 0 ≤ cnt ∧ cnt ≤ 1099511627776) (gx : List (List UInt8)) (Gc : Hp) (hG : OwnL Eb 1 5 gl gx Gc) (hgb : ∀ s ∈ gl, s.xs.length ≤ 4294967296) : HL.Fn Tryd.prog 78 [.pointer (some ⟨bo, 0, none⟩)] (fun _ => True) ((bo, .cells [.bool true, .int .i64 lim, .pointer (some ⟨bs, 0, none⟩), (.slice ka kept.length kc), .int .i64 0, .int .i64 cnt].toArray 125 (0, 0)) :: (Sk ++ ((bs, .cells [.pointer none, .string ⟨#[]⟩, .int .i64 fail, .int .i64 serr, .int .i64 said.length, .slice sa said.length sc, .slice ga gl.length gc].toArray 79 (0, 0)) :: (So ++ (Si ++ (Sg ++ Gc)))))) (fun v S' => v = .int .i64 (handE fail serr ⟨kept, 0, cnt, said.map Sl.xs⟩) ∧ StR bo bs lim fail serr (handS fail serr ⟨kept, 0, cnt, said.map Sl.xs⟩) S') := by
  refine fn_of Tryd.func78 rfl rfl rfl fun w0 hw => ?_
  have hsk := hk.sl
  have hbk := hsk.le
  refine c_seq fun _ hK1 => ?_
  refine c_region ?_
  refine o_step rfl (s_assign rfl) ?_
  refine o_nil ?_
  refine x_then (hK1 _ _ ?_)
  refine c_seq fun _ hK2 => ?_
  refine c_seq fun _ hK3 => ?_
  refine c_region ?_
  refine o_step rfl (s_move rfl) ?_
  refine o_step rfl (s_nil rfl) ?_
  refine o_step rfl (s_field rfl rfl (by decide)) ?_
  refine o_step rfl (s_ld rfl (.own meA rfl)) ?_
  refine o_step rfl (s_len rfl) ?_
  refine o_step rfl (s_eql rfl rfl) ?_
  refine o_nil ?_
  refine x_then (hK3 _ _ ?_)
  refine c_if rfl (fun hz => ?_) (fun hz => ?_)
  ·
   have hk0 : kept = [] := List.eq_nil_of_length_eq_zero (by omega)
   refine c_seq fun _ hK4 => ?_
   refine c_region ?_
   refine o_step rfl (s_assign rfl) ?_
   refine o_nil ?_
   refine x_then (hK4 _ _ ?_)
   refine c_ret ?_
   refine x_then_ret (?_)
   refine x_sub (Sub.refl _) (H' := ((bo, .cells [.bool true, .int .i64 lim, .pointer (some ⟨bs, 0, none⟩), (.slice ka kept.length kc), .int .i64 0, .int .i64 cnt].toArray 125 (0, 0)) :: (Sk ++ ((bs, .cells [.pointer none, .string ⟨#[]⟩, .int .i64 fail, .int .i64 serr, .int .i64 said.length, .slice sa said.length sc, .slice ga gl.length gc].toArray 79 (0, 0)) :: (So ++ (Si ++ (Sg ++ Gc))))))) hzB ?_
   exact x_ret rfl (.tmp rfl (.nil)) (⟨by rw [handE, if_pos hk0]; rfl, by rw [handS, if_pos hk0]; exact ⟨_ :: Sk, _, rfl, .mk hk, .mk rfl hO hin hg hgl hG hgb⟩⟩)
  ·
   refine c_skip ?_
   refine x_then (hK2 _ _ ?_)
   refine c_seq fun _ hK5 => ?_
   refine c_region ?_
   refine o_step rfl (s_assign rfl) ?_
   refine o_nil ?_
   refine x_then (hK5 _ _ ?_)
   refine c_seq fun _ hK6 => ?_
   refine c_region ?_
   refine o_step rfl (s_move rfl) ?_
   refine o_step rfl (s_move rfl) ?_
   refine o_step rfl (s_nil rfl) ?_
   refine o_step rfl (s_field rfl rfl (by decide)) ?_
   refine o_step rfl (s_ld rfl (.own meA rfl)) ?_
   refine o_app (OwnS.nil : OwnS Eb 1 5 (.slice none 0 0) [] []) (hk.rdk hiA) rfl rfl rfl rfl (by simp; omega) (by simp; omega) rfl (by exact .nil) fun a16 c16 S16 hS16 => ?_
   rw [List.nil_append] at hS16
   rw [List.nil_append]
   refine o_step rfl (s_assign rfl) ?_
   refine o_nil ?_
   refine x_then (hK6 _ _ ?_)
   refine c_seq fun _ hK7 => ?_
   refine c_region ?_
   refine o_step rfl (s_move rfl) ?_
   refine o_step rfl (s_len rfl) ?_
   refine o_step rfl (s_assign rfl) ?_
   refine o_nil ?_
   refine x_then (hK7 _ _ ?_)
   refine c_seq fun _ hK8 => ?_
   refine c_region ?_
   refine o_step rfl (s_move rfl) ?_
   refine o_step rfl (s_nil rfl) ?_
   refine o_step rfl (s_field rfl rfl (by decide)) ?_
   refine o_store rfl rfl rfl upA (by first | decide | omega | (simp; done) | (simp; omega)) rfl ?_
   refine o_nil ?_
   refine x_then (hK8 _ _ ?_)
   refine c_seq fun _ hK9 => ?_
   refine c_region ?_
   refine o_step rfl (s_move rfl) ?_
   refine o_step rfl (s_move rfl) ?_
   refine o_step rfl (s_nil rfl) ?_
   refine o_step rfl (s_field rfl rfl (by decide)) ?_
   refine o_step rfl (s_ld rfl (.own meA rfl)) ?_
   refine o_step rfl (s_move rfl) ?_
   refine o_call (take_raw bs fail serr said gl sa ga a16 sc gc c16 kept So Si Sg S16 hO hin hg hgl hS16 hkl hle gx Gc hG hgb) rfl rfl rfl ((Pick.takeC pkA (Pick.takeA pkA (Pick.takeA pkA (Pick.takeA pkA (Pick.takeA pkA pkA)))))) (fun _ _ => trivial) (fun v28 S28 ⟨hv28, hS28⟩ => ?_)
   subst hv28
   have hend := handR_end (bo := bo) (lim := lim) (cnt := cnt) hz hS28
   refine o_step rfl (s_nil rfl) ?_
   refine o_step rfl (s_field rfl rfl (by decide)) ?_
   refine o_store rfl rfl rfl upA (by first | decide | omega | (simp; done) | (simp; omega)) rfl ?_
   refine o_nil ?_
   refine x_then (hK9 _ _ ?_)
   refine c_seq fun _ hK10 => ?_
   refine c_seq fun _ hK11 => ?_
   refine c_region ?_
   refine o_step rfl (s_move rfl) ?_
   refine o_step rfl (s_nil rfl) ?_
   refine o_step rfl (s_field rfl rfl (by decide)) ?_
   refine o_step rfl (s_ld rfl (.own meA rfl)) ?_
   refine o_step rfl (s_eql rfl rfl) ?_
   refine o_nil ?_
   refine x_then (hK11 _ _ ?_)
   refine c_if rfl (fun he => ?_) (fun he => ?_)
   ·
    refine c_region ?_
    refine o_step rfl (s_move rfl) ?_
    refine o_step rfl (s_move rfl) ?_
    refine o_step rfl (s_nil rfl) ?_
    refine o_step rfl (s_field rfl rfl (by decide)) ?_
    refine o_step rfl (s_ld rfl (.own meA rfl)) ?_
    refine o_step rfl (s_move rfl) ?_
    refine o_step rfl (s_add rfl rfl (by omega)) ?_
    refine o_step rfl (s_nil rfl) ?_
    refine o_step rfl (s_field rfl rfl (by decide)) ?_
    refine o_store rfl rfl rfl upA (by first | decide | omega | (simp; done) | (simp; omega)) rfl ?_
    refine o_nil ?_
    refine x_then (hK10 _ _ ?_)
    refine c_seq fun _ hK12 => ?_
    refine c_region ?_
    refine o_step rfl (s_move rfl) ?_
    refine o_step rfl (s_nil rfl) ?_
    refine o_step rfl (s_field rfl rfl (by decide)) ?_
    refine o_step rfl (s_ld rfl (.own meA rfl)) ?_
    refine o_step rfl (s_assign rfl) ?_
    refine o_nil ?_
    refine x_then (hK12 _ _ ?_)
    refine c_ret ?_
    refine ?_
    rw [if_pos he] at hend
    refine x_sub (Sub.refl _) (H' := (bo, .cells [.bool true, .int .i64 lim, .pointer (some ⟨bs, 0, none⟩), .slice none 0 0, .int .i64 (if (said.length : Int) + 1 = fail then serr else 0), .int .i64 (cnt + kept.length)].toArray 125 (0, 0)) :: S28) hzB ?_
    exact x_ret rfl (.tmp rfl (.nil)) (hend)
   ·
    refine c_skip ?_
    refine x_then (hK10 _ _ ?_)
    refine c_seq fun _ hK13 => ?_
    refine c_region ?_
    refine o_step rfl (s_move rfl) ?_
    refine o_step rfl (s_nil rfl) ?_
    refine o_step rfl (s_field rfl rfl (by decide)) ?_
    refine o_step rfl (s_ld rfl (.own meA rfl)) ?_
    refine o_step rfl (s_assign rfl) ?_
    refine o_nil ?_
    refine x_then (hK13 _ _ ?_)
    refine c_ret ?_
    refine ?_
    rw [if_neg he] at hend
    refine x_sub (Sub.refl _) (H' := (bo, .cells [.bool true, .int .i64 lim, .pointer (some ⟨bs, 0, none⟩), .slice none 0 0, .int .i64 (if (said.length : Int) + 1 = fail then serr else 0), .int .i64 cnt].toArray 125 (0, 0)) :: S28) hzB ?_
    exact x_ret rfl (.tmp rfl (.nil)) (hend)
theorem rWrite_raw (bo bs : Nat) (lim cnt fail serr : Int) (kept : List UInt8) (ka : Option Addr) (kc : Nat) (said gl : List (Sl UInt8)) (sa ga : Option Addr) (sc gc : Nat) (Sk So Si Sg : Hp) (hk : OwnS Eb 1 5 (.slice ka kept.length kc) kept Sk)
    (hO : OwnS Esl 1 40 (.slice sa said.length sc) said So) (hin : ∀ s ∈ said, RdS Eb s.v s.xs Si) (hg : OwnS Esl 1 40 (.slice ga gl.length gc) gl Sg) (hgl : gl.length = said.length) (hle : said.length ≤ 1099511627776)  (hcn : 0 ≤ cnt ∧ cnt ≤ 1099511627776) (gx : List (List UInt8)) (Gc : Hp) (hG : OwnL Eb 1 5 gl gx Gc) (hgb : ∀ s ∈ gl, s.xs.length ≤ 4294967296) (err : Int) (a : Option Addr) (c : Nat) (sls : List (Sl UInt8)) (hkl : (catK kept sls sls.length).length ≤ 4294967296) : HL.Fn Tryd.prog 22 [.pointer (some ⟨bo, 0, none⟩), .slice a sls.length c] (fun w => (Rd Esl w (.slice a sls.length c) sls ∧ Apart (keys ((bo, .cells [.bool true, .int .i64 lim, .pointer (some ⟨bs, 0, none⟩), (.slice ka kept.length kc), .int .i64 err, .int .i64 cnt].toArray 125 (0, 0)) :: (Sk ++ ((bs, .cells [.pointer none, .string ⟨#[]⟩, .int .i64 fail, .int .i64 serr, .int .i64 said.length, .slice sa said.length sc, .slice ga gl.length gc].toArray 79 (0, 0)) :: (So ++ (Si ++ (Sg ++ Gc))))))) (.slice a sls.length c)) ∧ ∀ s ∈ sls, Rd Eb w s.v s.xs ∧ Apart (keys ((bo, .cells [.bool true, .int .i64 lim, .pointer (some ⟨bs, 0, none⟩), (.slice ka kept.length kc), .int .i64 err, .int .i64 cnt].toArray 125 (0, 0)) :: (Sk ++ ((bs, .cells [.pointer none, .string ⟨#[]⟩, .int .i64 fail, .int .i64 serr, .int .i64 said.length, .slice sa said.length sc, .slice ga gl.length gc].toArray 79 (0, 0)) :: (So ++ (Si ++ (Sg ++ Gc))))))) s.v) ((bo, .cells [.bool true, .int .i64 lim, .pointer (some ⟨bs, 0, none⟩), (.slice ka kept.length kc), .int .i64 err, .int .i64 cnt].toArray 125 (0, 0)) :: (Sk ++ ((bs, .cells [.pointer none, .string ⟨#[]⟩, .int .i64 fail, .int .i64 serr, .int .i64 said.length, .slice sa said.length sc, .slice ga gl.length gc].toArray 79 (0, 0)) :: (So ++ (Si ++ (Sg ++ Gc)))))) (fun v S' => v = .int .i64 (writeE lim fail serr ⟨kept, err, cnt, said.map Sl.xs⟩ (sls.map Sl.xs).flatten) ∧ StR bo bs lim fail serr (writeS lim fail serr ⟨kept, err, cnt, said.map Sl.xs⟩ (sls.map Sl.xs).flatten) S') := by
  refine fn_of Tryd.func22 rfl rfl rfl fun w0 hw => ?_
  obtain ⟨⟨hr, hra⟩, hri⟩ := hw
  have hsr := hr.sl
  have hbr := hsr.le
  refine c_seq fun _ hK1 => ?_
  refine c_region ?_
  refine o_step rfl (s_assign rfl) ?_
  refine o_nil ?_
  refine x_then (hK1 _ _ ?_)
  refine c_seq fun _ hK2 => ?_
  refine c_seq fun _ hK3 => ?_
  refine c_region ?_
  refine o_step rfl (s_move rfl) ?_
  refine o_step rfl (step_cast (v' := .bool false) (s_eql_nilp rfl rfl) rfl) ?_
  refine o_step rfl (s_move rfl) ?_
  refine o_yes rfl rfl ?_
  refine o_step rfl (s_move rfl) ?_
  refine o_yes rfl rfl ?_
  refine o_step rfl (s_nil rfl) ?_
  refine o_yes rfl rfl ?_
  refine o_step rfl (s_field rfl rfl (by decide)) ?_
  refine o_yes rfl rfl ?_
  refine o_step rfl (s_ld rfl (.own meA rfl)) ?_
  refine o_yes rfl rfl ?_
  refine o_step rfl (s_not rfl) ?_
  refine o_step rfl (s_pick_f rfl rfl) ?_
  refine o_nil ?_
  refine x_then (hK3 _ _ ?_)
  refine c_false rfl ?_
  refine c_skip ?_
  refine x_then (hK2 _ _ ?_)
  refine c_seq fun _ hK4 => ?_
  refine c_seq fun _ hK5 => ?_
  refine c_region ?_
  refine o_step rfl (s_move rfl) ?_
  refine o_step rfl (s_nil rfl) ?_
  refine o_step rfl (s_field rfl rfl (by decide)) ?_
  refine o_step rfl (s_ld rfl (.own meA rfl)) ?_
  by_cases he : err ≠ 0
  ·
   refine o_step rfl (step_cast (v' := .bool true) (s_neq rfl rfl) (by rw [decide_eq_true he])) ?_
   refine o_nil ?_
   refine x_then (hK5 _ _ ?_)
   refine c_true rfl ?_
   refine c_seq fun _ hK6 => ?_
   refine c_region ?_
   refine o_step rfl (s_move rfl) ?_
   refine o_step rfl (s_nil rfl) ?_
   refine o_step rfl (s_field rfl rfl (by decide)) ?_
   refine o_step rfl (s_ld rfl (.own meA rfl)) ?_
   refine o_step rfl (s_assign rfl) ?_
   refine o_nil ?_
   refine x_then (hK6 _ _ ?_)
   refine c_ret ?_
   refine x_then_ret (?_)
   exact x_ret rfl (.tmp rfl (.nil)) (⟨by rw [writeE, if_pos he]; rfl, by rw [writeS, if_pos he]; exact ⟨_ :: Sk, _, rfl, .mk hk, .mk rfl hO hin hg hgl hG hgb⟩⟩)
  ·
   obtain rfl : err = 0 := Decidable.not_not.1 he
   refine o_step rfl (step_cast (v' := .bool false) (s_neq rfl rfl) (by rw [decide_eq_false he])) ?_
   refine o_nil ?_
   refine x_then (hK5 _ _ ?_)
   refine c_false rfl ?_
   refine c_skip ?_
   refine x_then (hK4 _ _ ?_)
   refine c_seq fun _ hK7 => ?_
   refine c_seq fun _ hK8 => ?_
   refine c_region ?_
   refine o_step rfl (s_assign rfl) ?_
   refine o_nil ?_
   refine x_then (hK8 _ _ ?_)
   refine c_block ?_
   refine c_loop4 (fun (j : Nat) (ka2 : Option Addr) (kc2 : Nat) (Sk2 : Hp) => j ≤ sls.length ∧ OwnS Eb 1 5 (.slice ka2 (catK kept sls j).length kc2) (catK kept sls j) Sk2) (fun (j : Nat) (ka2 : Option Addr) (kc2 : Nat) (Sk2 : Hp) => [(5, .int .i64 j)]) [(0, _), (1, _), (4, _)] (fun (j : Nat) (ka2 : Option Addr) (kc2 : Nat) (Sk2 : Hp) => ((bo, .cells [.bool true, .int .i64 lim, .pointer (some ⟨bs, 0, none⟩), (.slice ka2 (catK kept sls j).length kc2), .int .i64 0, .int .i64 cnt].toArray 125 (0, 0)) :: (Sk2 ++ ((bs, .cells [.pointer none, .string ⟨#[]⟩, .int .i64 fail, .int .i64 serr, .int .i64 said.length, .slice sa said.length sc, .slice ga gl.length gc].toArray 79 (0, 0)) :: (So ++ (Si ++ (Sg ++ Gc))))))) (fun (j : Nat) (ka2 : Option Addr) (kc2 : Nat) (Sk2 : Hp) => sls.length - j) 0 ka kc Sk ⟨by omega, by rw [catK_zero]; exact hk⟩ sbA sbA (by rw [catK_zero]; exact HSub.refl _) ?_
   rintro j ka2 kc2 Sk2 ⟨hj, hSk⟩
   refine c_seq fun _ hK9 => ?_
   refine c_seq fun _ hK10 => ?_
   refine c_region ?_
   refine o_step rfl (s_move rfl) ?_
   refine o_step rfl (s_move rfl) ?_
   refine o_step rfl (s_len rfl) ?_
   refine o_step rfl (s_lss rfl rfl) ?_
   refine o_nil ?_
   refine x_then (hK10 _ _ ?_)
   refine c_if rfl (fun hlt => ?_) (fun hlt => ?_)
   ·
    have hmem := row0_mem (sls := sls) (j := j) (by omega)
    have hcl := catK_mono (kept := kept) (sls := sls) (i := j + 1) (by omega)
    rw [catK_succ (by omega), List.length_append] at hcl
    refine c_skip ?_
    refine x_then (hK9 _ _ ?_)
    refine c_seq fun _ hK11 => ?_
    refine c_block ?_
    refine c_drawE ([(bo, .cells [.bool true, .int .i64 lim, .pointer (some ⟨bs, 0, none⟩), (.slice ka2 (catK kept sls j).length kc2), .int .i64 0, .int .i64 cnt].toArray 125 (0, 0))]) (fun i => Nat.beq i 12) ?_
    refine e_take 0 rfl (by kernel_rfl) (by kernel_rfl) (by kernel_rfl) (by kernel_rfl) (fun _ _ => rfl) rfl hzB (s_move rfl) ?_
    refine e_take 1 rfl (by kernel_rfl) (by kernel_rfl) (by kernel_rfl) (by kernel_rfl) (fun _ _ => rfl) rfl hzB (s_move rfl) ?_
    refine e_take 2 rfl (by kernel_rfl) (by kernel_rfl) (by kernel_rfl) (by kernel_rfl) (fun _ _ => rfl) rfl hzB (s_nil rfl) ?_
    refine e_take 3 rfl (by kernel_rfl) (by kernel_rfl) (by kernel_rfl) (by kernel_rfl) (fun _ _ => rfl) rfl hzB (s_field rfl rfl (by decide)) ?_
    refine e_take 4 rfl (by kernel_rfl) (by kernel_rfl) (by kernel_rfl) (by kernel_rfl) (fun _ _ => rfl) rfl hzB (s_ld rfl (.own meA rfl)) ?_
    refine e_take 5 rfl (by kernel_rfl) (by kernel_rfl) (by kernel_rfl) (by kernel_rfl) (fun _ _ => rfl) rfl hzB (s_move rfl) ?_
    refine e_take 6 rfl (by kernel_rfl) (by kernel_rfl) (by kernel_rfl) (by kernel_rfl) (fun _ _ => rfl) rfl hzB (s_move rfl) ?_
    refine e_take 7 rfl (by kernel_rfl) (by kernel_rfl) (by kernel_rfl) (by kernel_rfl) (fun _ _ => rfl) rfl hzB (s_idx rfl rfl (by assumption) (by omega)) ?_
    refine e_take 8 rfl (by kernel_rfl) (by kernel_rfl) (by kernel_rfl) (by kernel_rfl) (fun _ _ => rfl) rfl hzB (s_ld rfl ((RdK.old hr hra).ld j 0 (row0_get (by omega)) rfl (by decide) (by omega))) ?_
    refine e_one 9 rfl (by kernel_rfl) ?_
    refine o_app hSk (RdK.old (hri _ hmem).1 (hri _ hmem).2) rfl rfl rfl rfl (by omega) (by omega) rfl pkA fun a39 c39 S39 hS39 => ?_
    refine o_nil ?_
    refine x_oneS hzB ?_
    refine e_one 10 rfl (by kernel_rfl) ?_
    refine o_step rfl (s_nil rfl) ?_
    refine o_nil ?_
    refine x_oneS hzB ?_
    refine e_one 11 rfl (by kernel_rfl) ?_
    refine o_step rfl (s_field rfl rfl (by decide)) ?_
    refine o_nil ?_
    refine x_oneS hzB ?_
    refine e_one 12 rfl (by kernel_rfl) ?_
    refine o_store rfl rfl rfl upA (by first | decide | omega | (simp; done) | (simp; omega)) rfl ?_
    refine o_nil ?_
    refine x_oneL rfl ?_
    refine e_done (by kernel_rfl) ?_
    refine x_block ?_
    refine x_then (hK11 _ _ ?_)
    refine c_region ?_
    refine o_step rfl (s_move rfl) ?_
    refine o_step rfl (s_add rfl rfl (by omega)) ?_
    refine o_step rfl (s_assign rfl) ?_
    refine o_nil ?_
    exact x_then (x_inv (j + 1, a39, c39, S39) ⟨by omega, by rw [catK_succ (by omega)]; exact hS39⟩ (by first | omega | (dsimp only; omega)) sbA (by rw [catK_succ (by omega)]; exact hzB))
   ·
    obtain rfl : j = sls.length := by omega
    refine c_exit ?_
    refine x_then_exit ?_
    refine x_then_exit ?_
    refine x_block_exit ?_
    refine x_then (hK7 _ _ ?_)
    refine c_seq fun _ hK12 => ?_
    refine c_seq fun _ hK13 => ?_
    refine c_quiet (by kernel_rfl) ?_
    refine .op rfl (s_move rfl) ?_
    refine .op rfl (s_nil rfl) ?_
    refine .op rfl (s_field rfl rfl (by decide)) ?_
    refine .op rfl (s_ld rfl (.own meA rfl)) ?_
    refine .op rfl (s_len rfl) ?_
    refine .op rfl (s_move rfl) ?_
    refine .op rfl (s_nil rfl) ?_
    refine .op rfl (s_field rfl rfl (by decide)) ?_
    refine .op rfl (s_ld rfl (.own meA rfl)) ?_
    refine .op rfl (s_lss rfl rfl) ?_
    refine .nil ?_
    refine x_then (hK13 _ _ ?_)
    refine c_if rfl (fun hlm => ?_) (fun hlm => ?_)
    ·
     refine c_seq fun _ hK14 => ?_
     refine c_region ?_
     refine o_step rfl (s_assign rfl) ?_
     refine o_nil ?_
     refine x_then (hK14 _ _ ?_)
     refine c_ret ?_
     refine x_then_ret (?_)
     refine x_sub (Sub.refl _) (H' := ((bo, .cells [.bool true, .int .i64 lim, .pointer (some ⟨bs, 0, none⟩), (.slice ka2 (catK kept sls sls.length).length kc2), .int .i64 0, .int .i64 cnt].toArray 125 (0, 0)) :: (Sk2 ++ ((bs, .cells [.pointer none, .string ⟨#[]⟩, .int .i64 fail, .int .i64 serr, .int .i64 said.length, .slice sa said.length sc, .slice ga gl.length gc].toArray 79 (0, 0)) :: (So ++ (Si ++ (Sg ++ Gc))))))) hzB ?_
     rw [catK_all] at hlm hSk ⊢
     exact x_ret rfl (.tmp rfl (.nil)) (⟨by rw [writeE, if_neg (by simp), if_pos hlm]; rfl, by rw [writeS, if_neg (by simp), if_pos hlm]; exact ⟨_ :: Sk2, _, rfl, .mk (kept := _ ++ _) hSk, .mk rfl hO hin hg hgl hG hgb⟩⟩)
    ·
     refine c_skip ?_
     refine x_then (hK12 _ _ ?_)
     refine c_seq fun _ hK15 => ?_
     refine c_region ?_
     refine o_step rfl (s_move rfl) ?_
     refine o_call (rHandOn_raw bo bs lim cnt fail serr (catK kept sls sls.length) ka2 kc2 said gl sa ga sc gc Sk2 So Si Sg hSk hO hin hg hgl hle hkl hcn gx Gc hG hgb) rfl rfl rfl ((Pick.takeC pkA (Pick.takeA pkA (Pick.takeC pkA (Pick.takeA pkA (Pick.takeA pkA (Pick.takeA pkA pkA))))))) (fun _ _ => trivial) (fun v53 S53 ⟨hv53, hS53⟩ => ?_)
     subst hv53
     refine o_step rfl (s_assign rfl) ?_
     refine o_nil ?_
     refine x_then (hK15 _ _ ?_)
     refine c_ret ?_
     refine ?_
     refine x_sub (Sub.refl _) (H' := S53) hzB ?_
     rw [catK_all] at hS53
     exact x_ret rfl (.tmp rfl (.nil)) (⟨by rw [catK_all, writeE, if_neg (by simp), if_neg (fun h => hlm (catK_lt.2 h))]; rfl, by rw [writeS, if_neg (by simp), if_neg (fun h => hlm (catK_lt.2 h))]; exact hS53⟩)
theorem rFlush_raw (bo bs : Nat) (lim cnt fail serr : Int) (kept : List UInt8) (ka : Option Addr) (kc : Nat) (said gl : List (Sl UInt8)) (sa ga : Option Addr) (sc gc : Nat) (Sk So Si Sg : Hp) (hk : OwnS Eb 1 5 (.slice ka kept.length kc) kept Sk)
    (hO : OwnS Esl 1 40 (.slice sa said.length sc) said So) (hin : ∀ s ∈ said, RdS Eb s.v s.xs Si) (hg : OwnS Esl 1 40 (.slice ga gl.length gc) gl Sg) (hgl : gl.length = said.length) (hle : said.length ≤ 1099511627776) (err : Int) (hkl : kept.length ≤ 4294967296) (hcn : 0 ≤ cnt ∧ cnt ≤ 1099511627776) (gx : List (List UInt8)) (Gc : Hp) (hG : OwnL Eb 1 5 gl gx Gc) (hgb : ∀ s ∈ gl, s.xs.length ≤ 4294967296) : HL.Fn Tryd.prog 20 [.pointer (some ⟨bo, 0, none⟩)] (fun _ => True) ((bo, .cells [.bool true, .int .i64 lim, .pointer (some ⟨bs, 0, none⟩), (.slice ka kept.length kc), .int .i64 err, .int .i64 cnt].toArray 125 (0, 0)) :: (Sk ++ ((bs, .cells [.pointer none, .string ⟨#[]⟩, .int .i64 fail, .int .i64 serr, .int .i64 said.length, .slice sa said.length sc, .slice ga gl.length gc].toArray 79 (0, 0)) :: (So ++ (Si ++ (Sg ++ Gc)))))) (fun v S' => v = .int .i64 (flushE fail serr ⟨kept, err, cnt, said.map Sl.xs⟩) ∧ StR bo bs lim fail serr (flushS fail serr ⟨kept, err, cnt, said.map Sl.xs⟩) S') := by
  refine fn_of Tryd.func20 rfl rfl rfl fun w0 hw => ?_
  refine c_seq fun _ hK1 => ?_
  refine c_region ?_
  refine o_step rfl (s_assign rfl) ?_
  refine o_nil ?_
  refine x_then (hK1 _ _ ?_)
  refine c_seq fun _ hK2 => ?_
  refine c_seq fun _ hK3 => ?_
  refine c_region ?_
  refine o_step rfl (s_move rfl) ?_
  refine o_step rfl (step_cast (v' := .bool false) (s_eql_nilp rfl rfl) rfl) ?_
  refine o_step rfl (s_move rfl) ?_
  refine o_yes rfl rfl ?_
  refine o_step rfl (s_move rfl) ?_
  refine o_yes rfl rfl ?_
  refine o_step rfl (s_nil rfl) ?_
  refine o_yes rfl rfl ?_
  refine o_step rfl (s_field rfl rfl (by decide)) ?_
  refine o_yes rfl rfl ?_
  refine o_step rfl (s_ld rfl (.own meA rfl)) ?_
  refine o_yes rfl rfl ?_
  refine o_step rfl (s_not rfl) ?_
  refine o_step rfl (s_pick_f rfl rfl) ?_
  refine o_nil ?_
  refine x_then (hK3 _ _ ?_)
  refine c_false rfl ?_
  refine c_skip ?_
  refine x_then (hK2 _ _ ?_)
  refine c_seq fun _ hK4 => ?_
  refine c_seq fun _ hK5 => ?_
  refine c_region ?_
  refine o_step rfl (s_move rfl) ?_
  refine o_step rfl (s_nil rfl) ?_
  refine o_step rfl (s_field rfl rfl (by decide)) ?_
  refine o_step rfl (s_ld rfl (.own meA rfl)) ?_
  by_cases he : err ≠ 0
  ·
   refine o_step rfl (step_cast (v' := .bool true) (s_neq rfl rfl) (by rw [decide_eq_true he])) ?_
   refine o_nil ?_
   refine x_then (hK5 _ _ ?_)
   refine c_true rfl ?_
   refine c_seq fun _ hK6 => ?_
   refine c_region ?_
   refine o_step rfl (s_move rfl) ?_
   refine o_step rfl (s_nil rfl) ?_
   refine o_step rfl (s_field rfl rfl (by decide)) ?_
   refine o_step rfl (s_ld rfl (.own meA rfl)) ?_
   refine o_step rfl (s_assign rfl) ?_
   refine o_nil ?_
   refine x_then (hK6 _ _ ?_)
   refine c_ret ?_
   refine x_then_ret (?_)
   exact x_ret rfl (.tmp rfl (.nil)) (⟨by rw [flushE, if_pos he]; rfl, by rw [flushS, if_pos he]; exact ⟨_ :: Sk, _, rfl, .mk hk, .mk rfl hO hin hg hgl hG hgb⟩⟩)
  ·
   obtain rfl : err = 0 := Decidable.not_not.1 he
   refine o_step rfl (step_cast (v' := .bool false) (s_neq rfl rfl) (by rw [decide_eq_false he])) ?_
   refine o_nil ?_
   refine x_then (hK5 _ _ ?_)
   refine c_false rfl ?_
   refine c_skip ?_
   refine x_then (hK4 _ _ ?_)
   refine c_seq fun _ hK7 => ?_
   refine c_region ?_
   refine o_step rfl (s_move rfl) ?_
   refine o_call (rHandOn_raw bo bs lim cnt fail serr kept ka kc said gl sa ga sc gc Sk So Si Sg hk hO hin hg hgl hle hkl hcn gx Gc hG hgb) rfl rfl rfl ((Pick.takeC pkA (Pick.takeA pkA (Pick.takeC pkA (Pick.takeA pkA (Pick.takeA pkA (Pick.takeA pkA pkA))))))) (fun _ _ => trivial) (fun v22 S22 ⟨hv22, hS22⟩ => ?_)
   subst hv22
   refine o_step rfl (s_assign rfl) ?_
   refine o_nil ?_
   refine x_then (hK7 _ _ ?_)
   refine c_ret ?_
   refine ?_
   refine x_sub (Sub.refl _) (H' := S22) hzB ?_
   exact x_ret rfl (.tmp rfl (.nil)) (⟨by rw [flushE, if_neg (by simp)]; rfl, by rw [flushS, if_neg (by simp)]; exact hS22⟩)
theorem scriptLong_fn (a : Option Addr) (c : Nat) (sc : List OpV) : HL.Fn Tryd.prog 13 [.slice a sc.length c] (fun w => Rd Eop w (.slice a sc.length c) sc ∧ ∀ o ∈ sc, Rd Esl w o.p.v o.p.xs ∧ ∀ s ∈ o.p.xs, Rd Eb w s.v s.xs) [] (fun v _ => ∃ b, v = .bool b ∧ (b = false → sc.length + tot sc sc.length ≤ 2147483647)) := by
  refine fn_of Tryd.func13 rfl rfl rfl fun w0 hw => ?_
  obtain ⟨h1, h2⟩ := hw
  have hsx := h1.sl
  have hbx := hsx.le
  refine c_seq fun _ hK1 => ?_
  refine c_region ?_
  refine o_step rfl (s_assign rfl) ?_
  refine o_nil ?_
  refine x_then (hK1 _ _ ?_)
  refine c_seq fun _ hK2 => ?_
  refine c_region ?_
  refine o_step rfl (s_move rfl) ?_
  refine o_step rfl (s_len rfl) ?_
  refine o_step rfl (s_assign rfl) ?_
  refine o_nil ?_
  refine x_then (hK2 _ _ ?_)
  refine c_seq fun _ hK3 => ?_
  refine c_seq fun _ hK4 => ?_
  refine c_region ?_
  refine o_step rfl (s_assign rfl) ?_
  refine o_nil ?_
  refine x_then (hK4 _ _ ?_)
  refine c_block ?_
  refine c_loop2 (fun (j : Nat) (N : Int) => j ≤ sc.length ∧ 0 ≤ N ∧ N ≤ 562949953421312 ∧ (N < 2147483648 → N = sc.length + tot sc j)) (fun (j : Nat) (N : Int) => [(4, .int .i64 j), (3, .int .i64 N)]) [(0, _), (2, _)] (fun (j : Nat) (N : Int) => []) (fun (j : Nat) (N : Int) => sc.length - j) 0 (sc.length : Int) ⟨by omega, by omega, by omega, fun _ => by rw [tot_zero]; omega⟩ sbA sbA hzB ?_
  rintro j N ⟨hj, hN0, hN1, hN⟩
  refine c_seq fun _ hK5 => ?_
  refine c_seq fun _ hK6 => ?_
  refine c_region ?_
  refine o_step rfl (s_move rfl) ?_
  refine o_step rfl (s_move rfl) ?_
  refine o_step rfl (s_len rfl) ?_
  by_cases hj2 : j < sc.length
  ·
   have hmem := op0_mem hj2
   have hrow : Rd Esl w0 (.slice (op0 sc j).p.a (op0 sc j).p.xs.length (op0 sc j).p.c) (op0 sc j).p.xs := (h2 _ hmem).1
   have hrs := hrow.sl
   have hrb := hrs.le
   refine o_step rfl (step_cast (v' := .bool true) (s_lss rfl rfl) (by rw [decide_eq_true (by omega)])) ?_
   refine o_step rfl (s_move rfl) ?_
   refine o_yes rfl rfl ?_
   refine o_step rfl (s_move rfl) ?_
   refine o_yes rfl rfl ?_
   refine o_step rfl (s_lss rfl rfl) ?_
   refine o_step rfl (s_pick_t rfl rfl) ?_
   refine o_nil ?_
   refine x_then (hK6 _ _ ?_)
   refine c_if rfl (fun hN2 => ?_) (fun hN2 => ?_)
   ·
    refine c_skip ?_
    refine x_then (hK5 _ _ ?_)
    refine c_seq fun _ hK7 => ?_
    refine c_block ?_
    refine c_seq fun _ hK8 => ?_
    refine c_region ?_
    refine o_step rfl (s_move rfl) ?_
    refine o_step rfl (s_move rfl) ?_
    refine o_step rfl (s_move rfl) ?_
    refine o_step rfl (s_idx rfl rfl (by assumption) (by omega)) ?_
    refine o_step rfl (s_field rfl rfl (by decide)) ?_
    refine o_step rfl (s_ld rfl ((RdK.old0 h1).ld j 1 (op0_get (by omega)) rfl (by decide) (by omega))) ?_
    refine o_step rfl (s_len rfl) ?_
    refine o_step rfl (s_add rfl rfl (by omega)) ?_
    refine o_step rfl (s_assign rfl) ?_
    refine o_nil ?_
    refine x_then (hK8 _ _ ?_)
    refine c_seq fun _ hK9 => ?_
    refine c_region ?_
    refine o_step rfl (s_assign rfl) ?_
    refine o_nil ?_
    refine x_then (hK9 _ _ ?_)
    refine c_block ?_
    refine c_loop2 (fun (k : Nat) (M : Int) => k ≤ (op0 sc j).p.xs.length ∧ 0 ≤ M ∧ M ≤ 562949953421312 ∧ (M < 2147483648 → M = sc.length + tot sc j + (op0 sc j).p.xs.length + (catK [] (op0 sc j).p.xs k).length)) (fun (k : Nat) (M : Int) => [(5, .int .i64 k), (3, .int .i64 M)]) [(0, _), (2, _), (4, _), (8, _), (9, _), (10, _), (11, _), (12, _), (13, _), (14, _), (15, _), (18, _), (19, _), (20, _), (21, _), (22, _), (23, _), (24, _), (25, _)] (fun (k : Nat) (M : Int) => []) (fun (k : Nat) (M : Int) => (op0 sc j).p.xs.length - k) 0 (N + (op0 sc j).p.xs.length) ⟨by omega, by omega, by omega, fun _ => by rw [catK_zero]; have := hN hN2; simp; omega⟩ sbA sbA hzB ?_
    rintro k M ⟨hk, hM0, hM1, hM⟩
    refine c_seq fun _ hK10 => ?_
    refine c_seq fun _ hK11 => ?_
    refine c_region ?_
    refine o_step rfl (s_move rfl) ?_
    refine o_step rfl (s_move rfl) ?_
    refine o_step rfl (s_move rfl) ?_
    refine o_step rfl (s_idx rfl rfl (by assumption) (by omega)) ?_
    refine o_step rfl (s_field rfl rfl (by decide)) ?_
    refine o_step rfl (s_ld rfl ((RdK.old0 h1).ld j 1 (op0_get (by omega)) rfl (by decide) (by omega))) ?_
    refine o_step rfl (s_len rfl) ?_
    by_cases hk2 : k < (op0 sc j).p.xs.length
    ·
     have hmem2 := row0_mem hk2
     have hbs := ((h2 _ hmem).2 _ hmem2).sl.le
     refine o_step rfl (step_cast (v' := .bool true) (s_lss rfl rfl) (by rw [decide_eq_true (by omega)])) ?_
     refine o_step rfl (s_move rfl) ?_
     refine o_yes rfl rfl ?_
     refine o_step rfl (s_move rfl) ?_
     refine o_yes rfl rfl ?_
     refine o_step rfl (s_lss rfl rfl) ?_
     refine o_step rfl (s_pick_t rfl rfl) ?_
     refine o_nil ?_
     refine x_then (hK11 _ _ ?_)
     refine c_if rfl (fun hM2 => ?_) (fun hM2 => ?_)
     ·
      refine c_skip ?_
      refine x_then (hK10 _ _ ?_)
      refine c_seq fun _ hK12 => ?_
      refine c_block ?_
      refine c_region ?_
      refine o_step rfl (s_move rfl) ?_
      refine o_step rfl (s_move rfl) ?_
      refine o_step rfl (s_move rfl) ?_
      refine o_step rfl (s_idx rfl rfl (by assumption) (by omega)) ?_
      refine o_step rfl (s_field rfl rfl (by decide)) ?_
      refine o_step rfl (s_ld rfl ((RdK.old0 h1).ld j 1 (op0_get (by omega)) rfl (by decide) (by omega))) ?_
      refine o_step rfl (s_move rfl) ?_
      refine o_step rfl (s_idx rfl rfl hrs (by omega)) ?_
      refine o_step rfl (s_ld rfl ((RdK.old0 hrow).ld k 0 (row0_get hk2) rfl (by decide) (by omega))) ?_
      refine o_step rfl (s_len rfl) ?_
      refine o_step rfl (s_add rfl rfl (by omega)) ?_
      refine o_step rfl (s_assign rfl) ?_
      refine o_nil ?_
      refine x_block ?_
      refine x_then (hK12 _ _ ?_)
      refine c_region ?_
      refine o_step rfl (s_move rfl) ?_
      refine o_step rfl (s_add rfl rfl (by omega)) ?_
      refine o_step rfl (s_assign rfl) ?_
      refine o_nil ?_
      exact x_then (x_inv (k + 1, M + (row0 (op0 sc j).p.xs k).xs.length) ⟨by omega, by omega, by omega, fun hq => by rw [catK_succ (by omega), List.length_append]; have := hM (by omega); omega⟩ (by first | omega | (dsimp only; omega)) sbA hzB)
     ·
      refine c_exit ?_
      refine x_then_exit ?_
      refine x_then_exit ?_
      refine x_block_exit ?_
      refine x_block ?_
      refine x_then (hK7 _ _ ?_)
      refine c_region ?_
      refine o_step rfl (s_move rfl) ?_
      refine o_step rfl (s_add rfl rfl (by omega)) ?_
      refine o_step rfl (s_assign rfl) ?_
      refine o_nil ?_
      exact x_then (x_inv (j + 1, M) ⟨by omega, by omega, by omega, fun hq => by rw [tot_succ hj2, cost_eq]; have := hM (by omega); omega⟩ (by first | omega | (dsimp only; omega)) sbA hzB)
    ·
     have hkl : k = (op0 sc j).p.xs.length := by omega
     subst hkl
     refine o_step rfl (step_cast (v' := .bool false) (s_lss rfl rfl) (by rw [decide_eq_false (by omega)])) ?_
     refine o_step rfl (s_move rfl) ?_
     refine o_no rfl rfl rfl rfl ?_
     refine o_no rfl rfl rfl rfl ?_
     refine o_step rfl (s_pick_f rfl rfl) ?_
     refine o_nil ?_
     refine x_then (hK11 _ _ ?_)
     refine c_false rfl ?_
     refine c_exit ?_
     refine x_then_exit ?_
     refine x_then_exit ?_
     refine x_block_exit ?_
     refine x_block ?_
     refine x_then (hK7 _ _ ?_)
     refine c_region ?_
     refine o_step rfl (s_move rfl) ?_
     refine o_step rfl (s_add rfl rfl (by omega)) ?_
     refine o_step rfl (s_assign rfl) ?_
     refine o_nil ?_
     exact x_then (x_inv (j + 1, M) ⟨by omega, by omega, by omega, fun hq => by rw [tot_succ hj2, cost_eq]; have := hM (by omega); omega⟩ (by first | omega | (dsimp only; omega)) sbA hzB)
   ·
    refine c_exit ?_
    refine x_then_exit ?_
    refine x_then_exit ?_
    refine x_block_exit ?_
    refine x_then (hK3 _ _ ?_)
    refine c_seq fun _ hK13 => ?_
    refine c_region ?_
    refine o_step rfl (s_move rfl) ?_
    refine o_callP (long_fn _) rfl rfl rfl (fun _ _ => trivial) (fun v52 hv52 => ?_)
    subst hv52
    refine o_step rfl (s_assign rfl) ?_
    refine o_nil ?_
    refine x_then (hK13 _ _ ?_)
    refine c_ret ?_
    refine ?_
    exact x_ret rfl (.tmp rfl (.nil)) (⟨_, rfl, fun hq => absurd (of_decide_eq_false hq) (by omega)⟩)
  ·
   refine o_step rfl (step_cast (v' := .bool false) (s_lss rfl rfl) (by rw [decide_eq_false (by omega)])) ?_
   refine o_step rfl (s_move rfl) ?_
   refine o_no rfl rfl rfl rfl ?_
   refine o_no rfl rfl rfl rfl ?_
   refine o_step rfl (s_pick_f rfl rfl) ?_
   refine o_nil ?_
   refine x_then (hK6 _ _ ?_)
   refine c_false rfl ?_
   refine c_exit ?_
   refine x_then_exit ?_
   refine x_then_exit ?_
   refine x_block_exit ?_
   refine x_then (hK3 _ _ ?_)
   refine c_seq fun _ hK14 => ?_
   refine c_region ?_
   refine o_step rfl (s_move rfl) ?_
   refine o_callP (long_fn _) rfl rfl rfl (fun _ _ => trivial) (fun v52 hv52 => ?_)
   subst hv52
   refine o_step rfl (s_assign rfl) ?_
   refine o_nil ?_
   refine x_then (hK14 _ _ ?_)
   refine c_ret ?_
   refine ?_
   exact x_ret rfl (.tmp rfl (.nil)) (⟨_, rfl, fun hq => long_end (by omega) hN (of_decide_eq_false hq)⟩)
theorem eqRows_fn (a a2 : Option Addr) (c c2 : Nat) (xs ys : List (Sl UInt8)) : HL.Fn Tryd.prog 27 [.slice a xs.length c, .slice a2 ys.length c2] (fun w => (Rd Esl w (.slice a xs.length c) xs ∧ ∀ s ∈ xs, Rd Eb w s.v s.xs) ∧ (Rd Esl w (.slice a2 ys.length c2) ys ∧ ∀ s ∈ ys, Rd Eb w s.v s.xs)) [] (fun v _ => v = .bool (decide (xs.map Sl.xs = ys.map Sl.xs))) := by
  refine fn_of Tryd.func27 rfl rfl rfl fun w0 hw => ?_
  obtain ⟨⟨hx, hx2⟩, hy, hy2⟩ := hw
  have hsx := hx.sl
  have hsy := hy.sl
  have hbx := hsx.le
  have hby := hsy.le
  refine c_seq fun _ hK1 => ?_
  refine c_region ?_
  refine o_step rfl (s_assign rfl) ?_
  refine o_nil ?_
  refine x_then (hK1 _ _ ?_)
  refine c_seq fun _ hK2 => ?_
  refine c_seq fun _ hK3 => ?_
  refine c_region ?_
  refine o_step rfl (s_move rfl) ?_
  refine o_step rfl (s_len rfl) ?_
  refine o_step rfl (s_move rfl) ?_
  refine o_step rfl (s_len rfl) ?_
  refine o_step rfl (s_neq rfl rfl) ?_
  refine o_nil ?_
  refine x_then (hK3 _ _ ?_)
  refine c_if rfl (fun hl => ?_) (fun hl => ?_)
  ·
   refine c_seq fun _ hK4 => ?_
   refine c_region ?_
   refine o_step rfl (s_assign rfl) ?_
   refine o_nil ?_
   refine x_then (hK4 _ _ ?_)
   refine c_ret ?_
   refine x_then_ret (?_)
   exact x_ret rfl (.tmp rfl (.nil)) (retF (by intro e; have := congrArg List.length e; simp at this; omega))
  ·
   refine c_skip ?_
   refine x_then (hK2 _ _ ?_)
   refine c_seq fun _ hK5 => ?_
   refine c_seq fun _ hK6 => ?_
   refine c_region ?_
   refine o_step rfl (s_assign rfl) ?_
   refine o_nil ?_
   refine x_then (hK6 _ _ ?_)
   refine c_block ?_
   -- not carried: 4
   refine c_loopB (fun (j : Nat) => j ≤ xs.length ∧ (xs.take j).map Sl.xs = (ys.take j).map Sl.xs) (fun (j : Nat) => [(5, .int .i64 j)]) [(0, _), (1, _)] (fun (j : Nat) => _) (fun (j : Nat) => xs.length - j) 0 (by simp) sbA sbA hzB ?_
   rintro j ⟨hj, hjt⟩
   refine c_seq fun _ hK7 => ?_
   refine c_seq fun _ hK8 => ?_
   refine c_region ?_
   refine o_step rfl (s_move rfl) ?_
   refine o_step rfl (s_move rfl) ?_
   refine o_step rfl (s_len rfl) ?_
   refine o_step rfl (s_lss rfl rfl) ?_
   refine o_nil ?_
   refine x_then (hK8 _ _ ?_)
   refine c_if rfl (fun hlt => ?_) (fun hlt => ?_)
   ·
    have hj1 : j < xs.length := by omega
    have hj2 : j < ys.length := by omega
    have hm1 := row0_mem hj1
    have hm2 := row0_mem hj2
    refine c_skip ?_
    refine x_then (hK7 _ _ ?_)
    refine c_seq fun _ hK9 => ?_
    refine c_block ?_
    refine c_seq fun _ hK10 => ?_
    refine c_quiet (by kernel_rfl) ?_
    refine .op rfl (s_move rfl) ?_
    refine .op rfl (s_move rfl) ?_
    refine .op rfl (s_idx rfl rfl (by assumption) (by omega)) ?_
    refine .op rfl (s_ld rfl ((RdK.old0 hx).ld j 0 (row0_get hj1) rfl (by decide) (by omega))) ?_
    refine .op rfl (s_move rfl) ?_
    refine .op rfl (s_move rfl) ?_
    refine .op rfl (s_idx rfl rfl (by assumption) (by omega)) ?_
    refine .op rfl (s_ld rfl ((RdK.old0 hy).ld j 0 (row0_get hj2) rfl (by decide) (by omega))) ?_
    refine .call (fun _ _ => rfl) rfl rfl rfl (eqBytes_fn (row0 xs j).a (row0 ys j).a (row0 xs j).c (row0 ys j).c (row0 xs j).xs (row0 ys j).xs) (fun w st => ⟨(RdK.old0 (hx2 _ hm1)).out w st, (RdK.old0 (hy2 _ hm2)).out w st⟩) ?_
    refine .op rfl (s_not rfl) ?_
    refine .nil ?_
    refine x_then (hK10 _ _ ?_)
    refine c_ifn rfl (fun hne => ?_) (fun hne => ?_)
    ·
     refine c_seq fun _ hK11 => ?_
     refine c_region ?_
     refine o_step rfl (s_assign rfl) ?_
     refine o_nil ?_
     refine x_then (hK11 _ _ ?_)
     refine c_ret ?_
     refine x_block_ret (x_then_ret (x_then_ret (x_block_ret (x_then_ret (?_)))))
     exact x_ret rfl (.tmp rfl (.nil)) (retF (by intro e; exact hne (by simpa using rows_ne hj1 hj2 e)))
    ·
     refine c_skip ?_
     refine x_block ?_
     refine x_then (hK9 _ _ ?_)
     refine c_region ?_
     refine o_step rfl (s_move rfl) ?_
     refine o_step rfl (s_add rfl rfl (by omega)) ?_
     refine o_step rfl (s_assign rfl) ?_
     refine o_nil ?_
     exact x_then (x_inv (j + 1) ⟨by omega, rows_step hj1 hj2 hjt (by simpa using hne)⟩ (by first | omega | (dsimp only; omega)) sbA hzB)
   ·
    refine c_exit ?_
    refine x_then_exit ?_
    refine x_then_exit ?_
    refine x_block_exit ?_
    refine x_then (hK5 _ _ ?_)
    refine c_seq fun _ hK12 => ?_
    refine c_region ?_
    refine o_step rfl (s_assign rfl) ?_
    refine o_nil ?_
    refine x_then (hK12 _ _ ?_)
    refine c_ret ?_
    refine ?_
    exact x_ret rfl (.tmp rfl (.nil)) (retT (by rw [← rows_all (by omega : xs.length ≤ j), ← rows_all (by omega : ys.length ≤ j)]; exact hjt))
end Go.Proofs.YtmmajabfmhipeaaDoor
namespace Go.HL.Kl
open Go Go.HL
/-! classes: sets of bytes, as numbers of 256 bits -/
abbrev Cl := BitVec 256
def wd (c : Cl) (i : Nat) : BitVec 64 := c.extractLsb' (64 * i) 64
def Ew (w : BitVec 64) : Value := .int .u64 w.toNat
def Ec (c : Cl) : List Value := [Ew (wd c 0), Ew (wd c 1), Ew (wd c 2), Ew (wd c 3)]
instance : Enc Ec 4 := ⟨fun _ => rfl, fun c v hv => by simp [Ec, Ew] at hv; rcases hv with rfl | rfl | rfl | rfl <;> rfl⟩
theorem Ec_one (c : Cl) : ∀ v ∈ Ec c, v.oneCell' = true := Enc.one c
theorem Ec_get (c : Cl) {i : Nat} (h : i < 4) : (Ec c)[i]? = some (Ew (wd c i)) := by
  match i, h with
  | 0, _ => rfl
  | 1, _ => rfl
  | 2, _ => rfl
  | 3, _ => rfl
def setw (c : Cl) (i : Nat) (w : BitVec 64) : Cl := (c &&& ~~~ ((BitVec.allOnes 64).setWidth 256 <<< (64 * i))) ||| (w.setWidth 256 <<< (64 * i))
theorem setw_get (c : Cl) {i : Nat} (w : BitVec 64) (_hi : i < 4) {j : Nat} (hj : j < 256) : (setw c i w).getLsbD j = if 64 * i ≤ j ∧ j < 64 * i + 64 then w.getLsbD (j - 64 * i) else c.getLsbD j := by
  simp only [setw, BitVec.getLsbD_or, BitVec.getLsbD_and, BitVec.getLsbD_not, BitVec.getLsbD_shiftLeft, BitVec.getLsbD_setWidth, BitVec.getLsbD_allOnes, hj, decide_true, Bool.true_and]
  by_cases h1 : j < 64 * i
  · simp [h1]; omega
  · have h2 : 64 * i ≤ j := by omega
    by_cases h3 : j < 64 * i + 64
    · have h4 : j - 64 * i < 64 := by omega
      have h5 : j - 64 * i < 256 := by omega
      simp [h1, h2, h3, h4, h5]
    · have h4 : ¬ (j - 64 * i < 64) := by omega
      have h5 : w.getLsbD (j - 64 * i) = false := BitVec.getLsbD_of_ge _ _ (by omega)
      simp [h1, h3, h4, h5]
theorem wd_get (c : Cl) (i : Nat) {j : Nat} (hj : j < 64) : (wd c i).getLsbD j = c.getLsbD (64 * i + j) := by
  simp [wd, hj]
theorem wd_setw (c : Cl) {i k : Nat} (w : BitVec 64) (hi : i < 4) (hk : k < 4) : wd (setw c i w) k = if i = k then w else wd c k := by
  apply BitVec.eq_of_getLsbD_eq
  intro j hj
  rw [wd_get _ _ hj, setw_get _ _ hi (by omega)]
  by_cases e : i = k
  · subst e
    have : 64 * i + j - 64 * i = j := by omega
    rw [if_pos (by omega), if_pos rfl, this]
  · rw [if_neg (by omega), if_neg e, wd_get _ _ hj]
theorem Ec_set (c : Cl) {i : Nat} (w : BitVec 64) (hi : i < 4) : (Ec c).set i (Ew w) = Ec (setw c i w) := by
  simp only [Ec, wd_setw c w hi (by decide : 0 < 4), wd_setw c w hi (by decide : 1 < 4), wd_setw c w hi (by decide : 2 < 4), wd_setw c w hi (by decide : 3 < 4)]
  match i, hi with
  | 0, _ => rfl
  | 1, _ => rfl
  | 2, _ => rfl
  | 3, _ => rfl
theorem ext_wd {c d : Cl} (h : ∀ i, i < 4 → wd c i = wd d i) : c = d := by
  apply BitVec.eq_of_getLsbD_eq
  intro j hj
  have h1 := congrArg (fun w => BitVec.getLsbD w (j % 64)) (h (j / 64) (by omega))
  simp only [wd_get _ _ (show j % 64 < 64 by omega)] at h1
  have : 64 * (j / 64) + j % 64 = j := by omega
  rwa [this] at h1
theorem Ec_inj {c d : Cl} (h : Ec c = Ec d) : c = d := by
  simp only [Ec, Ew, List.cons.injEq, Value.int.injEq, true_and, and_true] at h
  obtain ⟨h0, h1, h2, h3⟩ := h
  refine ext_wd fun i hi => ?_
  match i, hi with
  | 0, _ => exact BitVec.eq_of_toNat_eq (by omega)
  | 1, _ => exact BitVec.eq_of_toNat_eq (by omega)
  | 2, _ => exact BitVec.eq_of_toNat_eq (by omega)
  | 3, _ => exact BitVec.eq_of_toNat_eq (by omega)
/-- the numbers of a class, as the comparison sees them -/
def Ic (c : Cl) : List Int := [((wd c 0).toNat : Int), ((wd c 1).toNat : Int), ((wd c 2).toNat : Int), ((wd c 3).toNat : Int)]
theorem Ec_ints (c : Cl) : Ec c = intsV .u64 (Ic c) := rfl
theorem Ic_inj {c d : Cl} : Ic c = Ic d ↔ c = d := ⟨fun h => Ec_inj (by rw [Ec_ints, Ec_ints, h]), fun h => by rw [h]⟩
/-! one byte -/
def bit (x : Nat) : Cl := 1#256 <<< x
theorem bit_get {x j : Nat} (hj : j < 256) : (bit x).getLsbD j = decide (j = x) := by
  simp only [bit, BitVec.getLsbD_shiftLeft, hj, decide_true, Bool.true_and, BitVec.getLsbD_one]
  by_cases h : j = x
  · subst h; simp
  · by_cases h2 : j < x
    · simp [h, h2]
    · have : ¬ (j - x = 0) := by omega
      simp [h, h2]; omega
theorem with_eq (c : Cl) {x : Nat} (hx : x < 256) : setw c (x / 64) (wd c (x / 64) ||| (1#64 <<< (x % 64))) = c ||| bit x := by
  apply BitVec.eq_of_getLsbD_eq
  intro j hj
  rw [setw_get _ _ (by omega) hj, BitVec.getLsbD_or (x := c), bit_get hj]
  by_cases h : 64 * (x / 64) ≤ j ∧ j < 64 * (x / 64) + 64
  · rw [if_pos h, BitVec.getLsbD_or, wd_get _ _ (by omega)]
    have e : 64 * (x / 64) + (j - 64 * (x / 64)) = j := by omega
    rw [e]
    congr 1
    simp only [BitVec.getLsbD_shiftLeft, BitVec.getLsbD_one]
    by_cases h2 : j = x
    · have h3 : j - 64 * (x / 64) = x % 64 := by omega
      simp [h2]; omega
    · have h3 : ¬ (j - 64 * (x / 64) = x % 64) := by omega
      by_cases h4 : j - 64 * (x / 64) < x % 64
      · simp [h2, h4]
      · have h5 : ¬ (j - 64 * (x / 64) - x % 64 = 0) := by omega
        simp [h2, h4]; omega
  · rw [if_neg h]
    have h2 : ¬ (j = x) := by omega
    simp [h2]
/-! the program's arithmetic on bytes and words -/
theorem wrap_u64 (n : Int) : IntKind.u64.wrap n = n % 18446744073709551616 := by simp [IntKind.wrap, IntKind.signed, IntKind.bits]
theorem wrap64 (w : BitVec 64) : IntKind.u64.wrap (w.toNat : Int) = w.toNat := by
  have := w.isLt
  rw [wrap_u64]; omega
theorem of64 (w : BitVec 64) : BitVec.ofInt IntKind.u64.bits (w.toNat : Int) = w := by
  apply BitVec.eq_of_toNat_eq
  have := w.isLt
  simp [IntKind.bits]
theorem v_or (a b : BitVec 64) : Value.int .u64 (IntKind.u64.wrap (BitVec.ofInt IntKind.u64.bits (a.toNat : Int) ||| BitVec.ofInt IntKind.u64.bits (b.toNat : Int)).toNat) = Ew (a ||| b) := by
  rw [of64, of64]; exact congrArg _ (wrap64 _)
theorem v_and (a b : BitVec 64) : Value.int .u64 (IntKind.u64.wrap (BitVec.ofInt IntKind.u64.bits (a.toNat : Int) &&& BitVec.ofInt IntKind.u64.bits (b.toNat : Int)).toNat) = Ew (a &&& b) := by
  rw [of64, of64]; exact congrArg _ (wrap64 _)
/-- x & 63, x % 64 -/
theorem v_and63 {x : Nat} (hx : x < 256) : IntKind.u8.wrap (BitVec.ofInt IntKind.u8.bits (x : Int) &&& BitVec.ofInt IntKind.u8.bits 63).toNat = ((x % 64 : Nat) : Int) := by
  have : ∀ x : Fin 256, IntKind.u8.wrap (BitVec.ofInt IntKind.u8.bits (x.val : Int) &&& BitVec.ofInt IntKind.u8.bits 63).toNat = ((x.val % 64 : Nat) : Int) := by decide +kernel
  exact this ⟨x, hx⟩
theorem v_shl1 {k : Nat} (hk : k < 64) : Value.int .u64 (IntKind.u64.wrap (1 * 2 ^ (min ((k : Nat) : Int).toNat IntKind.u64.bits))) = Ew (1#64 <<< k) := by
  have e : min ((k : Nat) : Int).toNat IntKind.u64.bits = k := by simp [IntKind.bits]; omega
  rw [e]
  have h1 : (2 : Nat) ^ k < 2 ^ 64 := Nat.pow_lt_pow_right (by decide) hk
  have h2 : ((2 : Int) ^ k) = ((2 ^ k : Nat) : Int) := by simp
  simp only [Ew, Value.int.injEq, true_and, Int.one_mul]
  rw [h2, wrap_u64]
  have h3 : (1#64 <<< k).toNat = 2 ^ k := by
    rw [BitVec.toNat_shiftLeft, BitVec.toNat_ofNat, Nat.shiftLeft_eq]
    simp
    exact h1
  rw [h3]; omega
/-- a word's bit, as Has reads it -/
theorem has_eq (w : BitVec 64) {k : Nat} (hk : k < 64) : decide (IntKind.u64.wrap (BitVec.ofInt IntKind.u64.bits ((w.toNat : Int).fdiv (2 ^ (min ((k : Nat) : Int).toNat IntKind.u64.bits))) &&& BitVec.ofInt IntKind.u64.bits 1).toNat = 1) = w.getLsbD k := by
  have e : min ((k : Nat) : Int).toNat IntKind.u64.bits = k := by simp [IntKind.bits]; omega
  rw [e]
  have h2 : ((2 : Int) ^ k) = ((2 ^ k : Nat) : Int) := by simp
  have h3 : (w.toNat : Int).fdiv (2 ^ k) = ((w >>> k).toNat : Int) := by
    rw [h2, Int.fdiv_eq_ediv_of_nonneg _ (Int.natCast_nonneg _), BitVec.toNat_ushiftRight, Nat.shiftRight_eq_div_pow]; rfl
  have h4 : BitVec.ofInt IntKind.u64.bits 1 = 1#64 := rfl
  rw [h3, of64, h4]
  have h6 : IntKind.u64.wrap ((w >>> k &&& 1#64).toNat : Int) = ((w >>> k &&& 1#64).toNat : Int) := wrap64 _
  refine (congrArg (fun z => decide (z = 1)) h6).trans ?_
  have h5 : (w >>> k &&& 1#64).toNat = if w.getLsbD k then 1 else 0 := by
    have := BitVec.and_one_eq_setWidth_ofBool_getLsbD (x := w >>> k)
    rw [this, BitVec.getLsbD_ushiftRight, Nat.add_zero]
    cases w.getLsbD k <;> rfl
  rw [h5]
  cases w.getLsbD k <;> simp
end Go.HL.Kl
