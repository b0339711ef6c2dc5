/- Part of the proofs over this seat: see the text that holds the theorem. Conditions: each theorem bears its own. -/
import Derived.Test.YthbnkifjplbhgaaW19
import Derived.Test.YthbnkifjplbhgaaM11
namespace Go.Proofs.Ythbnkifjplbhgaa
open Go Go.HL Go.Proofs
theorem copyRows2_fn (a : Option Addr) (c : Nat) (sls : List (Sl UInt8)) (hb : sls.length * 24 ≤ 140737488355328) : HL.Fn Try.prog 36 [.slice a sls.length c] (fun w => Rd Esl w (.slice a sls.length c) sls ∧ ∀ s ∈ sls, Rd Eb w s.v s.xs) []
    (fun v S' => ∃ a' c' sl' So Si, v = .slice a' sl'.length c' ∧ sl'.map Sl.xs = sls.map Sl.xs ∧ OwnS Esl 1 35 (.slice a' sl'.length c') sl' So ∧ (∀ s ∈ sl', RdS Eb s.v s.xs Si) ∧ S' = So ++ Si) :=
  HL.Fn.weak (copyRows_fn a c sls hb) fun v S' h => by
    obtain ⟨a', c', rfl, ⟨sl, So, Si, rfl, hm, hO, hin⟩⟩ := h
    have e : (sls.map Sl.xs).length = sl.length := by rw [← hm, List.length_map]
    rw [e] at hO ⊢
    exact ⟨a', c', sl, So, Si, rfl, hm, hO, hin, rfl⟩
theorem eqRows_true (a a2 : Option Addr) (c c2 : Nat) (xs ys : List (Sl UInt8)) (h : xs.map Sl.xs = ys.map Sl.xs) : HL.Fn Try.prog 44 [.slice a xs.length c, .slice a2 ys.length c2] (fun w => (Rd Esl w (.slice a xs.length c) xs ∧ ∀ s ∈ xs, Rd Eb w s.v s.xs) ∧ (Rd Esl w (.slice a2 ys.length c2) ys ∧ ∀ s ∈ ys, Rd Eb w s.v s.xs)) [] (fun v _ => v = .bool true) :=
  HL.Fn.weak (eqRows_fn a a2 c c2 xs ys) fun v S' hv => by rw [hv, decide_eq_true h]
theorem outNew_pos (lim : Int) (fn : Go.Fn) (us cs : Array Value) (h : 0 ≤ lim) : HL.Fn Try.prog 42 [.int .i64 lim, .func fn us cs] (fun _ => True) [] (fun v S' => ∃ bo, v = .tuple #[.pointer (some ⟨bo, 0, none⟩), .int .i64 0] ∧ S' = [(bo, .cells [.int .i64 lim, .func fn us cs, .slice none 0 0, .int .i64 0, .int .i64 0].toArray 77 (0, 0))]) :=
  HL.Fn.weak (outNew_fn lim fn us cs) fun v S' hv => by
    rcases hv with ⟨hn, _⟩ | ⟨_, h⟩
    · omega
    · exact h
theorem outNew_neg (lim : Int) (fn : Go.Fn) (us cs : Array Value) (h : lim < 0) : HL.Fn Try.prog 42 [.int .i64 lim, .func fn us cs] (fun _ => True) [] (fun v _ => v = .tuple #[.pointer none, .int .i64 1]) :=
  HL.Fn.weak (outNew_fn lim fn us cs) fun v S' hv => by
    rcases hv with ⟨_, h⟩ | ⟨hn, _⟩
    · exact h
    · omega

theorem outsTwo_nn (x y : Int) (hx : x < 0) (hy : y < 0) (a : Option Addr) (c : Nat) (sc : List OpV) : HL.Fn Try.prog 11 [.int .i64 x, .int .i64 y, .slice a sc.length c] (fun w => Rd Eop w (.slice a sc.length c) sc ∧ ∀ o ∈ sc, Rd Esl w o.p.v o.p.xs ∧ ∀ s ∈ o.p.xs, Rd Eb w s.v s.xs) [] (fun v _ => v = .bool true) := by
  refine fn_of Try.func11 rfl rfl rfl fun w0 hw => ?_
  obtain ⟨h1, h2⟩ := hw
  refine c_seq fun _ hK1 => ?_
  refine c_region ?_
  refine o_step rfl (s_assign rfl) ?_
  refine o_nil ?_
  refine x_then (hK1 _ _ ?_)
  refine c_seq fun _ hK2 => ?_
  refine c_seq fun _ hK3 => ?_
  refine c_region ?_
  refine o_step rfl (s_move rfl) ?_
  refine o_callP (scriptLong_fn a c sc) rfl rfl rfl (fun w st => ⟨(RdK.old0 h1).out w st, fun o ho => ⟨(RdK.old0 (h2 o ho).1).out w st, fun s hs => (RdK.old0 ((h2 o ho).2 s hs)).out w st⟩⟩) (fun v18 hv18 => ?_)
  obtain ⟨bl, hv18, hlong⟩ := hv18
  subst hv18
  cases bl
  · skip
    have htot := hlong rfl
    refine o_nil ?_
    refine x_then (hK3 _ _ ?_)
    refine c_false rfl ?_
    refine c_skip ?_
    refine x_then (hK2 _ _ ?_)
    refine c_seq fun _ hK4 => ?_
    refine c_region ?_
    refine o_step rfl (s_build (cs := [_, _, _, _, _, _, _]) (vs := []) rfl rfl (.nil)) ?_
    refine o_box rfl rfl rfl fun b20 => ?_
    refine o_step rfl (s_assign rfl) ?_
    refine o_nil ?_
    refine x_then (hK4 _ _ ?_)
    refine c_seq fun _ hK5 => ?_
    refine c_region ?_
    refine o_step rfl (s_build (cs := [_, _, _, _, _, _, _]) (vs := []) rfl rfl (.nil)) ?_
    refine o_box rfl rfl rfl fun b22 => ?_
    refine o_step rfl (s_assign rfl) ?_
    refine o_nil ?_
    refine x_then (hK5 _ _ ?_)
    refine c_seq fun _ hK6 => ?_
    refine c_region ?_
    refine o_step rfl (s_build (cs := [_, _, _, _, _, _, _]) (vs := []) rfl rfl (.nil)) ?_
    refine o_box rfl rfl rfl fun b24 => ?_
    refine o_step rfl (s_assign rfl) ?_
    refine o_nil ?_
    refine x_then (hK6 _ _ ?_)
    refine c_seq fun _ hK7 => ?_
    refine c_region ?_
    refine o_step rfl (s_move rfl) ?_
    refine o_step rfl (s_move rfl) ?_
    refine o_step rfl (s_func (us := [_]) (vs := []) rfl rfl) ?_
    refine o_callP (outNew_neg x (.func 43) [.pointer (some ⟨b20, 0, none⟩)].toArray [].toArray (by omega)) rfl rfl rfl (fun _ _ => trivial) (fun v29 hv29 => ?_)
    subst hv29
    refine o_step rfl (s_move rfl) ?_
    refine o_step rfl (s_extract rfl rfl) ?_
    refine o_step rfl (s_extract rfl rfl) ?_
    refine o_step rfl (s_assign rfl) ?_
    refine o_step rfl (s_assign rfl) ?_
    refine o_nil ?_
    refine x_then (hK7 _ _ ?_)
    refine c_seq fun _ hK8 => ?_
    refine c_region ?_
    refine o_step rfl (s_move rfl) ?_
    refine o_step rfl (s_move rfl) ?_
    refine o_step rfl (s_func (us := [_]) (vs := []) rfl rfl) ?_
    refine o_callP (outNew_neg y (.func 43) [.pointer (some ⟨b22, 0, none⟩)].toArray [].toArray (by omega)) rfl rfl rfl (fun _ _ => trivial) (fun v36 hv36 => ?_)
    subst hv36
    refine o_step rfl (s_move rfl) ?_
    refine o_step rfl (s_extract rfl rfl) ?_
    refine o_step rfl (s_extract rfl rfl) ?_
    refine o_step rfl (s_assign rfl) ?_
    refine o_step rfl (s_assign rfl) ?_
    refine o_nil ?_
    refine x_then (hK8 _ _ ?_)
    refine c_seq fun _ hK9 => ?_
    refine c_region ?_
    refine o_step rfl (s_move rfl) ?_
    refine o_step rfl (s_move rfl) ?_
    refine o_step rfl (s_func (us := [_]) (vs := []) rfl rfl) ?_
    refine o_callP (outNew_neg x (.func 43) [.pointer (some ⟨b24, 0, none⟩)].toArray [].toArray (by omega)) rfl rfl rfl (fun _ _ => trivial) (fun v43 hv43 => ?_)
    subst hv43
    refine o_step rfl (s_move rfl) ?_
    refine o_step rfl (s_extract rfl rfl) ?_
    refine o_step rfl (s_extract rfl rfl) ?_
    refine o_step rfl (s_assign rfl) ?_
    refine o_step rfl (s_assign rfl) ?_
    refine o_nil ?_
    refine x_then (hK9 _ _ ?_)
    refine c_seq fun _ hK10 => ?_
    refine c_seq fun _ hK11 => ?_
    refine c_region ?_
    refine o_step rfl (s_move rfl) ?_
    refine o_step rfl (s_lss_t rfl rfl (by omega)) ?_
    refine o_step rfl (s_move rfl) ?_
    refine o_no rfl rfl rfl rfl ?_
    refine o_no rfl rfl rfl rfl ?_
    refine o_step rfl (s_pick_t rfl rfl) ?_
    refine o_nil ?_
    refine x_then (hK11 _ _ ?_)
    refine c_true rfl ?_
    refine c_seq fun _ hK12 => ?_
    refine c_region ?_
    refine o_step rfl (s_move rfl) ?_
    refine o_step rfl (s_neq_t rfl rfl (by decide)) ?_
    refine o_step rfl (s_move rfl) ?_
    refine o_step rfl (s_lss_t rfl rfl (by omega)) ?_
    refine o_step rfl (step_cast (v' := .bool true) (s_eql_bool rfl rfl) rfl) ?_
    refine o_step rfl (s_move rfl) ?_
    refine o_yes rfl rfl ?_
    refine o_step rfl (s_move rfl) ?_
    refine o_yes rfl rfl ?_
    refine o_step rfl (s_neq_t rfl rfl (by decide)) ?_
    refine o_yes rfl rfl ?_
    refine o_step rfl (s_move rfl) ?_
    refine o_yes rfl rfl ?_
    refine o_step rfl (s_lss_t rfl rfl (by omega)) ?_
    refine o_yes rfl rfl ?_
    refine o_step rfl (step_cast (v' := .bool true) (s_eql_bool rfl rfl) rfl) ?_
    refine o_step rfl (s_pick_t rfl rfl) ?_
    refine o_step rfl (s_move rfl) ?_
    refine o_yes rfl rfl ?_
    refine o_callP (works_fn) rfl rfl rfl (fun _ _ => trivial) (fun v65 hv65 => ?_)
    subst hv65
    refine o_step rfl (s_pick_t rfl rfl) ?_
    refine o_step rfl (s_assign rfl) ?_
    refine o_nil ?_
    refine x_then (hK12 _ _ ?_)
    refine c_ret ?_
    refine x_then_ret (?_)
    exact x_ret rfl (.tmp rfl (.nil)) (rfl)
  · skip
    refine o_nil ?_
    refine x_then (hK3 _ _ ?_)
    refine c_true rfl ?_
    refine c_seq fun _ hK13 => ?_
    refine c_region ?_
    refine o_step rfl (s_assign rfl) ?_
    refine o_nil ?_
    refine x_then (hK13 _ _ ?_)
    refine c_ret ?_
    refine x_then_ret (?_)
    exact x_ret rfl (.tmp rfl (.nil)) (rfl)

theorem outsTwo_np (x y : Int) (hx : x < 0) (hy : 0 ≤ y) (a : Option Addr) (c : Nat) (sc : List OpV) : HL.Fn Try.prog 11 [.int .i64 x, .int .i64 y, .slice a sc.length c] (fun w => Rd Eop w (.slice a sc.length c) sc ∧ ∀ o ∈ sc, Rd Esl w o.p.v o.p.xs ∧ ∀ s ∈ o.p.xs, Rd Eb w s.v s.xs) [] (fun v _ => v = .bool true) := by
  refine fn_of Try.func11 rfl rfl rfl fun w0 hw => ?_
  obtain ⟨h1, h2⟩ := hw
  refine c_seq fun _ hK1 => ?_
  refine c_region ?_
  refine o_step rfl (s_assign rfl) ?_
  refine o_nil ?_
  refine x_then (hK1 _ _ ?_)
  refine c_seq fun _ hK2 => ?_
  refine c_seq fun _ hK3 => ?_
  refine c_region ?_
  refine o_step rfl (s_move rfl) ?_
  refine o_callP (scriptLong_fn a c sc) rfl rfl rfl (fun w st => ⟨(RdK.old0 h1).out w st, fun o ho => ⟨(RdK.old0 (h2 o ho).1).out w st, fun s hs => (RdK.old0 ((h2 o ho).2 s hs)).out w st⟩⟩) (fun v18 hv18 => ?_)
  obtain ⟨bl, hv18, hlong⟩ := hv18
  subst hv18
  cases bl
  · skip
    have htot := hlong rfl
    refine o_nil ?_
    refine x_then (hK3 _ _ ?_)
    refine c_false rfl ?_
    refine c_skip ?_
    refine x_then (hK2 _ _ ?_)
    refine c_seq fun _ hK4 => ?_
    refine c_region ?_
    refine o_step rfl (s_build (cs := [_, _, _, _, _, _, _]) (vs := []) rfl rfl (.nil)) ?_
    refine o_box rfl rfl rfl fun b20 => ?_
    refine o_step rfl (s_assign rfl) ?_
    refine o_nil ?_
    refine x_then (hK4 _ _ ?_)
    refine c_seq fun _ hK5 => ?_
    refine c_region ?_
    refine o_step rfl (s_build (cs := [_, _, _, _, _, _, _]) (vs := []) rfl rfl (.nil)) ?_
    refine o_box rfl rfl rfl fun b22 => ?_
    refine o_step rfl (s_assign rfl) ?_
    refine o_nil ?_
    refine x_then (hK5 _ _ ?_)
    refine c_seq fun _ hK6 => ?_
    refine c_region ?_
    refine o_step rfl (s_build (cs := [_, _, _, _, _, _, _]) (vs := []) rfl rfl (.nil)) ?_
    refine o_box rfl rfl rfl fun b24 => ?_
    refine o_step rfl (s_assign rfl) ?_
    refine o_nil ?_
    refine x_then (hK6 _ _ ?_)
    refine c_seq fun _ hK7 => ?_
    refine c_region ?_
    refine o_step rfl (s_move rfl) ?_
    refine o_step rfl (s_move rfl) ?_
    refine o_step rfl (s_func (us := [_]) (vs := []) rfl rfl) ?_
    refine o_callP (outNew_neg x (.func 43) [.pointer (some ⟨b20, 0, none⟩)].toArray [].toArray (by omega)) rfl rfl rfl (fun _ _ => trivial) (fun v29 hv29 => ?_)
    subst hv29
    refine o_step rfl (s_move rfl) ?_
    refine o_step rfl (s_extract rfl rfl) ?_
    refine o_step rfl (s_extract rfl rfl) ?_
    refine o_step rfl (s_assign rfl) ?_
    refine o_step rfl (s_assign rfl) ?_
    refine o_nil ?_
    refine x_then (hK7 _ _ ?_)
    refine c_seq fun _ hK8 => ?_
    refine c_region ?_
    refine o_step rfl (s_move rfl) ?_
    refine o_step rfl (s_move rfl) ?_
    refine o_step rfl (s_func (us := [_]) (vs := []) rfl rfl) ?_
    refine o_call (outNew_pos y (.func 43) [.pointer (some ⟨b22, 0, none⟩)].toArray [].toArray (by omega)) rfl rfl rfl (by exact .nil) (fun _ _ => trivial) (fun v36 S36 ⟨bp, hv36, hS36⟩ => ?_)
    subst hv36
    subst hS36
    refine o_step rfl (s_move rfl) ?_
    refine o_step rfl (s_extract rfl rfl) ?_
    refine o_step rfl (s_extract rfl rfl) ?_
    refine o_step rfl (s_assign rfl) ?_
    refine o_step rfl (s_assign rfl) ?_
    refine o_nil ?_
    refine x_then (hK8 _ _ ?_)
    refine c_seq fun _ hK9 => ?_
    refine c_region ?_
    refine o_step rfl (s_move rfl) ?_
    refine o_step rfl (s_move rfl) ?_
    refine o_step rfl (s_func (us := [_]) (vs := []) rfl rfl) ?_
    refine o_callP (outNew_neg x (.func 43) [.pointer (some ⟨b24, 0, none⟩)].toArray [].toArray (by omega)) rfl rfl rfl (fun _ _ => trivial) (fun v43 hv43 => ?_)
    subst hv43
    refine o_step rfl (s_move rfl) ?_
    refine o_step rfl (s_extract rfl rfl) ?_
    refine o_step rfl (s_extract rfl rfl) ?_
    refine o_step rfl (s_assign rfl) ?_
    refine o_step rfl (s_assign rfl) ?_
    refine o_nil ?_
    refine x_then (hK9 _ _ ?_)
    refine c_seq fun _ hK10 => ?_
    refine c_seq fun _ hK11 => ?_
    refine c_region ?_
    refine o_step rfl (s_move rfl) ?_
    refine o_step rfl (s_lss_t rfl rfl (by omega)) ?_
    refine o_step rfl (s_move rfl) ?_
    refine o_no rfl rfl rfl rfl ?_
    refine o_no rfl rfl rfl rfl ?_
    refine o_step rfl (s_pick_t rfl rfl) ?_
    refine o_nil ?_
    refine x_then (hK11 _ _ ?_)
    refine c_true rfl ?_
    refine c_seq fun _ hK12 => ?_
    refine c_region ?_
    refine o_step rfl (s_move rfl) ?_
    refine o_step rfl (s_neq_t rfl rfl (by decide)) ?_
    refine o_step rfl (s_move rfl) ?_
    refine o_step rfl (s_lss_t rfl rfl (by omega)) ?_
    refine o_step rfl (step_cast (v' := .bool true) (s_eql_bool rfl rfl) rfl) ?_
    refine o_step rfl (s_move rfl) ?_
    refine o_yes rfl rfl ?_
    refine o_step rfl (s_move rfl) ?_
    refine o_yes rfl rfl ?_
    refine o_step rfl (s_neq_f rfl rfl rfl) ?_
    refine o_yes rfl rfl ?_
    refine o_step rfl (s_move rfl) ?_
    refine o_yes rfl rfl ?_
    refine o_step rfl (s_lss_f rfl rfl (by omega)) ?_
    refine o_yes rfl rfl ?_
    refine o_step rfl (step_cast (v' := .bool true) (s_eql_bool rfl rfl) rfl) ?_
    refine o_step rfl (s_pick_t rfl rfl) ?_
    refine o_step rfl (s_move rfl) ?_
    refine o_yes rfl rfl ?_
    refine o_callP (works_fn) rfl rfl rfl (fun _ _ => trivial) (fun v65 hv65 => ?_)
    subst hv65
    refine o_step rfl (s_pick_t rfl rfl) ?_
    refine o_step rfl (s_assign rfl) ?_
    refine o_nil ?_
    refine x_then (hK12 _ _ ?_)
    refine c_ret ?_
    refine x_then_ret (?_)
    exact x_ret rfl (.tmp rfl (.nil)) (rfl)
  · skip
    refine o_nil ?_
    refine x_then (hK3 _ _ ?_)
    refine c_true rfl ?_
    refine c_seq fun _ hK13 => ?_
    refine c_region ?_
    refine o_step rfl (s_assign rfl) ?_
    refine o_nil ?_
    refine x_then (hK13 _ _ ?_)
    refine c_ret ?_
    refine x_then_ret (?_)
    exact x_ret rfl (.tmp rfl (.nil)) (rfl)

theorem outsTwo_pn (x y : Int) (hx : 0 ≤ x) (hy : y < 0) (a : Option Addr) (c : Nat) (sc : List OpV) : HL.Fn Try.prog 11 [.int .i64 x, .int .i64 y, .slice a sc.length c] (fun w => Rd Eop w (.slice a sc.length c) sc ∧ ∀ o ∈ sc, Rd Esl w o.p.v o.p.xs ∧ ∀ s ∈ o.p.xs, Rd Eb w s.v s.xs) [] (fun v _ => v = .bool true) := by
  refine fn_of Try.func11 rfl rfl rfl fun w0 hw => ?_
  obtain ⟨h1, h2⟩ := hw
  refine c_seq fun _ hK1 => ?_
  refine c_region ?_
  refine o_step rfl (s_assign rfl) ?_
  refine o_nil ?_
  refine x_then (hK1 _ _ ?_)
  refine c_seq fun _ hK2 => ?_
  refine c_seq fun _ hK3 => ?_
  refine c_region ?_
  refine o_step rfl (s_move rfl) ?_
  refine o_callP (scriptLong_fn a c sc) rfl rfl rfl (fun w st => ⟨(RdK.old0 h1).out w st, fun o ho => ⟨(RdK.old0 (h2 o ho).1).out w st, fun s hs => (RdK.old0 ((h2 o ho).2 s hs)).out w st⟩⟩) (fun v18 hv18 => ?_)
  obtain ⟨bl, hv18, hlong⟩ := hv18
  subst hv18
  cases bl
  · skip
    have htot := hlong rfl
    refine o_nil ?_
    refine x_then (hK3 _ _ ?_)
    refine c_false rfl ?_
    refine c_skip ?_
    refine x_then (hK2 _ _ ?_)
    refine c_seq fun _ hK4 => ?_
    refine c_region ?_
    refine o_step rfl (s_build (cs := [_, _, _, _, _, _, _]) (vs := []) rfl rfl (.nil)) ?_
    refine o_box rfl rfl rfl fun b20 => ?_
    refine o_step rfl (s_assign rfl) ?_
    refine o_nil ?_
    refine x_then (hK4 _ _ ?_)
    refine c_seq fun _ hK5 => ?_
    refine c_region ?_
    refine o_step rfl (s_build (cs := [_, _, _, _, _, _, _]) (vs := []) rfl rfl (.nil)) ?_
    refine o_box rfl rfl rfl fun b22 => ?_
    refine o_step rfl (s_assign rfl) ?_
    refine o_nil ?_
    refine x_then (hK5 _ _ ?_)
    refine c_seq fun _ hK6 => ?_
    refine c_region ?_
    refine o_step rfl (s_build (cs := [_, _, _, _, _, _, _]) (vs := []) rfl rfl (.nil)) ?_
    refine o_box rfl rfl rfl fun b24 => ?_
    refine o_step rfl (s_assign rfl) ?_
    refine o_nil ?_
    refine x_then (hK6 _ _ ?_)
    refine c_seq fun _ hK7 => ?_
    refine c_region ?_
    refine o_step rfl (s_move rfl) ?_
    refine o_step rfl (s_move rfl) ?_
    refine o_step rfl (s_func (us := [_]) (vs := []) rfl rfl) ?_
    refine o_call (outNew_pos x (.func 43) [.pointer (some ⟨b20, 0, none⟩)].toArray [].toArray (by omega)) rfl rfl rfl (by exact .nil) (fun _ _ => trivial) (fun v29 S29 ⟨bo, hv29, hS29⟩ => ?_)
    subst hv29
    subst hS29
    refine o_step rfl (s_move rfl) ?_
    refine o_step rfl (s_extract rfl rfl) ?_
    refine o_step rfl (s_extract rfl rfl) ?_
    refine o_step rfl (s_assign rfl) ?_
    refine o_step rfl (s_assign rfl) ?_
    refine o_nil ?_
    refine x_then (hK7 _ _ ?_)
    refine c_seq fun _ hK8 => ?_
    refine c_region ?_
    refine o_step rfl (s_move rfl) ?_
    refine o_step rfl (s_move rfl) ?_
    refine o_step rfl (s_func (us := [_]) (vs := []) rfl rfl) ?_
    refine o_callP (outNew_neg y (.func 43) [.pointer (some ⟨b22, 0, none⟩)].toArray [].toArray (by omega)) rfl rfl rfl (fun _ _ => trivial) (fun v36 hv36 => ?_)
    subst hv36
    refine o_step rfl (s_move rfl) ?_
    refine o_step rfl (s_extract rfl rfl) ?_
    refine o_step rfl (s_extract rfl rfl) ?_
    refine o_step rfl (s_assign rfl) ?_
    refine o_step rfl (s_assign rfl) ?_
    refine o_nil ?_
    refine x_then (hK8 _ _ ?_)
    refine c_seq fun _ hK9 => ?_
    refine c_region ?_
    refine o_step rfl (s_move rfl) ?_
    refine o_step rfl (s_move rfl) ?_
    refine o_step rfl (s_func (us := [_]) (vs := []) rfl rfl) ?_
    refine o_call (outNew_pos x (.func 43) [.pointer (some ⟨b24, 0, none⟩)].toArray [].toArray (by omega)) rfl rfl rfl (by exact .nil) (fun _ _ => trivial) (fun v43 S43 ⟨bq, hv43, hS43⟩ => ?_)
    subst hv43
    subst hS43
    refine o_step rfl (s_move rfl) ?_
    refine o_step rfl (s_extract rfl rfl) ?_
    refine o_step rfl (s_extract rfl rfl) ?_
    refine o_step rfl (s_assign rfl) ?_
    refine o_step rfl (s_assign rfl) ?_
    refine o_nil ?_
    refine x_then (hK9 _ _ ?_)
    refine c_seq fun _ hK10 => ?_
    refine c_seq fun _ hK11 => ?_
    refine c_region ?_
    refine o_step rfl (s_move rfl) ?_
    refine o_step rfl (s_lss_f rfl rfl (by omega)) ?_
    refine o_step rfl (s_move rfl) ?_
    refine o_yes rfl rfl ?_
    refine o_step rfl (s_move rfl) ?_
    refine o_yes rfl rfl ?_
    refine o_step rfl (s_lss_t rfl rfl (by omega)) ?_
    refine o_step rfl (s_pick_f rfl rfl) ?_
    refine o_nil ?_
    refine x_then (hK11 _ _ ?_)
    refine c_true rfl ?_
    refine c_seq fun _ hK12 => ?_
    refine c_region ?_
    refine o_step rfl (s_move rfl) ?_
    refine o_step rfl (s_neq_f rfl rfl rfl) ?_
    refine o_step rfl (s_move rfl) ?_
    refine o_step rfl (s_lss_f rfl rfl (by omega)) ?_
    refine o_step rfl (step_cast (v' := .bool true) (s_eql_bool rfl rfl) rfl) ?_
    refine o_step rfl (s_move rfl) ?_
    refine o_yes rfl rfl ?_
    refine o_step rfl (s_move rfl) ?_
    refine o_yes rfl rfl ?_
    refine o_step rfl (s_neq_t rfl rfl (by decide)) ?_
    refine o_yes rfl rfl ?_
    refine o_step rfl (s_move rfl) ?_
    refine o_yes rfl rfl ?_
    refine o_step rfl (s_lss_t rfl rfl (by omega)) ?_
    refine o_yes rfl rfl ?_
    refine o_step rfl (step_cast (v' := .bool true) (s_eql_bool rfl rfl) rfl) ?_
    refine o_step rfl (s_pick_t rfl rfl) ?_
    refine o_step rfl (s_move rfl) ?_
    refine o_yes rfl rfl ?_
    refine o_callP (works_fn) rfl rfl rfl (fun _ _ => trivial) (fun v65 hv65 => ?_)
    subst hv65
    refine o_step rfl (s_pick_t rfl rfl) ?_
    refine o_step rfl (s_assign rfl) ?_
    refine o_nil ?_
    refine x_then (hK12 _ _ ?_)
    refine c_ret ?_
    refine x_then_ret (?_)
    exact x_ret rfl (.tmp rfl (.nil)) (rfl)
  · skip
    refine o_nil ?_
    refine x_then (hK3 _ _ ?_)
    refine c_true rfl ?_
    refine c_seq fun _ hK13 => ?_
    refine c_region ?_
    refine o_step rfl (s_assign rfl) ?_
    refine o_nil ?_
    refine x_then (hK13 _ _ ?_)
    refine c_ret ?_
    refine x_then_ret (?_)
    exact x_ret rfl (.tmp rfl (.nil)) (rfl)

theorem outsTwo_pp (x y : Int) (hx : 0 ≤ x) (hy : 0 ≤ y) (a : Option Addr) (c : Nat) (sc : List OpV) (hb : ∀ o ∈ sc, o.p.xs.length * 24 ≤ 140737488355328) : HL.Fn Try.prog 11 [.int .i64 x, .int .i64 y, .slice a sc.length c] (fun w => Rd Eop w (.slice a sc.length c) sc ∧ ∀ o ∈ sc, Rd Esl w o.p.v o.p.xs ∧ ∀ s ∈ o.p.xs, Rd Eb w s.v s.xs) [] (fun v _ => v = .bool true) := by
  refine fn_of Try.func11 rfl rfl rfl fun w0 hw => ?_
  obtain ⟨h1, h2⟩ := hw
  have hsx := h1.sl
  have hbx := hsx.le
  refine c_seq fun _ hK1 => ?_
  refine c_region ?_
  refine o_step rfl (s_assign rfl) ?_
  refine o_nil ?_
  refine x_then (hK1 _ _ ?_)
  refine c_seq fun _ hK2 => ?_
  refine c_seq fun _ hK3 => ?_
  refine c_region ?_
  refine o_step rfl (s_move rfl) ?_
  refine o_callP (scriptLong_fn a c sc) rfl rfl rfl (fun w st => ⟨(RdK.old0 h1).out w st, fun o ho => ⟨(RdK.old0 (h2 o ho).1).out w st, fun s hs => (RdK.old0 ((h2 o ho).2 s hs)).out w st⟩⟩) (fun v18 hv18 => ?_)
  obtain ⟨bl, hv18, hlong⟩ := hv18
  subst hv18
  cases bl
  · skip
    have htot := hlong rfl
    refine o_nil ?_
    refine x_then (hK3 _ _ ?_)
    refine c_false rfl ?_
    refine c_skip ?_
    refine x_then (hK2 _ _ ?_)
    refine c_seq fun _ hK4 => ?_
    refine c_region ?_
    refine o_step rfl (s_build (cs := [_, _, _, _, _, _, _]) (vs := []) rfl rfl (.nil)) ?_
    refine o_box rfl rfl rfl fun b20 => ?_
    refine o_step rfl (s_assign rfl) ?_
    refine o_nil ?_
    refine x_then (hK4 _ _ ?_)
    refine c_seq fun _ hK5 => ?_
    refine c_region ?_
    refine o_step rfl (s_build (cs := [_, _, _, _, _, _, _]) (vs := []) rfl rfl (.nil)) ?_
    refine o_box rfl rfl rfl fun b22 => ?_
    refine o_step rfl (s_assign rfl) ?_
    refine o_nil ?_
    refine x_then (hK5 _ _ ?_)
    refine c_seq fun _ hK6 => ?_
    refine c_region ?_
    refine o_step rfl (s_build (cs := [_, _, _, _, _, _, _]) (vs := []) rfl rfl (.nil)) ?_
    refine o_box rfl rfl rfl fun b24 => ?_
    refine o_step rfl (s_assign rfl) ?_
    refine o_nil ?_
    refine x_then (hK6 _ _ ?_)
    refine c_seq fun _ hK7 => ?_
    refine c_region ?_
    refine o_step rfl (s_move rfl) ?_
    refine o_step rfl (s_move rfl) ?_
    refine o_step rfl (s_func (us := [_]) (vs := []) rfl rfl) ?_
    refine o_call (outNew_pos x (.func 43) [.pointer (some ⟨b20, 0, none⟩)].toArray [].toArray (by omega)) rfl rfl rfl (by exact .nil) (fun _ _ => trivial) (fun v29 S29 ⟨bo, hv29, hS29⟩ => ?_)
    subst hv29
    subst hS29
    refine o_step rfl (s_move rfl) ?_
    refine o_step rfl (s_extract rfl rfl) ?_
    refine o_step rfl (s_extract rfl rfl) ?_
    refine o_step rfl (s_assign rfl) ?_
    refine o_step rfl (s_assign rfl) ?_
    refine o_nil ?_
    refine x_then (hK7 _ _ ?_)
    refine c_seq fun _ hK8 => ?_
    refine c_region ?_
    refine o_step rfl (s_move rfl) ?_
    refine o_step rfl (s_move rfl) ?_
    refine o_step rfl (s_func (us := [_]) (vs := []) rfl rfl) ?_
    refine o_call (outNew_pos y (.func 43) [.pointer (some ⟨b22, 0, none⟩)].toArray [].toArray (by omega)) rfl rfl rfl (by exact .nil) (fun _ _ => trivial) (fun v36 S36 ⟨bp, hv36, hS36⟩ => ?_)
    subst hv36
    subst hS36
    refine o_step rfl (s_move rfl) ?_
    refine o_step rfl (s_extract rfl rfl) ?_
    refine o_step rfl (s_extract rfl rfl) ?_
    refine o_step rfl (s_assign rfl) ?_
    refine o_step rfl (s_assign rfl) ?_
    refine o_nil ?_
    refine x_then (hK8 _ _ ?_)
    refine c_seq fun _ hK9 => ?_
    refine c_region ?_
    refine o_step rfl (s_move rfl) ?_
    refine o_step rfl (s_move rfl) ?_
    refine o_step rfl (s_func (us := [_]) (vs := []) rfl rfl) ?_
    refine o_call (outNew_pos x (.func 43) [.pointer (some ⟨b24, 0, none⟩)].toArray [].toArray (by omega)) rfl rfl rfl (by exact .nil) (fun _ _ => trivial) (fun v43 S43 ⟨bq, hv43, hS43⟩ => ?_)
    subst hv43
    subst hS43
    have hst1 := stH_new (bo := bo) (bs := b20) (lim := x) (fail := 0) (serr := 0)
    have hst2 := stH_new (bo := bp) (bs := b22) (lim := y) (fail := 0) (serr := 0)
    have hst3 := stH_new (bo := bq) (bs := b24) (lim := x) (fail := 0) (serr := 0)
    refine o_sk (H' := newH bo b20 x 0 0 ++ (newH bp b22 y 0 0 ++ newH bq b24 x 0 0)) (HSub.trans (B := [(bo, _), (b20, _), (bp, _), (b22, _), (bq, _), (b24, _)]) (by repeat (first | exact HSub.refl _ | exact HSub.nil | refine HSub.takeC (by first | ((repeat (first | exact .one | exact .here | exact .all | apply Pick.cons | apply Pick.app)); done) | ((repeat (first | exact .one | exact .here | exact .all | apply Pick.cons | apply Pick.assoc | apply Pick.app)); done) | exact Pick.takeA (by repeat (first | exact .one | exact .here | exact .all | apply Pick.cons | apply Pick.assoc | apply Pick.app)) (by repeat (first | exact .one | exact .here | exact .all | apply Pick.cons | apply Pick.assoc | apply Pick.app))) ?_ | refine HSub.take (by first | ((repeat (first | exact .one | exact .here | exact .all | apply Pick.cons | apply Pick.app)); done) | ((repeat (first | exact .one | exact .here | exact .all | apply Pick.cons | apply Pick.assoc | apply Pick.app)); done) | exact Pick.takeA (by repeat (first | exact .one | exact .here | exact .all | apply Pick.cons | apply Pick.assoc | apply Pick.app)) (by repeat (first | exact .one | exact .here | exact .all | apply Pick.cons | apply Pick.assoc | apply Pick.app))) ?_ | exact HSub.of_pick (by first | ((repeat (first | exact .one | exact .here | exact .all | apply Pick.cons | apply Pick.app)); done) | ((repeat (first | exact .one | exact .here | exact .all | apply Pick.cons | apply Pick.assoc | apply Pick.app)); done) | exact Pick.takeA (by repeat (first | exact .one | exact .here | exact .all | apply Pick.cons | apply Pick.assoc | apply Pick.app)) (by repeat (first | exact .one | exact .here | exact .all | apply Pick.cons | apply Pick.assoc | apply Pick.app))))) (HSub.refl _)) ?_
    generalize newH bo b20 x 0 0 = Z1 at hst1 ⊢
    generalize newH bp b22 y 0 0 = Z2 at hst2 ⊢
    generalize newH bq b24 x 0 0 = Z3 at hst3 ⊢
    refine o_step rfl (s_move rfl) ?_
    refine o_step rfl (s_extract rfl rfl) ?_
    refine o_step rfl (s_extract rfl rfl) ?_
    refine o_step rfl (s_assign rfl) ?_
    refine o_step rfl (s_assign rfl) ?_
    refine o_nil ?_
    refine x_then (hK9 _ _ ?_)
    refine c_seq fun _ hK10 => ?_
    refine c_seq fun _ hK11 => ?_
    refine c_region ?_
    refine o_step rfl (s_move rfl) ?_
    refine o_step rfl (s_lss_f rfl rfl (by omega)) ?_
    refine o_step rfl (s_move rfl) ?_
    refine o_yes rfl rfl ?_
    refine o_step rfl (s_move rfl) ?_
    refine o_yes rfl rfl ?_
    refine o_step rfl (s_lss_f rfl rfl (by omega)) ?_
    refine o_step rfl (s_pick_f rfl rfl) ?_
    refine o_nil ?_
    refine x_then (hK11 _ _ ?_)
    refine c_false rfl ?_
    refine c_skip ?_
    refine x_then (hK10 _ _ ?_)
    refine c_seq fun _ hK12 => ?_
    refine c_seq fun _ hK13 => ?_
    refine c_region ?_
    refine o_step rfl (s_move rfl) ?_
    refine o_step rfl (s_neq_f rfl rfl rfl) ?_
    refine o_step rfl (s_move rfl) ?_
    refine o_yes rfl rfl ?_
    refine o_step rfl (s_move rfl) ?_
    refine o_yes rfl rfl ?_
    refine o_step rfl (s_neq_f rfl rfl rfl) ?_
    refine o_step rfl (s_pick_f rfl rfl) ?_
    refine o_step rfl (s_move rfl) ?_
    refine o_yes rfl rfl ?_
    refine o_step rfl (s_move rfl) ?_
    refine o_yes rfl rfl ?_
    refine o_step rfl (s_neq_f rfl rfl rfl) ?_
    refine o_step rfl (s_pick_f rfl rfl) ?_
    refine o_nil ?_
    refine x_then (hK13 _ _ ?_)
    refine c_false rfl ?_
    refine c_skip ?_
    refine x_then (hK12 _ _ ?_)
    refine c_seq fun _ hK14 => ?_
    refine c_seq fun _ hK15 => ?_
    refine c_region ?_
    refine o_step rfl (s_assign rfl) ?_
    refine o_nil ?_
    refine x_then (hK15 _ _ ?_)
    refine c_block ?_
    -- not carried: 6
    refine c_loop6 (fun (j : Nat) (u : OS) (p : OS) (S1 : Hp) (S2 : Hp) (S3 : Hp) => j ≤ sc.length ∧ StH bo b20 x 0 0 u S1 ∧ StH bp b22 y 0 0 p S2 ∧ StH bq b24 x 0 0 u S3 ∧ Bd u (tot sc j) j ∧ Bd p j j) (fun (j : Nat) (u : OS) (p : OS) (S1 : Hp) (S2 : Hp) (S3 : Hp) => [(16, .int .i64 j)]) [(2, _), (7, _), (9, _), (10, _), (12, _), (14, _)] (fun (j : Nat) (u : OS) (p : OS) (S1 : Hp) (S2 : Hp) (S3 : Hp) => S1 ++ (S2 ++ S3)) (fun (j : Nat) (u : OS) (p : OS) (S1 : Hp) (S2 : Hp) (S3 : Hp) => sc.length - j) 0 ⟨[], 0, 0, []⟩ ⟨[], 0, 0, []⟩ Z1 Z2 Z3 ⟨by omega, hst1, hst2, hst3, Bd.new, Bd.new⟩ (by repeat (first | exact Sub.nil | refine Sub.cons rfl ?_)) (by repeat (first | exact Sub.nil | refine Sub.cons rfl ?_)) (by exact HSub.refl _) ?_
    rintro j u p S1 S2 S3 ⟨hj, hA, hB, hC, hu, hp⟩
    obtain ⟨he1, hc1, hk1, hs1⟩ := id hu
    obtain ⟨he2, hc2, hk2, hs2⟩ := id hp
    refine c_seq fun _ hK16 => ?_
    refine c_seq fun _ hK17 => ?_
    refine c_region ?_
    refine o_step rfl (s_move rfl) ?_
    refine o_step rfl (s_move rfl) ?_
    refine o_step rfl (s_len rfl) ?_
    refine o_step rfl (s_lss rfl rfl) ?_
    refine o_nil ?_
    refine x_then (hK17 _ _ ?_)
    refine c_if rfl (fun hlt => ?_) (fun hlt => ?_)
    · skip
      have hlt2 : j < sc.length := by omega
      have hmem := op0_mem hlt2
      have hrow : Rd Esl w0 (.slice (op0 sc j).p.a (op0 sc j).p.xs.length (op0 sc j).p.c) (op0 sc j).p.xs := (h2 _ hmem).1
      have hcost := tot_succ hlt2
      have hce : cost (op0 sc j) = (op0 sc j).p.xs.length + ((op0 sc j).p.xs.map Sl.xs).flatten.length := rfl
      have hjt := tot_mono (sc := sc) (j := j + 1)
      refine c_skip ?_
      refine x_then (hK16 _ _ ?_)
      refine c_seq fun _ hK18 => ?_
      refine c_block ?_
      refine c_seq fun _ hK19 => ?_
      refine c_seq fun _ hK20 => ?_
      refine c_region ?_
      refine o_step rfl (s_move rfl) ?_
      refine o_step rfl (s_move rfl) ?_
      refine o_step rfl (s_idx rfl rfl (by assumption) (by omega)) ?_
      refine o_step rfl (s_field rfl rfl (by decide)) ?_
      by_cases hf : (op0 sc j).f = true
      · skip
        refine o_step rfl (step_cast (v' := .bool true) (s_ld rfl ((RdK.old0 h1).ld j 0 (op0_get (by omega)) rfl (by decide) (by omega))) (by rw [hf])) ?_
        refine o_nil ?_
        refine x_then (hK20 _ _ ?_)
        refine c_true rfl ?_
        refine c_seq fun _ hK21 => ?_
        refine c_region ?_
        refine o_step rfl (s_move rfl) ?_
        refine o_call (flush_fn hA (by omega) (by omega) (by omega)) rfl rfl rfl (by first | ((repeat (first | exact .one | exact .here | exact .all | apply Pick.cons | apply Pick.app)); done) | ((repeat (first | exact .one | exact .here | exact .all | apply Pick.cons | apply Pick.assoc | apply Pick.app)); done) | exact Pick.takeA (by repeat (first | exact .one | exact .here | exact .all | apply Pick.cons | apply Pick.assoc | apply Pick.app)) (by repeat (first | exact .one | exact .here | exact .all | apply Pick.cons | apply Pick.assoc | apply Pick.app))) (fun _ _ => trivial) (fun v89 S89 ⟨hv89, hA2⟩ => ?_)
        subst hv89
        refine o_nil ?_
        refine x_then (hK21 _ _ ?_)
        refine c_seq fun _ hK22 => ?_
        refine c_region ?_
        refine o_step rfl (s_move rfl) ?_
        refine o_call (flush_fn hC (by omega) (by omega) (by omega)) rfl rfl rfl (by first | ((repeat (first | exact .one | exact .here | exact .all | apply Pick.cons | apply Pick.app)); done) | ((repeat (first | exact .one | exact .here | exact .all | apply Pick.cons | apply Pick.assoc | apply Pick.app)); done) | exact Pick.takeA (by repeat (first | exact .one | exact .here | exact .all | apply Pick.cons | apply Pick.assoc | apply Pick.app)) (by repeat (first | exact .one | exact .here | exact .all | apply Pick.cons | apply Pick.assoc | apply Pick.app))) (fun _ _ => trivial) (fun v91 S91 ⟨hv91, hC2⟩ => ?_)
        subst hv91
        refine o_nil ?_
        refine x_then (hK22 _ _ ?_)
        refine c_exit ?_
        refine x_then_exit ?_
        refine x_block_exit ?_
        refine x_then (hK18 _ _ ?_)
        refine c_region ?_
        refine o_step rfl (s_move rfl) ?_
        refine o_step rfl (s_add rfl rfl (by omega)) ?_
        refine o_step rfl (s_assign rfl) ?_
        refine o_nil ?_
        exact x_then (x_inv (j + 1, _, _, _, _, _) ⟨by omega, hA2, hB, hC2, hu.flush.mono (by first | omega | (dsimp only; omega)) (by first | omega | (dsimp only; omega)), hp.mono (by first | omega | (dsimp only; omega)) (by first | omega | (dsimp only; omega))⟩ (by first | omega | (dsimp only; omega)) (by repeat (first | exact Sub.nil | refine Sub.cons rfl ?_)) (by repeat (first | exact HSub.refl _ | exact HSub.nil | refine HSub.takeC (by first | ((repeat (first | exact .one | exact .here | exact .all | apply Pick.cons | apply Pick.app)); done) | ((repeat (first | exact .one | exact .here | exact .all | apply Pick.cons | apply Pick.assoc | apply Pick.app)); done) | exact Pick.takeA (by repeat (first | exact .one | exact .here | exact .all | apply Pick.cons | apply Pick.assoc | apply Pick.app)) (by repeat (first | exact .one | exact .here | exact .all | apply Pick.cons | apply Pick.assoc | apply Pick.app))) ?_ | refine HSub.take (by first | ((repeat (first | exact .one | exact .here | exact .all | apply Pick.cons | apply Pick.app)); done) | ((repeat (first | exact .one | exact .here | exact .all | apply Pick.cons | apply Pick.assoc | apply Pick.app)); done) | exact Pick.takeA (by repeat (first | exact .one | exact .here | exact .all | apply Pick.cons | apply Pick.assoc | apply Pick.app)) (by repeat (first | exact .one | exact .here | exact .all | apply Pick.cons | apply Pick.assoc | apply Pick.app))) ?_ | exact HSub.of_pick (by first | ((repeat (first | exact .one | exact .here | exact .all | apply Pick.cons | apply Pick.app)); done) | ((repeat (first | exact .one | exact .here | exact .all | apply Pick.cons | apply Pick.assoc | apply Pick.app)); done) | exact Pick.takeA (by repeat (first | exact .one | exact .here | exact .all | apply Pick.cons | apply Pick.assoc | apply Pick.app)) (by repeat (first | exact .one | exact .here | exact .all | apply Pick.cons | apply Pick.assoc | apply Pick.app))))))
      · skip
        have hf2 : (op0 sc j).f = false := by simpa using hf
        refine o_step rfl (step_cast (v' := .bool false) (s_ld rfl ((RdK.old0 h1).ld j 0 (op0_get (by omega)) rfl (by decide) (by omega))) (by rw [hf2])) ?_
        refine o_nil ?_
        refine x_then (hK20 _ _ ?_)
        refine c_false rfl ?_
        refine c_skip ?_
        refine x_then (hK19 _ _ ?_)
        refine c_seq fun _ hK23 => ?_
        refine c_region ?_
        refine o_step rfl (s_move rfl) ?_
        refine o_step rfl (s_move rfl) ?_
        refine o_step rfl (s_move rfl) ?_
        refine o_step rfl (s_idx rfl rfl (by assumption) (by omega)) ?_
        refine o_step rfl (s_field rfl rfl (by decide)) ?_
        refine o_step rfl (s_ld rfl ((RdK.old0 h1).ld j 1 (op0_get (by omega)) rfl (by decide) (by omega))) ?_
        refine o_call (copyRows2_fn (op0 sc j).p.a (op0 sc j).p.c (op0 sc j).p.xs (hb _ hmem)) rfl rfl rfl (by exact .nil) (fun w st => ⟨(RdK.old0 hrow).out w st, fun s hs => (RdK.old0 ((h2 _ hmem).2 s hs)).out w st⟩) (fun v98 S98 ⟨a98, c98, sl98, So98, Si98, hv98, hm98, hO98, hI98, hS98⟩ => ?_)
        subst hv98
        subst hS98
        refine o_call (write_fn hA a98 c98 sl98 (So98 ++ Si98) hO98.sl (hO98.rds.mono HIn.appL) (fun s hs => (hI98 s hs).mono HIn.appR) (by omega) (by rw [hm98, List.length_append]; omega) (by omega)) rfl rfl rfl ((Pick.takeA (by first | ((repeat (first | exact .one | exact .here | exact .all | apply Pick.cons | apply Pick.app)); done) | ((repeat (first | exact .one | exact .here | exact .all | apply Pick.cons | apply Pick.assoc | apply Pick.app)); done) | exact Pick.takeA (by repeat (first | exact .one | exact .here | exact .all | apply Pick.cons | apply Pick.assoc | apply Pick.app)) (by repeat (first | exact .one | exact .here | exact .all | apply Pick.cons | apply Pick.assoc | apply Pick.app))) (by first | ((repeat (first | exact .one | exact .here | exact .all | apply Pick.cons | apply Pick.app)); done) | ((repeat (first | exact .one | exact .here | exact .all | apply Pick.cons | apply Pick.assoc | apply Pick.app)); done) | exact Pick.takeA (by repeat (first | exact .one | exact .here | exact .all | apply Pick.cons | apply Pick.assoc | apply Pick.app)) (by repeat (first | exact .one | exact .here | exact .all | apply Pick.cons | apply Pick.assoc | apply Pick.app))))) (fun _ _ => trivial) (fun v99 S99 ⟨hv99, hA2⟩ => ?_)
        subst hv99
        rw [hm98] at hA2
        refine o_nil ?_
        refine x_then (hK23 _ _ ?_)
        refine c_seq fun _ hK24 => ?_
        refine c_region ?_
        refine o_step rfl (s_move rfl) ?_
        refine o_step rfl (s_move rfl) ?_
        refine o_step rfl (s_convB (j := j) rfl) ?_
        refine o_bs (E := Eb) (xs := [UInt8.ofNat j]) (vs := [_]) rfl rfl rfl rfl rfl (by decide) (by decide) fun b103 S103 hS103 => ?_
        refine o_bs (E := Esl) (xs := [(⟨some ⟨b103, 0, none⟩, 1, [UInt8.ofNat j]⟩ : Sl UInt8)]) (vs := [_]) rfl rfl rfl rfl rfl (by decide) (by decide) fun b104 S104 hS104 => ?_
        refine o_call (write_fn hB (some ⟨b104, 0, none⟩) 1 [(⟨some ⟨b103, 0, none⟩, 1, [UInt8.ofNat j]⟩ : Sl UInt8)] (S104 ++ S103) hS104.sl (hS104.rds.mono HIn.appL) (rows1 (x := ⟨some ⟨b103, 0, none⟩, 1, [UInt8.ofNat j]⟩) hS103.rds) (by omega) (by simp; omega) (by omega)) rfl rfl rfl ((Pick.takeA (by first | ((repeat (first | exact .one | exact .here | exact .all | apply Pick.cons | apply Pick.app)); done) | ((repeat (first | exact .one | exact .here | exact .all | apply Pick.cons | apply Pick.assoc | apply Pick.app)); done) | exact Pick.takeA (by repeat (first | exact .one | exact .here | exact .all | apply Pick.cons | apply Pick.assoc | apply Pick.app)) (by repeat (first | exact .one | exact .here | exact .all | apply Pick.cons | apply Pick.assoc | apply Pick.app))) (Pick.takeA (by first | ((repeat (first | exact .one | exact .here | exact .all | apply Pick.cons | apply Pick.app)); done) | ((repeat (first | exact .one | exact .here | exact .all | apply Pick.cons | apply Pick.assoc | apply Pick.app)); done) | exact Pick.takeA (by repeat (first | exact .one | exact .here | exact .all | apply Pick.cons | apply Pick.assoc | apply Pick.app)) (by repeat (first | exact .one | exact .here | exact .all | apply Pick.cons | apply Pick.assoc | apply Pick.app))) (by first | ((repeat (first | exact .one | exact .here | exact .all | apply Pick.cons | apply Pick.app)); done) | ((repeat (first | exact .one | exact .here | exact .all | apply Pick.cons | apply Pick.assoc | apply Pick.app)); done) | exact Pick.takeA (by repeat (first | exact .one | exact .here | exact .all | apply Pick.cons | apply Pick.assoc | apply Pick.app)) (by repeat (first | exact .one | exact .here | exact .all | apply Pick.cons | apply Pick.assoc | apply Pick.app)))))) (fun _ _ => trivial) (fun v105 S105 ⟨hv105, hB2⟩ => ?_)
        subst hv105
        refine o_nil ?_
        refine x_then (hK24 _ _ ?_)
        refine c_seq fun _ hK25 => ?_
        refine c_region ?_
        refine o_step rfl (s_move rfl) ?_
        refine o_step rfl (s_move rfl) ?_
        refine o_step rfl (s_move rfl) ?_
        refine o_step rfl (s_idx rfl rfl (by assumption) (by omega)) ?_
        refine o_step rfl (s_field rfl rfl (by decide)) ?_
        refine o_step rfl (s_ld rfl ((RdK.old0 h1).ld j 1 (op0_get (by omega)) rfl (by decide) (by omega))) ?_
        refine o_call (copyRows2_fn (op0 sc j).p.a (op0 sc j).p.c (op0 sc j).p.xs (hb _ hmem)) rfl rfl rfl (by exact .nil) (fun w st => ⟨(RdK.old0 hrow).out w st, fun s hs => (RdK.old0 ((h2 _ hmem).2 s hs)).out w st⟩) (fun v112 S112 ⟨a112, c112, sl112, So112, Si112, hv112, hm112, hO112, hI112, hS112⟩ => ?_)
        subst hv112
        subst hS112
        refine o_call (write_fn hC a112 c112 sl112 (So112 ++ Si112) hO112.sl (hO112.rds.mono HIn.appL) (fun s hs => (hI112 s hs).mono HIn.appR) (by omega) (by rw [hm112, List.length_append]; omega) (by omega)) rfl rfl rfl ((Pick.takeA (by first | ((repeat (first | exact .one | exact .here | exact .all | apply Pick.cons | apply Pick.app)); done) | ((repeat (first | exact .one | exact .here | exact .all | apply Pick.cons | apply Pick.assoc | apply Pick.app)); done) | exact Pick.takeA (by repeat (first | exact .one | exact .here | exact .all | apply Pick.cons | apply Pick.assoc | apply Pick.app)) (by repeat (first | exact .one | exact .here | exact .all | apply Pick.cons | apply Pick.assoc | apply Pick.app))) (by first | ((repeat (first | exact .one | exact .here | exact .all | apply Pick.cons | apply Pick.app)); done) | ((repeat (first | exact .one | exact .here | exact .all | apply Pick.cons | apply Pick.assoc | apply Pick.app)); done) | exact Pick.takeA (by repeat (first | exact .one | exact .here | exact .all | apply Pick.cons | apply Pick.assoc | apply Pick.app)) (by repeat (first | exact .one | exact .here | exact .all | apply Pick.cons | apply Pick.assoc | apply Pick.app))))) (fun _ _ => trivial) (fun v113 S113 ⟨hv113, hC2⟩ => ?_)
        subst hv113
        rw [hm112] at hC2
        refine o_sk (H' := S99 ++ (S105 ++ S113)) (by repeat (first | exact HSub.refl _ | exact HSub.nil | refine HSub.takeC (by first | ((repeat (first | exact .one | exact .here | exact .all | apply Pick.cons | apply Pick.app)); done) | ((repeat (first | exact .one | exact .here | exact .all | apply Pick.cons | apply Pick.assoc | apply Pick.app)); done) | exact Pick.takeA (by repeat (first | exact .one | exact .here | exact .all | apply Pick.cons | apply Pick.assoc | apply Pick.app)) (by repeat (first | exact .one | exact .here | exact .all | apply Pick.cons | apply Pick.assoc | apply Pick.app))) ?_ | refine HSub.take (by first | ((repeat (first | exact .one | exact .here | exact .all | apply Pick.cons | apply Pick.app)); done) | ((repeat (first | exact .one | exact .here | exact .all | apply Pick.cons | apply Pick.assoc | apply Pick.app)); done) | exact Pick.takeA (by repeat (first | exact .one | exact .here | exact .all | apply Pick.cons | apply Pick.assoc | apply Pick.app)) (by repeat (first | exact .one | exact .here | exact .all | apply Pick.cons | apply Pick.assoc | apply Pick.app))) ?_ | exact HSub.of_pick (by first | ((repeat (first | exact .one | exact .here | exact .all | apply Pick.cons | apply Pick.app)); done) | ((repeat (first | exact .one | exact .here | exact .all | apply Pick.cons | apply Pick.assoc | apply Pick.app)); done) | exact Pick.takeA (by repeat (first | exact .one | exact .here | exact .all | apply Pick.cons | apply Pick.assoc | apply Pick.app)) (by repeat (first | exact .one | exact .here | exact .all | apply Pick.cons | apply Pick.assoc | apply Pick.app))))) ?_
        obtain ⟨saA, gaA, scA, gcA, slA, glA, hmA, hglA, hcA, hrA, hsA, hxA⟩ := hA2.sinkRd
        obtain ⟨saC, gaC, scC, gcC, slC, glC, hmC, hglC, hcC, hrC, hsC, hxC⟩ := hC2.sinkRd
        obtain ⟨kvA, hoA⟩ := hA2.outRd
        obtain ⟨kvC, hoC⟩ := hC2.outRd
        refine o_nil ?_
        refine x_then (hK25 _ _ ?_)
        refine c_seq fun _ hK26 => ?_
        refine c_quiet (by kernel_rfl) ?_
        refine .op rfl (s_move rfl) ?_
        refine .op rfl (s_nil rfl) ?_
        refine .op rfl (s_field rfl rfl (by decide)) ?_
        refine .op rfl (s_ld rfl ((hcA _ _ (by repeat (first | exact HIn.here | exact HIn.all | exact HIn.one | apply HIn.cons | apply HIn.assoc | apply HIn.app))).cel (j := 5) rfl rfl)) ?_
        refine .op rfl (s_move rfl) ?_
        refine .op rfl (s_nil rfl) ?_
        refine .op rfl (s_field rfl rfl (by decide)) ?_
        refine .op rfl (s_ld rfl ((hcC _ _ (by repeat (first | exact HIn.here | exact HIn.all | exact HIn.one | apply HIn.cons | apply HIn.assoc | apply HIn.app))).cel (j := 5) rfl rfl)) ?_
        refine .call (fun _ _ => rfl) rfl rfl rfl (eqRows_true saA saC scA scC slA slC (by rw [hmA, hmC])) (fun w st => ⟨⟨(hrA.rdk (by repeat (first | exact HIn.here | exact HIn.all | exact HIn.one | apply HIn.cons | apply HIn.assoc | apply HIn.app))).out w st, fun s hs => ((hxA s hs).rdk (by repeat (first | exact HIn.here | exact HIn.all | exact HIn.one | apply HIn.cons | apply HIn.assoc | apply HIn.app))).out w st⟩, (hrC.rdk (by repeat (first | exact HIn.here | exact HIn.all | exact HIn.one | apply HIn.cons | apply HIn.assoc | apply HIn.app))).out w st, fun s hs => ((hxC s hs).rdk (by repeat (first | exact HIn.here | exact HIn.all | exact HIn.one | apply HIn.cons | apply HIn.assoc | apply HIn.app))).out w st⟩) ?_
        refine .op rfl (s_not rfl) ?_
        refine .op rfl (s_move rfl) ?_
        refine .yes rfl rfl rfl (s_move rfl) ?_
        refine .call (fun _ fr => by rw [wanted_of fr rfl rfl rfl]; rfl) rfl rfl rfl (count_fn bo x _ _ _ kvA) (fun w st => (hoA _ _ (by repeat (first | exact HIn.here | exact HIn.all | exact HIn.one | apply HIn.cons | apply HIn.assoc | apply HIn.app))).out w st) ?_
        refine .yes rfl rfl rfl (s_move rfl) ?_
        refine .call (fun _ fr => by rw [wanted_of fr rfl rfl rfl]; rfl) rfl rfl rfl (count_fn bq x _ _ _ kvC) (fun w st => (hoC _ _ (by repeat (first | exact HIn.here | exact HIn.all | exact HIn.one | apply HIn.cons | apply HIn.assoc | apply HIn.app))).out w st) ?_
        refine .yes rfl rfl rfl (s_neq_f rfl rfl rfl) ?_
        refine .op rfl (s_pick_f rfl rfl) ?_
        refine .nil ?_
        refine x_then (hK26 _ _ ?_)
        refine c_false rfl ?_
        refine c_skip ?_
        refine x_block ?_
        refine x_then (hK18 _ _ ?_)
        refine c_region ?_
        refine o_step rfl (s_move rfl) ?_
        refine o_step rfl (s_add rfl rfl (by omega)) ?_
        refine o_step rfl (s_assign rfl) ?_
        refine o_nil ?_
        exact x_then (x_inv (j + 1, _, _, _, _, _) ⟨by omega, hA2, hB2, hC2, hu.write.mono (by first | omega | (dsimp only; omega)) (by first | omega | (dsimp only; omega)), hp.write.mono (by simp) (by first | omega | (dsimp only; omega))⟩ (by first | omega | (dsimp only; omega)) (by repeat (first | exact Sub.nil | refine Sub.cons rfl ?_)) (by repeat (first | exact HSub.refl _ | exact HSub.nil | refine HSub.takeC (by first | ((repeat (first | exact .one | exact .here | exact .all | apply Pick.cons | apply Pick.app)); done) | ((repeat (first | exact .one | exact .here | exact .all | apply Pick.cons | apply Pick.assoc | apply Pick.app)); done) | exact Pick.takeA (by repeat (first | exact .one | exact .here | exact .all | apply Pick.cons | apply Pick.assoc | apply Pick.app)) (by repeat (first | exact .one | exact .here | exact .all | apply Pick.cons | apply Pick.assoc | apply Pick.app))) ?_ | refine HSub.take (by first | ((repeat (first | exact .one | exact .here | exact .all | apply Pick.cons | apply Pick.app)); done) | ((repeat (first | exact .one | exact .here | exact .all | apply Pick.cons | apply Pick.assoc | apply Pick.app)); done) | exact Pick.takeA (by repeat (first | exact .one | exact .here | exact .all | apply Pick.cons | apply Pick.assoc | apply Pick.app)) (by repeat (first | exact .one | exact .here | exact .all | apply Pick.cons | apply Pick.assoc | apply Pick.app))) ?_ | exact HSub.of_pick (by first | ((repeat (first | exact .one | exact .here | exact .all | apply Pick.cons | apply Pick.app)); done) | ((repeat (first | exact .one | exact .here | exact .all | apply Pick.cons | apply Pick.assoc | apply Pick.app)); done) | exact Pick.takeA (by repeat (first | exact .one | exact .here | exact .all | apply Pick.cons | apply Pick.assoc | apply Pick.app)) (by repeat (first | exact .one | exact .here | exact .all | apply Pick.cons | apply Pick.assoc | apply Pick.app))))))
    · skip
      refine c_exit ?_
      refine x_then_exit ?_
      refine x_then_exit ?_
      refine x_block_exit ?_
      refine x_then (hK14 _ _ ?_)
      refine c_seq fun _ hK27 => ?_
      refine c_region ?_
      refine o_callP (works_fn) rfl rfl rfl (fun _ _ => trivial) (fun v131 hv131 => ?_)
      subst hv131
      refine o_step rfl (s_assign rfl) ?_
      refine o_nil ?_
      refine x_then (hK27 _ _ ?_)
      refine c_ret ?_
      refine ?_
      exact x_ret rfl (.tmp rfl (.nil)) (rfl)
  · skip
    refine o_nil ?_
    refine x_then (hK3 _ _ ?_)
    refine c_true rfl ?_
    refine c_seq fun _ hK28 => ?_
    refine c_region ?_
    refine o_step rfl (s_assign rfl) ?_
    refine o_nil ?_
    refine x_then (hK28 _ _ ?_)
    refine c_ret ?_
    refine x_then_ret (?_)
    exact x_ret rfl (.tmp rfl (.nil)) (rfl)

theorem outsTwo_fn (x y : Int) (a : Option Addr) (c : Nat) (sc : List OpV) (hb : ∀ o ∈ sc, o.p.xs.length * 24 ≤ 140737488355328) : HL.Fn Try.prog 11 [.int .i64 x, .int .i64 y, .slice a sc.length c] (fun w => Rd Eop w (.slice a sc.length c) sc ∧ ∀ o ∈ sc, Rd Esl w o.p.v o.p.xs ∧ ∀ s ∈ o.p.xs, Rd Eb w s.v s.xs) [] (fun v _ => v = .bool true) := by
  by_cases hx : x < 0 <;> by_cases hy : y < 0
  · exact outsTwo_nn x y hx hy a c sc
  · exact outsTwo_np x y hx (by omega) a c sc
  · exact outsTwo_pn x y (by omega) hy a c sc
  · exact outsTwo_pp x y (by omega) (by omega) a c sc hb
end Go.Proofs.Ythbnkifjplbhgaa
