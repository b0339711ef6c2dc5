/- Proved: the law TableThen returns true for all tables. Conditions: none. -/
import Derived.Test.YthbnkifjplbhgaaW4
import Derived.Test.YthbnkifjplbhgaaHl
import Derived.Test.YthbnkifjplbhgaaRows
namespace Go.Proofs.Ythbnkifjplbhgaa
open Go Go.HL Go.Proofs Go.Tab
theorem tableThen_fn (t u v : List UInt8) (ht : t.length = 256) (hu : u.length = 256) (hv : v.length = 256) : HL.Fn Try.prog 6 [.agg (flat Eb t).toArray, .agg (flat Eb u).toArray, .agg (flat Eb v).toArray] (fun _ => True) [] (fun v _ => v = .bool true) := by
  refine fn_of Try.func6 rfl rfl rfl fun w0 hw => ?_
  have hil := idT_len
  have hA : (applyT (thenT t u) idT).length = 256 := by rw [applyT_len, idT_len]
  have htu := thenT_len t u
  have huv := thenT_len u v
  refine c_seq fun _ hK1 => ?_
  refine c_region ?_
  refine o_box rfl rfl rfl fun b3 => ?_
  refine o_box rfl rfl rfl fun b4 => ?_
  refine o_box rfl rfl rfl fun b5 => ?_
  refine o_step rfl (s_assign rfl) ?_
  refine o_nil ?_
  refine x_then (hK1 _ _ ?_)
  refine c_seq fun _ hK2 => ?_
  refine c_region ?_
  refine o_callP (lives_fn) rfl rfl rfl (fun _ _ => trivial) (fun v14 hv14 => ?_)
  subst hv14
  refine o_step rfl (s_assign rfl) ?_
  refine o_nil ?_
  refine x_then (hK2 _ _ ?_)
  refine c_seq fun _ hK3 => ?_
  refine c_region ?_
  refine o_step rfl (s_assign rfl) ?_
  refine o_nil ?_
  refine x_then (hK3 _ _ ?_)
  refine c_seq fun _ hK4 => ?_
  refine c_seq fun _ hK5 => ?_
  refine c_region ?_
  refine o_step rfl (s_assign rfl) ?_
  refine o_nil ?_
  refine x_then (hK5 _ _ ?_)
  refine c_block ?_
  refine c_loop4 (fun (j : Nat) (a : Option Addr) (c : Nat) (S : Hp) => j ≤ 256 ∧ OwnS Eb 1 5 (.slice a (idT.take j).length c) (idT.take j) S) (fun (j : Nat) (a : Option Addr) (c : Nat) (S : Hp) => [(8, .slice a (idT.take j).length c), (9, .int .i64 j)]) [(3, _), (4, _), (5, _), (6, _), (7, _)] (fun (j : Nat) (a : Option Addr) (c : Nat) (S : Hp) => S ++ [(b5, .cells (flat Eb v).toArray 62 (0, 0)), (b4, .cells (flat Eb u).toArray 62 (0, 0)), (b3, .cells (flat Eb t).toArray 62 (0, 0))]) (fun (j : Nat) (a : Option Addr) (c : Nat) (S : Hp) => 256 - j) 0 none 0 [] ⟨by omega, .nil⟩ (by repeat (first | exact Sub.nil | refine Sub.cons rfl ?_)) (by repeat (first | exact Sub.nil | refine Sub.cons rfl ?_)) (by exact HSub.refl _) ?_
  rintro j a c S ⟨hj, hS⟩
  have hlj := idT_tl hj
  refine c_seq fun _ hK6 => ?_
  refine c_seq fun _ hK7 => ?_
  refine c_region ?_
  refine o_step rfl (s_move rfl) ?_
  refine o_step rfl (s_lss rfl rfl) ?_
  refine o_nil ?_
  refine x_then (hK7 _ _ ?_)
  refine c_if rfl (fun hlt => ?_) (fun hlt => ?_)
  · skip
    refine c_skip ?_
    refine x_then (hK6 _ _ ?_)
    refine c_seq fun _ hK8 => ?_
    refine c_block ?_
    refine c_region ?_
    refine o_step rfl (s_move rfl) ?_
    refine o_step rfl (s_move rfl) ?_
    refine o_step rfl (s_convB rfl) ?_
    refine o_bs (E := Eb) (xs := [UInt8.ofNat j]) (vs := [_]) rfl rfl rfl rfl rfl (by decide) (by decide) fun b22 S22 hS22 => ?_
    refine o_app hS (hS22.rdk (by repeat (first | exact HIn.here | exact HIn.all | exact HIn.one | apply HIn.cons | apply HIn.app))) rfl rfl rfl rfl (by rw [hlj]; show (j + 1) * 1 ≤ _; omega) (by rw [hlj]; show j + 1 ≤ _; omega) rfl (by repeat (first | exact .one | exact .here | exact .all | apply Pick.cons | apply Pick.app)) fun a23 c23 S23 hS23 => ?_
    rw [← idT_take (by omega)] at hS23 ⊢
    refine o_step rfl (s_assign rfl) ?_
    refine o_nil ?_
    refine x_block ?_
    refine x_then (hK8 _ _ ?_)
    refine c_region ?_
    refine o_step rfl (s_move rfl) ?_
    refine o_step rfl (s_add rfl rfl (by omega)) ?_
    refine o_step rfl (s_assign rfl) ?_
    refine o_nil ?_
    exact x_then (x_inv (j + 1, _, _, _) ⟨by omega, hS23⟩ (by first | omega | (dsimp only; omega)) (by repeat (first | exact Sub.nil | refine Sub.cons rfl ?_)) (by repeat (first | exact HSub.refl _ | exact HSub.nil | apply HSub.keep | apply HSub.keeps | apply HSub.skip | apply HSub.skips)))
  · skip
    obtain rfl : j = 256 := by omega
    rw [idT_all] at hS ⊢
    refine c_exit ?_
    refine x_then_exit ?_
    refine x_then_exit ?_
    refine x_block_exit ?_
    refine x_then (hK4 _ _ ?_)
    refine c_seq fun _ hK9 => ?_
    refine c_region ?_
    refine o_callP (then_fn b3 0 b4 0 t u ht hu) rfl rfl rfl (fun w st => ⟨(RdPK.own (by repeat (first | exact List.mem_cons_self | apply List.mem_cons_of_mem | apply mem_app))).out w st, (RdPK.own (by repeat (first | exact List.mem_cons_self | apply List.mem_cons_of_mem | apply mem_app))).out w st⟩) (fun v24 hv24 => ?_)
    subst hv24
    refine o_alloc rfl rfl fun b10 => ?_
    refine o_stW rfl rfl (by repeat (first | exact .here | apply Upd.there | apply Upd.skip)) (by first | (rw [flat_len, Nat.mul_one]; first | assumption | exact List.length_replicate) | exact List.length_replicate | rfl) (by first | (rw [flat_len, Nat.mul_one]; first | assumption | exact List.length_replicate) | exact List.length_replicate | rfl) (by first | exact flat_one _ _ | exact one_rep rfl | (simp [Value.oneCell']; done)) ?_
    refine o_nil ?_
    refine x_then (hK9 _ _ ?_)
    refine c_seq fun _ hK10 => ?_
    refine c_region ?_
    refine o_callP (then_fn b4 0 b5 0 u v hu hv) rfl rfl rfl (fun w st => ⟨(RdPK.own (by repeat (first | exact List.mem_cons_self | apply List.mem_cons_of_mem | apply mem_app))).out w st, (RdPK.own (by repeat (first | exact List.mem_cons_self | apply List.mem_cons_of_mem | apply mem_app))).out w st⟩) (fun v25 hv25 => ?_)
    subst hv25
    refine o_alloc rfl rfl fun b11 => ?_
    refine o_stW rfl rfl (by repeat (first | exact .here | apply Upd.there | apply Upd.skip)) (by first | (rw [flat_len, Nat.mul_one]; first | assumption | exact List.length_replicate) | exact List.length_replicate | rfl) (by first | (rw [flat_len, Nat.mul_one]; first | assumption | exact List.length_replicate) | exact List.length_replicate | rfl) (by first | exact flat_one _ _ | exact one_rep rfl | (simp [Value.oneCell']; done)) ?_
    refine o_nil ?_
    refine x_then (hK10 _ _ ?_)
    refine c_seq fun _ hK11 => ?_
    refine c_seq fun _ hK12 => ?_
    refine c_region ?_
    refine o_step rfl (s_move rfl) ?_
    refine o_step rfl (s_not rfl) ?_
    refine o_step rfl (s_move rfl) ?_
    refine o_yes rfl rfl ?_
    refine o_step rfl (s_move rfl) ?_
    refine o_yes rfl rfl ?_
    refine o_call (apply_fn b10 0 _ _ (thenT t u) idT (thenT_len t u)) rfl rfl rfl (by exact .nil) (fun w st => ⟨(RdPK.own (by repeat (first | exact List.mem_cons_self | apply List.mem_cons_of_mem | apply mem_app))).out w st, (hS.rdk (by repeat (first | exact HIn.here | exact HIn.all | exact HIn.one | apply HIn.cons | apply HIn.app))).out w st⟩) (fun v30 S30 ⟨a30, c30, hv30, hS30⟩ => ?_)
    subst hv30
    refine o_yes rfl rfl ?_
    refine o_step rfl (s_move rfl) ?_
    refine o_yes rfl rfl ?_
    refine o_call (apply_fn b3 0 _ _ t idT ht) rfl rfl rfl (by exact .nil) (fun w st => ⟨(RdPK.own (by repeat (first | exact List.mem_cons_self | apply List.mem_cons_of_mem | apply mem_app))).out w st, (hS.rdk (by repeat (first | exact HIn.here | exact HIn.all | exact HIn.one | apply HIn.cons | apply HIn.app))).out w st⟩) (fun v32 S32 ⟨a32, c32, hv32, hS32⟩ => ?_)
    subst hv32
    refine o_yes rfl rfl ?_
    refine o_call (apply_fn b4 0 _ _ u (applyT t idT) hu) rfl rfl rfl (by exact .nil) (fun w st => ⟨(RdPK.own (by repeat (first | exact List.mem_cons_self | apply List.mem_cons_of_mem | apply mem_app))).out w st, (hS32.rdk (by repeat (first | exact HIn.here | exact HIn.all | exact HIn.one | apply HIn.cons | apply HIn.app))).out w st⟩) (fun v33 S33 ⟨a33, c33, hv33, hS33⟩ => ?_)
    subst hv33
    refine o_yes rfl rfl ?_
    refine o_callP (eqBytes_fn a30 a33 c30 c33 _ _) rfl rfl rfl (fun w st => ⟨(hS30.rdk (by repeat (first | exact HIn.here | exact HIn.all | exact HIn.one | apply HIn.cons | apply HIn.app))).out w st, (hS33.rdk (by repeat (first | exact HIn.here | exact HIn.all | exact HIn.one | apply HIn.cons | apply HIn.app))).out w st⟩) (fun v34 hv34 => ?_)
    rw [decide_eq_true (applyT_then t u idT)] at hv34
    subst hv34
    refine o_yes rfl rfl ?_
    refine o_step rfl (s_not rfl) ?_
    refine o_step rfl (s_pick_f rfl rfl) ?_
    refine o_nil ?_
    refine x_then (hK12 _ _ ?_)
    refine c_false rfl ?_
    refine c_skip ?_
    refine x_then (hK11 _ _ ?_)
    refine c_seq fun _ hK13 => ?_
    refine c_region ?_
    refine o_step rfl (s_move rfl) ?_
    refine o_call (apply_fn b10 0 _ _ (thenT t u) idT (thenT_len t u)) rfl rfl rfl (by exact .nil) (fun w st => ⟨(RdPK.own (by repeat (first | exact List.mem_cons_self | apply List.mem_cons_of_mem | apply mem_app))).out w st, (hS.rdk (by repeat (first | exact HIn.here | exact HIn.all | exact HIn.one | apply HIn.cons | apply HIn.app))).out w st⟩) (fun v38 S38 ⟨a38, c38, hv38, hS38⟩ => ?_)
    subst hv38
    have hsl38 := hS38.sl
    refine o_step rfl (s_assign rfl) ?_
    refine o_nil ?_
    refine x_then (hK13 _ _ ?_)
    refine c_seq fun _ hK14 => ?_
    refine c_seq fun _ hK15 => ?_
    refine c_region ?_
    refine o_step rfl (s_assign rfl) ?_
    refine o_nil ?_
    refine x_then (hK15 _ _ ?_)
    refine c_block ?_
    -- not carried: 6
    refine c_loopB (fun (j : Nat) => j ≤ (applyT (thenT t u) idT).length) (fun (j : Nat) => [(13, .int .i64 j)]) [(3, _), (5, _), (10, _), (11, _), (12, _)] (fun (j : Nat) => _) (fun (j : Nat) => 256 - j) 0 (Nat.zero_le _) (by repeat (first | exact Sub.nil | refine Sub.cons rfl ?_)) (by repeat (first | exact Sub.nil | refine Sub.cons rfl ?_)) (by repeat (first | exact HSub.refl _ | exact HSub.nil | apply HSub.keep | apply HSub.keeps | apply HSub.skip | apply HSub.skips)) ?_
    rintro j hj
    refine c_seq fun _ hK16 => ?_
    refine c_seq fun _ hK17 => ?_
    refine c_region ?_
    refine o_step rfl (s_move rfl) ?_
    refine o_step rfl (s_move rfl) ?_
    refine o_step rfl (s_len rfl) ?_
    refine o_step rfl (s_lss rfl rfl) ?_
    refine o_nil ?_
    refine x_then (hK17 _ _ ?_)
    refine c_if rfl (fun hlt2 => ?_) (fun hlt2 => ?_)
    · skip
      refine c_skip ?_
      refine x_then (hK16 _ _ ?_)
      refine c_seq fun _ hK18 => ?_
      refine c_block ?_
      refine c_seq fun _ hK19 => ?_
      refine c_quiet (by kernel_rfl) ?_
      refine .op rfl (s_move rfl) ?_
      refine .op rfl (s_lss_t rfl rfl (by omega)) ?_
      refine .op rfl (s_move rfl) ?_
      refine .yes rfl rfl rfl (s_move rfl) ?_
      refine .yes rfl rfl rfl (s_move rfl) ?_
      refine .yes rfl rfl rfl (s_idx rfl rfl (by assumption) (by omega)) ?_
      refine .yes rfl rfl rfl (s_ld rfl ((hS38.rdk (by repeat (first | exact HIn.here | exact HIn.all | exact HIn.one | apply HIn.cons | apply HIn.app))).ld j 0 (at0_get (by omega)) rfl (by decide) (by omega))) ?_
      refine .yes rfl rfl rfl (s_move rfl) ?_
      refine .yes rfl rfl rfl (s_indexA rfl rfl (by omega)) ?_
      refine .yes rfl rfl rfl (s_ld rfl ((RdPK.own (by repeat (first | exact List.mem_cons_self | apply List.mem_cons_of_mem | apply mem_app))).cel (j := j) (flatEb_get (at0_get (by omega))) (by omega))) ?_
      refine .yes rfl rfl rfl (s_neq_f rfl rfl (by rw [at0_apply (by omega), at0_id (by omega)])) ?_
      refine .op rfl (s_pick_t rfl rfl) ?_
      refine .nil ?_
      refine x_then (hK19 _ _ ?_)
      refine c_false rfl ?_
      refine c_skip ?_
      refine x_block ?_
      refine x_then (hK18 _ _ ?_)
      refine c_region ?_
      refine o_step rfl (s_move rfl) ?_
      refine o_step rfl (s_add rfl rfl (by omega)) ?_
      refine o_step rfl (s_assign rfl) ?_
      refine o_nil ?_
      exact x_then (x_inv (j + 1) (by omega) (by first | omega | (dsimp only; omega)) (by repeat (first | exact Sub.nil | refine Sub.cons rfl ?_)) (by repeat (first | exact HSub.refl _ | exact HSub.nil | apply HSub.keep | apply HSub.keeps | apply HSub.skip | apply HSub.skips)))
    · skip
      refine c_exit ?_
      refine x_then_exit ?_
      refine x_then_exit ?_
      refine x_block_exit ?_
      refine x_then (hK14 _ _ ?_)
      refine c_seq fun _ hK20 => ?_
      refine c_region ?_
      refine o_step rfl (s_move rfl) ?_
      refine o_step rfl (s_len rfl) ?_
      refine o_step rfl (s_eql_t rfl rfl (by omega)) ?_
      refine o_step rfl (s_move rfl) ?_
      refine o_yes rfl rfl ?_
      refine o_callP (then_fn b10 0 b5 0 (thenT t u) v htu hv) rfl rfl rfl (fun w st => ⟨(RdPK.own (by repeat (first | exact List.mem_cons_self | apply List.mem_cons_of_mem | apply mem_app))).out w st, (RdPK.own (by repeat (first | exact List.mem_cons_self | apply List.mem_cons_of_mem | apply mem_app))).out w st⟩) (fun v61 hv61 => ?_)
      subst hv61
      refine o_yes rfl rfl ?_
      refine o_callP (then_fn b3 0 b11 0 t (thenT u v) ht huv) rfl rfl rfl (fun w st => ⟨(RdPK.own (by repeat (first | exact List.mem_cons_self | apply List.mem_cons_of_mem | apply mem_app))).out w st, (RdPK.own (by repeat (first | exact List.mem_cons_self | apply List.mem_cons_of_mem | apply mem_app))).out w st⟩) (fun v62 hv62 => ?_)
      subst hv62
      refine o_yes rfl rfl ?_
      refine o_step rfl (step_true (thenT_assoc t u v) (s_eql_tab rfl rfl (thenT_len _ _) (thenT_len _ _))) ?_
      refine o_step rfl (s_pick_t rfl rfl) ?_
      refine o_step rfl (s_assign rfl) ?_
      refine o_nil ?_
      refine x_then (hK20 _ _ ?_)
      refine c_ret ?_
      refine ?_
      exact x_ret rfl (.tmp rfl (.nil)) (rfl)
theorem own : ownKnob Try.prog.godebug = none := by kernel_rfl
theorem laidOut : laidOutB Try.prog = true := by kernel_rfl

theorem tableThen_lifted (os : Os) (started : os.Started) (H : Type) (enc : TypeId × Value → H) :
    ReturnsInHanded {} Try.checked os 6 .any (Rows.tableThenSpec.pre6 enc Try.prog Try.f6 Rows.tableThenRow.domain false) (Rows.tableThenSpec.post enc Try.prog Try.f6 false true false false) := by
  refine lift_law (C := Try.checked) (bt := 4) own started (by kernel_rfl) Try.func6
    (ChangeSpec.witness6 (enc := enc) (C := Try.checked) false ⟨#[], #[.agg (Array.replicate 256 (.int .u8 0)), .agg (Array.replicate 256 (.int .u8 0)), .agg (Array.replicate 256 (.int .u8 0))], []⟩ 8 (by kernel_rfl) (by kernel_rfl) (by kernel_rfl) (by kernel_rfl)) rfl rfl Try.underlying4 laidOut (by kernel_rfl) (fun H ds h => by
      match ds, h with
      | [_, _, _], _ => rfl) ?_
  intro W args ds ps hA hval hsz
  have hA0 : DataW.TrodAll enc Try.prog W 0 (fun _ => true) true [62, 62, 62] args.toList ds ps := hA
  obtain ⟨v0, vs0, d0, ds0, p0, q0, hargs, rfl, rfl, h0, r0⟩ := ChangeShapes.trodAll_cons hA0
  obtain ⟨v1, vs1, d1, ds1, p1, q1, rfl, rfl, rfl, h1, r1⟩ := ChangeShapes.trodAll_cons r0
  obtain ⟨v2, vs2, d2, ds2, p2, q2, rfl, rfl, rfl, h2, r2⟩ := ChangeShapes.trodAll_cons r1
  obtain ⟨rfl, rfl, rfl⟩ := ChangeShapes.trodAll_nil r2
  obtain rfl : args = #[v0, v1, v2] := by cases args; simp_all
  have w0 : ∀ n ∈ DataW.weights Try.prog 62 d0, n ≤ reachBytes := fun n hn => hsz n (DataW.weights_mem_each (ts := [62, 62, 62]) (ds := [d0, d1, d2]) (j := 0) rfl rfl n hn)
  have w1 : ∀ n ∈ DataW.weights Try.prog 62 d1, n ≤ reachBytes := fun n hn => hsz n (DataW.weights_mem_each (ts := [62, 62, 62]) (ds := [d0, d1, d2]) (j := 1) rfl rfl n hn)
  have w2 : ∀ n ∈ DataW.weights Try.prog 62 d2, n ≤ reachBytes := fun n hn => hsz n (DataW.weights_mem_each (ts := [62, 62, 62]) (ds := [d0, d1, d2]) (j := 2) rfl rfl n hn)
  obtain ⟨t, rfl, hl_t, _⟩ := arg_array Try.underlying62 (open_array Try.underlying62 (by kernel_rfl) (by kernel_rfl) (open_u8 Try.underlying5)) (hval 0 62 v0 rfl rfl) h0 w0
  obtain ⟨u, rfl, hl_u, _⟩ := arg_array Try.underlying62 (open_array Try.underlying62 (by kernel_rfl) (by kernel_rfl) (open_u8 Try.underlying5)) (hval 1 62 v1 rfl rfl) h1 w1
  obtain ⟨v, rfl, hl_v, _⟩ := arg_array Try.underlying62 (open_array Try.underlying62 (by kernel_rfl) (by kernel_rfl) (open_u8 Try.underlying5)) (hval 2 62 v2 rfl rfl) h2 w2
  exact (tableThen_fn t u v hl_t hl_u hl_v).calls W trivial (Has.nil W)

theorem tableThen_holds : Rows.TableThenSaid :=
  OpenClaim.holds_of_wide 6 Try.f6 rfl rfl rfl rfl rfl rfl rfl ⟨rfl, rfl, rfl, rfl, rfl⟩ rfl rfl rfl rfl rfl (by kernel_rfl) Try.func6 (by kernel_rfl)
    (of_decide_eq_true (by kernel_rfl)) (by unfold Func.isWrapper; first | (rw [if_pos (by decide +kernel)]; kernel_rfl) | (rw [if_neg (by decide +kernel)]; exact ⟨rfl, rfl⟩))
    (fun os started H enc _ => tableThen_lifted os started H enc)
end Go.Proofs.Ythbnkifjplbhgaa
