/- Proved: the law TableParses returns true for all lists of marks. Conditions: none. -/
import Derived.Test.YthbnkifjplbhgaaW12
import Derived.Test.YthbnkifjplbhgaaHl
import Derived.Test.YthbnkifjplbhgaaRows
namespace Go.Proofs.Ythbnkifjplbhgaa
open Go Go.HL Go.Proofs Go.Tab
theorem tableParses_fn (a1 a2 : Option Addr) (c1 c2 : Nat) (l m : List Mk) : HL.Fn Try.prog 13 [.slice a1 l.length c1, .slice a2 m.length c2] (fun w => Rd Em w (.slice a1 l.length c1) l ∧ Rd Em w (.slice a2 m.length c2) m) [] (fun v _ => v = .bool true) := by
  refine fn_of Try.func13 rfl rfl rfl fun w0 hw => ?_
  obtain ⟨h1, h2⟩ := hw
  have hs1 := h1.sl
  have hb1 := hs1.le
  have hs2 := h2.sl
  have hb2 := hs2.le
  have hlq : ((parseR l m).getD zT).length = 256 := parseR_len
  refine c_seq fun _ hK1 => ?_
  refine c_region ?_
  refine o_step rfl (s_assign rfl) ?_
  refine o_nil ?_
  refine x_then (hK1 _ _ ?_)
  refine c_seq fun _ hK2 => ?_
  refine c_seq fun _ hK3 => ?_
  refine c_region ?_
  refine o_step rfl (s_move rfl) ?_
  refine o_step rfl (s_len rfl) ?_
  refine o_callP (long_fn _) rfl rfl rfl (fun _ _ => trivial) (fun v15 hv15 => ?_)
  subst hv15
  by_cases hlf : 2147483647 < (l.length : Int)
  · skip
    refine o_step rfl (step_cast (v' := .bool true) (s_move rfl) (by rw [decide_eq_true hlf])) ?_
    refine o_no rfl rfl rfl rfl ?_
    refine o_no rfl rfl rfl rfl ?_
    refine o_no rfl rfl rfl rfl ?_
    refine o_step rfl (s_pick_t rfl rfl) ?_
    refine o_nil ?_
    refine x_then (hK3 _ _ ?_)
    refine c_true rfl ?_
    refine c_seq fun _ hK4 => ?_
    refine c_region ?_
    refine o_step rfl (s_assign rfl) ?_
    refine o_nil ?_
    refine x_then (hK4 _ _ ?_)
    refine c_ret ?_
    refine x_then_ret (?_)
    exact x_ret rfl (.tmp rfl (.nil)) (rfl)
  · skip
    refine o_step rfl (step_cast (v' := .bool false) (s_move rfl) (by rw [decide_eq_false hlf])) ?_
    refine o_yes rfl rfl ?_
    refine o_step rfl (s_move rfl) ?_
    refine o_yes rfl rfl ?_
    refine o_step rfl (s_len rfl) ?_
    refine o_yes rfl rfl ?_
    refine o_callP (long_fn _) rfl rfl rfl (fun _ _ => trivial) (fun v19 hv19 => ?_)
    subst hv19
    refine o_step rfl (s_pick_f rfl rfl) ?_
    refine o_nil ?_
    refine x_then (hK3 _ _ ?_)
    refine c_if rfl (fun hlt => ?_) (fun hlt => ?_)
    · skip
      refine c_seq fun _ hK5 => ?_
      refine c_region ?_
      refine o_step rfl (s_assign rfl) ?_
      refine o_nil ?_
      refine x_then (hK5 _ _ ?_)
      refine c_ret ?_
      refine x_then_ret (?_)
      exact x_ret rfl (.tmp rfl (.nil)) (rfl)
    · skip
      refine c_skip ?_
      refine x_then (hK2 _ _ ?_)
      refine c_seq fun _ hK6 => ?_
      refine c_region ?_
      refine o_callP (lives_fn) rfl rfl rfl (fun _ _ => trivial) (fun v21 hv21 => ?_)
      subst hv21
      refine o_step rfl (s_assign rfl) ?_
      refine o_nil ?_
      refine x_then (hK6 _ _ ?_)
      refine c_seq fun _ hK7 => ?_
      refine c_region ?_
      refine o_step rfl (s_move rfl) ?_
      refine o_call (wideMarks_fn a1 c1 l (by omega)) rfl rfl rfl (by exact .nil) (fun w st => (RdK.old0 h1).out w st) (fun v23 S23 ⟨ax, hv23, hS23⟩ => ?_)
      subst hv23
      have hX := hS23.pre l.length (by rw [wm_len]; omega)
      rw [wm_take] at hX
      have hslX := hX.sl
      refine o_step rfl (s_assign rfl) ?_
      refine o_nil ?_
      refine x_then (hK7 _ _ ?_)
      refine c_seq fun _ hK8 => ?_
      refine c_region ?_
      refine o_step rfl (s_move rfl) ?_
      refine o_call (wideMarks_fn a2 c2 m (by omega)) rfl rfl rfl (by exact .nil) (fun w st => (RdK.old0 h2).out w st) (fun v25 S25 ⟨ay, hv25, hS25⟩ => ?_)
      subst hv25
      have hY := hS25.pre m.length (by rw [wm_len]; omega)
      rw [wm_take] at hY
      have hslY := hY.sl
      refine o_step rfl (s_assign rfl) ?_
      refine o_nil ?_
      refine x_then (hK8 _ _ ?_)
      refine c_seq fun _ hK9 => ?_
      refine c_region ?_
      refine o_step rfl (s_move rfl) ?_
      refine o_step rfl (s_move rfl) ?_
      refine o_callP (parse_fn ax ay _ _ l m) rfl rfl rfl (fun w st => ⟨(hX.rdk (by repeat (first | exact HIn.here | exact HIn.all | exact HIn.one | apply HIn.cons | apply HIn.app))).out w st, (hY.rdk (by repeat (first | exact HIn.here | exact HIn.all | exact HIn.one | apply HIn.cons | apply HIn.app))).out w st⟩) (fun v29 hv29 => ?_)
      subst hv29
      refine o_step rfl (s_move rfl) ?_
      refine o_step rfl (s_extract rfl rfl) ?_
      refine o_step rfl (s_extract rfl rfl) ?_
      refine o_alloc rfl rfl fun b8 => ?_
      refine o_stW rfl rfl (by repeat (first | exact .here | apply Upd.there | apply Upd.skip)) (by first | (rw [flat_len, Nat.mul_one]; first | assumption | exact List.length_replicate) | exact List.length_replicate | rfl) (by first | (rw [flat_len, Nat.mul_one]; first | assumption | exact List.length_replicate) | exact List.length_replicate | rfl) (by first | exact flat_one _ _ | exact one_rep rfl | (simp [Value.oneCell']; done)) ?_
      refine o_step rfl (s_assign rfl) ?_
      refine o_nil ?_
      refine x_then (hK9 _ _ ?_)
      refine c_seq fun _ hK10 => ?_
      refine c_region ?_
      refine o_step rfl (s_move rfl) ?_
      refine o_step rfl (s_move rfl) ?_
      refine o_callP (refParse_fn a1 a2 c1 c2 l m) rfl rfl rfl (fun w st => ⟨(RdK.old0 h1).out w st, (RdK.old0 h2).out w st⟩) (fun v35 hv35 => ?_)
      subst hv35
      refine o_step rfl (s_move rfl) ?_
      refine o_step rfl (s_extract rfl rfl) ?_
      refine o_step rfl (s_extract rfl rfl) ?_
      refine o_alloc rfl rfl fun b10 => ?_
      refine o_stW rfl rfl (by repeat (first | exact .here | apply Upd.there | apply Upd.skip)) (by first | (rw [flat_len, Nat.mul_one]; first | assumption | exact List.length_replicate) | exact List.length_replicate | rfl) (by first | (rw [flat_len, Nat.mul_one]; first | assumption | exact List.length_replicate) | exact List.length_replicate | rfl) (by first | exact flat_one _ _ | exact one_rep rfl | (simp [Value.oneCell']; done)) ?_
      refine o_step rfl (s_assign rfl) ?_
      refine o_nil ?_
      refine x_then (hK10 _ _ ?_)
      refine c_seq fun _ hK11 => ?_
      refine c_region ?_
      refine o_step rfl (s_move rfl) ?_
      refine o_step rfl (s_move rfl) ?_
      refine o_callP (eqMarks_fn ax a1 _ c1 l l) rfl rfl rfl (fun w st => ⟨(hX.rdk (by repeat (first | exact HIn.here | exact HIn.all | exact HIn.one | apply HIn.cons | apply HIn.app))).out w st, (RdK.old0 h1).out w st⟩) (fun v40 hv40 => ?_)
      rw [decide_eq_true rfl] at hv40
      subst hv40
      refine o_step rfl (s_move rfl) ?_
      refine o_yes rfl rfl ?_
      refine o_step rfl (s_move rfl) ?_
      refine o_yes rfl rfl ?_
      refine o_step rfl (s_move rfl) ?_
      refine o_yes rfl rfl ?_
      refine o_callP (eqMarks_fn ay a2 _ c2 m m) rfl rfl rfl (fun w st => ⟨(hY.rdk (by repeat (first | exact HIn.here | exact HIn.all | exact HIn.one | apply HIn.cons | apply HIn.app))).out w st, (RdK.old0 h2).out w st⟩) (fun v44 hv44 => ?_)
      rw [decide_eq_true rfl] at hv44
      subst hv44
      refine o_step rfl (s_pick_t rfl rfl) ?_
      refine o_step rfl (s_move rfl) ?_
      refine o_yes rfl rfl ?_
      refine o_step rfl (s_move rfl) ?_
      refine o_yes rfl rfl ?_
      refine o_callP (spareMarks_fn ax _ l (by omega)) rfl rfl rfl (fun w st => (hS23.rdk (by repeat (first | exact HIn.here | exact HIn.all | exact HIn.one | apply HIn.cons | apply HIn.app))).out w st) (fun v48 hv48 => ?_)
      subst hv48
      refine o_step rfl (s_pick_t rfl rfl) ?_
      refine o_step rfl (s_move rfl) ?_
      refine o_yes rfl rfl ?_
      refine o_step rfl (s_move rfl) ?_
      refine o_yes rfl rfl ?_
      refine o_callP (spareMarks_fn ay _ m (by omega)) rfl rfl rfl (fun w st => (hS25.rdk (by repeat (first | exact HIn.here | exact HIn.all | exact HIn.one | apply HIn.cons | apply HIn.app))).out w st) (fun v52 hv52 => ?_)
      subst hv52
      refine o_step rfl (s_pick_t rfl rfl) ?_
      refine o_step rfl (s_assign rfl) ?_
      refine o_nil ?_
      refine x_then (hK11 _ _ ?_)
      refine c_seq fun _ hK12 => ?_
      refine c_region ?_
      refine o_step rfl (s_move rfl) ?_
      refine o_step rfl (s_move rfl) ?_
      refine o_yes rfl rfl ?_
      refine o_step rfl (s_move rfl) ?_
      refine o_yes rfl rfl ?_
      refine o_step rfl (s_move rfl) ?_
      refine o_yes rfl rfl ?_
      refine o_step rfl (s_eql_t rfl rfl rfl) ?_
      refine o_step rfl (s_pick_t rfl rfl) ?_
      refine o_step rfl (s_move rfl) ?_
      refine o_yes rfl rfl ?_
      refine o_step rfl (s_ldB rfl (RdPK.cels (.own (by repeat (first | exact List.mem_cons_self | apply List.mem_cons_of_mem | apply mem_app)))) (by first | (rw [flat_len, Nat.mul_one]; first | assumption | exact List.length_replicate) | exact List.length_replicate | rfl)) ?_
      refine o_yes rfl rfl ?_
      refine o_step rfl (s_ldB rfl (RdPK.cels (.own (by repeat (first | exact List.mem_cons_self | apply List.mem_cons_of_mem | apply mem_app)))) (by first | (rw [flat_len, Nat.mul_one]; first | assumption | exact List.length_replicate) | exact List.length_replicate | rfl)) ?_
      refine o_yes rfl rfl ?_
      refine o_step rfl (step_true rfl (s_eql_tab rfl rfl hlq hlq)) ?_
      refine o_step rfl (s_pick_t rfl rfl) ?_
      refine o_step rfl (s_move rfl) ?_
      refine o_yes rfl rfl ?_
      refine o_step rfl (s_move rfl) ?_
      refine o_step rfl (s_pick_t rfl rfl) ?_
      refine o_step rfl (s_assign rfl) ?_
      refine o_nil ?_
      refine x_then (hK12 _ _ ?_)
      refine c_ret ?_
      refine ?_
      exact x_ret rfl (.tmp rfl (.nil)) (rfl)

theorem open_mark : Opens Try.prog 115 Em (fun _ _ => True) :=
  open_struct2 Try.underlying115 rfl (by kernel_rfl) (by kernel_rfl) (open_u8 Try.underlying5) (open_bool' Try.underlying4) fun _ b p _ _ => ⟨⟨b, p⟩, rfl, trivial⟩
theorem own : ownKnob Try.prog.godebug = none := by kernel_rfl
theorem laidOut : laidOutB Try.prog = true := by kernel_rfl

theorem tableParses_lifted (os : Os) (started : os.Started) (H : Type) (enc : TypeId × Value → H) :
    ReturnsInHanded {} Try.checked os 13 .any (Rows.tableParsesSpec.pre6 enc Try.prog Try.f13 Rows.tableParsesRow.domain false) (Rows.tableParsesSpec.post enc Try.prog Try.f13 false true false false) := by
  refine lift_law (C := Try.checked) (bt := 4) own started (by kernel_rfl) Try.func13
    (ChangeSpec.witness6 (enc := enc) (C := Try.checked) false ⟨#[], #[.slice none 0 0, .slice none 0 0], []⟩ 8 (by kernel_rfl) (by kernel_rfl) (by kernel_rfl) (by kernel_rfl)) rfl rfl Try.underlying4 laidOut (by kernel_rfl) (fun H ds h => by
      match ds, h with
      | [_, _], _ => rfl) ?_
  intro W args ds ps hA hval hsz
  have hA0 : DataW.TrodAll enc Try.prog W 0 (fun _ => true) true [97, 97] args.toList ds ps := hA
  obtain ⟨v0, vs0, d0, ds0, p0, q0, hargs, rfl, rfl, h0, r0⟩ := ChangeShapes.trodAll_cons hA0
  obtain ⟨v1, vs1, d1, ds1, p1, q1, rfl, rfl, rfl, h1, r1⟩ := ChangeShapes.trodAll_cons r0
  obtain ⟨rfl, rfl, rfl⟩ := ChangeShapes.trodAll_nil r1
  obtain rfl : args = #[v0, v1] := by cases args; simp_all
  have w0 : ∀ n ∈ DataW.weights Try.prog 97 d0, n ≤ reachBytes := fun n hn => hsz n (DataW.weights_mem_each (ts := [97, 97]) (ds := [d0, d1]) (j := 0) rfl rfl n hn)
  have w1 : ∀ n ∈ DataW.weights Try.prog 97 d1, n ≤ reachBytes := fun n hn => hsz n (DataW.weights_mem_each (ts := [97, 97]) (ds := [d0, d1]) (j := 1) rfl rfl n hn)
  obtain ⟨f, rfl, hr_f, _, hb_f⟩ := arg_slice (E := Em) Try.underlying97 (open_slice' (E := Em) Try.underlying97 (by kernel_rfl) (by decide) (of_decide_eq_true (by kernel_rfl)) open_mark) (hval 0 97 v0 rfl rfl) h0 w0
  obtain ⟨t, rfl, hr_t, _, hb_t⟩ := arg_slice (E := Em) Try.underlying97 (open_slice' (E := Em) Try.underlying97 (by kernel_rfl) (by decide) (of_decide_eq_true (by kernel_rfl)) open_mark) (hval 1 97 v1 rfl rfl) h1 w1
  exact (tableParses_fn f.a t.a f.c t.c f.xs t.xs).calls W ⟨hr_f, hr_t⟩ (Has.nil W)

theorem tableParses_holds : Rows.TableParsesSaid :=
  OpenClaim.holds_of_wide 13 Try.f13 rfl rfl rfl rfl rfl rfl rfl ⟨rfl, rfl, rfl, rfl, rfl⟩ rfl rfl rfl rfl rfl (by kernel_rfl) Try.func13 (by kernel_rfl)
    (of_decide_eq_true (by kernel_rfl)) (by unfold Func.isWrapper; first | (rw [if_pos (by decide +kernel)]; kernel_rfl) | (rw [if_neg (by decide +kernel)]; exact ⟨rfl, rfl⟩))
    (fun os started H enc _ => tableParses_lifted os started H enc)
end Go.Proofs.Ythbnkifjplbhgaa
