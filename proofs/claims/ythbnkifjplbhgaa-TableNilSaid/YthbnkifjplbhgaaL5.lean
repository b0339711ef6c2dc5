/- Proved: the law TableNil returns true for every table and every list of bytes. Conditions: none. -/
import Derived.Test.YthbnkifjplbhgaaW4
import Derived.Test.YthbnkifjplbhgaaHl
import Derived.Test.YthbnkifjplbhgaaRows
namespace Go.Proofs.Ythbnkifjplbhgaa
open Go Go.HL Go.Proofs Go.Tab
theorem tableNil_fn (t : List UInt8) (v : Value) : HL.Fn Try.prog 12 [.agg (flat Eb t).toArray, v] (fun _ => True) [] (fun v _ => v = .bool true) := by
  refine fn_of Try.func12 rfl rfl rfl fun w0 hw => ?_
  refine c_seq fun _ hK1 => ?_
  refine c_region ?_
  refine o_box rfl rfl rfl fun b2 => ?_
  refine o_step rfl (s_assign rfl) ?_
  refine o_nil ?_
  refine x_then (hK1 _ _ ?_)
  refine c_seq fun _ hK2 => ?_
  refine c_region ?_
  refine o_step rfl (s_assign rfl) ?_
  refine o_nil ?_
  refine x_then (hK2 _ _ ?_)
  refine c_seq fun _ hK3 => ?_
  refine c_region ?_
  refine o_step rfl (s_move rfl) ?_
  refine o_callP (print_nil) rfl rfl rfl (fun _ _ => trivial) (fun v11 hv11 => ?_)
  subst hv11
  refine o_step rfl (s_move rfl) ?_
  refine o_step rfl (s_extract rfl rfl) ?_
  refine o_step rfl (s_extract rfl rfl) ?_
  refine o_step rfl (s_assign rfl) ?_
  refine o_step rfl (s_assign rfl) ?_
  refine o_nil ?_
  refine x_then (hK3 _ _ ?_)
  refine c_seq fun _ hK4 => ?_
  refine c_region ?_
  refine o_step rfl (s_build0 rfl) ?_
  refine o_alloc rfl rfl fun b8 => ?_
  refine o_stW rfl rfl (by repeat (first | exact .here | apply Upd.there | apply Upd.skip)) (by first | (rw [flat_len, Nat.mul_one]; first | assumption | exact List.length_replicate) | exact List.length_replicate | rfl) (by first | (rw [flat_len, Nat.mul_one]; first | assumption | exact List.length_replicate) | exact List.length_replicate | rfl) (by first | exact flat_one _ _ | exact one_rep rfl | (simp [Value.oneCell']; done)) ?_
  rw [← flatEb_zeros]
  refine o_nil ?_
  refine x_then (hK4 _ _ ?_)
  refine c_seq fun _ hK5 => ?_
  refine c_quiet (by kernel_rfl) ?_
  refine .op rfl (s_move rfl) ?_
  refine .op rfl (s_move rfl) ?_
  refine .call (fun _ _ => rfl) rfl rfl rfl (apply_nil v) (fun _ _ => trivial) ?_
  refine .op rfl (s_len rfl) ?_
  refine .op rfl (s_eql_t rfl rfl rfl) ?_
  refine .op rfl (s_move rfl) ?_
  refine .yes rfl rfl rfl (s_move rfl) ?_
  refine .yes rfl rfl rfl (s_len rfl) ?_
  refine .yes rfl rfl rfl (s_eql_t rfl rfl rfl) ?_
  refine .op rfl (s_pick_t rfl rfl) ?_
  refine .op rfl (s_move rfl) ?_
  refine .yes rfl rfl rfl (s_move rfl) ?_
  refine .yes rfl rfl rfl (s_len rfl) ?_
  refine .yes rfl rfl rfl (s_eql_t rfl rfl rfl) ?_
  refine .op rfl (s_pick_t rfl rfl) ?_
  refine .op rfl (s_move rfl) ?_
  refine .yes rfl rfl rfl (s_move rfl) ?_
  refine .call (fun _ fr => by rw [wanted_of fr rfl rfl rfl]; rfl) rfl rfl rfl (then_nil1 (some ⟨b2, 0, none⟩)) (fun _ _ => trivial) ?_
  refine .yes rfl rfl rfl (s_ldB rfl (RdPK.cels (.own (by repeat (first | exact List.mem_cons_self | apply List.mem_cons_of_mem | apply mem_app)))) (by first | (rw [flat_len, Nat.mul_one]; first | assumption | exact List.length_replicate) | exact List.length_replicate | rfl)) ?_
  refine .yes rfl rfl rfl (step_true rfl (s_eql_tab (xs := zT) (ys := zT) rfl rfl zT_len zT_len)) ?_
  refine .op rfl (s_pick_t rfl rfl) ?_
  refine .op rfl (s_move rfl) ?_
  refine .yes rfl rfl rfl (s_move rfl) ?_
  refine .call (fun _ fr => by rw [wanted_of fr rfl rfl rfl]; rfl) rfl rfl rfl (then_nil2 ⟨b2, 0, none⟩) (fun _ _ => trivial) ?_
  refine .yes rfl rfl rfl (s_ldB rfl (RdPK.cels (.own (by repeat (first | exact List.mem_cons_self | apply List.mem_cons_of_mem | apply mem_app)))) (by first | (rw [flat_len, Nat.mul_one]; first | assumption | exact List.length_replicate) | exact List.length_replicate | rfl)) ?_
  refine .yes rfl rfl rfl (step_true rfl (s_eql_tab (xs := zT) (ys := zT) rfl rfl zT_len zT_len)) ?_
  refine .op rfl (s_pick_t rfl rfl) ?_
  refine .op rfl (s_move rfl) ?_
  refine .yes rfl rfl rfl (s_move rfl) ?_
  refine .yes rfl rfl rfl (s_move rfl) ?_
  refine .call (fun _ fr => by rw [wanted_of fr rfl rfl rfl]; rfl) rfl rfl rfl (then_nil1 none) (fun _ _ => trivial) ?_
  refine .yes rfl rfl rfl (s_ldB rfl (RdPK.cels (.own (by repeat (first | exact List.mem_cons_self | apply List.mem_cons_of_mem | apply mem_app)))) (by first | (rw [flat_len, Nat.mul_one]; first | assumption | exact List.length_replicate) | exact List.length_replicate | rfl)) ?_
  refine .yes rfl rfl rfl (step_true rfl (s_eql_tab (xs := zT) (ys := zT) rfl rfl zT_len zT_len)) ?_
  refine .op rfl (s_pick_t rfl rfl) ?_
  refine .op rfl (s_move rfl) ?_
  refine .call (fun _ fr => by rw [wanted_of fr rfl rfl rfl]; rfl) rfl rfl rfl (lives_fn) (fun _ _ => trivial) ?_
  refine .op rfl (s_pick_t rfl rfl) ?_
  refine .op rfl (s_assign rfl) ?_
  refine .nil ?_
  refine x_then (hK5 _ _ ?_)
  refine c_ret ?_
  refine ?_
  exact x_ret rfl (.tmp rfl (.nil)) (rfl)
theorem own : ownKnob Try.prog.godebug = none := by kernel_rfl
theorem laidOut : laidOutB Try.prog = true := by kernel_rfl

theorem tableNil_lifted (os : Os) (started : os.Started) (H : Type) (enc : TypeId × Value → H) :
    ReturnsInHanded {} Try.checked os 12 .any (Rows.tableNilSpec.pre6 enc Try.prog Try.f12 Rows.tableNilRow.domain false) (Rows.tableNilSpec.post enc Try.prog Try.f12 false true false false) := by
  refine lift_law (C := Try.checked) (bt := 4) own started (by kernel_rfl) Try.func12
    (ChangeSpec.witness6 (enc := enc) (C := Try.checked) false ⟨#[], #[.agg (Array.replicate 256 (.int .u8 0)), .slice none 0 0], []⟩ 8 (by kernel_rfl) (by kernel_rfl) (by kernel_rfl) (by kernel_rfl)) rfl rfl Try.underlying4 laidOut (by kernel_rfl) (fun H ds h => by
      match ds, h with
      | [_, _], _ => rfl) ?_
  intro W args ds ps hA hval hsz
  have hA0 : DataW.TrodAll enc Try.prog W 0 (fun _ => true) true [62, 35] args.toList ds ps := hA
  obtain ⟨v0, vs0, d0, ds0, p0, q0, hargs, rfl, rfl, h0, r0⟩ := ChangeShapes.trodAll_cons hA0
  obtain ⟨v1, vs1, d1, ds1, p1, q1, rfl, rfl, rfl, h1, r1⟩ := ChangeShapes.trodAll_cons r0
  obtain ⟨rfl, rfl, rfl⟩ := ChangeShapes.trodAll_nil r1
  obtain rfl : args = #[v0, v1] := by cases args; simp_all
  have w0 : ∀ n ∈ DataW.weights Try.prog 62 d0, n ≤ reachBytes := fun n hn => hsz n (DataW.weights_mem_each (ts := [62, 35]) (ds := [d0, d1]) (j := 0) rfl rfl n hn)
  have w1 : ∀ n ∈ DataW.weights Try.prog 35 d1, n ≤ reachBytes := fun n hn => hsz n (DataW.weights_mem_each (ts := [62, 35]) (ds := [d0, d1]) (j := 1) rfl rfl n hn)
  obtain ⟨t, rfl, hl_t, _⟩ := arg_array Try.underlying62 (open_array Try.underlying62 (by kernel_rfl) (by kernel_rfl) (open_u8 Try.underlying5)) (hval 0 62 v0 rfl rfl) h0 w0
  
  exact (tableNil_fn t v1).calls W trivial (Has.nil W)

theorem tableNil_holds : Rows.TableNilSaid :=
  OpenClaim.holds_of_wide 12 Try.f12 rfl rfl rfl rfl rfl rfl rfl ⟨rfl, rfl, rfl, rfl, rfl⟩ rfl rfl rfl rfl rfl (by kernel_rfl) Try.func12 (by kernel_rfl)
    (of_decide_eq_true (by kernel_rfl)) (by unfold Func.isWrapper; first | (rw [if_pos (by decide +kernel)]; kernel_rfl) | (rw [if_neg (by decide +kernel)]; exact ⟨rfl, rfl⟩))
    (fun os started H enc _ => tableNil_lifted os started H enc)
end Go.Proofs.Ythbnkifjplbhgaa
