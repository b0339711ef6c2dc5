/- Proved: the law QueueOrder returns true for all its arguments. Conditions: the bulk of what it reads is at most 1048576. -/
import Derived.Test.YthbnkifjplbhgaaW31
import Derived.Test.YthbnkifjplbhgaaUP
import Derived.Test.YthbnkifjplbhgaaHlB
import Derived.Test.YthbnkifjplbhgaaRows
namespace Go.Proofs.Ythbnkifjplbhgaa
open Go Go.HL Go.Proofs Go.Tab
theorem open_opq : OpensU Try.prog 42 Eopq (fun w o => Rd Eb w o.b.v o.b.xs ∧ o.b.xs.length ≤ 1048576 ∧ o.n.size ≤ 140737488351232) :=
  openU_struct6 Try.underlying42 rfl (by kernel_rfl) (by kernel_rfl) (by kernel_rfl) (by kernel_rfl) (by kernel_rfl) (by kernel_rfl) (opensU (open_i64 Try.underlying3)) (openU_slice Try.underlying35 (by kernel_rfl) (by decide) (of_decide_eq_true (by kernel_rfl)) (opensU (open_u8 Try.underlying5))) (opensU (open_str Try.underlying9)) (opensU (open_i64 Try.underlying3)) (opensU (open_i64 Try.underlying28)) (opensU (open_i64 Try.underlying3))
    fun w a b c d e f _ hb hc _ _ _ => ⟨⟨a, b, c, d, e, f⟩, rfl, hb.1, hb.2.2, hc⟩
theorem own : ownKnob Try.prog.godebug = none := by kernel_rfl
theorem laidOut : laidOutB Try.prog = true := by kernel_rfl

theorem queueOrder_lifted (os : Os) (started : os.Started) (H : Type) (enc : TypeId × Value → H) (F : Stop.Interp) :
    ReturnsInHanded {} Try.checked os 3 .any ((Rows.OpenSpec.upto Rows.queueOrderSpec).pre6 enc Try.prog Try.f3 Rows.queueOrderUptoRow.domain false) (((Rows.OpenSpec.upto Rows.queueOrderSpec).at F).post enc Try.prog Try.f3 false true false false) := by
  refine lift_lawU (C := Try.checked) (bt := 4) own started (by kernel_rfl) Try.func3
    (OpenSpec.witness (enc := enc) (C := Try.checked) (s := Rows.OpenSpec.upto Rows.queueOrderSpec) (k := Rows.uptoSmall) rfl false ⟨#[], #[.slice none 0 0, .int .i64 0], []⟩ 8 (by kernel_rfl) (by kernel_rfl) (by kernel_rfl)
      (x := ([.nil, .lit (.int .i64 0)], [], [])) (by kernel_rfl) rfl (by kernel_rfl)) rfl rfl Try.underlying4 laidOut (by kernel_rfl) (fun H ds h => by
      match ds, h with
      | [_, _], _ => rfl) ?_
  intro W args ds ps hA hval hsz hB
  have hA0 : DataW.TrodAll enc Try.prog W 0 (fun _ => true) true [22, 3] args.toList ds ps := hA
  obtain ⟨v0, vs0, d0, ds0, p0, q0, hargs, rfl, rfl, h0, r0⟩ := ChangeShapes.trodAll_cons hA0
  obtain ⟨v1, vs1, d1, ds1, p1, q1, rfl, rfl, rfl, h1, r1⟩ := ChangeShapes.trodAll_cons r0
  obtain ⟨rfl, rfl, rfl⟩ := ChangeShapes.trodAll_nil r1
  obtain rfl : args = #[v0, v1] := by cases args; simp_all
  simp only [Rows.uptoBulkAll] at hB
  have w0 : ∀ n ∈ DataW.weights Try.prog 22 d0, n ≤ reachBytes := fun n hn => hsz n (DataW.weights_mem_each (ts := [22, 3]) (ds := [d0, d1]) (j := 0) rfl rfl n hn)
  have w1 : ∀ n ∈ DataW.weights Try.prog 3 d1, n ≤ reachBytes := fun n hn => hsz n (DataW.weights_mem_each (ts := [22, 3]) (ds := [d0, d1]) (j := 1) rfl rfl n hn)
  obtain ⟨t, rfl, hr_t, hm_t, hb_t⟩ := argU_slice Try.underlying22 (openU_slice (E := Eopq) Try.underlying22 (by kernel_rfl) (by decide) (of_decide_eq_true (by kernel_rfl)) open_opq) (hval 0 22 v0 rfl rfl) h0 w0 (by omega)
  obtain ⟨n, rfl, _⟩ := arg_i64 Try.underlying3 (hval 1 3 v1 rfl rfl) h1 w1
  exact (queueOrder_fn t.a t.c t.xs n hb_t (fun o ho => ⟨(hm_t o ho).2.1, by have := (hm_t o ho).2.2; omega⟩)).calls W ⟨hr_t, fun o ho => (hm_t o ho).1⟩ (Has.nil W)

theorem queueOrder_holds : Rows.QueueOrderUptoSaid :=
  OpenClaim.holds_of_cond 3 Try.f3 rfl rfl rfl rfl rfl rfl rfl ⟨rfl, rfl, rfl, rfl, rfl⟩ rfl rfl rfl rfl rfl (by kernel_rfl) Try.func3 (by kernel_rfl)
    (of_decide_eq_true (by kernel_rfl)) (by unfold Func.isWrapper; first | (rw [if_pos (by decide +kernel)]; kernel_rfl) | (rw [if_neg (by decide +kernel)]; exact ⟨rfl, rfl⟩))
    (fun os started H enc _ F => queueOrder_lifted os started H enc F)
end Go.Proofs.Ythbnkifjplbhgaa
