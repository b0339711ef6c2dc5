/- Proved: the tied card of the law QueueFlushes in its second form: true for all its arguments. Conditions: the bulk of what it reads is at most 1048576. -/
import Derived.Test.YtmmajabfmhipeaaDoorFQ1
import Derived.Test.YtmmajabfmhipeaaDoorFUPZ
import Derived.Test.YtmmajabfmhipeaaDoorHlB
import Derived.Test.YtmmajabfmhipeaaDoorCards
import Derived.Test.YtmmajabfmhipeaaDoorTie
namespace Go.Proofs.YtmmajabfmhipeaaDoor
open Go Go.HL Go.Proofs Go.Tab
theorem open_opq : OpensU Tryd.prog 48 Eopq (fun w o => Rd Eb w o.b.v o.b.xs ∧ o.b.xs.length ≤ 1048576 ∧ o.n.size ≤ 140737488351232) :=
  openU_struct6 Tryd.underlying48 rfl (by kernel_rfl) (by kernel_rfl) (by kernel_rfl) (by kernel_rfl) (by kernel_rfl) (by kernel_rfl) (opensU (open_i64 Tryd.underlying3)) (openU_slice Tryd.underlying40 (by kernel_rfl) (by decide) (of_decide_eq_true (by kernel_rfl)) (opensU (open_u8 Tryd.underlying5))) (opensU (open_str Tryd.underlying9)) (opensU (open_i64 Tryd.underlying3)) (opensU (open_i64 Tryd.underlying39)) (opensU (open_i64 Tryd.underlying3))
    fun w a b c d e f _ hb hc _ _ _ => ⟨⟨a, b, c, d, e, f⟩, rfl, hb.1, hb.2.2, hc⟩
theorem door_metQ (os : Os) (args : Array Value) : laidMetH Tryd.prog Rows.queueFlushesUptoRow.laid ((World.doorLaid Tryd.prog 400 os).forCall (fun _ _ => 0) ⟨#[], args, []⟩).memory :=
  laidMetH_of_parts3 (fuel := 8) (laidMet_of_run' 8 (by kernel_rfl) (by kernel_rfl)) (by kernel_rfl) (by kernel_rfl)
theorem witQ (os : Os) {H : Type} (enc : TypeId × Value → H) : ∃ (w : World) (tape : Tape) (i : Input), w.os = os ∧ (w.forCall tape i).Shaped Tryd.prog ∧ i.vars = [] ∧ Input.okWide Tryd.prog (w.forCall tape i) .any w.heap.size 3 i ∧
      (((Rows.OpenSpec.upto Rows.queueFlushesSpec).pre enc Tryd.prog Tryd.f3 [] false (w.forCall tape i).memory i.args ∧ laidMetH Tryd.prog Rows.queueFlushesUptoRow.laid (w.forCall tape i).memory) ∧ sizedMet enc Tryd.prog Tryd.f3 (Rows.OpenSpec.upto Rows.queueFlushesSpec) false (w.forCall tape i).memory i.args) ∧ ({} : Assume).holds Tryd.prog (lone (Frame.enter Tryd.prog 3 i.args .normal) [] (w.forCall tape i)) :=
  ⟨World.doorLaid Tryd.prog 400 os, fun _ _ => 0, ⟨#[], #[.slice none 0 0, .slice none 0 0], []⟩, rfl, World.shaped_of_RefB (by kernel_rfl) (by kernel_rfl), rfl, (Input.okWide_of_okWideB (by kernel_rfl)).2,
    ⟨⟨(OpenSpec.pre_some (k := Rows.uptoSmall) rfl [] false _ _).2 ⟨[.nil, .nil], [], [], DataW.Whole_of_whole (fuel := 8) (x := ([.nil, .nil], [], [])) (by kernel_rfl), rfl, by kernel_rfl⟩, door_metQ os _⟩, sizedMet_of_sizedB (s := (Rows.OpenSpec.upto Rows.queueFlushesSpec).bare) (fuel := 8) (by kernel_rfl)⟩, by
    simp only [Assume.holds]
    exact ⟨by simp, by simp, fun _ => Modest.zero, by simp, by simp⟩⟩
theorem queueFlushes_lifted (os : Os) (started : os.Started) (H : Type) (enc : TypeId × Value → H) (F : Stop.Interp) :
    ReturnsInHanded {} Tryd.checked os 3 .any (fun w args => ((Rows.OpenSpec.upto Rows.queueFlushesSpec).pre enc Tryd.prog Tryd.f3 [] false w args ∧ laidMetH Tryd.prog Rows.queueFlushesUptoRow.laid w) ∧ sizedMet enc Tryd.prog Tryd.f3 (Rows.OpenSpec.upto Rows.queueFlushesSpec) false w args) (((Rows.OpenSpec.upto Rows.queueFlushesSpec).at F).post enc Tryd.prog Tryd.f3 false true false false) := by
  refine lift_lawDU (C := Tryd.checked) (bt := 4) own started (by kernel_rfl) Tryd.func3 (witQ os enc) rfl rfl Tryd.underlying4 laidOut (by kernel_rfl) (fun H ds h => by
      match ds, h with
      | [_, _], _ => rfl) ?_
  intro W args ds ps hA hval hsz hB
  have hA0 : DataW.TrodAll enc Tryd.prog W 0 (fun _ => true) true [22, 22] args.toList ds ps := hA
  obtain ⟨v0, vs0, d0, ds0, p0, q0, hargs, rfl, rfl, h0, r0⟩ := ChangeShapes.trodAll_cons hA0
  obtain ⟨v1, vs1, d1, ds1, p1, q1, rfl, rfl, rfl, h1, r1⟩ := ChangeShapes.trodAll_cons r0
  obtain ⟨rfl, rfl, rfl⟩ := ChangeShapes.trodAll_nil r1
  obtain rfl : args = #[v0, v1] := by cases args; simp_all
  simp only [Rows.uptoBulkAll] at hB
  have w0 : ∀ n ∈ DataW.weights Tryd.prog 22 d0, n ≤ reachBytes := fun n hn => hsz n (DataW.weights_mem_each (ts := [22, 22]) (ds := [d0, d1]) (j := 0) rfl rfl n hn)
  have w1 : ∀ n ∈ DataW.weights Tryd.prog 22 d1, n ≤ reachBytes := fun n hn => hsz n (DataW.weights_mem_each (ts := [22, 22]) (ds := [d0, d1]) (j := 1) rfl rfl n hn)
  obtain ⟨t, rfl, hr_t, hm_t, hb_t⟩ := argU_slice Tryd.underlying22 (openU_slice (E := Eopq) Tryd.underlying22 (by kernel_rfl) (by decide) (of_decide_eq_true (by kernel_rfl)) open_opq) (hval 0 22 v0 rfl rfl) h0 w0 (by omega)
  obtain ⟨u, rfl, hr_u, hm_u, hb_u⟩ := argU_slice Tryd.underlying22 (openU_slice (E := Eopq) Tryd.underlying22 (by kernel_rfl) (by decide) (of_decide_eq_true (by kernel_rfl)) open_opq) (hval 1 22 v1 rfl rfl) h1 w1 (by omega)
  exact (queueFlushes_fn t.a u.a t.c u.c t.xs u.xs hb_t hb_u (fun o ho => ⟨(hm_t o ho).2.1, by have := (hm_t o ho).2.2; omega⟩) (fun o ho => ⟨(hm_u o ho).2.1, by have := (hm_u o ho).2.2; omega⟩)).calls W ⟨⟨hr_t, fun o ho => (hm_t o ho).1⟩, hr_u, fun o ho => (hm_u o ho).1⟩ (Has.nil W)
theorem queueFlushes_row : Rows.queueFlushesUptoRow.holds Tryd.pinned (Rows.OpenSpec.upto Rows.queueFlushesSpec) :=
  OpenClaim.holds_of_cond 3 Tryd.f3 rfl rfl rfl rfl rfl rfl rfl ⟨rfl, rfl, rfl, rfl, rfl⟩ rfl rfl rfl rfl rfl (by kernel_rfl) Tryd.func3 (by kernel_rfl)
    (of_decide_eq_true (by kernel_rfl)) (by unfold Func.isWrapper; first | (rw [if_pos (by decide +kernel)]; kernel_rfl) | (rw [if_neg (by decide +kernel)]; exact ⟨rfl, rfl⟩))
    (fun os started H enc _ F => queueFlushes_lifted os started H enc F)
theorem queueFlushes_card : Rows.QueueFlushesUptoCardSaid :=
  Claim7.holds_tied_plain_at .later [] [.data, .data, .data] true (true, "a1e9cc4ff49264685d1c086b7a48f077db6c24a826a16b98b2d990d39b6102d4") true
    queueFlushes_row (fun _ h => by cases h) (by kernel_rfl) (fun _ h => by cases h) queueFlushesUpto_row_tie rfl ⟨rfl, rfl⟩ (by kernel_rfl) rfl
    (fun f fn hf hfn => by
      obtain rfl : f = 3 := Option.some.inj ((show Tryd.prog.funcNamed "galley/galleylaw24.QueueFlushes" = some 3 by kernel_rfl).symm.trans hf) |>.symm
      obtain rfl : fn = Tryd.f3 := (Option.some.inj (Tryd.func3.symm.trans hfn)).symm
      exact ⟨by kernel_rfl, fun j t ht => by
        have hm : t ∈ Tryd.f3.params.toList := List.mem_of_getElem? (by rw [Array.getElem?_toList]; exact ht)
        have hp : Tryd.f3.params.toList = [22, 22] := rfl
        rw [hp] at hm
        simp only [List.mem_cons, List.not_mem_nil, or_false] at hm
        rcases hm with rfl | rfl
        · exact (show Tryd.prog.wantsStandIn 22 = false by kernel_rfl)
        · exact (show Tryd.prog.wantsStandIn 22 = false by kernel_rfl)⟩)
    (by kernel_rfl)
end Go.Proofs.YtmmajabfmhipeaaDoor
