/- Proved: the law MachineShapes returns true for all its arguments. Conditions: none. -/
import Derived.Test.YtihbhlgognpmmaaNW18
import Derived.Test.YtihbhlgognpmmaaMO
import Derived.Test.YtihbhlgognpmmaaRows
namespace Go.Proofs.Ytihbhlgognpmmaa
open Go Go.HL Go.Proofs Go.HL.Kl Go.HL.Kl.Mc
theorem open_in : Opens Try.prog 60 Ein (fun _ t => -128 ≤ t.op ∧ t.op < 128) :=
  open_struct4 Try.underlying60 rfl (by kernel_rfl) (by kernel_rfl) (by kernel_rfl) (by kernel_rfl) (open_i8 Try.underlying41) (open_cl Try.underlying44 Try.underlying42 (by kernel_rfl) (by kernel_rfl)) (open_i64 Try.underlying3) (open_i64 Try.underlying3) fun w a b c d ha _ _ _ => ⟨⟨a, b, c, d⟩, rfl, ha⟩
theorem own : ownKnob Try.prog.godebug = none := by kernel_rfl
theorem laidOut : laidOutB Try.prog = true := by kernel_rfl

theorem machineShapes_lifted (os : Os) (started : os.Started) (H : Type) (enc : TypeId × Value → H) :
    ReturnsInHanded {} Try.checked os 4 .any (Rows.machineShapesSpec.pre6 enc Try.prog Try.f4 Rows.machineShapesRow.domain false) (Rows.machineShapesSpec.post enc Try.prog Try.f4 false true false false) := by
  refine lift_law (C := Try.checked) (bt := 4) own started (by kernel_rfl) Try.func4
    (ChangeSpec.witness6 (enc := enc) (C := Try.checked) false ⟨#[], #[.slice none 0 0], []⟩ 8 (by kernel_rfl) (by kernel_rfl) (by kernel_rfl) (by kernel_rfl)) rfl rfl Try.underlying4 laidOut (by kernel_rfl) (fun H ds h => by
      match ds, h with
      | [_], _ => rfl) ?_
  intro W args ds ps hA hval hsz
  have hA0 : DataW.TrodAll enc Try.prog W 0 (fun _ => true) true [27] args.toList ds ps := hA
  obtain ⟨v0, vs0, d0, ds0, p0, q0, hargs, rfl, rfl, h0, r0⟩ := ChangeShapes.trodAll_cons hA0
  obtain ⟨rfl, rfl, rfl⟩ := ChangeShapes.trodAll_nil r0
  obtain rfl : args = #[v0] := by cases args; simp_all
  have w0 : ∀ n ∈ DataW.weights Try.prog 27 d0, n ≤ reachBytes := fun n hn => hsz n (DataW.weights_mem_each (ts := [27]) (ds := [d0]) (j := 0) rfl rfl n hn)
  obtain ⟨m, rfl, hr_m, hm_m, hb_m⟩ := arg_slice (_E := Ein) Try.underlying27 (open_slice' Try.underlying27 (by kernel_rfl) (by decide) (of_decide_eq_true (by kernel_rfl)) open_in) (hval 0 27 v0 rfl rfl) h0 w0
  exact (machineShapes_fn m.a m.c m.xs hm_m).calls W hr_m (Has.nil W)

theorem machineShapes_holds : Rows.MachineShapesSaid :=
  OpenClaim.holds_of_wide 4 Try.f4 rfl rfl rfl rfl rfl rfl rfl ⟨rfl, rfl, rfl, rfl, rfl⟩ rfl rfl rfl rfl rfl (by kernel_rfl) Try.func4 (by kernel_rfl)
    (of_decide_eq_true (by kernel_rfl)) (by unfold Func.isWrapper; first | (rw [if_pos (by decide +kernel)]; kernel_rfl) | (rw [if_neg (by decide +kernel)]; exact ⟨rfl, rfl⟩))
    (fun os started H enc _ => machineShapes_lifted os started H enc)
end Go.Proofs.Ytihbhlgognpmmaa
