/- Proved: the law OutsNone returns true for all its arguments. Conditions: none. -/
import Derived.Test.YthbnkifjplbhgaaW18
import Derived.Test.YthbnkifjplbhgaaHl
import Derived.Test.YthbnkifjplbhgaaRows
namespace Go.Proofs.Ythbnkifjplbhgaa
open Go Go.HL Go.Proofs Go.Tab
theorem own : ownKnob Try.prog.godebug = none := by kernel_rfl
theorem laidOut : laidOutB Try.prog = true := by kernel_rfl

theorem outsNone_lifted (os : Os) (started : os.Started) (H : Type) (enc : TypeId × Value → H) :
    ReturnsInHanded {} Try.checked os 8 .any (Rows.outsNoneSpec.pre6 enc Try.prog Try.f8 Rows.outsNoneRow.domain false) (Rows.outsNoneSpec.post enc Try.prog Try.f8 false true false false) := by
  refine lift_law (C := Try.checked) (bt := 4) own started (by kernel_rfl) Try.func8
    (ChangeSpec.witness6 (enc := enc) (C := Try.checked) false ⟨#[], #[.slice none 0 0], []⟩ 8 (by kernel_rfl) (by kernel_rfl) (by kernel_rfl) (by kernel_rfl)) rfl rfl Try.underlying4 laidOut (by kernel_rfl) (fun H ds h => by
      match ds, h with
      | [_], _ => rfl) ?_
  intro W args ds ps hA hval hsz
  have hA0 : DataW.TrodAll enc Try.prog W 0 (fun _ => true) true [29] args.toList ds ps := hA
  obtain ⟨v0, vs0, d0, ds0, p0, q0, hargs, rfl, rfl, h0, r0⟩ := ChangeShapes.trodAll_cons hA0
  obtain ⟨rfl, rfl, rfl⟩ := ChangeShapes.trodAll_nil r0
  obtain rfl : args = #[v0] := by cases args; simp_all
  have w0 : ∀ n ∈ DataW.weights Try.prog 29 d0, n ≤ reachBytes := fun n hn => hsz n (DataW.weights_mem_each (ts := [29]) (ds := [d0]) (j := 0) rfl rfl n hn)
  obtain ⟨p, rfl, hr_p, hm_p, hb_p⟩ := arg_slice (E := Esl) Try.underlying29 (open_slice' (E := Esl) Try.underlying29 (by kernel_rfl) (by decide) (of_decide_eq_true (by kernel_rfl)) (open_slice' Try.underlying35 (by kernel_rfl) (by decide) (of_decide_eq_true (by kernel_rfl)) (open_u8 Try.underlying5))) (hval 0 29 v0 rfl rfl) h0 w0
  have h24 : Try.prog.bytesOf 35 = 24 := by kernel_rfl
  rw [h24] at hb_p
  exact (outsNone_fn p.a p.c p.xs (by omega)).calls W ⟨hr_p, fun s hs => (hm_p s hs).1⟩ (Has.nil W)

theorem outsNone_holds : Rows.OutsNoneSaid :=
  OpenClaim.holds_of_wide 8 Try.f8 rfl rfl rfl rfl rfl rfl rfl ⟨rfl, rfl, rfl, rfl, rfl⟩ rfl rfl rfl rfl rfl (by kernel_rfl) Try.func8 (by kernel_rfl)
    (of_decide_eq_true (by kernel_rfl)) (by unfold Func.isWrapper; first | (rw [if_pos (by decide +kernel)]; kernel_rfl) | (rw [if_neg (by decide +kernel)]; exact ⟨rfl, rfl⟩))
    (fun os started H enc _ => outsNone_lifted os started H enc)
end Go.Proofs.Ythbnkifjplbhgaa
