/- Proved: the law ChangeSame returns true for all its arguments. Conditions: none. -/
import Derived.Test.YtmpeokbongnniaaYC7Z
import Derived.Test.YtmpeokbongnniaaMK1Z
import Derived.Test.YtmpeokbongnniaaRows
namespace Go.Proofs.Ytmpeokbongnniaa
open Go Go.HL Go.Proofs Go.HL.Kl Go.HL.Kl.Mc
theorem open_nd : Opens Try.prog 85 En (fun _ t => -128 ≤ t.op ∧ t.op < 128) :=
  open_struct6 Try.underlying85 rfl (by kernel_rfl) (by kernel_rfl) (by kernel_rfl) (by kernel_rfl) (by kernel_rfl) (by kernel_rfl) (open_i8 Try.underlying80) (open_cl Try.underlying83 Try.underlying81 (by kernel_rfl) (by kernel_rfl)) (open_i64 Try.underlying3) (open_i64 Try.underlying3) (open_i64 Try.underlying3) (open_i64 Try.underlying3) fun w a b c d e f ha _ _ _ _ _ => ⟨⟨a, b, c, d, e, f⟩, rfl, ha⟩
theorem own : ownKnob Try.prog.godebug = none := by kernel_rfl
theorem laidOut : laidOutB Try.prog = true := by kernel_rfl

theorem changeSame_lifted (os : Os) (started : os.Started) (H : Type) (enc : TypeId × Value → H) :
    ReturnsInHanded {} Try.checked os 3 .any (Rows.changeSameSpec.pre6 enc Try.prog Try.f3 Rows.changeSameRow.domain false) (Rows.changeSameSpec.post enc Try.prog Try.f3 false true false false) := by
  refine lift_law (C := Try.checked) (bt := 4) own started (by kernel_rfl) Try.func3
    (ChangeSpec.witness6 (enc := enc) (C := Try.checked) false ⟨#[], #[.slice none 0 0, .slice none 0 0, .int .i64 0], []⟩ 8 (by kernel_rfl) (by kernel_rfl) (by kernel_rfl) (by kernel_rfl)) rfl rfl Try.underlying4 laidOut (by kernel_rfl) (fun H ds h => by
      match ds, h with
      | [_, _, _], _ => rfl) ?_
  intro W args ds ps hA hval hsz
  have hA0 : DataW.TrodAll enc Try.prog W 0 (fun _ => true) true [22, 23, 3] args.toList ds ps := hA
  obtain ⟨v0, vs0, d0, ds0, p0, q0, hargs, rfl, rfl, h0, r0⟩ := ChangeShapes.trodAll_cons hA0
  obtain ⟨v1, vs1, d1, ds1, p1, q1, rfl, rfl, rfl, h1, r1⟩ := ChangeShapes.trodAll_cons r0
  obtain ⟨v2, vs2, d2, ds2, p2, q2, rfl, rfl, rfl, h2, r2⟩ := ChangeShapes.trodAll_cons r1
  obtain ⟨rfl, rfl, rfl⟩ := ChangeShapes.trodAll_nil r2
  obtain rfl : args = #[v0, v1, v2] := by cases args; simp_all
  have w0 : ∀ n ∈ DataW.weights Try.prog 22 d0, n ≤ reachBytes := fun n hn => hsz n (DataW.weights_mem_each (ts := [22, 23, 3]) (ds := [d0, d1, d2]) (j := 0) rfl rfl n hn)
  have w1 : ∀ n ∈ DataW.weights Try.prog 23 d1, n ≤ reachBytes := fun n hn => hsz n (DataW.weights_mem_each (ts := [22, 23, 3]) (ds := [d0, d1, d2]) (j := 1) rfl rfl n hn)
  have w2 : ∀ n ∈ DataW.weights Try.prog 3 d2, n ≤ reachBytes := fun n hn => hsz n (DataW.weights_mem_each (ts := [22, 23, 3]) (ds := [d0, d1, d2]) (j := 2) rfl rfl n hn)
  obtain ⟨r, rfl, hr_r, hm_r, hb_r⟩ := arg_slice (_E := En) Try.underlying22 (open_slice' Try.underlying22 (by kernel_rfl) (by decide) (of_decide_eq_true (by kernel_rfl)) open_nd) (hval 0 22 v0 rfl rfl) h0 w0
  obtain ⟨x, rfl, hr_x, hm_x, hb_x⟩ := arg_slice (_E := Eb) Try.underlying23 (open_slice' Try.underlying23 (by kernel_rfl) (by decide) (of_decide_eq_true (by kernel_rfl)) (open_u8 Try.underlying5)) (hval 1 23 v1 rfl rfl) h1 w1
  obtain ⟨n, rfl, hi_n⟩ := arg_i64 Try.underlying3 (hval 2 3 v2 rfl rfl) h2 w2
  exact (changeSame_fn r.a r.c r.xs hm_r x.a x.c x.xs n hi_n).calls W ⟨hr_r, hr_x⟩ (Has.nil W)

theorem changeSame_holds : Rows.ChangeSameSaid :=
  OpenClaim.holds_of_wide 3 Try.f3 rfl rfl rfl rfl rfl rfl rfl ⟨rfl, rfl, rfl, rfl, rfl⟩ rfl rfl rfl rfl rfl (by kernel_rfl) Try.func3 (by kernel_rfl)
    (of_decide_eq_true (by kernel_rfl)) (by unfold Func.isWrapper; first | (rw [if_pos (by decide +kernel)]; kernel_rfl) | (rw [if_neg (by decide +kernel)]; exact ⟨rfl, rfl⟩))
    (fun os started H enc _ => changeSame_lifted os started H enc)
end Go.Proofs.Ytmpeokbongnniaa
