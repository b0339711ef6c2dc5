/- Proved: the law OutsGathers returns true for all its arguments. Conditions: the bulk of what it reads is at most 1048576. -/
import Derived.Test.YthbnkifjplbhgaaW32
import Derived.Test.YthbnkifjplbhgaaUP
import Derived.Test.YthbnkifjplbhgaaHlB
import Derived.Test.YthbnkifjplbhgaaRows
namespace Go.Proofs.Ythbnkifjplbhgaa
open Go Go.HL Go.Proofs Go.Tab
theorem open_op : Opens Try.prog 90 Eop (fun w o => Rd Esl w o.p.v o.p.xs ∧ (∀ s ∈ o.p.xs, Rd Eb w s.v s.xs) ∧ o.p.xs.length * 24 ≤ 140737488355328) :=
  open_struct2 Try.underlying90 rfl (by kernel_rfl) (by kernel_rfl) (open_bool' Try.underlying4) (open_slice' (E := Esl) Try.underlying29 (by kernel_rfl) (by decide) (of_decide_eq_true (by kernel_rfl)) (open_slice' Try.underlying35 (by kernel_rfl) (by decide) (of_decide_eq_true (by kernel_rfl)) (open_u8 Try.underlying5))) fun w b p _ hp => by
    have h24 : Try.prog.bytesOf 35 = 24 := by kernel_rfl
    obtain ⟨h1, h2, h3⟩ := hp
    rw [h24] at h3
    exact ⟨⟨b, p⟩, rfl, h1, fun s hs => (h2 s hs).1, by show p.xs.length * 24 ≤ _; omega⟩
theorem own : ownKnob Try.prog.godebug = none := by kernel_rfl
theorem laidOut : laidOutB Try.prog = true := by kernel_rfl

theorem outsGathers_lifted (os : Os) (started : os.Started) (H : Type) (enc : TypeId × Value → H) (F : Stop.Interp) :
    ReturnsInHanded {} Try.checked os 9 .any ((Rows.OpenSpec.upto Rows.outsGathersSpec).pre6 enc Try.prog Try.f9 Rows.outsGathersUptoRow.domain false) (((Rows.OpenSpec.upto Rows.outsGathersSpec).at F).post enc Try.prog Try.f9 false true false false) := by
  refine lift_lawU (C := Try.checked) (bt := 4) own started (by kernel_rfl) Try.func9
    (OpenSpec.witness (enc := enc) (C := Try.checked) (s := Rows.OpenSpec.upto Rows.outsGathersSpec) (k := Rows.uptoSmall) rfl false ⟨#[], #[.int .i64 0, .slice none 0 0], []⟩ 8 (by kernel_rfl) (by kernel_rfl) (by kernel_rfl)
      (x := ([.lit (.int .i64 0), .nil], [], [])) (by kernel_rfl) rfl (by kernel_rfl)) rfl rfl Try.underlying4 laidOut (by kernel_rfl) (fun H ds h => by
      match ds, h with
      | [_, _], _ => rfl) ?_
  intro W args ds ps hA hval hsz hB
  have hA0 : DataW.TrodAll enc Try.prog W 0 (fun _ => true) true [3, 82] args.toList ds ps := hA
  obtain ⟨v0, vs0, d0, ds0, p0, q0, hargs, rfl, rfl, h0, r0⟩ := ChangeShapes.trodAll_cons hA0
  obtain ⟨v1, vs1, d1, ds1, p1, q1, rfl, rfl, rfl, h1, r1⟩ := ChangeShapes.trodAll_cons r0
  obtain ⟨rfl, rfl, rfl⟩ := ChangeShapes.trodAll_nil r1
  obtain rfl : args = #[v0, v1] := by cases args; simp_all
  simp only [Rows.uptoBulkAll] at hB
  have w0 : ∀ n ∈ DataW.weights Try.prog 3 d0, n ≤ reachBytes := fun n hn => hsz n (DataW.weights_mem_each (ts := [3, 82]) (ds := [d0, d1]) (j := 0) rfl rfl n hn)
  have w1 : ∀ n ∈ DataW.weights Try.prog 82 d1, n ≤ reachBytes := fun n hn => hsz n (DataW.weights_mem_each (ts := [3, 82]) (ds := [d0, d1]) (j := 1) rfl rfl n hn)
  obtain ⟨x, rfl, hl_x, hu_x⟩ := arg_i64 Try.underlying3 (hval 0 3 v0 rfl rfl) h0 w0
  obtain ⟨p, rfl, hr_p, hm_p, hb_p⟩ := arg_slice (_E := Eop) Try.underlying82 (open_slice' (E := Eop) Try.underlying82 (by kernel_rfl) (by decide) (of_decide_eq_true (by kernel_rfl)) open_op) (hval 1 82 v1 rfl rfl) h1 w1
  exact (outsGathers_fn x p.a p.c p.xs (fun o ho => (hm_p o ho).2.2)).calls W ⟨hr_p, fun o ho => ⟨(hm_p o ho).1, (hm_p o ho).2.1⟩⟩ (Has.nil W)

theorem outsGathers_holds : Rows.OutsGathersUptoSaid :=
  OpenClaim.holds_of_cond 9 Try.f9 rfl rfl rfl rfl rfl rfl rfl ⟨rfl, rfl, rfl, rfl, rfl⟩ rfl rfl rfl rfl rfl (by kernel_rfl) Try.func9 (by kernel_rfl)
    (of_decide_eq_true (by kernel_rfl)) (by unfold Func.isWrapper; first | (rw [if_pos (by decide +kernel)]; kernel_rfl) | (rw [if_neg (by decide +kernel)]; exact ⟨rfl, rfl⟩))
    (fun os started H enc _ F => outsGathers_lifted os started H enc F)
end Go.Proofs.Ythbnkifjplbhgaa
