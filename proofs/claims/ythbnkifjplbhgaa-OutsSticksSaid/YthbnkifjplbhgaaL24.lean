/- Proved: the law OutsSticks returns true for all its arguments. Conditions: none. -/
import Derived.Test.YthbnkifjplbhgaaW21
import Derived.Test.YthbnkifjplbhgaaHl
import Derived.Test.YthbnkifjplbhgaaRows
namespace Go.Proofs.Ythbnkifjplbhgaa
open Go Go.HL Go.Proofs Go.Tab
theorem open_op : Opens Try.prog 90 Eop (fun w o => Rd Esl w o.p.v o.p.xs ∧ (∀ s ∈ o.p.xs, Rd Eb w s.v s.xs) ∧ o.p.xs.length * 24 ≤ 140737488355328) :=
  open_struct2 Try.underlying90 rfl (by kernel_rfl) (by kernel_rfl) (open_bool' Try.underlying4) (open_slice' (E := Esl) Try.underlying29 (by kernel_rfl) (by decide) (of_decide_eq_true (by kernel_rfl)) (open_slice' Try.underlying35 (by kernel_rfl) (by decide) (of_decide_eq_true (by kernel_rfl)) (open_u8 Try.underlying5))) fun w b p _ hp => by
    have h24 : Try.prog.bytesOf 35 = 24 := by kernel_rfl
    obtain ⟨h1, h2, h3⟩ := hp
    rw [h24] at h3
    exact ⟨⟨b, p⟩, rfl, h1, fun s hs => (h2 s hs).1, by show p.xs.length * 24 ≤ _; omega⟩
structure CaseV where
  sz : Int
  fl : Int
  er : Int
  sc : Sl OpV
def Ecase (c : CaseV) : List Value := [.int .i64 c.sz, .int .i64 c.fl, .int .i64 c.er, c.sc.v]
theorem open_case : Opens Try.prog 93 Ecase (fun w c => Rd Eop w c.sc.v c.sc.xs ∧ ∀ o ∈ c.sc.xs, Rd Esl w o.p.v o.p.xs ∧ (∀ s ∈ o.p.xs, Rd Eb w s.v s.xs) ∧ o.p.xs.length * 24 ≤ 140737488355328) :=
  open_struct4 Try.underlying93 rfl (by kernel_rfl) (by kernel_rfl) (by kernel_rfl) (by kernel_rfl) (open_i64 Try.underlying3) (open_i64 Try.underlying3) (open_i64 Try.underlying28) (open_slice' (E := Eop) Try.underlying82 (by kernel_rfl) (by decide) (of_decide_eq_true (by kernel_rfl)) open_op)
    fun w a b c d _ _ _ hd => ⟨⟨a, b, c, d⟩, rfl, hd.1, hd.2.1⟩
theorem own : ownKnob Try.prog.godebug = none := by kernel_rfl
theorem laidOut : laidOutB Try.prog = true := by kernel_rfl

theorem outsSticks_lifted (os : Os) (started : os.Started) (H : Type) (enc : TypeId × Value → H) :
    ReturnsInHanded {} Try.checked os 10 .any (Rows.outsSticksSpec.pre6 enc Try.prog Try.f10 Rows.outsSticksRow.domain false) (Rows.outsSticksSpec.post enc Try.prog Try.f10 false true false false) := by
  refine lift_law (C := Try.checked) (bt := 4) own started (by kernel_rfl) Try.func10
    (ChangeSpec.witness6 (enc := enc) (C := Try.checked) false ⟨#[], #[.agg #[.int .i64 0, .int .i64 0, .int .i64 0, .slice none 0 0]], []⟩ 8 (by kernel_rfl) (by kernel_rfl) (by kernel_rfl) (by kernel_rfl)) rfl rfl Try.underlying4 laidOut (by kernel_rfl) (fun H ds h => by
      match ds, h with
      | [_], _ => rfl) ?_
  intro W args ds ps hA hval hsz
  have hA0 : DataW.TrodAll enc Try.prog W 0 (fun _ => true) true [93] args.toList ds ps := hA
  obtain ⟨v0, vs0, d0, ds0, p0, q0, hargs, rfl, rfl, h0, r0⟩ := ChangeShapes.trodAll_cons hA0
  obtain ⟨rfl, rfl, rfl⟩ := ChangeShapes.trodAll_nil r0
  obtain rfl : args = #[v0] := by cases args; simp_all
  have w0 : ∀ n ∈ DataW.weights Try.prog 93 d0, n ≤ reachBytes := fun n hn => hsz n (DataW.weights_mem_each (ts := [93]) (ds := [d0]) (j := 0) rfl rfl n hn)
  obtain ⟨p, rfl, hm_p⟩ := arg_struct Try.underlying93 open_case (hval 0 93 v0 rfl rfl) h0 w0
  exact (outsSticks_fn p.sz p.fl p.er p.sc.a p.sc.c p.sc.xs (fun o ho => (hm_p.2 o ho).2.2)).calls W ⟨hm_p.1, fun o ho => ⟨(hm_p.2 o ho).1, (hm_p.2 o ho).2.1⟩⟩ (Has.nil W)

theorem outsSticks_holds : Rows.OutsSticksSaid :=
  OpenClaim.holds_of_wide 10 Try.f10 rfl rfl rfl rfl rfl rfl rfl ⟨rfl, rfl, rfl, rfl, rfl⟩ rfl rfl rfl rfl rfl (by kernel_rfl) Try.func10 (by kernel_rfl)
    (of_decide_eq_true (by kernel_rfl)) (by unfold Func.isWrapper; first | (rw [if_pos (by decide +kernel)]; kernel_rfl) | (rw [if_neg (by decide +kernel)]; exact ⟨rfl, rfl⟩))
    (fun os started H enc _ => outsSticks_lifted os started H enc)
end Go.Proofs.Ythbnkifjplbhgaa
