/- Proved: the tied card of the law ClassAlgebra: true for all its arguments. Conditions: none. -/
import Derived.Test.YtnjjkkncoijmmaaDoorCD
import Derived.Test.YtnjjkkncoijmmaaDoorCards
import Derived.Test.YtnjjkkncoijmmaaDoorTie
namespace Go.Proofs.YtnjjkkncoijmmaaDoor
open Go Go.HL Go.Proofs Go.HL.Kl

theorem classAlgebra_lifted (os : Os) (started : os.Started) (H : Type) (enc : TypeId × Value → H) :
    ReturnsInHanded {} Tryd.checked os 7 .any (fun w args => (Rows.classAlgebraSpec.pre enc Tryd.prog Tryd.f7 [] false w args ∧ laidMetH Tryd.prog Rows.classAlgebraRow.laid w) ∧ sizedMet enc Tryd.prog Tryd.f7 (OpenSpec.ofChange Rows.classAlgebraSpec) false w args) (Rows.classAlgebraSpec.post enc Tryd.prog Tryd.f7 false true false false) := by
  refine lift_lawD (C := Tryd.checked) (bt := 4) (by kernel_rfl) own started (by kernel_rfl) Tryd.func7
    (ChangeSpec.witness_shaped (enc := enc) (C := Tryd.checked) (os := os) (X := fun w _ => laidMetH Tryd.prog Rows.classAlgebraRow.laid w) false (World.doorLaid Tryd.prog 400 os) #[.agg #[.int .u64 0, .int .u64 0, .int .u64 0, .int .u64 0], .agg #[.int .u64 0, .int .u64 0, .int .u64 0, .int .u64 0], .agg #[.int .u64 0, .int .u64 0, .int .u64 0, .int .u64 0]] 8 rfl (World.shaped_of_RefB (by kernel_rfl) (by kernel_rfl)) (by kernel_rfl) (by kernel_rfl) (by kernel_rfl) (door_met os _)) rfl rfl Tryd.underlying4 laidOut (by kernel_rfl) (fun H ds h => by
      match ds, h with
      | [_, _, _], _ => rfl) ?_
  intro W args ds ps hA hval hsz hL
  have hT := tb_laid hL
  have hA0 : DataW.TrodAll enc Tryd.prog W 0 (fun _ => true) true [24, 24, 24] args.toList ds ps := hA
  obtain ⟨v0, vs0, d0, ds0, p0, q0, hargs, rfl, rfl, h0, r0⟩ := ChangeShapes.trodAll_cons hA0
  obtain ⟨v1, vs1, d1, ds1, p1, q1, rfl, rfl, rfl, h1, r1⟩ := ChangeShapes.trodAll_cons r0
  obtain ⟨v2, vs2, d2, ds2, p2, q2, rfl, rfl, rfl, h2, r2⟩ := ChangeShapes.trodAll_cons r1
  obtain ⟨rfl, rfl, rfl⟩ := ChangeShapes.trodAll_nil r2
  obtain rfl : args = #[v0, v1, v2] := by cases args; simp_all
  have w0 : ∀ n ∈ DataW.weights Tryd.prog 24 d0, n ≤ reachBytes := fun n hn => hsz n (DataW.weights_mem_each (ts := [24, 24, 24]) (ds := [d0, d1, d2]) (j := 0) rfl rfl n hn)
  have w1 : ∀ n ∈ DataW.weights Tryd.prog 24 d1, n ≤ reachBytes := fun n hn => hsz n (DataW.weights_mem_each (ts := [24, 24, 24]) (ds := [d0, d1, d2]) (j := 1) rfl rfl n hn)
  have w2 : ∀ n ∈ DataW.weights Tryd.prog 24 d2, n ≤ reachBytes := fun n hn => hsz n (DataW.weights_mem_each (ts := [24, 24, 24]) (ds := [d0, d1, d2]) (j := 2) rfl rfl n hn)
  obtain ⟨a, rfl⟩ := arg_cl Tryd.underlying24 Tryd.underlying22 (by kernel_rfl) (by kernel_rfl) (hval 0 24 v0 rfl rfl) h0 w0
  obtain ⟨b, rfl⟩ := arg_cl Tryd.underlying24 Tryd.underlying22 (by kernel_rfl) (by kernel_rfl) (hval 1 24 v1 rfl rfl) h1 w1
  obtain ⟨c, rfl⟩ := arg_cl Tryd.underlying24 Tryd.underlying22 (by kernel_rfl) (by kernel_rfl) (hval 2 24 v2 rfl rfl) h2 w2
  exact (classAlgebra_fn a b c).calls W hT (Has.nil W)

theorem classAlgebra_row : Rows.classAlgebraRow.holds Tryd.pinned (OpenSpec.ofChange Rows.classAlgebraSpec) :=
  OpenClaim.holds_of_wide 7 Tryd.f7 rfl rfl rfl rfl rfl rfl rfl ⟨rfl, rfl, rfl, rfl, rfl⟩ rfl rfl rfl rfl rfl (by kernel_rfl) Tryd.func7 (by kernel_rfl)
    (of_decide_eq_true (by kernel_rfl)) (by unfold Func.isWrapper; first | (rw [if_pos (by decide +kernel)]; kernel_rfl) | (rw [if_neg (by decide +kernel)]; exact ⟨rfl, rfl⟩))
    (fun os started H enc _ => classAlgebra_lifted os started H enc)
theorem classAlgebra_card : Rows.ClassAlgebraCardSaid :=
  Claim7.holds_tied_plain_at .later [] [.data] true (true, "fc80b0e862b0db07990f2ad8fa0286fce0e461478a25f31d9881fa7434a38892") false
    classAlgebra_row (fun _ h => by cases h) (by kernel_rfl) (fun _ h => by cases h) classAlgebra_row_tie rfl ⟨rfl, rfl⟩ (by kernel_rfl) rfl
    (fun f fn hf hfn => by
      obtain rfl : f = 7 := Option.some.inj ((show Tryd.prog.funcNamed "galley/galleylaw01.ClassAlgebra" = some 7 by kernel_rfl).symm.trans hf) |>.symm
      obtain rfl : fn = Tryd.f7 := (Option.some.inj (Tryd.func7.symm.trans hfn)).symm
      exact ⟨by kernel_rfl, fun j t ht => by
        have hm : t ∈ Tryd.f7.params.toList := List.mem_of_getElem? (by rw [Array.getElem?_toList]; exact ht)
        have hp : Tryd.f7.params.toList = [24, 24, 24] := rfl
        rw [hp] at hm
        simp only [List.mem_cons, List.not_mem_nil, or_false] at hm
        rcases hm with rfl | rfl | rfl
        · exact (show Tryd.prog.wantsStandIn 24 = false by kernel_rfl)
        · exact (show Tryd.prog.wantsStandIn 24 = false by kernel_rfl)
        · exact (show Tryd.prog.wantsStandIn 24 = false by kernel_rfl)⟩)
    (by kernel_rfl)
end Go.Proofs.YtnjjkkncoijmmaaDoor
