/- Proved: the tied card of the law ClassAll: true for all its arguments. Conditions: none. -/
import Derived.Test.YtnjjkkncoijmmaaDoorCD
import Derived.Test.YtnjjkkncoijmmaaDoorCW17
import Derived.Test.YtnjjkkncoijmmaaDoorCards
import Derived.Test.YtnjjkkncoijmmaaDoorTie
namespace Go.Proofs.YtnjjkkncoijmmaaDoor
open Go Go.HL Go.Proofs Go.HL.Kl

theorem classAll_lifted (os : Os) (started : os.Started) (H : Type) (enc : TypeId × Value → H) :
    ReturnsInHanded {} Tryd.checked os 3 .any (fun w args => (Rows.classAllSpec.pre enc Tryd.prog Tryd.f3 [] false w args ∧ laidMetH Tryd.prog Rows.classAllRow.laid w) ∧ sizedMet enc Tryd.prog Tryd.f3 (OpenSpec.ofChange Rows.classAllSpec) false w args) (Rows.classAllSpec.post enc Tryd.prog Tryd.f3 false true false false) := by
  refine lift_lawD (C := Tryd.checked) (bt := 4) (by kernel_rfl) own started (by kernel_rfl) Tryd.func3
    (ChangeSpec.witness_shaped (enc := enc) (C := Tryd.checked) (os := os) (X := fun w _ => laidMetH Tryd.prog Rows.classAllRow.laid w) false (World.doorLaid Tryd.prog 400 os) #[.agg #[.int .u64 0, .int .u64 0, .int .u64 0, .int .u64 0], .agg #[.int .u64 0, .int .u64 0, .int .u64 0, .int .u64 0], .int .i64 0] 8 rfl (World.shaped_of_RefB (by kernel_rfl) (by kernel_rfl)) (by kernel_rfl) (by kernel_rfl) (by kernel_rfl) (door_met os _)) rfl rfl Tryd.underlying4 laidOut (by kernel_rfl) (fun H ds h => by
      match ds, h with
      | [_, _, _], _ => rfl) ?_
  intro W args ds ps hA hval hsz hL
  have hT := tb_laid hL
  have hA0 : DataW.TrodAll enc Tryd.prog W 0 (fun _ => true) true [24, 24, 3] args.toList ds ps := hA
  obtain ⟨v0, vs0, d0, ds0, p0, q0, hargs, rfl, rfl, h0, r0⟩ := ChangeShapes.trodAll_cons hA0
  obtain ⟨v1, vs1, d1, ds1, p1, q1, rfl, rfl, rfl, h1, r1⟩ := ChangeShapes.trodAll_cons r0
  obtain ⟨v2, vs2, d2, ds2, p2, q2, rfl, rfl, rfl, h2, r2⟩ := ChangeShapes.trodAll_cons r1
  obtain ⟨rfl, rfl, rfl⟩ := ChangeShapes.trodAll_nil r2
  obtain rfl : args = #[v0, v1, v2] := by cases args; simp_all
  have w0 : ∀ n ∈ DataW.weights Tryd.prog 24 d0, n ≤ reachBytes := fun n hn => hsz n (DataW.weights_mem_each (ts := [24, 24, 3]) (ds := [d0, d1, d2]) (j := 0) rfl rfl n hn)
  have w1 : ∀ n ∈ DataW.weights Tryd.prog 24 d1, n ≤ reachBytes := fun n hn => hsz n (DataW.weights_mem_each (ts := [24, 24, 3]) (ds := [d0, d1, d2]) (j := 1) rfl rfl n hn)
  have w2 : ∀ n ∈ DataW.weights Tryd.prog 3 d2, n ≤ reachBytes := fun n hn => hsz n (DataW.weights_mem_each (ts := [24, 24, 3]) (ds := [d0, d1, d2]) (j := 2) rfl rfl n hn)
  obtain ⟨c, rfl⟩ := arg_cl Tryd.underlying24 Tryd.underlying22 (by kernel_rfl) (by kernel_rfl) (hval 0 24 v0 rfl rfl) h0 w0
  obtain ⟨d, rfl⟩ := arg_cl Tryd.underlying24 Tryd.underlying22 (by kernel_rfl) (by kernel_rfl) (hval 1 24 v1 rfl rfl) h1 w1
  obtain ⟨n, rfl, hn1_n, hn2_n⟩ := arg_i64 Tryd.underlying3 (hval 2 3 v2 rfl rfl) h2 w2
  obtain ⟨o, h0, ho⟩ := tbo hT
  exact ((classAll_fn o ho c d n).calls W trivial ⟨fun b x hm => by simp at hm; obtain ⟨rfl, rfl⟩ := hm; exact h0, by simp⟩).mono fun e w h => post_back h0 h

theorem classAll_row : Rows.classAllRow.holds Tryd.pinned (OpenSpec.ofChange Rows.classAllSpec) :=
  OpenClaim.holds_of_wide 3 Tryd.f3 rfl rfl rfl rfl rfl rfl rfl ⟨rfl, rfl, rfl, rfl, rfl⟩ rfl rfl rfl rfl rfl (by kernel_rfl) Tryd.func3 (by kernel_rfl)
    (of_decide_eq_true (by kernel_rfl)) (by unfold Func.isWrapper; first | (rw [if_pos (by decide +kernel)]; kernel_rfl) | (rw [if_neg (by decide +kernel)]; exact ⟨rfl, rfl⟩))
    (fun os started H enc _ => classAll_lifted os started H enc)
theorem classAll_card : Rows.ClassAllCardSaid :=
  Claim7.holds_tied_plain_at .later [] [.data] true (true, "fc80b0e862b0db07990f2ad8fa0286fce0e461478a25f31d9881fa7434a38892") false
    classAll_row (fun _ h => by cases h) (by kernel_rfl) (fun _ h => by cases h) classAll_row_tie rfl ⟨rfl, rfl⟩ (by kernel_rfl) rfl
    (fun f fn hf hfn => by
      obtain rfl : f = 3 := Option.some.inj ((show Tryd.prog.funcNamed "galley/galleylaw01.ClassAll" = some 3 by kernel_rfl).symm.trans hf) |>.symm
      obtain rfl : fn = Tryd.f3 := (Option.some.inj (Tryd.func3.symm.trans hfn)).symm
      exact ⟨by kernel_rfl, fun j t ht => by
        have hm : t ∈ Tryd.f3.params.toList := List.mem_of_getElem? (by rw [Array.getElem?_toList]; exact ht)
        have hp : Tryd.f3.params.toList = [24, 24, 3] := rfl
        rw [hp] at hm
        simp only [List.mem_cons, List.not_mem_nil, or_false] at hm
        rcases hm with rfl | rfl | rfl
        · exact (show Tryd.prog.wantsStandIn 24 = false by kernel_rfl)
        · exact (show Tryd.prog.wantsStandIn 24 = false by kernel_rfl)
        · exact (show Tryd.prog.wantsStandIn 3 = false by kernel_rfl)⟩)
    (by kernel_rfl)
end Go.Proofs.YtnjjkkncoijmmaaDoor
