/- Proved: the tied card of the law ClassAtoms: true for all its arguments. Conditions: none. -/
import Derived.Test.YtnjjkkncoijmmaaDoorCD
import Derived.Test.YtnjjkkncoijmmaaDoorCW12
import Derived.Test.YtnjjkkncoijmmaaDoorCards
import Derived.Test.YtnjjkkncoijmmaaDoorTie
namespace Go.Proofs.YtnjjkkncoijmmaaDoor
open Go Go.HL Go.Proofs Go.HL.Kl

theorem classAtoms_lifted (os : Os) (started : os.Started) (H : Type) (enc : TypeId × Value → H) :
    ReturnsInHanded {} Tryd.checked os 5 .any (fun w args => (Rows.classAtomsSpec.pre enc Tryd.prog Tryd.f5 [] false w args ∧ laidMetH Tryd.prog Rows.classAtomsRow.laid w) ∧ sizedMet enc Tryd.prog Tryd.f5 (OpenSpec.ofChange Rows.classAtomsSpec) false w args) (Rows.classAtomsSpec.post enc Tryd.prog Tryd.f5 false true false false) := by
  refine lift_lawD (C := Tryd.checked) (bt := 4) (by kernel_rfl) own started (by kernel_rfl) Tryd.func5
    (ChangeSpec.witness_shaped (enc := enc) (C := Tryd.checked) (os := os) (X := fun w _ => laidMetH Tryd.prog Rows.classAtomsRow.laid w) false (World.doorLaid Tryd.prog 400 os) #[.slice none 0 0] 8 rfl (World.shaped_of_RefB (by kernel_rfl) (by kernel_rfl)) (by kernel_rfl) (by kernel_rfl) (by kernel_rfl) (door_met os _)) rfl rfl Tryd.underlying4 laidOut (by kernel_rfl) (fun H ds h => by
      match ds, h with
      | [_], _ => rfl) ?_
  intro W args ds ps hA hval hsz hL
  have hT := tb_laid hL
  have hA0 : DataW.TrodAll enc Tryd.prog W 0 (fun _ => true) true [38] args.toList ds ps := hA
  obtain ⟨v0, vs0, d0, ds0, p0, q0, hargs, rfl, rfl, h0, r0⟩ := ChangeShapes.trodAll_cons hA0
  obtain ⟨rfl, rfl, rfl⟩ := ChangeShapes.trodAll_nil r0
  obtain rfl : args = #[v0] := by cases args; simp_all
  have w0 : ∀ n ∈ DataW.weights Tryd.prog 38 d0, n ≤ reachBytes := fun n hn => hsz n (DataW.weights_mem_each (ts := [38]) (ds := [d0]) (j := 0) rfl rfl n hn)
  obtain ⟨l, rfl, hr_l, _, hb_l⟩ := arg_slice (_E := Ec) Tryd.underlying38 (open_slice' Tryd.underlying38 (by kernel_rfl) (by decide) (of_decide_eq_true (by kernel_rfl)) (open_cl Tryd.underlying24 Tryd.underlying22 (by kernel_rfl) (by kernel_rfl))) (hval 0 38 v0 rfl rfl) h0 w0
  exact (classAtoms_fn l.a l.c l.xs).calls W ⟨hr_l, hT⟩ (Has.nil W)

theorem classAtoms_row : Rows.classAtomsRow.holds Tryd.pinned (OpenSpec.ofChange Rows.classAtomsSpec) :=
  OpenClaim.holds_of_wide 5 Tryd.f5 rfl rfl rfl rfl rfl rfl rfl ⟨rfl, rfl, rfl, rfl, rfl⟩ rfl rfl rfl rfl rfl (by kernel_rfl) Tryd.func5 (by kernel_rfl)
    (of_decide_eq_true (by kernel_rfl)) (by unfold Func.isWrapper; first | (rw [if_pos (by decide +kernel)]; kernel_rfl) | (rw [if_neg (by decide +kernel)]; exact ⟨rfl, rfl⟩))
    (fun os started H enc _ => classAtoms_lifted os started H enc)
theorem classAtoms_card : Rows.ClassAtomsCardSaid :=
  Claim7.holds_tied_plain_at .later [] [.data] true (true, "fc80b0e862b0db07990f2ad8fa0286fce0e461478a25f31d9881fa7434a38892") false
    classAtoms_row (fun _ h => by cases h) (by kernel_rfl) (fun _ h => by cases h) classAtoms_row_tie rfl ⟨rfl, rfl⟩ (by kernel_rfl) rfl
    (fun f fn hf hfn => by
      obtain rfl : f = 5 := Option.some.inj ((show Tryd.prog.funcNamed "galley/galleylaw01.ClassAtoms" = some 5 by kernel_rfl).symm.trans hf) |>.symm
      obtain rfl : fn = Tryd.f5 := (Option.some.inj (Tryd.func5.symm.trans hfn)).symm
      exact ⟨by kernel_rfl, fun j t ht => by
        have hm : t ∈ Tryd.f5.params.toList := List.mem_of_getElem? (by rw [Array.getElem?_toList]; exact ht)
        have hp : Tryd.f5.params.toList = [38] := rfl
        rw [hp] at hm
        simp only [List.mem_cons, List.not_mem_nil, or_false] at hm
        rcases hm with rfl
        exact (show Tryd.prog.wantsStandIn 38 = false by kernel_rfl)⟩)
    (by kernel_rfl)
end Go.Proofs.YtnjjkkncoijmmaaDoor
