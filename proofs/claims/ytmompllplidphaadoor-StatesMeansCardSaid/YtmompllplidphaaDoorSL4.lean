/- Proved: the tied card of the law StatesMeans: true for all its arguments. Conditions: none. -/
import Derived.Test.YtmompllplidphaaDoorSE8Z
import Derived.Test.YtmompllplidphaaDoorCards
import Derived.Test.YtmompllplidphaaDoorTie
namespace Go.Proofs.YtmompllplidphaaDoor
open Go Go.HL Go.Proofs Go.HL.Kl Go.HL.Kl.Mc Go.HL.Sts
theorem statesMeans_lifted (os : Os) (started : os.Started) (H : Type) (enc : TypeId × Value → H) :
    ReturnsInHanded {} Tryd.checked os 4 .any (fun w args => (Rows.statesMeansSpec.pre enc Tryd.prog Tryd.f4 [] false w args ∧ laidMetH Tryd.prog Rows.statesMeansRow.laid w) ∧ sizedMet enc Tryd.prog Tryd.f4 (OpenSpec.ofChange Rows.statesMeansSpec) false w args) (Rows.statesMeansSpec.post enc Tryd.prog Tryd.f4 false true false false) := by
  refine lift_lawD (C := Tryd.checked) (bt := 4) (by kernel_rfl) own started (by kernel_rfl) Tryd.func4
    (ChangeSpec.witness_shaped (enc := enc) (C := Tryd.checked) (os := os) (X := fun w _ => laidMetH Tryd.prog Rows.statesMeansRow.laid w) false (World.doorLaid Tryd.prog 400 os) #[.slice none 0 0, .slice none 0 0] 8 rfl (World.shaped_of_RefB (by kernel_rfl) (by kernel_rfl)) (by kernel_rfl) (by kernel_rfl) (by kernel_rfl) (door_met os _)) rfl rfl Tryd.underlying4 laidOut (by kernel_rfl) (fun H ds h => by
      match ds, h with
      | [_, _], _ => rfl) ?_
  intro W args ds ps hA hval hsz hL
  have hT := tb_laid hL
  have hA0 : DataW.TrodAll enc Tryd.prog W 0 (fun _ => true) true [37, 38] args.toList ds ps := hA
  obtain ⟨v0, vs0, d0, ds0, p0, q0, hargs, rfl, rfl, h0, r0⟩ := ChangeShapes.trodAll_cons hA0
  obtain ⟨v1, vs1, d1, ds1, p1, q1, rfl, rfl, rfl, h1, r1⟩ := ChangeShapes.trodAll_cons r0
  obtain ⟨rfl, rfl, rfl⟩ := ChangeShapes.trodAll_nil r1
  obtain rfl : args = #[v0, v1] := by cases args; simp_all
  have w0 : ∀ n ∈ DataW.weights Tryd.prog 37 d0, n ≤ reachBytes := fun n hn => hsz n (DataW.weights_mem_each (ts := [37, 38]) (ds := [d0, d1]) (j := 0) rfl rfl n hn)
  have w1 : ∀ n ∈ DataW.weights Tryd.prog 38 d1, n ≤ reachBytes := fun n hn => hsz n (DataW.weights_mem_each (ts := [37, 38]) (ds := [d0, d1]) (j := 1) rfl rfl n hn)
  obtain ⟨r, rfl, hr_r, hm_r, hb_r⟩ := arg_slice (_E := En) Tryd.underlying37 (open_slice' Tryd.underlying37 (by kernel_rfl) (by decide) (of_decide_eq_true (by kernel_rfl)) open_nd) (hval 0 37 v0 rfl rfl) h0 w0
  obtain ⟨x, rfl, hr_x, hm_x, hb_x⟩ := arg_slice (_E := Esl) Tryd.underlying38 (open_slice' (E := Esl) Tryd.underlying38 (by kernel_rfl) (by decide) (of_decide_eq_true (by kernel_rfl)) (open_slice' (E := Eb) Tryd.underlying27 (by kernel_rfl) (by decide) (of_decide_eq_true (by kernel_rfl)) (open_u8 Tryd.underlying5))) (hval 1 38 v1 rfl rfl) h1 w1
  exact (statesMeans_fn r.a r.c r.xs hm_r x.a x.c x.xs).calls W ⟨hr_r, hT, hr_x, fun s hs => (hm_x s hs).1⟩ (Has.nil W)
theorem statesMeans_row : Rows.statesMeansRow.holds Tryd.pinned (OpenSpec.ofChange Rows.statesMeansSpec) :=
  OpenClaim.holds_of_wide 4 Tryd.f4 rfl rfl rfl rfl rfl rfl rfl ⟨rfl, rfl, rfl, rfl, rfl⟩ rfl rfl rfl rfl rfl (by kernel_rfl) Tryd.func4 (by kernel_rfl)
    (of_decide_eq_true (by kernel_rfl)) (by unfold Func.isWrapper; first | (rw [if_pos (by decide +kernel)]; kernel_rfl) | (rw [if_neg (by decide +kernel)]; exact ⟨rfl, rfl⟩))
    (fun os started H enc _ => statesMeans_lifted os started H enc)
theorem statesMeans_card : Rows.StatesMeansCardSaid :=
  Claim7.holds_tied_plain_at .later [] [.data] true (true, "786c7c662a98de1fdd7f6bf2b7eb235d62ba7d76e814eafc53e2baa74c5ab156") false
    statesMeans_row (fun _ h => by cases h) (by kernel_rfl) (fun _ h => by cases h) statesMeans_row_tie rfl ⟨rfl, rfl⟩ (by kernel_rfl) rfl
    (fun f fn hf hfn => by
      obtain rfl : f = 4 := Option.some.inj ((show Tryd.prog.funcNamed "galley/galleylaw09.StatesMeans" = some 4 by kernel_rfl).symm.trans hf) |>.symm
      obtain rfl : fn = Tryd.f4 := (Option.some.inj (Tryd.func4.symm.trans hfn)).symm
      exact ⟨by kernel_rfl, fun j t ht => by
        have hm : t ∈ Tryd.f4.params.toList := List.mem_of_getElem? (by rw [Array.getElem?_toList]; exact ht)
        have hp : Tryd.f4.params.toList = [37, 38] := rfl
        rw [hp] at hm
        simp only [List.mem_cons, List.not_mem_nil, or_false] at hm
        rcases hm with rfl | rfl
        · exact (show Tryd.prog.wantsStandIn 37 = false by kernel_rfl)
        · exact (show Tryd.prog.wantsStandIn 38 = false by kernel_rfl)⟩)
    (by kernel_rfl)
end Go.Proofs.YtmompllplidphaaDoor
