/- Proved: the tied card of the law StatesUnlike: true for all its arguments. Conditions: none. -/
import Derived.Test.YtmompllplidphaaGreatDoorGB2Z
import Derived.Test.YtmompllplidphaaGreatDoorGSD
import Derived.Test.YtmompllplidphaaGreatDoorCards
import Derived.Test.YtmompllplidphaaGreatDoorTie
namespace Go.Proofs.YtmompllplidphaaGreatDoor
open Go Go.HL Go.Proofs Go.HL.Kl Go.HL.Kl.Mc Go.HL.Sts
theorem statesUnlike_lifted (os : Os) (started : os.Started) (H : Type) (enc : TypeId × Value → H) :
    ReturnsInHanded {} Tryz.checked os 4 .any (fun w args => (Rows.statesUnlikeSpec.pre enc Tryz.prog Tryz.f4 [] false w args ∧ laidMetH Tryz.prog Rows.statesUnlikeRow.laid w) ∧ sizedMet enc Tryz.prog Tryz.f4 (OpenSpec.ofChange Rows.statesUnlikeSpec) false w args) (Rows.statesUnlikeSpec.post enc Tryz.prog Tryz.f4 false true false false) := by
  refine lift_lawD (C := Tryz.checked) (bt := 4) (by kernel_rfl) own started (by kernel_rfl) Tryz.func4
    (ChangeSpec.witness_shaped (enc := enc) (C := Tryz.checked) (os := os) (X := fun w _ => laidMetH Tryz.prog Rows.statesUnlikeRow.laid w) false (World.doorLaid Tryz.prog 400 os) #[.agg #[.slice none 0 0, .slice none 0 0, .slice none 0 0], .agg #[.slice none 0 0, .slice none 0 0, .slice none 0 0]] 8 rfl (World.shaped_of_RefB (by kernel_rfl) (by kernel_rfl)) (by kernel_rfl) (by kernel_rfl) (by kernel_rfl) (door_met os _)) rfl rfl Tryz.underlying4 laidOut (by kernel_rfl) (fun H ds h => by
      match ds, h with
      | [_, _], _ => rfl) ?_
  intro W args ds ps hA hval hsz hL
  have hT := tb_laid hL
  have hA0 : DataW.TrodAll enc Tryz.prog W 0 (fun _ => true) true [30, 30] args.toList ds ps := hA
  obtain ⟨v0, vs0, d0, ds0, p0, q0, hargs, rfl, rfl, h0, r0⟩ := ChangeShapes.trodAll_cons hA0
  obtain ⟨v1, vs1, d1, ds1, p1, q1, rfl, rfl, rfl, h1, r1⟩ := ChangeShapes.trodAll_cons r0
  obtain ⟨rfl, rfl, rfl⟩ := ChangeShapes.trodAll_nil r1
  obtain rfl : args = #[v0, v1] := by cases args; simp_all
  have w0 : ∀ n ∈ DataW.weights Tryz.prog 30 d0, n ≤ reachBytes := fun n hn => hsz n (DataW.weights_mem_each (ts := [30, 30]) (ds := [d0, d1]) (j := 0) rfl rfl n hn)
  have w1 : ∀ n ∈ DataW.weights Tryz.prog 30 d1, n ≤ reachBytes := fun n hn => hsz n (DataW.weights_mem_each (ts := [30, 30]) (ds := [d0, d1]) (j := 1) rfl rfl n hn)
  obtain ⟨x, rfl, hm_x⟩ := arg_struct Tryz.underlying30 open_df (hval 0 30 v0 rfl rfl) h0 w0
  obtain ⟨y, rfl, hm_y⟩ := arg_struct Tryz.underlying30 open_df (hval 1 30 v1 rfl rfl) h1 w1
  exact (statesUnlike_fn x.d x.a.a x.a.c x.n.a x.n.c x.n.xs x.e.a x.e.c rfl y.d y.a.a y.a.c y.n.a y.n.c y.n.xs y.e.a y.e.c rfl).calls W ⟨hm_x, hm_y, hT⟩ (Has.nil W)
theorem statesUnlike_row : Rows.statesUnlikeRow.holds Tryz.pinned (OpenSpec.ofChange Rows.statesUnlikeSpec) :=
  OpenClaim.holds_of_wide 4 Tryz.f4 rfl rfl rfl rfl rfl rfl rfl ⟨rfl, rfl, rfl, rfl, rfl⟩ rfl rfl rfl rfl rfl (by kernel_rfl) Tryz.func4 (by kernel_rfl)
    (of_decide_eq_true (by kernel_rfl)) (by unfold Func.isWrapper; first | (rw [if_pos (by decide +kernel)]; kernel_rfl) | (rw [if_neg (by decide +kernel)]; exact ⟨rfl, rfl⟩))
    (fun os started H enc _ => statesUnlike_lifted os started H enc)
theorem statesUnlike_card : Rows.StatesUnlikeCardSaid :=
  Claim7.holds_tied_plain_at .later [] [.data, .data, .data] true (true, "66d80a5834bd52db63885eb6a0c54e96d28f8fdbbefc0dd5b33dbc8a3daa3a9a") false
    statesUnlike_row (fun _ h => by cases h) (by kernel_rfl) (fun _ h => by cases h) statesUnlike_row_tie rfl ⟨rfl, rfl⟩ (by kernel_rfl) rfl
    (fun f fn hf hfn => by
      obtain rfl : f = 4 := Option.some.inj ((show Tryz.prog.funcNamed "galley/galleylaw09.StatesUnlike" = some 4 by kernel_rfl).symm.trans hf) |>.symm
      obtain rfl : fn = Tryz.f4 := (Option.some.inj (Tryz.func4.symm.trans hfn)).symm
      exact ⟨by kernel_rfl, fun j t ht => by
        have hm : t ∈ Tryz.f4.params.toList := List.mem_of_getElem? (by rw [Array.getElem?_toList]; exact ht)
        have hp : Tryz.f4.params.toList = [30, 30] := rfl
        rw [hp] at hm
        simp only [List.mem_cons, List.not_mem_nil, or_false] at hm
        rcases hm with rfl | rfl
        · exact (show Tryz.prog.wantsStandIn 30 = false by kernel_rfl)
        · exact (show Tryz.prog.wantsStandIn 30 = false by kernel_rfl)⟩)
    (by kernel_rfl)
end Go.Proofs.YtmompllplidphaaGreatDoor
