/- Proved: the tied card of the law TableApplies: true for all its arguments. Conditions: none. -/
import Derived.Test.YtmmajabfmhipeaaDoorTC3
import Derived.Test.YtmmajabfmhipeaaDoorTD
import Derived.Test.YtmmajabfmhipeaaDoorCards
import Derived.Test.YtmmajabfmhipeaaDoorTie
namespace Go.Proofs.YtmmajabfmhipeaaDoor
open Go Go.HL Go.Proofs Go.Tab

theorem tableApplies_lifted (os : Os) (started : os.Started) (H : Type) (enc : TypeId × Value → H) :
    ReturnsInHanded {} Tryd.checked os 5 .any (fun w args => (Rows.tableAppliesSpec.pre enc Tryd.prog Tryd.f5 [] false w args ∧ laidMetH Tryd.prog Rows.tableAppliesRow.laid w) ∧ sizedMet enc Tryd.prog Tryd.f5 (OpenSpec.ofChange Rows.tableAppliesSpec) false w args) (Rows.tableAppliesSpec.post enc Tryd.prog Tryd.f5 false true false false) := by
  refine lift_lawD (C := Tryd.checked) (bt := 4) (by kernel_rfl) own started (by kernel_rfl) Tryd.func5
    (ChangeSpec.witness_shaped (enc := enc) (C := Tryd.checked) (os := os) (X := fun w _ => laidMetH Tryd.prog Rows.tableAppliesRow.laid w) false (World.doorLaid Tryd.prog 400 os) #[.agg (Array.replicate 256 (.int .u8 0)), .agg (Array.replicate 256 (.int .u8 0)), .slice none 0 0] 8 rfl (World.shaped_of_RefB (by kernel_rfl) (by kernel_rfl)) (by kernel_rfl) (by kernel_rfl) (by kernel_rfl) (door_met os _)) rfl rfl Tryd.underlying4 laidOut (by kernel_rfl) (fun H ds h => by
      match ds, h with
      | [_, _, _], _ => rfl) ?_
  intro W args ds ps hA hval hsz hL
  have hA0 : DataW.TrodAll enc Tryd.prog W 0 (fun _ => true) true [96, 96, 40] args.toList ds ps := hA
  obtain ⟨v0, vs0, d0, ds0, p0, q0, hargs, rfl, rfl, h0, r0⟩ := ChangeShapes.trodAll_cons hA0
  obtain ⟨v1, vs1, d1, ds1, p1, q1, rfl, rfl, rfl, h1, r1⟩ := ChangeShapes.trodAll_cons r0
  obtain ⟨v2, vs2, d2, ds2, p2, q2, rfl, rfl, rfl, h2, r2⟩ := ChangeShapes.trodAll_cons r1
  obtain ⟨rfl, rfl, rfl⟩ := ChangeShapes.trodAll_nil r2
  obtain rfl : args = #[v0, v1, v2] := by cases args; simp_all
  have w0 : ∀ n ∈ DataW.weights Tryd.prog 96 d0, n ≤ reachBytes := fun n hn => hsz n (DataW.weights_mem_each (ts := [96, 96, 40]) (ds := [d0, d1, d2]) (j := 0) rfl rfl n hn)
  have w1 : ∀ n ∈ DataW.weights Tryd.prog 96 d1, n ≤ reachBytes := fun n hn => hsz n (DataW.weights_mem_each (ts := [96, 96, 40]) (ds := [d0, d1, d2]) (j := 1) rfl rfl n hn)
  have w2 : ∀ n ∈ DataW.weights Tryd.prog 40 d2, n ≤ reachBytes := fun n hn => hsz n (DataW.weights_mem_each (ts := [96, 96, 40]) (ds := [d0, d1, d2]) (j := 2) rfl rfl n hn)
  obtain ⟨t, rfl, hl_t, _⟩ := arg_array Tryd.underlying96 (open_array Tryd.underlying96 (by kernel_rfl) (by kernel_rfl) (open_u8 Tryd.underlying5)) (hval 0 96 v0 rfl rfl) h0 w0
  obtain ⟨u, rfl, hl_u, _⟩ := arg_array Tryd.underlying96 (open_array Tryd.underlying96 (by kernel_rfl) (by kernel_rfl) (open_u8 Tryd.underlying5)) (hval 1 96 v1 rfl rfl) h1 w1
  obtain ⟨x, rfl, hr_x, _, hb_x⟩ := arg_slice (_E := Eb) Tryd.underlying40 (open_slice' Tryd.underlying40 (by kernel_rfl) (by decide) (of_decide_eq_true (by kernel_rfl)) (open_u8 Tryd.underlying5)) (hval 2 40 v2 rfl rfl) h2 w2
  exact (tableApplies_fn t u hl_t hl_u x.a x.c x.xs).calls W hr_x (Has.nil W)

theorem tableApplies_row : Rows.tableAppliesRow.holds Tryd.pinned (OpenSpec.ofChange Rows.tableAppliesSpec) :=
  OpenClaim.holds_of_wide 5 Tryd.f5 rfl rfl rfl rfl rfl rfl rfl ⟨rfl, rfl, rfl, rfl, rfl⟩ rfl rfl rfl rfl rfl (by kernel_rfl) Tryd.func5 (by kernel_rfl)
    (of_decide_eq_true (by kernel_rfl)) (by unfold Func.isWrapper; first | (rw [if_pos (by decide +kernel)]; kernel_rfl) | (rw [if_neg (by decide +kernel)]; exact ⟨rfl, rfl⟩))
    (fun os started H enc _ => tableApplies_lifted os started H enc)
theorem tableApplies_card : Rows.TableAppliesCardSaid :=
  Claim7.holds_tied_plain_at .later [] [.data, .data, .data] true (true, "a1e9cc4ff49264685d1c086b7a48f077db6c24a826a16b98b2d990d39b6102d4") true
    tableApplies_row (fun _ h => by cases h) (by kernel_rfl) (fun _ h => by cases h) tableApplies_row_tie rfl ⟨rfl, rfl⟩ (by kernel_rfl) rfl
    (fun f fn hf hfn => by
      obtain rfl : f = 5 := Option.some.inj ((show Tryd.prog.funcNamed "galley/galleylaw15.TableApplies" = some 5 by kernel_rfl).symm.trans hf) |>.symm
      obtain rfl : fn = Tryd.f5 := (Option.some.inj (Tryd.func5.symm.trans hfn)).symm
      exact ⟨by kernel_rfl, fun j t ht => by
        have hm : t ∈ Tryd.f5.params.toList := List.mem_of_getElem? (by rw [Array.getElem?_toList]; exact ht)
        have hp : Tryd.f5.params.toList = [96, 96, 40] := rfl
        rw [hp] at hm
        simp only [List.mem_cons, List.not_mem_nil, or_false] at hm
        rcases hm with rfl | rfl | rfl
        · exact (show Tryd.prog.wantsStandIn 96 = false by kernel_rfl)
        · exact (show Tryd.prog.wantsStandIn 96 = false by kernel_rfl)
        · exact (show Tryd.prog.wantsStandIn 40 = false by kernel_rfl)⟩)
    (by kernel_rfl)
end Go.Proofs.YtmmajabfmhipeaaDoor
