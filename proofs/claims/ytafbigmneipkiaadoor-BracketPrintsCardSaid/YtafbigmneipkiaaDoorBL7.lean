/- Proved: the tied card of the law BracketPrints: true for all its arguments. Conditions: none. -/
import Derived.Test.YtafbigmneipkiaaDoorBG4
import Derived.Test.YtafbigmneipkiaaDoorBD2
import Derived.Test.YtafbigmneipkiaaDoorCards
import Derived.Test.YtafbigmneipkiaaDoorTie
namespace Go.Proofs.YtafbigmneipkiaaDoor
open Go Go.HL Go.Proofs Go.Tab Go.HL.Kl Go.HL.Kl.Bk

theorem bracketPrints_lifted (os : Os) (started : os.Started) (H : Type) (enc : TypeId × Value → H) :
    ReturnsInHanded {} Tryd.checked os 7 .any (fun w args => (Rows.bracketPrintsSpec.pre enc Tryd.prog Tryd.f7 [] false w args ∧ laidMetH Tryd.prog Rows.bracketPrintsRow.laid w) ∧ sizedMet enc Tryd.prog Tryd.f7 (OpenSpec.ofChange Rows.bracketPrintsSpec) false w args) (Rows.bracketPrintsSpec.post enc Tryd.prog Tryd.f7 false true false false) := by
  refine lift_lawD (C := Tryd.checked) (bt := 4) (by kernel_rfl) own started (by kernel_rfl) Tryd.func7
    (ChangeSpec.witness_shaped (enc := enc) (C := Tryd.checked) (os := os) (X := fun w _ => laidMetH Tryd.prog Rows.bracketPrintsRow.laid w) false (World.doorLaid Tryd.prog 400 os) #[.agg #[.int .u64 0, .int .u64 0, .int .u64 0, .int .u64 0], .agg #[.int .u64 0, .int .u64 0, .int .u64 0, .int .u64 0]] 8 rfl (World.shaped_of_RefB (by kernel_rfl) (by kernel_rfl)) (by kernel_rfl) (by kernel_rfl) (by kernel_rfl) (door_met4 os _)) rfl rfl Tryd.underlying4 laidOut (by kernel_rfl) (fun H ds h => by
      match ds, h with
      | [_, _], _ => rfl) ?_
  intro W args ds ps hA hval hsz hL
  have hT := tb_laid4 hL
  have hA0 : DataW.TrodAll enc Tryd.prog W 0 (fun _ => true) true [28, 28] args.toList ds ps := hA
  obtain ⟨v0, vs0, d0, ds0, p0, q0, hargs, rfl, rfl, h0, r0⟩ := ChangeShapes.trodAll_cons hA0
  obtain ⟨v1, vs1, d1, ds1, p1, q1, rfl, rfl, rfl, h1, r1⟩ := ChangeShapes.trodAll_cons r0
  obtain ⟨rfl, rfl, rfl⟩ := ChangeShapes.trodAll_nil r1
  obtain rfl : args = #[v0, v1] := by cases args; simp_all
  have w0 : ∀ n ∈ DataW.weights Tryd.prog 28 d0, n ≤ reachBytes := fun n hn => hsz n (DataW.weights_mem_each (ts := [28, 28]) (ds := [d0, d1]) (j := 0) rfl rfl n hn)
  have w1 : ∀ n ∈ DataW.weights Tryd.prog 28 d1, n ≤ reachBytes := fun n hn => hsz n (DataW.weights_mem_each (ts := [28, 28]) (ds := [d0, d1]) (j := 1) rfl rfl n hn)
  obtain ⟨c, rfl⟩ := arg_cl Tryd.underlying28 Tryd.underlying26 (by kernel_rfl) (by kernel_rfl) (hval 0 28 v0 rfl rfl) h0 w0
  obtain ⟨d, rfl⟩ := arg_cl Tryd.underlying28 Tryd.underlying26 (by kernel_rfl) (by kernel_rfl) (hval 1 28 v1 rfl rfl) h1 w1
  exact (bracketPrints_fn c d).calls W hT (Has.nil W)

theorem bracketPrints_row : Rows.bracketPrintsRow.holds Tryd.pinned (OpenSpec.ofChange Rows.bracketPrintsSpec) :=
  OpenClaim.holds_of_wide 7 Tryd.f7 rfl rfl rfl rfl rfl rfl rfl ⟨rfl, rfl, rfl, rfl, rfl⟩ rfl rfl rfl rfl rfl (by kernel_rfl) Tryd.func7 (by kernel_rfl)
    (of_decide_eq_true (by kernel_rfl)) (by unfold Func.isWrapper; first | (rw [if_pos (by decide +kernel)]; kernel_rfl) | (rw [if_neg (by decide +kernel)]; exact ⟨rfl, rfl⟩))
    (fun os started H enc _ => bracketPrints_lifted os started H enc)
theorem bracketPrints_card : Rows.BracketPrintsCardSaid :=
  Claim7.holds_tied_plain_at .later [] [.data, .data, .data, .data] true (true, "2d1bebb94b694cfc48b991733db72e6a591403dc9dc90274d78baf21201f01a3") false
    bracketPrints_row (fun _ h => by cases h) (by kernel_rfl) (fun _ h => by cases h) bracketPrints_row_tie rfl ⟨rfl, rfl⟩ (by kernel_rfl) rfl
    (fun f fn hf hfn => by
      obtain rfl : f = 7 := Option.some.inj ((show Tryd.prog.funcNamed "galley/galleylaw04.BracketPrints" = some 7 by kernel_rfl).symm.trans hf) |>.symm
      obtain rfl : fn = Tryd.f7 := (Option.some.inj (Tryd.func7.symm.trans hfn)).symm
      exact ⟨by kernel_rfl, fun j t ht => by
        have hm : t ∈ Tryd.f7.params.toList := List.mem_of_getElem? (by rw [Array.getElem?_toList]; exact ht)
        have hp : Tryd.f7.params.toList = [28, 28] := rfl
        rw [hp] at hm
        simp only [List.mem_cons, List.not_mem_nil, or_false] at hm
        rcases hm with rfl | rfl
        · exact (show Tryd.prog.wantsStandIn 28 = false by kernel_rfl)
        · exact (show Tryd.prog.wantsStandIn 28 = false by kernel_rfl)⟩)
    (by kernel_rfl)
end Go.Proofs.YtafbigmneipkiaaDoor
