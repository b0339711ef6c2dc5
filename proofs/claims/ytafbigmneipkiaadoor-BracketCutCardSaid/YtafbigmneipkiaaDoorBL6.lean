/- Proved: the tied card of the law BracketCut: true for all its arguments. Conditions: none. -/
import Derived.Test.YtafbigmneipkiaaDoorBW8
import Derived.Test.YtafbigmneipkiaaDoorBD
import Derived.Test.YtafbigmneipkiaaDoorCards
import Derived.Test.YtafbigmneipkiaaDoorTie
namespace Go.Proofs.YtafbigmneipkiaaDoor
open Go Go.HL Go.Proofs Go.Tab Go.HL.Kl Go.HL.Kl.Bk

theorem bracketCut_lifted (os : Os) (started : os.Started) (H : Type) (enc : TypeId × Value → H) :
    ReturnsInHanded {} Tryd.checked os 6 .any (fun w args => (Rows.bracketCutSpec.pre enc Tryd.prog Tryd.f6 [] false w args ∧ laidMetH Tryd.prog Rows.bracketCutRow.laid w) ∧ sizedMet enc Tryd.prog Tryd.f6 (OpenSpec.ofChange Rows.bracketCutSpec) false w args) (Rows.bracketCutSpec.post enc Tryd.prog Tryd.f6 false true false false) := by
  refine lift_lawD (C := Tryd.checked) (bt := 4) (by kernel_rfl) own started (by kernel_rfl) Tryd.func6
    (ChangeSpec.witness_shaped (enc := enc) (C := Tryd.checked) (os := os) (X := fun w _ => laidMetH Tryd.prog Rows.bracketCutRow.laid w) false (World.doorLaid Tryd.prog 400 os) #[.slice none 0 0, .int .i64 0, .int .i64 0, .slice none 0 0] 8 rfl (World.shaped_of_RefB (by kernel_rfl) (by kernel_rfl)) (by kernel_rfl) (by kernel_rfl) (by kernel_rfl) (door_met os _)) rfl rfl Tryd.underlying4 laidOut (by kernel_rfl) (fun H ds h => by
      match ds, h with
      | [_, _, _, _], _ => rfl) ?_
  intro W args ds ps hA hval hsz hL
  have hT := tb_laid hL
  have hA0 : DataW.TrodAll enc Tryd.prog W 0 (fun _ => true) true [22, 3, 3, 22] args.toList ds ps := hA
  obtain ⟨v0, vs0, d0, ds0, p0, q0, hargs, rfl, rfl, h0, r0⟩ := ChangeShapes.trodAll_cons hA0
  obtain ⟨v1, vs1, d1, ds1, p1, q1, rfl, rfl, rfl, h1, r1⟩ := ChangeShapes.trodAll_cons r0
  obtain ⟨v2, vs2, d2, ds2, p2, q2, rfl, rfl, rfl, h2, r2⟩ := ChangeShapes.trodAll_cons r1
  obtain ⟨v3, vs3, d3, ds3, p3, q3, rfl, rfl, rfl, h3, r3⟩ := ChangeShapes.trodAll_cons r2
  obtain ⟨rfl, rfl, rfl⟩ := ChangeShapes.trodAll_nil r3
  obtain rfl : args = #[v0, v1, v2, v3] := by cases args; simp_all
  have w0 : ∀ n ∈ DataW.weights Tryd.prog 22 d0, n ≤ reachBytes := fun n hn => hsz n (DataW.weights_mem_each (ts := [22, 3, 3, 22]) (ds := [d0, d1, d2, d3]) (j := 0) rfl rfl n hn)
  have w1 : ∀ n ∈ DataW.weights Tryd.prog 3 d1, n ≤ reachBytes := fun n hn => hsz n (DataW.weights_mem_each (ts := [22, 3, 3, 22]) (ds := [d0, d1, d2, d3]) (j := 1) rfl rfl n hn)
  have w2 : ∀ n ∈ DataW.weights Tryd.prog 3 d2, n ≤ reachBytes := fun n hn => hsz n (DataW.weights_mem_each (ts := [22, 3, 3, 22]) (ds := [d0, d1, d2, d3]) (j := 2) rfl rfl n hn)
  have w3 : ∀ n ∈ DataW.weights Tryd.prog 22 d3, n ≤ reachBytes := fun n hn => hsz n (DataW.weights_mem_each (ts := [22, 3, 3, 22]) (ds := [d0, d1, d2, d3]) (j := 3) rfl rfl n hn)
  obtain ⟨x, rfl, hr_x, _, hb_x⟩ := arg_slice (_E := Em) Tryd.underlying22 (open_slice' Tryd.underlying22 (by kernel_rfl) (by decide) (of_decide_eq_true (by kernel_rfl)) open_mark) (hval 0 22 v0 rfl rfl) h0 w0
  obtain ⟨m, rfl, hn1_m, hn2_m⟩ := arg_i64 Tryd.underlying3 (hval 1 3 v1 rfl rfl) h1 w1
  obtain ⟨n, rfl, hn1_n, hn2_n⟩ := arg_i64 Tryd.underlying3 (hval 2 3 v2 rfl rfl) h2 w2
  obtain ⟨y, rfl, hr_y, _, hb_y⟩ := arg_slice (_E := Em) Tryd.underlying22 (open_slice' Tryd.underlying22 (by kernel_rfl) (by decide) (of_decide_eq_true (by kernel_rfl)) open_mark) (hval 3 22 v3 rfl rfl) h3 w3
  have e35 : Tryd.prog.bytesOf 35 = 2 := by kernel_rfl
  rw [e35] at hb_x hb_y
  exact (bracketCut_fn x.a y.a x.c y.c x.xs y.xs m n (by omega) (by omega) (by omega)).calls W ⟨⟨hr_x, hr_y⟩, hT⟩ (Has.nil W)

theorem bracketCut_row : Rows.bracketCutRow.holds Tryd.pinned (OpenSpec.ofChange Rows.bracketCutSpec) :=
  OpenClaim.holds_of_wide 6 Tryd.f6 rfl rfl rfl rfl rfl rfl rfl ⟨rfl, rfl, rfl, rfl, rfl⟩ rfl rfl rfl rfl rfl (by kernel_rfl) Tryd.func6 (by kernel_rfl)
    (of_decide_eq_true (by kernel_rfl)) (by unfold Func.isWrapper; first | (rw [if_pos (by decide +kernel)]; kernel_rfl) | (rw [if_neg (by decide +kernel)]; exact ⟨rfl, rfl⟩))
    (fun os started H enc _ => bracketCut_lifted os started H enc)
theorem bracketCut_card : Rows.BracketCutCardSaid :=
  Claim7.holds_tied_plain_at .later [] [.data, .data] true (true, "2d1bebb94b694cfc48b991733db72e6a591403dc9dc90274d78baf21201f01a3") false
    bracketCut_row (fun _ h => by cases h) (by kernel_rfl) (fun _ h => by cases h) bracketCut_row_tie rfl ⟨rfl, rfl⟩ (by kernel_rfl) rfl
    (fun f fn hf hfn => by
      obtain rfl : f = 6 := Option.some.inj ((show Tryd.prog.funcNamed "galley/galleylaw04.BracketCut" = some 6 by kernel_rfl).symm.trans hf) |>.symm
      obtain rfl : fn = Tryd.f6 := (Option.some.inj (Tryd.func6.symm.trans hfn)).symm
      exact ⟨by kernel_rfl, fun j t ht => by
        have hm : t ∈ Tryd.f6.params.toList := List.mem_of_getElem? (by rw [Array.getElem?_toList]; exact ht)
        have hp : Tryd.f6.params.toList = [22, 3, 3, 22] := rfl
        rw [hp] at hm
        simp only [List.mem_cons, List.not_mem_nil, or_false] at hm
        rcases hm with rfl | rfl | rfl | rfl
        · exact (show Tryd.prog.wantsStandIn 22 = false by kernel_rfl)
        · exact (show Tryd.prog.wantsStandIn 3 = false by kernel_rfl)
        · exact (show Tryd.prog.wantsStandIn 3 = false by kernel_rfl)
        · exact (show Tryd.prog.wantsStandIn 22 = false by kernel_rfl)⟩)
    (by kernel_rfl)
end Go.Proofs.YtafbigmneipkiaaDoor
