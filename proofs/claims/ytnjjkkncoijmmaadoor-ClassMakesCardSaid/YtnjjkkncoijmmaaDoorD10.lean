/- Proved: the tied card of the law ClassMakes: true for all its arguments. Conditions: none. -/
import Derived.Test.YtnjjkkncoijmmaaDoorCD
import Derived.Test.YtnjjkkncoijmmaaDoorCW14
import Derived.Test.YtnjjkkncoijmmaaDoorCards
import Derived.Test.YtnjjkkncoijmmaaDoorTie
namespace Go.Proofs.YtnjjkkncoijmmaaDoor
open Go Go.HL Go.Proofs Go.HL.Kl

theorem classMakes_lifted (os : Os) (started : os.Started) (H : Type) (enc : TypeId × Value → H) :
    ReturnsInHanded {} Tryd.checked os 10 .any (fun w args => (Rows.classMakesSpec.pre enc Tryd.prog Tryd.f10 [] false w args ∧ laidMetH Tryd.prog Rows.classMakesRow.laid w) ∧ sizedMet enc Tryd.prog Tryd.f10 (OpenSpec.ofChange Rows.classMakesSpec) false w args) (Rows.classMakesSpec.post enc Tryd.prog Tryd.f10 false true false false) := by
  refine lift_lawD (C := Tryd.checked) (bt := 4) (by kernel_rfl) own started (by kernel_rfl) Tryd.func10
    (ChangeSpec.witness_shaped (enc := enc) (C := Tryd.checked) (os := os) (X := fun w _ => laidMetH Tryd.prog Rows.classMakesRow.laid w) false (World.doorLaid Tryd.prog 400 os) #[.slice none 0 0, .int .u8 0, .int .u8 0, .string ⟨#[]⟩] 8 rfl (World.shaped_of_RefB (by kernel_rfl) (by kernel_rfl)) (by kernel_rfl) (by kernel_rfl) (by kernel_rfl) (door_met os _)) rfl rfl Tryd.underlying4 laidOut (by kernel_rfl) (fun H ds h => by
      match ds, h with
      | [_, _, _, _], _ => rfl) ?_
  intro W args ds ps hA hval hsz hL
  have hT := tb_laid hL
  have hA0 : DataW.TrodAll enc Tryd.prog W 0 (fun _ => true) true [26, 5, 5, 9] args.toList ds ps := hA
  obtain ⟨v0, vs0, d0, ds0, p0, q0, hargs, rfl, rfl, h0, r0⟩ := ChangeShapes.trodAll_cons hA0
  obtain ⟨v1, vs1, d1, ds1, p1, q1, rfl, rfl, rfl, h1, r1⟩ := ChangeShapes.trodAll_cons r0
  obtain ⟨v2, vs2, d2, ds2, p2, q2, rfl, rfl, rfl, h2, r2⟩ := ChangeShapes.trodAll_cons r1
  obtain ⟨v3, vs3, d3, ds3, p3, q3, rfl, rfl, rfl, h3, r3⟩ := ChangeShapes.trodAll_cons r2
  obtain ⟨rfl, rfl, rfl⟩ := ChangeShapes.trodAll_nil r3
  obtain rfl : args = #[v0, v1, v2, v3] := by cases args; simp_all
  have w0 : ∀ n ∈ DataW.weights Tryd.prog 26 d0, n ≤ reachBytes := fun n hn => hsz n (DataW.weights_mem_each (ts := [26, 5, 5, 9]) (ds := [d0, d1, d2, d3]) (j := 0) rfl rfl n hn)
  have w1 : ∀ n ∈ DataW.weights Tryd.prog 5 d1, n ≤ reachBytes := fun n hn => hsz n (DataW.weights_mem_each (ts := [26, 5, 5, 9]) (ds := [d0, d1, d2, d3]) (j := 1) rfl rfl n hn)
  have w2 : ∀ n ∈ DataW.weights Tryd.prog 5 d2, n ≤ reachBytes := fun n hn => hsz n (DataW.weights_mem_each (ts := [26, 5, 5, 9]) (ds := [d0, d1, d2, d3]) (j := 2) rfl rfl n hn)
  have w3 : ∀ n ∈ DataW.weights Tryd.prog 9 d3, n ≤ reachBytes := fun n hn => hsz n (DataW.weights_mem_each (ts := [26, 5, 5, 9]) (ds := [d0, d1, d2, d3]) (j := 3) rfl rfl n hn)
  obtain ⟨l, rfl, hr_l, _, hb_l⟩ := arg_slice (_E := Eb) Tryd.underlying26 (open_slice' Tryd.underlying26 (by kernel_rfl) (by decide) (of_decide_eq_true (by kernel_rfl)) (open_u8 Tryd.underlying5)) (hval 0 26 v0 rfl rfl) h0 w0
  obtain ⟨x, rfl⟩ := arg_u8 Tryd.underlying5 (hval 1 5 v1 rfl rfl) h1 w1
  obtain ⟨y, rfl⟩ := arg_u8 Tryd.underlying5 (hval 2 5 v2 rfl rfl) h2 w2
  obtain ⟨s, rfl, hl_s⟩ := arg_str Tryd.underlying9 (hval 3 9 v3 rfl rfl) h3 w3
  have h1 : Tryd.prog.bytesOf 26 = 24 := by kernel_rfl
  have h5 : Tryd.prog.bytesOf 5 = 1 := by kernel_rfl
  exact (classMakes_fn l.a l.c l.xs x.toNat y.toNat s (by rw [h5] at hb_l; omega) (by have := x.toNat_lt; omega) (by have := y.toNat_lt; omega)).calls W ⟨hr_l, hT⟩ (Has.nil W)

theorem classMakes_row : Rows.classMakesRow.holds Tryd.pinned (OpenSpec.ofChange Rows.classMakesSpec) :=
  OpenClaim.holds_of_wide 10 Tryd.f10 rfl rfl rfl rfl rfl rfl rfl ⟨rfl, rfl, rfl, rfl, rfl⟩ rfl rfl rfl rfl rfl (by kernel_rfl) Tryd.func10 (by kernel_rfl)
    (of_decide_eq_true (by kernel_rfl)) (by unfold Func.isWrapper; first | (rw [if_pos (by decide +kernel)]; kernel_rfl) | (rw [if_neg (by decide +kernel)]; exact ⟨rfl, rfl⟩))
    (fun os started H enc _ => classMakes_lifted os started H enc)
theorem classMakes_card : Rows.ClassMakesCardSaid :=
  Claim7.holds_tied_plain_at .later [] [.data] true (true, "fc80b0e862b0db07990f2ad8fa0286fce0e461478a25f31d9881fa7434a38892") false
    classMakes_row (fun _ h => by cases h) (by kernel_rfl) (fun _ h => by cases h) classMakes_row_tie rfl ⟨rfl, rfl⟩ (by kernel_rfl) rfl
    (fun f fn hf hfn => by
      obtain rfl : f = 10 := Option.some.inj ((show Tryd.prog.funcNamed "galley/galleylaw01.ClassMakes" = some 10 by kernel_rfl).symm.trans hf) |>.symm
      obtain rfl : fn = Tryd.f10 := (Option.some.inj (Tryd.func10.symm.trans hfn)).symm
      exact ⟨by kernel_rfl, fun j t ht => by
        have hm : t ∈ Tryd.f10.params.toList := List.mem_of_getElem? (by rw [Array.getElem?_toList]; exact ht)
        have hp : Tryd.f10.params.toList = [26, 5, 5, 9] := rfl
        rw [hp] at hm
        simp only [List.mem_cons, List.not_mem_nil, or_false] at hm
        rcases hm with rfl | rfl | rfl | rfl
        · exact (show Tryd.prog.wantsStandIn 26 = false by kernel_rfl)
        · exact (show Tryd.prog.wantsStandIn 5 = false by kernel_rfl)
        · exact (show Tryd.prog.wantsStandIn 5 = false by kernel_rfl)
        · exact (show Tryd.prog.wantsStandIn 9 = false by kernel_rfl)⟩)
    (by kernel_rfl)
end Go.Proofs.YtnjjkkncoijmmaaDoor
