/- Proved: the tied card of the law StatesAlike: true for all its arguments. Conditions: none. -/
import Derived.Test.YtmompllplidphaaDoorSE10Z
import Derived.Test.YtmompllplidphaaDoorCards
import Derived.Test.YtmompllplidphaaDoorTie
namespace Go.Proofs.YtmompllplidphaaDoor
open Go Go.HL Go.Proofs Go.HL.Kl Go.HL.Kl.Mc Go.HL.Sts
theorem statesAlike_lifted (os : Os) (started : os.Started) (H : Type) (enc : TypeId × Value → H) :
    ReturnsInHanded {} Tryd.checked os 6 .any (fun w args => (Rows.statesAlikeSpec.pre enc Tryd.prog Tryd.f6 [] false w args ∧ laidMetH Tryd.prog Rows.statesAlikeRow.laid w) ∧ sizedMet enc Tryd.prog Tryd.f6 (OpenSpec.ofChange Rows.statesAlikeSpec) false w args) (Rows.statesAlikeSpec.post enc Tryd.prog Tryd.f6 false true false false) := by
  refine lift_lawD (C := Tryd.checked) (bt := 4) (by kernel_rfl) own started (by kernel_rfl) Tryd.func6
    (ChangeSpec.witness_shaped (enc := enc) (C := Tryd.checked) (os := os) (X := fun w _ => laidMetH Tryd.prog Rows.statesAlikeRow.laid w) false (World.doorLaid Tryd.prog 400 os) #[.slice none 0 0, .slice none 0 0, .slice none 0 0] 8 rfl (World.shaped_of_RefB (by kernel_rfl) (by kernel_rfl)) (by kernel_rfl) (by kernel_rfl) (by kernel_rfl) (door_met os _)) rfl rfl Tryd.underlying4 laidOut (by kernel_rfl) (fun H ds h => by
      match ds, h with
      | [_, _, _], _ => rfl) ?_
  intro W args ds ps hA hval hsz hL
  have hT := tb_laid hL
  have hA0 : DataW.TrodAll enc Tryd.prog W 0 (fun _ => true) true [37, 37, 38] args.toList ds ps := hA
  obtain ⟨v0, vs0, d0, ds0, p0, q0, hargs, rfl, rfl, h0, r0⟩ := ChangeShapes.trodAll_cons hA0
  obtain ⟨v1, vs1, d1, ds1, p1, q1, rfl, rfl, rfl, h1, r1⟩ := ChangeShapes.trodAll_cons r0
  obtain ⟨v2, vs2, d2, ds2, p2, q2, rfl, rfl, rfl, h2, r2⟩ := ChangeShapes.trodAll_cons r1
  obtain ⟨rfl, rfl, rfl⟩ := ChangeShapes.trodAll_nil r2
  obtain rfl : args = #[v0, v1, v2] := by cases args; simp_all
  have w0 : ∀ n ∈ DataW.weights Tryd.prog 37 d0, n ≤ reachBytes := fun n hn => hsz n (DataW.weights_mem_each (ts := [37, 37, 38]) (ds := [d0, d1, d2]) (j := 0) rfl rfl n hn)
  have w1 : ∀ n ∈ DataW.weights Tryd.prog 37 d1, n ≤ reachBytes := fun n hn => hsz n (DataW.weights_mem_each (ts := [37, 37, 38]) (ds := [d0, d1, d2]) (j := 1) rfl rfl n hn)
  have w2 : ∀ n ∈ DataW.weights Tryd.prog 38 d2, n ≤ reachBytes := fun n hn => hsz n (DataW.weights_mem_each (ts := [37, 37, 38]) (ds := [d0, d1, d2]) (j := 2) rfl rfl n hn)
  obtain ⟨r, rfl, hr_r, hm_r, hb_r⟩ := arg_slice (_E := En) Tryd.underlying37 (open_slice' Tryd.underlying37 (by kernel_rfl) (by decide) (of_decide_eq_true (by kernel_rfl)) open_nd) (hval 0 37 v0 rfl rfl) h0 w0
  obtain ⟨q, rfl, hr_q, hm_q, hb_q⟩ := arg_slice (_E := En) Tryd.underlying37 (open_slice' Tryd.underlying37 (by kernel_rfl) (by decide) (of_decide_eq_true (by kernel_rfl)) open_nd) (hval 1 37 v1 rfl rfl) h1 w1
  obtain ⟨x, rfl, hr_x, hm_x, hb_x⟩ := arg_slice (_E := Esl) Tryd.underlying38 (open_slice' (E := Esl) Tryd.underlying38 (by kernel_rfl) (by decide) (of_decide_eq_true (by kernel_rfl)) (open_slice' (E := Eb) Tryd.underlying27 (by kernel_rfl) (by decide) (of_decide_eq_true (by kernel_rfl)) (open_u8 Tryd.underlying5))) (hval 2 38 v2 rfl rfl) h2 w2
  exact (statesAlike_fn r.a r.c r.xs hm_r q.a q.c q.xs hm_q x.a x.c x.xs).calls W ⟨hr_r, hr_q, hT, hr_x, fun s hs => (hm_x s hs).1⟩ (Has.nil W)
theorem statesAlike_row : Rows.statesAlikeRow.holds Tryd.pinned (OpenSpec.ofChange Rows.statesAlikeSpec) :=
  OpenClaim.holds_of_wide 6 Tryd.f6 rfl rfl rfl rfl rfl rfl rfl ⟨rfl, rfl, rfl, rfl, rfl⟩ rfl rfl rfl rfl rfl (by kernel_rfl) Tryd.func6 (by kernel_rfl)
    (of_decide_eq_true (by kernel_rfl)) (by unfold Func.isWrapper; first | (rw [if_pos (by decide +kernel)]; kernel_rfl) | (rw [if_neg (by decide +kernel)]; exact ⟨rfl, rfl⟩))
    (fun os started H enc _ => statesAlike_lifted os started H enc)
theorem statesAlike_card : Rows.StatesAlikeCardSaid :=
  Claim7.holds_tied_plain_at .later [] [.data] true (true, "786c7c662a98de1fdd7f6bf2b7eb235d62ba7d76e814eafc53e2baa74c5ab156") false
    statesAlike_row (fun _ h => by cases h) (by kernel_rfl) (fun _ h => by cases h) statesAlike_row_tie rfl ⟨rfl, rfl⟩ (by kernel_rfl) rfl
    (fun f fn hf hfn => by
      obtain rfl : f = 6 := Option.some.inj ((show Tryd.prog.funcNamed "galley/galleylaw09.StatesAlike" = some 6 by kernel_rfl).symm.trans hf) |>.symm
      obtain rfl : fn = Tryd.f6 := (Option.some.inj (Tryd.func6.symm.trans hfn)).symm
      exact ⟨by kernel_rfl, fun j t ht => by
        have hm : t ∈ Tryd.f6.params.toList := List.mem_of_getElem? (by rw [Array.getElem?_toList]; exact ht)
        have hp : Tryd.f6.params.toList = [37, 37, 38] := rfl
        rw [hp] at hm
        simp only [List.mem_cons, List.not_mem_nil, or_false] at hm
        rcases hm with rfl | rfl | rfl
        · exact (show Tryd.prog.wantsStandIn 37 = false by kernel_rfl)
        · exact (show Tryd.prog.wantsStandIn 37 = false by kernel_rfl)
        · exact (show Tryd.prog.wantsStandIn 38 = false by kernel_rfl)⟩)
    (by kernel_rfl)
end Go.Proofs.YtmompllplidphaaDoor
