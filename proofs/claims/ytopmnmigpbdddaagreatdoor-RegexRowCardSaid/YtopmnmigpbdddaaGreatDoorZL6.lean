/- Proved: the tied card of the law RegexRow: true for all its arguments. Conditions: none. -/
import Derived.Test.YtopmnmigpbdddaaGreatDoorZP4Z
import Derived.Test.YtopmnmigpbdddaaGreatDoorCards
import Derived.Test.YtopmnmigpbdddaaGreatDoorTie
namespace Go.Proofs.YtopmnmigpbdddaaGreatDoor
open Go Go.HL Go.Proofs Go.HL.Kl Go.HL.Kl.Mc
theorem regexRow_lifted (os : Os) (started : os.Started) (H : Type) (enc : TypeId × Value → H) :
    ReturnsInHanded {} Tryz.checked os 5 .any (fun w args => (Rows.regexRowSpec.pre enc Tryz.prog Tryz.f5 [] false w args ∧ laidMetH Tryz.prog Rows.regexRowRow.laid w) ∧ sizedMet enc Tryz.prog Tryz.f5 (OpenSpec.ofChange Rows.regexRowSpec) false w args) (Rows.regexRowSpec.post enc Tryz.prog Tryz.f5 false true false false) := by
  refine lift_lawD (C := Tryz.checked) (bt := 4) (by kernel_rfl) own started (by kernel_rfl) Tryz.func5
    (ChangeSpec.witness_shaped (enc := enc) (C := Tryz.checked) (os := os) (X := fun w _ => laidMetH Tryz.prog Rows.regexRowRow.laid w) false (World.doorLaid Tryz.prog 400 os) #[.slice none 0 0, .slice none 0 0] 8 rfl (World.shaped_of_RefB (by kernel_rfl) (by kernel_rfl)) (by kernel_rfl) (by kernel_rfl) (by kernel_rfl) (door_metB os _)) rfl rfl Tryz.underlying4 laidOut (by kernel_rfl) (fun H ds h => by
      match ds, h with
      | [_, _], _ => rfl) ?_
  intro W args ds ps hA hval hsz hL
  have hT := tb_laid hL
  have hA0 : DataW.TrodAll enc Tryz.prog W 0 (fun _ => true) true [22, 23] args.toList ds ps := hA
  obtain ⟨v0, vs0, d0, ds0, p0, q0, hargs, rfl, rfl, h0, r0⟩ := ChangeShapes.trodAll_cons hA0
  obtain ⟨v1, vs1, d1, ds1, p1, q1, rfl, rfl, rfl, h1, r1⟩ := ChangeShapes.trodAll_cons r0
  obtain ⟨rfl, rfl, rfl⟩ := ChangeShapes.trodAll_nil r1
  obtain rfl : args = #[v0, v1] := by cases args; simp_all
  have w0 : ∀ n ∈ DataW.weights Tryz.prog 22 d0, n ≤ reachBytes := fun n hn => hsz n (DataW.weights_mem_each (ts := [22, 23]) (ds := [d0, d1]) (j := 0) rfl rfl n hn)
  have w1 : ∀ n ∈ DataW.weights Tryz.prog 23 d1, n ≤ reachBytes := fun n hn => hsz n (DataW.weights_mem_each (ts := [22, 23]) (ds := [d0, d1]) (j := 1) rfl rfl n hn)
  obtain ⟨r, rfl, hr_r, hm_r, hb_r⟩ := arg_slice (_E := En) Tryz.underlying22 (open_slice' Tryz.underlying22 (by kernel_rfl) (by decide) (of_decide_eq_true (by kernel_rfl)) open_nd) (hval 0 22 v0 rfl rfl) h0 w0
  obtain ⟨t, rfl, hr_t, hm_t, hb_t⟩ := arg_slice (_E := Eb) Tryz.underlying23 (open_slice' Tryz.underlying23 (by kernel_rfl) (by decide) (of_decide_eq_true (by kernel_rfl)) (open_u8 Tryz.underlying5)) (hval 1 23 v1 rfl rfl) h1 w1
  exact (regexRow_fn r.a r.c r.xs hm_r t.a t.c t.xs).calls W ⟨hr_r, hr_t, hT⟩ (Has.nil W)
theorem regexRow_row : Rows.regexRowRow.holds Tryz.pinned (OpenSpec.ofChange Rows.regexRowSpec) :=
  OpenClaim.holds_of_wide 5 Tryz.f5 rfl rfl rfl rfl rfl rfl rfl ⟨rfl, rfl, rfl, rfl, rfl⟩ rfl rfl rfl rfl rfl (by kernel_rfl) Tryz.func5 (by kernel_rfl)
    (of_decide_eq_true (by kernel_rfl)) (by unfold Func.isWrapper; first | (rw [if_pos (by decide +kernel)]; kernel_rfl) | (rw [if_neg (by decide +kernel)]; exact ⟨rfl, rfl⟩))
    (fun os started H enc _ => regexRow_lifted os started H enc)
theorem regexRow_card : Rows.RegexRowCardSaid :=
  Claim7.holds_tied_plain_at .later [] [.data] true (true, "fcad763f301aaccd16b9b05756bcc185cb78841db85c5ae1c1d52a09590c4fcc") true
    regexRow_row (fun _ h => by cases h) (by kernel_rfl) (fun _ h => by cases h) regexRow_row_tie rfl ⟨rfl, rfl⟩ (by kernel_rfl) rfl
    (fun f fn hf hfn => by
      obtain rfl : f = 5 := Option.some.inj ((show Tryz.prog.funcNamed "galley/galleylaw12.RegexRow" = some 5 by kernel_rfl).symm.trans hf) |>.symm
      obtain rfl : fn = Tryz.f5 := (Option.some.inj (Tryz.func5.symm.trans hfn)).symm
      exact ⟨by kernel_rfl, fun j t ht => by
        have hm : t ∈ Tryz.f5.params.toList := List.mem_of_getElem? (by rw [Array.getElem?_toList]; exact ht)
        have hp : Tryz.f5.params.toList = [22, 23] := rfl
        rw [hp] at hm
        simp only [List.mem_cons, List.not_mem_nil, or_false] at hm
        rcases hm with rfl | rfl
        · exact (show Tryz.prog.wantsStandIn 22 = false by kernel_rfl)
        · exact (show Tryz.prog.wantsStandIn 23 = false by kernel_rfl)⟩)
    (by kernel_rfl)
end Go.Proofs.YtopmnmigpbdddaaGreatDoor
