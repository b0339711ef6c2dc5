/- Proved: the tied card of the law RegexNil: true for all its arguments. Conditions: none. -/
import Derived.Test.YtopmnmigpbdddaaDoorXZW10Z
import Derived.Test.YtopmnmigpbdddaaDoorXZP4Z
import Derived.Test.YtopmnmigpbdddaaDoorCards
import Derived.Test.YtopmnmigpbdddaaDoorTie
namespace Go.Proofs.YtopmnmigpbdddaaDoor
open Go Go.HL Go.Proofs Go.HL.Kl Go.HL.Kl.Mc

theorem regexNil_lifted (os : Os) (started : os.Started) (H : Type) (enc : TypeId × Value → H) :
    ReturnsInHanded {} Tryd.checked os 3 .any (fun w args => (Rows.regexNilSpec.pre enc Tryd.prog Tryd.f3 [] false w args ∧ laidMetH Tryd.prog Rows.regexNilRow.laid w) ∧ sizedMet enc Tryd.prog Tryd.f3 (OpenSpec.ofChange Rows.regexNilSpec) false w args) (Rows.regexNilSpec.post enc Tryd.prog Tryd.f3 false true false false) := by
  refine lift_lawD (C := Tryd.checked) (bt := 4) (by kernel_rfl) own started (by kernel_rfl) Tryd.func3
    (ChangeSpec.witness_shaped (enc := enc) (C := Tryd.checked) (os := os) (X := fun w _ => laidMetH Tryd.prog Rows.regexNilRow.laid w) false (World.doorLaid Tryd.prog 400 os) #[.slice none 0 0, .int .i64 0] 8 rfl (World.shaped_of_RefB (by kernel_rfl) (by kernel_rfl)) (by kernel_rfl) (by kernel_rfl) (by kernel_rfl) (door_met os _)) rfl rfl Tryd.underlying4 laidOut (by kernel_rfl) (fun H ds h => by
      match ds, h with
      | [_, _], _ => rfl) ?_
  intro W args ds ps hA hval hsz hL
  have hA0 : DataW.TrodAll enc Tryd.prog W 0 (fun _ => true) true [22, 3] args.toList ds ps := hA
  obtain ⟨v0, vs0, d0, ds0, p0, q0, hargs, rfl, rfl, h0, r0⟩ := ChangeShapes.trodAll_cons hA0
  obtain ⟨v1, vs1, d1, ds1, p1, q1, rfl, rfl, rfl, h1, r1⟩ := ChangeShapes.trodAll_cons r0
  obtain ⟨rfl, rfl, rfl⟩ := ChangeShapes.trodAll_nil r1
  obtain rfl : args = #[v0, v1] := by cases args; simp_all
  have w0 : ∀ n ∈ DataW.weights Tryd.prog 22 d0, n ≤ reachBytes := fun n hn => hsz n (DataW.weights_mem_each (ts := [22, 3]) (ds := [d0, d1]) (j := 0) rfl rfl n hn)
  have w1 : ∀ n ∈ DataW.weights Tryd.prog 3 d1, n ≤ reachBytes := fun n hn => hsz n (DataW.weights_mem_each (ts := [22, 3]) (ds := [d0, d1]) (j := 1) rfl rfl n hn)
  obtain ⟨t, rfl, hr_t, hm_t, hb_t⟩ := arg_slice (_E := Eb) Tryd.underlying22 (open_slice' Tryd.underlying22 (by kernel_rfl) (by decide) (of_decide_eq_true (by kernel_rfl)) (open_u8 Tryd.underlying5)) (hval 0 22 v0 rfl rfl) h0 w0
  obtain ⟨f, rfl, hi_f⟩ := arg_i64 Tryd.underlying3 (hval 1 3 v1 rfl rfl) h1 w1
  exact (regexNil_fn t.a t.c t.xs f).calls W hr_t (Has.nil W)

theorem regexNil_row : Rows.regexNilRow.holds Tryd.pinned (OpenSpec.ofChange Rows.regexNilSpec) :=
  OpenClaim.holds_of_wide 3 Tryd.f3 rfl rfl rfl rfl rfl rfl rfl ⟨rfl, rfl, rfl, rfl, rfl⟩ rfl rfl rfl rfl rfl (by kernel_rfl) Tryd.func3 (by kernel_rfl)
    (of_decide_eq_true (by kernel_rfl)) (by unfold Func.isWrapper; first | (rw [if_pos (by decide +kernel)]; kernel_rfl) | (rw [if_neg (by decide +kernel)]; exact ⟨rfl, rfl⟩))
    (fun os started H enc _ => regexNil_lifted os started H enc)
theorem regexNil_card : Rows.RegexNilCardSaid :=
  Claim7.holds_tied_plain_at .later [] [.data] true (true, "ae7e71a054ccbecbbbda1773f1a198cac78ae076e4aab5f74ef498d73ea1ae35") true
    regexNil_row (fun _ h => by cases h) (by kernel_rfl) (fun _ h => by cases h) regexNil_row_tie rfl ⟨rfl, rfl⟩ (by kernel_rfl) rfl
    (fun f fn hf hfn => by
      obtain rfl : f = 3 := Option.some.inj ((show Tryd.prog.funcNamed "galley/galleylaw12.RegexNil" = some 3 by kernel_rfl).symm.trans hf) |>.symm
      obtain rfl : fn = Tryd.f3 := (Option.some.inj (Tryd.func3.symm.trans hfn)).symm
      exact ⟨by kernel_rfl, fun j t ht => by
        have hm : t ∈ Tryd.f3.params.toList := List.mem_of_getElem? (by rw [Array.getElem?_toList]; exact ht)
        have hp : Tryd.f3.params.toList = [22, 3] := rfl
        rw [hp] at hm
        simp only [List.mem_cons, List.not_mem_nil, or_false] at hm
        rcases hm with rfl | rfl
        · exact (show Tryd.prog.wantsStandIn 22 = false by kernel_rfl)
        · exact (show Tryd.prog.wantsStandIn 3 = false by kernel_rfl)⟩)
    (by kernel_rfl)
end Go.Proofs.YtopmnmigpbdddaaDoor
