/- Proved: the tied card of the law BackrefTwice: true for all its arguments. Conditions: none. -/
import Derived.Test.YtloepfcndglmmaaDoorVZL3Z
import Derived.Test.YtloepfcndglmmaaDoorCards
import Derived.Test.YtloepfcndglmmaaDoorTie
namespace Go.Proofs.YtloepfcndglmmaaDoor
open Go Go.HL Go.Proofs Go.HL.Kl Go.HL.Kl.Mc
theorem backrefTwice_lifted (os : Os) (started : os.Started) (H : Type) (enc : TypeId × Value → H) :
    ReturnsInHanded {} Tryd.checked os 7 .any (fun w args => (Rows.backrefTwiceSpec.pre enc Tryd.prog Tryd.f7 [] false w args ∧ laidMetH Tryd.prog Rows.backrefTwiceRow.laid w) ∧ sizedMet enc Tryd.prog Tryd.f7 (OpenSpec.ofChange Rows.backrefTwiceSpec) false w args) (Rows.backrefTwiceSpec.post enc Tryd.prog Tryd.f7 false true false false) := by
  refine lift_lawD (C := Tryd.checked) (bt := 4) (by kernel_rfl) own started (by kernel_rfl) Tryd.func7
    (ChangeSpec.witness_shaped (enc := enc) (C := Tryd.checked) (os := os) (X := fun w _ => laidMetH Tryd.prog Rows.backrefTwiceRow.laid w) false (World.doorLaid Tryd.prog 400 os) #[.slice none 0 0, .slice none 0 0, .int .i64 0] 8 rfl (World.shaped_of_RefB (by kernel_rfl) (by kernel_rfl)) (by kernel_rfl) (by kernel_rfl) (by kernel_rfl) (door_met os _)) rfl rfl Tryd.underlying4 laidOut (by kernel_rfl) (fun H ds h => by
      match ds, h with
      | [_, _, _], _ => rfl) ?_
  intro W args ds ps hA hval hsz hL
  have hT := tb_laid hL
  have hA0 : DataW.TrodAll enc Tryd.prog W 0 (fun _ => true) true [22, 23, 3] args.toList ds ps := hA
  obtain ⟨v0, vs0, d0, ds0, p0, q0, hargs, rfl, rfl, h0, r0⟩ := ChangeShapes.trodAll_cons hA0
  obtain ⟨v1, vs1, d1, ds1, p1, q1, rfl, rfl, rfl, h1, r1⟩ := ChangeShapes.trodAll_cons r0
  obtain ⟨v2, vs2, d2, ds2, p2, q2, rfl, rfl, rfl, h2, r2⟩ := ChangeShapes.trodAll_cons r1
  obtain ⟨rfl, rfl, rfl⟩ := ChangeShapes.trodAll_nil r2
  obtain rfl : args = #[v0, v1, v2] := by cases args; simp_all
  have w0 : ∀ n ∈ DataW.weights Tryd.prog 22 d0, n ≤ reachBytes := fun n hn => hsz n (DataW.weights_mem_each (ts := [22, 23, 3]) (ds := [d0, d1, d2]) (j := 0) rfl rfl n hn)
  have w1 : ∀ n ∈ DataW.weights Tryd.prog 23 d1, n ≤ reachBytes := fun n hn => hsz n (DataW.weights_mem_each (ts := [22, 23, 3]) (ds := [d0, d1, d2]) (j := 1) rfl rfl n hn)
  have w2 : ∀ n ∈ DataW.weights Tryd.prog 3 d2, n ≤ reachBytes := fun n hn => hsz n (DataW.weights_mem_each (ts := [22, 23, 3]) (ds := [d0, d1, d2]) (j := 2) rfl rfl n hn)
  obtain ⟨r, rfl, hr_r, hm_r, hb_r⟩ := arg_slice (_E := En) Tryd.underlying22 (open_slice' Tryd.underlying22 (by kernel_rfl) (by decide) (of_decide_eq_true (by kernel_rfl)) open_nd) (hval 0 22 v0 rfl rfl) h0 w0
  obtain ⟨t, rfl, hr_t, hm_t, hb_t⟩ := arg_slice (_E := Eb) Tryd.underlying23 (open_slice' Tryd.underlying23 (by kernel_rfl) (by decide) (of_decide_eq_true (by kernel_rfl)) (open_u8 Tryd.underlying5)) (hval 1 23 v1 rfl rfl) h1 w1
  obtain ⟨f, rfl, hi_f⟩ := arg_i64 Tryd.underlying3 (hval 2 3 v2 rfl rfl) h2 w2
  exact (backrefTwice_fn r.a r.c r.xs hm_r t.a t.c t.xs f).calls W ⟨hr_r, hr_t, hT⟩ (Has.nil W)
theorem backrefTwice_row : Rows.backrefTwiceRow.holds Tryd.pinned (OpenSpec.ofChange Rows.backrefTwiceSpec) :=
  OpenClaim.holds_of_wide 7 Tryd.f7 rfl rfl rfl rfl rfl rfl rfl ⟨rfl, rfl, rfl, rfl, rfl⟩ rfl rfl rfl rfl rfl (by kernel_rfl) Tryd.func7 (by kernel_rfl)
    (of_decide_eq_true (by kernel_rfl)) (by unfold Func.isWrapper; first | (rw [if_pos (by decide +kernel)]; kernel_rfl) | (rw [if_neg (by decide +kernel)]; exact ⟨rfl, rfl⟩))
    (fun os started H enc _ => backrefTwice_lifted os started H enc)
theorem backrefTwice_card : Rows.BackrefTwiceCardSaid :=
  Claim7.holds_tied_plain_at .later [] [.data] true (true, "3768190bd71132db5f74489e02add42a51937876367a4c14ffccea4bb3a58f88") false
    backrefTwice_row (fun _ h => by cases h) (by kernel_rfl) (fun _ h => by cases h) backrefTwice_row_tie rfl ⟨rfl, rfl⟩ (by kernel_rfl) rfl
    (fun f fn hf hfn => by
      obtain rfl : f = 7 := Option.some.inj ((show Tryd.prog.funcNamed "galley/galleylaw11.BackrefTwice" = some 7 by kernel_rfl).symm.trans hf) |>.symm
      obtain rfl : fn = Tryd.f7 := (Option.some.inj (Tryd.func7.symm.trans hfn)).symm
      exact ⟨by kernel_rfl, fun j t ht => by
        have hm : t ∈ Tryd.f7.params.toList := List.mem_of_getElem? (by rw [Array.getElem?_toList]; exact ht)
        have hp : Tryd.f7.params.toList = [22, 23, 3] := rfl
        rw [hp] at hm
        simp only [List.mem_cons, List.not_mem_nil, or_false] at hm
        rcases hm with rfl | rfl | rfl
        · exact (show Tryd.prog.wantsStandIn 22 = false by kernel_rfl)
        · exact (show Tryd.prog.wantsStandIn 23 = false by kernel_rfl)
        · exact (show Tryd.prog.wantsStandIn 3 = false by kernel_rfl)⟩)
    (by kernel_rfl)
end Go.Proofs.YtloepfcndglmmaaDoor
