/- Proved: the tied card of the law BackrefFuel: true for all its arguments. Conditions: none. -/
import Derived.Test.YtloepfcndglmmaaDoorUA9Z
import Derived.Test.YtloepfcndglmmaaDoorCards
import Derived.Test.YtloepfcndglmmaaDoorTie
namespace Go.Proofs.YtloepfcndglmmaaDoor
open Go Go.HL Go.Proofs Go.HL.Kl Go.HL.Kl.Mc
structure CaseV where
  re : Sl Nd
  t : Sl UInt8
  fr : Int
  fu : Int
def Ecase (c : CaseV) : List Value := [c.re.v, c.t.v, .int .i64 c.fr, .int .i64 c.fu]
theorem open_case : Opens Tryd.prog 25 Ecase (fun w c => (Rd En w c.re.v c.re.xs ∧ Rd Eb w c.t.v c.t.xs) ∧ (∀ x ∈ c.re.xs, -128 ≤ x.op ∧ x.op < 128) ∧ -9223372036854775808 ≤ c.fu ∧ c.fu ≤ 9223372036854775807) :=
  open_struct4 Tryd.underlying25 rfl (by kernel_rfl) (by kernel_rfl) (by kernel_rfl) (by kernel_rfl) (open_slice' (E := En) Tryd.underlying22 (by kernel_rfl) (by decide) (of_decide_eq_true (by kernel_rfl)) open_nd) (open_slice' Tryd.underlying23 (by kernel_rfl) (by decide) (of_decide_eq_true (by kernel_rfl)) (open_u8 Tryd.underlying5)) (open_i64 Tryd.underlying3) (open_i64 Tryd.underlying2)
    fun w a b c d ha hb _ hd => ⟨⟨a, b, c, d⟩, rfl, ⟨ha.1, hb.1⟩, ha.2.1, hd⟩
theorem backrefFuel_lifted (os : Os) (started : os.Started) (H : Type) (enc : TypeId × Value → H) :
    ReturnsInHanded {} Tryd.checked os 3 .any (fun w args => (Rows.backrefFuelSpec.pre enc Tryd.prog Tryd.f3 [] false w args ∧ laidMetH Tryd.prog Rows.backrefFuelRow.laid w) ∧ sizedMet enc Tryd.prog Tryd.f3 (OpenSpec.ofChange Rows.backrefFuelSpec) false w args) (Rows.backrefFuelSpec.post enc Tryd.prog Tryd.f3 false true false false) := by
  refine lift_lawD (C := Tryd.checked) (bt := 4) (by kernel_rfl) own started (by kernel_rfl) Tryd.func3
    (ChangeSpec.witness_shaped (enc := enc) (C := Tryd.checked) (os := os) (X := fun w _ => laidMetH Tryd.prog Rows.backrefFuelRow.laid w) false (World.doorLaid Tryd.prog 400 os) #[.agg #[.slice none 0 0, .slice none 0 0, .int .i64 0, .int .i64 0], .int .i64 0, .int .i64 0] 8 rfl (World.shaped_of_RefB (by kernel_rfl) (by kernel_rfl)) (by kernel_rfl) (by kernel_rfl) (by kernel_rfl) (door_met os _)) rfl rfl Tryd.underlying4 laidOut (by kernel_rfl) (fun H ds h => by
      match ds, h with
      | [_, _, _], _ => rfl) ?_
  intro W args ds ps hA hval hsz hL
  have hT := tb_laid hL
  have hA0 : DataW.TrodAll enc Tryd.prog W 0 (fun _ => true) true [25, 2, 3] args.toList ds ps := hA
  obtain ⟨v0, vs0, d0, ds0, p0, q0, hargs, rfl, rfl, h0, r0⟩ := ChangeShapes.trodAll_cons hA0
  obtain ⟨v1, vs1, d1, ds1, p1, q1, rfl, rfl, rfl, h1, r1⟩ := ChangeShapes.trodAll_cons r0
  obtain ⟨v2, vs2, d2, ds2, p2, q2, rfl, rfl, rfl, h2, r2⟩ := ChangeShapes.trodAll_cons r1
  obtain ⟨rfl, rfl, rfl⟩ := ChangeShapes.trodAll_nil r2
  obtain rfl : args = #[v0, v1, v2] := by cases args; simp_all
  have w0 : ∀ n ∈ DataW.weights Tryd.prog 25 d0, n ≤ reachBytes := fun n hn => hsz n (DataW.weights_mem_each (ts := [25, 2, 3]) (ds := [d0, d1, d2]) (j := 0) rfl rfl n hn)
  have w1 : ∀ n ∈ DataW.weights Tryd.prog 2 d1, n ≤ reachBytes := fun n hn => hsz n (DataW.weights_mem_each (ts := [25, 2, 3]) (ds := [d0, d1, d2]) (j := 1) rfl rfl n hn)
  have w2 : ∀ n ∈ DataW.weights Tryd.prog 3 d2, n ≤ reachBytes := fun n hn => hsz n (DataW.weights_mem_each (ts := [25, 2, 3]) (ds := [d0, d1, d2]) (j := 2) rfl rfl n hn)
  obtain ⟨c, rfl, hm_c⟩ := arg_struct Tryd.underlying25 open_case (hval 0 25 v0 rfl rfl) h0 w0
  obtain ⟨m, rfl, hi_m⟩ := arg_i64 Tryd.underlying2 (hval 1 2 v1 rfl rfl) h1 w1
  obtain ⟨n, rfl, hi_n⟩ := arg_i64 Tryd.underlying3 (hval 2 3 v2 rfl rfl) h2 w2
  exact (backrefFuel_fn c.re.a c.re.c c.re.xs hm_c.2.1 c.t.a c.t.c c.t.xs c.fr c.fu m n hm_c.2.2.2 hi_m.2 hi_n.2).calls W ⟨hm_c.1.1, hm_c.1.2, hT⟩ (Has.nil W)
theorem backrefFuel_row : Rows.backrefFuelRow.holds Tryd.pinned (OpenSpec.ofChange Rows.backrefFuelSpec) :=
  OpenClaim.holds_of_wide 3 Tryd.f3 rfl rfl rfl rfl rfl rfl rfl ⟨rfl, rfl, rfl, rfl, rfl⟩ rfl rfl rfl rfl rfl (by kernel_rfl) Tryd.func3 (by kernel_rfl)
    (of_decide_eq_true (by kernel_rfl)) (by unfold Func.isWrapper; first | (rw [if_pos (by decide +kernel)]; kernel_rfl) | (rw [if_neg (by decide +kernel)]; exact ⟨rfl, rfl⟩))
    (fun os started H enc _ => backrefFuel_lifted os started H enc)
theorem backrefFuel_card : Rows.BackrefFuelCardSaid :=
  Claim7.holds_tied_plain_at .later [] [.data] true (true, "3768190bd71132db5f74489e02add42a51937876367a4c14ffccea4bb3a58f88") false
    backrefFuel_row (fun _ h => by cases h) (by kernel_rfl) (fun _ h => by cases h) backrefFuel_row_tie rfl ⟨rfl, rfl⟩ (by kernel_rfl) rfl
    (fun f fn hf hfn => by
      obtain rfl : f = 3 := Option.some.inj ((show Tryd.prog.funcNamed "galley/galleylaw11.BackrefFuel" = some 3 by kernel_rfl).symm.trans hf) |>.symm
      obtain rfl : fn = Tryd.f3 := (Option.some.inj (Tryd.func3.symm.trans hfn)).symm
      exact ⟨by kernel_rfl, fun j t ht => by
        have hm : t ∈ Tryd.f3.params.toList := List.mem_of_getElem? (by rw [Array.getElem?_toList]; exact ht)
        have hp : Tryd.f3.params.toList = [25, 2, 3] := rfl
        rw [hp] at hm
        simp only [List.mem_cons, List.not_mem_nil, or_false] at hm
        rcases hm with rfl | rfl | rfl
        · exact (show Tryd.prog.wantsStandIn 25 = false by kernel_rfl)
        · exact (show Tryd.prog.wantsStandIn 2 = false by kernel_rfl)
        · exact (show Tryd.prog.wantsStandIn 3 = false by kernel_rfl)⟩)
    (by kernel_rfl)
end Go.Proofs.YtloepfcndglmmaaDoor
