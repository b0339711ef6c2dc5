/- Proved: the tied card of the law BackrefFinds: true for all its arguments. Conditions: none. -/
import Derived.Test.YtloepfcndglmmaaDoorUA13Z
import Derived.Test.YtloepfcndglmmaaDoorCards
import Derived.Test.YtloepfcndglmmaaDoorTie
namespace Go.Proofs.YtloepfcndglmmaaDoor
open Go Go.HL Go.Proofs Go.HL.Kl Go.HL.Kl.Mc
structure CaseV where
  re : Sl Nd
  t : Sl UInt8
  fr : Int
  fu : Int
def Ecase (c : CaseV) : List Value := [c.re.v, c.t.v, .int .i64 c.fr, .int .i64 c.fu]
theorem open_case : Opens Tryd.prog 25 Ecase (fun w c => (Rd En w c.re.v c.re.xs ∧ Rd Eb w c.t.v c.t.xs) ∧ (∀ x ∈ c.re.xs, -128 ≤ x.op ∧ x.op < 128) ∧ -9223372036854775808 ≤ c.fu ∧ c.fu ≤ 9223372036854775807) :=
  open_struct4 Tryd.underlying25 rfl (by kernel_rfl) (by kernel_rfl) (by kernel_rfl) (by kernel_rfl) (open_slice' (E := En) Tryd.underlying22 (by kernel_rfl) (by decide) (of_decide_eq_true (by kernel_rfl)) open_nd) (open_slice' Tryd.underlying23 (by kernel_rfl) (by decide) (of_decide_eq_true (by kernel_rfl)) (open_u8 Tryd.underlying5)) (open_i64 Tryd.underlying3) (open_i64 Tryd.underlying2)
    fun w a b c d ha hb _ hd => ⟨⟨a, b, c, d⟩, rfl, ⟨ha.1, hb.1⟩, ha.2.1, hd⟩
theorem backrefFinds_lifted (os : Os) (started : os.Started) (H : Type) (enc : TypeId × Value → H) :
    ReturnsInHanded {} Tryd.checked os 6 .any (fun w args => (Rows.backrefFindsSpec.pre enc Tryd.prog Tryd.f6 [] false w args ∧ laidMetH Tryd.prog Rows.backrefFindsRow.laid w) ∧ sizedMet enc Tryd.prog Tryd.f6 (OpenSpec.ofChange Rows.backrefFindsSpec) false w args) (Rows.backrefFindsSpec.post enc Tryd.prog Tryd.f6 false true false false) := by
  refine lift_lawD (C := Tryd.checked) (bt := 4) (by kernel_rfl) own started (by kernel_rfl) Tryd.func6
    (ChangeSpec.witness_shaped (enc := enc) (C := Tryd.checked) (os := os) (X := fun w _ => laidMetH Tryd.prog Rows.backrefFindsRow.laid w) false (World.doorLaid Tryd.prog 400 os) #[.agg #[.slice none 0 0, .slice none 0 0, .int .i64 0, .int .i64 0]] 8 rfl (World.shaped_of_RefB (by kernel_rfl) (by kernel_rfl)) (by kernel_rfl) (by kernel_rfl) (by kernel_rfl) (door_met4 os _)) rfl rfl Tryd.underlying4 laidOut (by kernel_rfl) (fun H ds h => by
      match ds, h with
      | [_], _ => rfl) ?_
  intro W args ds ps hA hval hsz hL
  have hT := tb_laid4 hL
  have hA0 : DataW.TrodAll enc Tryd.prog W 0 (fun _ => true) true [25] args.toList ds ps := hA
  obtain ⟨v0, vs0, d0, ds0, p0, q0, hargs, rfl, rfl, h0, r0⟩ := ChangeShapes.trodAll_cons hA0
  obtain ⟨rfl, rfl, rfl⟩ := ChangeShapes.trodAll_nil r0
  obtain rfl : args = #[v0] := by cases args; simp_all
  have w0 : ∀ n ∈ DataW.weights Tryd.prog 25 d0, n ≤ reachBytes := fun n hn => hsz n (DataW.weights_mem_each (ts := [25]) (ds := [d0]) (j := 0) rfl rfl n hn)
  obtain ⟨c, rfl, hm_c⟩ := arg_struct Tryd.underlying25 open_case (hval 0 25 v0 rfl rfl) h0 w0
  exact (backrefFinds_fn c.re.a c.re.c c.re.xs hm_c.2.1 c.t.a c.t.c c.t.xs c.fr c.fu hm_c.2.2.2).calls W ⟨hm_c.1.1, hm_c.1.2, hT⟩ (Has.nil W)
theorem backrefFinds_row : Rows.backrefFindsRow.holds Tryd.pinned (OpenSpec.ofChange Rows.backrefFindsSpec) :=
  OpenClaim.holds_of_wide 6 Tryd.f6 rfl rfl rfl rfl rfl rfl rfl ⟨rfl, rfl, rfl, rfl, rfl⟩ rfl rfl rfl rfl rfl (by kernel_rfl) Tryd.func6 (by kernel_rfl)
    (of_decide_eq_true (by kernel_rfl)) (by unfold Func.isWrapper; first | (rw [if_pos (by decide +kernel)]; kernel_rfl) | (rw [if_neg (by decide +kernel)]; exact ⟨rfl, rfl⟩))
    (fun os started H enc _ => backrefFinds_lifted os started H enc)
theorem backrefFinds_card : Rows.BackrefFindsCardSaid :=
  Claim7.holds_tied_plain_at .later [] [.data, .data, .data, .data] true (true, "3768190bd71132db5f74489e02add42a51937876367a4c14ffccea4bb3a58f88") false
    backrefFinds_row (fun _ h => by cases h) (by kernel_rfl) (fun _ h => by cases h) backrefFinds_row_tie rfl ⟨rfl, rfl⟩ (by kernel_rfl) rfl
    (fun f fn hf hfn => by
      obtain rfl : f = 6 := Option.some.inj ((show Tryd.prog.funcNamed "galley/galleylaw11.BackrefFinds" = some 6 by kernel_rfl).symm.trans hf) |>.symm
      obtain rfl : fn = Tryd.f6 := (Option.some.inj (Tryd.func6.symm.trans hfn)).symm
      exact ⟨by kernel_rfl, fun j t ht => by
        have hm : t ∈ Tryd.f6.params.toList := List.mem_of_getElem? (by rw [Array.getElem?_toList]; exact ht)
        have hp : Tryd.f6.params.toList = [25] := rfl
        rw [hp] at hm
        simp only [List.mem_cons, List.not_mem_nil, or_false] at hm
        rcases hm with rfl
        exact (show Tryd.prog.wantsStandIn 25 = false by kernel_rfl)⟩)
    (by kernel_rfl)
end Go.Proofs.YtloepfcndglmmaaDoor
