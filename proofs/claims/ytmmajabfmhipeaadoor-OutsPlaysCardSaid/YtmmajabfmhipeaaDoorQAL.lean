/- Proved: the tied card of the law OutsPlays: true for all its arguments. Conditions: none. -/
import Derived.Test.YtmmajabfmhipeaaDoorQA5Z
import Derived.Test.YtmmajabfmhipeaaDoorHlB
import Derived.Test.YtmmajabfmhipeaaDoorCards
import Derived.Test.YtmmajabfmhipeaaDoorTie
namespace Go.Proofs.YtmmajabfmhipeaaDoor
open Go Go.HL Go.Proofs Go.Tab
theorem open_op : Opens Tryd.prog 88 Eop (fun w o => Rd Esl w o.p.v o.p.xs ∧ (∀ s ∈ o.p.xs, Rd Eb w s.v s.xs) ∧ o.p.xs.length * 24 ≤ 140737488355328) :=
  open_struct2 Tryd.underlying88 rfl (by kernel_rfl) (by kernel_rfl) (open_bool' Tryd.underlying4) (open_slice' (E := Esl) Tryd.underlying34 (by kernel_rfl) (by decide) (of_decide_eq_true (by kernel_rfl)) (open_slice' Tryd.underlying40 (by kernel_rfl) (by decide) (of_decide_eq_true (by kernel_rfl)) (open_u8 Tryd.underlying5))) fun w b p _ hp => by
    have h24 : Tryd.prog.bytesOf 40 = 24 := by kernel_rfl
    obtain ⟨h1, h2, h3⟩ := hp
    rw [h24] at h3
    exact ⟨⟨b, p⟩, rfl, h1, fun s hs => (h2 s hs).1, by show p.xs.length * 24 ≤ _; omega⟩
structure CaseV where
  sz : Int
  fl : Int
  er : Int
  sc : Sl OpV
def Ecase (c : CaseV) : List Value := [.int .i64 c.sz, .int .i64 c.fl, .int .i64 c.er, c.sc.v]
theorem open_case : Opens Tryd.prog 75 Ecase (fun w c => Rd Eop w c.sc.v c.sc.xs ∧ ∀ o ∈ c.sc.xs, Rd Esl w o.p.v o.p.xs ∧ (∀ s ∈ o.p.xs, Rd Eb w s.v s.xs) ∧ o.p.xs.length * 24 ≤ 140737488355328) :=
  open_struct4 Tryd.underlying75 rfl (by kernel_rfl) (by kernel_rfl) (by kernel_rfl) (by kernel_rfl) (open_i64 Tryd.underlying3) (open_i64 Tryd.underlying3) (open_i64 Tryd.underlying39) (open_slice' (E := Eop) Tryd.underlying73 (by kernel_rfl) (by decide) (of_decide_eq_true (by kernel_rfl)) open_op)
    fun w a b c d _ _ _ hd => ⟨⟨a, b, c, d⟩, rfl, hd.1, hd.2.1⟩

theorem outsPlays_lifted (os : Os) (started : os.Started) (H : Type) (enc : TypeId × Value → H) :
    ReturnsInHanded {} Tryd.checked os 4 .any (fun w args => (Rows.outsPlaysSpec.pre enc Tryd.prog Tryd.f4 [] false w args ∧ laidMetH Tryd.prog Rows.outsPlaysRow.laid w) ∧ sizedMet enc Tryd.prog Tryd.f4 (OpenSpec.ofChange Rows.outsPlaysSpec) false w args) (Rows.outsPlaysSpec.post enc Tryd.prog Tryd.f4 false true false false) := by
  refine lift_lawD (C := Tryd.checked) (bt := 4) (by kernel_rfl) own started (by kernel_rfl) Tryd.func4
    (ChangeSpec.witness_shaped (enc := enc) (C := Tryd.checked) (os := os) (X := fun w _ => laidMetH Tryd.prog Rows.outsPlaysRow.laid w) false (World.doorLaid Tryd.prog 400 os) #[.agg #[.int .i64 0, .int .i64 0, .int .i64 0, .slice none 0 0]] 8 rfl (World.shaped_of_RefB (by kernel_rfl) (by kernel_rfl)) (by kernel_rfl) (by kernel_rfl) (by kernel_rfl) (door_met os _)) rfl rfl Tryd.underlying4 laidOut (by kernel_rfl) (fun H ds h => by
      match ds, h with
      | [_], _ => rfl) ?_
  intro W args ds ps hA hval hsz hL
  have hA0 : DataW.TrodAll enc Tryd.prog W 0 (fun _ => true) true [75] args.toList ds ps := hA
  obtain ⟨v0, vs0, d0, ds0, p0, q0, hargs, rfl, rfl, h0, r0⟩ := ChangeShapes.trodAll_cons hA0
  obtain ⟨rfl, rfl, rfl⟩ := ChangeShapes.trodAll_nil r0
  obtain rfl : args = #[v0] := by cases args; simp_all
  have w0 : ∀ n ∈ DataW.weights Tryd.prog 75 d0, n ≤ reachBytes := fun n hn => hsz n (DataW.weights_mem_each (ts := [75]) (ds := [d0]) (j := 0) rfl rfl n hn)
  obtain ⟨p, rfl, hm_p⟩ := arg_struct Tryd.underlying75 open_case (hval 0 75 v0 rfl rfl) h0 w0
  exact (outsPlays_fn p.sz p.fl p.er p.sc.a p.sc.c p.sc.xs (fun o ho => (hm_p.2 o ho).2.2)).calls W ⟨hm_p.1, fun o ho => ⟨(hm_p.2 o ho).1, (hm_p.2 o ho).2.1⟩⟩ (Has.nil W)

theorem outsPlays_row : Rows.outsPlaysRow.holds Tryd.pinned (OpenSpec.ofChange Rows.outsPlaysSpec) :=
  OpenClaim.holds_of_wide 4 Tryd.f4 rfl rfl rfl rfl rfl rfl rfl ⟨rfl, rfl, rfl, rfl, rfl⟩ rfl rfl rfl rfl rfl (by kernel_rfl) Tryd.func4 (by kernel_rfl)
    (of_decide_eq_true (by kernel_rfl)) (by unfold Func.isWrapper; first | (rw [if_pos (by decide +kernel)]; kernel_rfl) | (rw [if_neg (by decide +kernel)]; exact ⟨rfl, rfl⟩))
    (fun os started H enc _ => outsPlays_lifted os started H enc)
theorem outsPlays_card : Rows.OutsPlaysCardSaid :=
  Claim7.holds_tied_plain_at .later [] [.data, .data, .data] true (true, "a1e9cc4ff49264685d1c086b7a48f077db6c24a826a16b98b2d990d39b6102d4") true
    outsPlays_row (fun _ h => by cases h) (by kernel_rfl) (fun _ h => by cases h) outsPlays_row_tie rfl ⟨rfl, rfl⟩ (by kernel_rfl) rfl
    (fun f fn hf hfn => by
      obtain rfl : f = 4 := Option.some.inj ((show Tryd.prog.funcNamed "galley/galleylaw14.OutsPlays" = some 4 by kernel_rfl).symm.trans hf) |>.symm
      obtain rfl : fn = Tryd.f4 := (Option.some.inj (Tryd.func4.symm.trans hfn)).symm
      exact ⟨by kernel_rfl, fun j t ht => by
        have hm : t ∈ Tryd.f4.params.toList := List.mem_of_getElem? (by rw [Array.getElem?_toList]; exact ht)
        have hp : Tryd.f4.params.toList = [75] := rfl
        rw [hp] at hm
        simp only [List.mem_cons, List.not_mem_nil, or_false] at hm
        rcases hm with rfl
        exact (show Tryd.prog.wantsStandIn 75 = false by kernel_rfl)⟩)
    (by kernel_rfl)
end Go.Proofs.YtmmajabfmhipeaaDoor
