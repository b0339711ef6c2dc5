/- Proved: the tied card of the law MachineCompiles: true for all its arguments. Conditions: none. -/
import Derived.Test.YtihbhlgognpmmaaDoorDG3Z
import Derived.Test.YtihbhlgognpmmaaDoorMT17Z
import Derived.Test.YtihbhlgognpmmaaDoorCards
import Derived.Test.YtihbhlgognpmmaaDoorTie
namespace Go.Proofs.YtihbhlgognpmmaaDoor
open Go Go.HL Go.Proofs Go.HL.Kl Go.HL.Kl.Mc
theorem open_nd : Opens Tryd.prog 41 En (fun _ t => -128 ≤ t.op ∧ t.op < 128) :=
  open_struct6 Tryd.underlying41 rfl (by kernel_rfl) (by kernel_rfl) (by kernel_rfl) (by kernel_rfl) (by kernel_rfl) (by kernel_rfl) (open_i8 Tryd.underlying39) (open_cl Tryd.underlying38 Tryd.underlying36 (by kernel_rfl) (by kernel_rfl)) (open_i64 Tryd.underlying3) (open_i64 Tryd.underlying3) (open_i64 Tryd.underlying3) (open_i64 Tryd.underlying3) fun w a b c d e f ha _ _ _ _ _ => ⟨⟨a, b, c, d, e, f⟩, rfl, ha⟩

theorem machineCompiles_lifted (os : Os) (started : os.Started) (H : Type) (enc : TypeId × Value → H) :
    ReturnsInHanded {} Tryd.checked os 3 .any (fun w args => (Rows.machineCompilesSpec.pre enc Tryd.prog Tryd.f3 [] false w args ∧ laidMetH Tryd.prog Rows.machineCompilesRow.laid w) ∧ sizedMet enc Tryd.prog Tryd.f3 (OpenSpec.ofChange Rows.machineCompilesSpec) false w args) (Rows.machineCompilesSpec.post enc Tryd.prog Tryd.f3 false true false false) := by
  refine lift_lawD (C := Tryd.checked) (bt := 4) (by kernel_rfl) own started (by kernel_rfl) Tryd.func3
    (ChangeSpec.witness_shaped (enc := enc) (C := Tryd.checked) (os := os) (X := fun w _ => laidMetH Tryd.prog Rows.machineCompilesRow.laid w) false (World.doorLaid Tryd.prog 400 os) #[.slice none 0 0] 8 rfl (World.shaped_of_RefB (by kernel_rfl) (by kernel_rfl)) (by kernel_rfl) (by kernel_rfl) (by kernel_rfl) (door_met os _)) rfl rfl Tryd.underlying4 laidOut (by kernel_rfl) (fun H ds h => by
      match ds, h with
      | [_], _ => rfl) ?_
  intro W args ds ps hA hval hsz hL
  have hA0 : DataW.TrodAll enc Tryd.prog W 0 (fun _ => true) true [22] args.toList ds ps := hA
  obtain ⟨v0, vs0, d0, ds0, p0, q0, hargs, rfl, rfl, h0, r0⟩ := ChangeShapes.trodAll_cons hA0
  obtain ⟨rfl, rfl, rfl⟩ := ChangeShapes.trodAll_nil r0
  obtain rfl : args = #[v0] := by cases args; simp_all
  have w0 : ∀ n ∈ DataW.weights Tryd.prog 22 d0, n ≤ reachBytes := fun n hn => hsz n (DataW.weights_mem_each (ts := [22]) (ds := [d0]) (j := 0) rfl rfl n hn)
  obtain ⟨r, rfl, hr_r, hm_r, hb_r⟩ := arg_slice (_E := En) Tryd.underlying22 (open_slice' Tryd.underlying22 (by kernel_rfl) (by decide) (of_decide_eq_true (by kernel_rfl)) open_nd) (hval 0 22 v0 rfl rfl) h0 w0
  exact (machineCompiles_fn r.a r.c r.xs hm_r).calls W hr_r (Has.nil W)

theorem machineCompiles_row : Rows.machineCompilesRow.holds Tryd.pinned (OpenSpec.ofChange Rows.machineCompilesSpec) :=
  OpenClaim.holds_of_wide 3 Tryd.f3 rfl rfl rfl rfl rfl rfl rfl ⟨rfl, rfl, rfl, rfl, rfl⟩ rfl rfl rfl rfl rfl (by kernel_rfl) Tryd.func3 (by kernel_rfl)
    (of_decide_eq_true (by kernel_rfl)) (by unfold Func.isWrapper; first | (rw [if_pos (by decide +kernel)]; kernel_rfl) | (rw [if_neg (by decide +kernel)]; exact ⟨rfl, rfl⟩))
    (fun os started H enc _ => machineCompiles_lifted os started H enc)
theorem machineCompiles_card : Rows.MachineCompilesCardSaid :=
  Claim7.holds_tied_plain_at .later [] [.data, .data, .data] true (true, "0cbffd39ea9c29d45b0091773a988344d740a0d9cefb1bfeae0681f96bd27f80") false
    machineCompiles_row (fun _ h => by cases h) (by kernel_rfl) (fun _ h => by cases h) machineCompiles_row_tie rfl ⟨rfl, rfl⟩ (by kernel_rfl) rfl
    (fun f fn hf hfn => by
      obtain rfl : f = 3 := Option.some.inj ((show Tryd.prog.funcNamed "galley/galleylaw07.MachineCompiles" = some 3 by kernel_rfl).symm.trans hf) |>.symm
      obtain rfl : fn = Tryd.f3 := (Option.some.inj (Tryd.func3.symm.trans hfn)).symm
      exact ⟨by kernel_rfl, fun j t ht => by
        have hm : t ∈ Tryd.f3.params.toList := List.mem_of_getElem? (by rw [Array.getElem?_toList]; exact ht)
        have hp : Tryd.f3.params.toList = [22] := rfl
        rw [hp] at hm
        simp only [List.mem_cons, List.not_mem_nil, or_false] at hm
        rcases hm with rfl
        exact (show Tryd.prog.wantsStandIn 22 = false by kernel_rfl)⟩)
    (by kernel_rfl)
end Go.Proofs.YtihbhlgognpmmaaDoor
