/- Part of the proofs over this seat: see the text that holds the theorem. Conditions: each theorem bears its own. -/
import Derived.Test.YtafbigmneipkiaaDoorHlB
import Derived.Test.YtafbigmneipkiaaDoorM4
import Derived.Test.YtafbigmneipkiaaDoorMC9
namespace Go.HL
open Go Go.Tab
section
variable {P : Program} {κ : Cx} {L : HL.Loc} {H : Hp} {ty t t' : TypeId} {x y : Operand}
theorem re_structM (w : World) (n : Nat) {a b : Nat} {ka j : IntKind} [tq : TQ2 P t a b] [TU P a (.int ka)] [TU P b .bool] [TG P a true] [TG P b true] (x0 y0 : Int) (x1 y1 : Bool) :
    (Op.equalIn (n + 2) t (.agg #[.int j x0, .bool x1]) (.agg #[.int j y0, .bool y1])).run P w = .ok (decide (x0 = y0 ∧ x1 = y1)) w := by
  have h := tq.out
  cases hu : P.underlying t with
  | none => simp [hu] at h
  | some D =>
    rw [hu] at h
    cases D
    case struct fs =>
      simp only [Option.bind_some, eq2Of] at h
      split at h
      case h_2 => cases h
      case h_1 f0 f1 hfs =>
        split at h
        case isFalse => cases h
        case isTrue hc =>
          simp only [Bool.and_eq_true, bne_iff_ne, ne_eq, beq_iff_eq, Bool.not_eq_true'] at hc
          obtain ⟨⟨⟨⟨h0, h1⟩, o0⟩, o1⟩, hs⟩ := hc
          simp only [Option.some.injEq, Prod.mk.injEq] at h
          obtain ⟨rfl, rfl⟩ := h
          have e : fs = #[f0, f1] := by
            have := congrArg List.toArray hfs
            simpa using this
          subst e
          unfold Op.equalIn
          rw [Sem.run_bind, run_underlying hu, Result.andThen_ok]
          simp only []
          rw [Sem.run_bind]
          have ep : (program : Sem Program).run P w = .ok P w := by simp [program, Sem.run]
          rw [ep, Result.andThen_ok, hs]
          have p0 : ∀ (u0 u1 : Value), (part f0.type #[u0, u1] f0.offset).run P w = .ok u0 w := by
            intro u0 u1
            rw [o0]
            simp only [part, Sem.run_bind, run_isAgg w, Result.andThen_ok]
            simp
          have p1 : ∀ (u0 u1 : Value), (part f1.type #[u0, u1] f1.offset).run P w = .ok u1 w := by
            intro u0 u1
            rw [o1]
            simp only [part, Sem.run_bind, run_isAgg w, Result.andThen_ok]
            simp
          by_cases e0 : x0 = y0
          · by_cases e1 : x1 = y1
            · simp [h0, h1, Sem.run_bind, p0, p1, re_int w n, re_bool, e0, e1]
            · simp [h0, h1, Sem.run_bind, p0, p1, re_int w n, re_bool, e0, e1]
          · simp [h0, h1, Sem.run_bind, p0, re_int w n, e0]
    all_goals simp [eq2Of] at h
theorem Em_eq {m k : Mk} : ((m.b.toNat : Int) = k.b.toNat ∧ m.p = k.p) ↔ m = k := by
  constructor
  · rintro ⟨h1, h2⟩
    cases m; cases k
    simp only at h1 h2
    have : UInt8.toNat _ = UInt8.toNat _ := Int.ofNat_inj.1 h1
    rw [UInt8.toNat_inj.1 this, h2]
  · rintro rfl; exact ⟨rfl, rfl⟩
theorem s_eql_mk {a b : Nat} {ka : IntKind} [TQ2 P t a b] [TU P a (.int ka)] [TU P b .bool] [TG P a true] [TG P b true] [EG P t] {m k : Mk} (hx : ev L x = some (.agg (Em m).toArray)) (hy : ev L y = some (.agg (Em k).toArray)) :
    Step P κ (.binOp .eql t x y t') ty L H (.bool (decide (m = k))) :=
  step_cast (s_eql_agg (a := #[.int .u8 m.b.toNat, .bool m.p]) (b := #[.int .u8 k.b.toNat, .bool k.p]) hx hy (fun w => re_structM w 9998 _ _ _ _)) (congrArg Value.bool (decide_eq_decide.2 Em_eq))
theorem s_neq_mk {a b : Nat} {ka : IntKind} [TQ2 P t a b] [TU P a (.int ka)] [TU P b .bool] [TG P a true] [TG P b true] [EG P t] {m k : Mk} (hx : ev L x = some (.agg (Em m).toArray)) (hy : ev L y = some (.agg (Em k).toArray)) :
    Step P κ (.binOp .neq t x y t') ty L H (.bool (!decide (m = k))) :=
  step_cast (s_neq_agg (a := #[.int .u8 m.b.toNat, .bool m.p]) (b := #[.int .u8 k.b.toNat, .bool k.p]) hx hy (fun w => re_structM w 9998 _ _ _ _)) (congrArg Value.bool (congrArg Bool.not (decide_eq_decide.2 Em_eq)))
theorem s_indexV {e n by' : Nat} {cs : Array Value} {k : IntKind} {i : Nat} {v : Value} [TU P t (.array n e)] [TI P e 1 by'] [TG P e true] (hx : ev L x = some (.agg cs)) (hy : ev L y = some (.int k i)) (hi : i < n) (hv : cs[i]? = some v) :
    Step P κ (.index t x y) ty L H v :=
  ⟨fun ρ w d pos af g hρ _ => by
    have hp : (part e cs i).run P w = .ok v w := by
      simp only [part, Sem.run_bind, run_isAgg w, Result.andThen_ok]
      simp [hv]
    have h0 : (0 : Int) ≤ (i : Int) ∧ (i : Int) < (n : Int) := by omega
    simp [execOp, hρ _ _ hx, hρ _ _ hy, Instr.index, asIntOf, run_u, run_size, hi, hp]⟩
theorem s_indexStr {s : ByteArray} {k : IntKind} {j : Nat} [TU P t .string] (hj : j < s.data.toList.length) (hx : ev L x = some (.string s)) (hy : ev L y = some (.int k j)) :
    Step P κ (.index t x y) ty L H (.int .u8 (s.data.toList[j]).toNat) :=
  ⟨fun ρ w d pos af g hρ _ => by
    have hs : j < s.size := by simpa using hj
    have h1 : s[j]? = some (s.data.toList[j]) := by
      rw [getElem?_pos s j hs]
      rfl
    have h0 : (0 : Int) ≤ (j : Int) := by omega
    simp [execOp, hρ _ _ hx, hρ _ _ hy, Instr.index, asIntOf, run_u, h1]⟩
end
end Go.HL
