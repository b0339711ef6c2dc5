/- Subtrees of a list of nodes; weights; numbers converted. Conditions: none. -/
import Derived.Test.YtihbhlgognpmmaaMT7
namespace Go.HL.Kl.Mc
open Go Go.HL Go.HL.Kl
theorem wrap_i64z {x : Int} (h1 : -9223372036854775808 ≤ x) (h2 : x < 9223372036854775808) : IntKind.i64.wrap x = x := by
  simp [IntKind.wrap, IntKind.signed, IntKind.bits]; omega
section
variable {P : Program} {κ : Cx} {L : HL.Loc} {H : Hp} {ty t t' : TypeId} {x : Operand}
theorem s_convI {ds : TypeDesc} {k' : IntKind} {a : Int} [TU P t ds] [TU P t' (.int .i64)] (hx : ev L x = some (.int k' a)) (h : -9223372036854775808 ≤ a ∧ a < 9223372036854775808) : Step P κ (.convert t t' x) ty L H (.int .i64 a) :=
  step_cast (s_conv hx) (congrArg _ (wrap_i64z h.1 h.2))
end
theorem nd_set {x : Nd} : ∀ (j : Nat) u, (Ec x.set)[j]? = some u → (En x)[1 + j]? = some u := by
  intro j u h
  rw [show 1 + j = j + 1 by omega]
  simp only [En, List.getElem?_cons_succ]
  rw [List.getElem?_append_left (List.getElem?_eq_some_iff.1 h).1]; exact h
theorem F.num_le : ∀ f : F, f.num ≤ f.size
  | .nil => Nat.le_refl _
  | .nd x ks r => by have := F.num_le r; simp only [F.num, F.size]; omega
/-- a forest of a list, from a place to a place -/
structure Part (re : List Nd) (f : F) (i i' : Nat) : Prop where
  wf : f.wf
  flat : re.drop i = f.flat ++ re.drop i'
  len : i' = i + f.size
  le : i' ≤ re.length
theorem Part.head {re : List Nd} {x : Nd} {ks r : F} {i i' : Nat} (h : Part re (.nd x ks r) i i') : re[i]? = some x ∧ Part re ks (i + 1) (i + 1 + ks.size) ∧ Part re r (i + 1 + ks.size) i' := by
  have hl := h.len
  have hle := h.le
  simp only [F.size] at hl
  have hf := h.flat
  simp only [F.flat, List.cons_append, List.append_assoc] at hf
  have h0 : re[i]? = some x := by
    have := congrArg (fun l => l[0]?) hf
    simpa using this
  have h1 : re.drop (i + 1) = ks.flat ++ (r.flat ++ re.drop i') := by
    have := congrArg (List.drop 1) hf
    rw [List.drop_drop] at this
    simpa using this
  have h2 : re.drop (i + 1 + ks.size) = r.flat ++ re.drop i' := by
    have := congrArg (List.drop ks.size) h1
    rw [List.drop_drop, ← F.flat_size, List.drop_left] at this
    rw [← F.flat_size]; exact this
  exact ⟨h0, ⟨h.wf.2.2.1, by rw [h2]; exact h1, rfl, by omega⟩, ⟨h.wf.2.2.2, h2, by omega, hle⟩⟩
theorem Part.one {re : List Nd} {x : Nd} {ks r : F} {i i' : Nat} (h : Part re (.nd x ks r) i i') : Part re (.nd x ks .nil) i (i + 1 + ks.size) := by
  obtain ⟨h0, h1, h2⟩ := h.head
  have hlt : i < re.length := (List.getElem?_eq_some_iff.1 h0).1
  refine ⟨⟨h.wf.1, h.wf.2.1, h.wf.2.2.1, trivial⟩, ?_, by simp [F.size]; omega, h1.le⟩
  rw [List.drop_eq_getElem_cons hlt, h1.flat]
  rw [List.getElem?_eq_getElem hlt] at h0
  simp at h0
  simp [F.flat, h0]
theorem gate_not7 {x : Nd} {en : List Bool} {g : Nat} (h7 : ¬ x.op = 7) (h8 : x.op = 8 → 1 ≤ x.n ∧ x.n ≤ en.length ∧ en[x.n.toNat - 1]? = some true) : gate x en g = some (en, g) := by
  by_cases h : x.op = 8
  · obtain ⟨a, b, c⟩ := h8 h; exact gate_ref h a b c
  · exact gate_other h h7
theorem TreeAt.part {re : List Nd} {d i i' : Nat} {x : Nd} {ks : F} (h : TreeAt re d i i' x ks) : Part re (.nd x ks .nil) i i' :=
  ⟨h.wf, by rw [h.flat]; simp [F.flat], by rw [h.len]; simp [F.size]; omega, h.le⟩
/-- the contract of the weighing functions -/
def WeighC (P : Program) (fn : Nat) (x : Nd) (ks : F) : Prop := ∀ (ra : Option Addr) (rc : Nat) (re : List Nd) (i i' : Nat), (∀ x ∈ re, -128 ≤ x.op ∧ x.op < 128) → Part re (.nd x ks .nil) i i' →
  Fn P fn [.slice ra re.length rc, .int .i64 i] (fun w => Rd En w (.slice ra re.length rc) re) [] (fun v _ => v = .tuple #[.int .i64 (cut (F.nd x ks .nil).weight), .int .i64 i'])
theorem cut_le (n : Nat) : cut n ≤ 16385 := by unfold cut; omega
theorem weight_one (x : Nd) (ks : F) : (F.nd x ks .nil).weight = 1 + times x * ks.weight := by simp [F.weight]
theorem mul_le {a b : Nat} (ha : a ≤ 16385) (hb : b ≤ 256) : a * b ≤ 4194560 := Nat.mul_le_mul ha hb
theorem mul_leZ {a b : Nat} (ha : a ≤ 16385) (hb : b ≤ 256) : (a : Int) * b ≤ 4194560 := by
  rw [← Int.natCast_mul]; have := mul_le ha hb; omega
theorem mul_0Z (a b : Nat) : 0 ≤ (a : Int) * b := by
  rw [← Int.natCast_mul]; omega
theorem cut_fin {t a : Nat} (ht : 1 ≤ t) : min ((cut a : Int) * t + 1) 16385 = (cut (1 + t * a) : Nat) := by
  rw [← cut_mul ht]
  have : (cut a : Int) * t + 1 = ((1 + t * cut a : Nat) : Int) := by rw [Nat.mul_comm]; push_cast; omega
  rw [this]; unfold cut; omega
theorem flds_iff {x : Nd} : flds x = true ↔ (1 ≤ x.op ∧ x.op ≤ 8) ∧ (x.op = 1 ∨ x.set = 0) ∧ (x.op = 7 ∨ x.op = 8 ∨ x.n = 0) ∧ (x.op = 6 → 0 ≤ x.mn ∧ x.mn ≤ 255 ∧ (x.mx = -1 ∨ x.mn ≤ x.mx ∧ x.mx ≤ 255)) ∧ (x.op ≠ 6 → x.mn = 0 ∧ x.mx = 0) := by
  simp only [flds, Bool.and_eq_true, Bool.or_eq_true, decide_eq_true_eq]
  by_cases h6 : x.op = 6
  · rw [if_pos h6]
    simp only [decide_eq_true_eq]
    constructor
    · rintro ⟨⟨⟨a, b⟩, c⟩, d⟩; exact ⟨a, b, by omega, fun _ => d, fun h => absurd h6 h⟩
    · rintro ⟨a, b, c, d, _⟩; exact ⟨⟨⟨a, b⟩, by omega⟩, d h6⟩
  · rw [if_neg h6]
    simp only [decide_eq_true_eq]
    constructor
    · rintro ⟨⟨⟨a, b⟩, c⟩, d⟩; exact ⟨a, b, by omega, fun h => absurd h h6, fun _ => d⟩
    · rintro ⟨a, b, c, _, d⟩; exact ⟨⟨⟨a, b⟩, by omega⟩, d h6⟩
theorem Ec_lenM (c : Kl.Cl) : (Ec c).length = 4 := Enc.len (E := Ec) c
end Go.HL.Kl.Mc
