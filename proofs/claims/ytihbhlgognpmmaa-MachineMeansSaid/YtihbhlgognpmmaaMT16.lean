/- Where runs lead, place by place. Conditions: none. -/
import Derived.Test.YtihbhlgognpmmaaMT15
namespace Go.HL.Kl.Mc
open Go Go.HL Go.HL.Kl
/-- the steps of the machine at which a place is begun -/
def Begn (m : List In) (w : List UInt8) (f p j : Nat) : Prop := (p = f ∧ j = 0) ∨ (f < p ∧ ∃ i, j = i + 1 ∧ Run m w (0, f) (i, p - 1) ∧ Eat m w i (p - 1))
theorem run_start {m : List In} {w : List UInt8} {f p i : Nat} (hf : f ≤ p) : Run m w (0, f) (i, p) ↔ ∃ j, Begn m w f p j ∧ EpsS m w.length p j i := by
  constructor
  · intro h
    rcases Nat.eq_or_lt_of_le hf with he | hl
    · subst he
      exact ⟨0, .inl ⟨rfl, rfl⟩, run_base.1 h⟩
    · obtain ⟨q, rfl⟩ : ∃ q, p = q + 1 := ⟨p - 1, by omega⟩
      obtain ⟨j, h1, h2, h3⟩ := (run_succ (by omega)).1 h
      exact ⟨j + 1, .inr ⟨hl, j, rfl, h1, h2⟩, h3⟩
  · rintro ⟨j, h | h, h2⟩
    · obtain ⟨rfl, rfl⟩ := h
      exact run_base.2 h2
    · obtain ⟨hl, k, rfl, h3, h4⟩ := h
      obtain ⟨q, rfl⟩ : ∃ q, p = q + 1 := ⟨p - 1, by omega⟩
      exact (run_succ (by omega)).2 ⟨k, h3, h4, h2⟩
theorem start_none {m : List In} {w : List UInt8} {f p : Nat} (hf : f ≤ p) (h : ∀ j, ¬ Begn m w f p j) : ∀ (k i : Nat), ¬ Run m w (0, f) (i, p + k) := by
  intro k
  induction k with
  | zero =>
    intro i h1
    obtain ⟨j, h2, _⟩ := (run_start hf).1 h1
    exact h j h2
  | succ k ih =>
    intro i h1
    obtain ⟨j, h2, _⟩ := (run_start (p := p + (k + 1)) (by omega)).1 h1
    rcases h2 with h2 | ⟨_, i', _, h3, _⟩
    · omega
    · exact ih i' (by rwa [show p + (k + 1) - 1 = p + k by omega] at h3)
theorem start_lt {m : List In} {w : List UInt8} {f p j : Nat} (hM : MOk m) (h : Begn m w f p j) : j < m.length := by
  rcases h with ⟨_, rfl⟩ | ⟨_, i, rfl, _, t, b, ht, ho, _⟩
  · exact hM.1
  · exact (hM.2.2 i t ht).2 (by omega)
theorem begn_start {m : List In} {w : List UInt8} {g : Nat} : ∀ j, j ∈ [0] ↔ Begn m w g g j := fun j => by
  rw [List.mem_singleton]
  exact ⟨fun h => .inl ⟨rfl, h⟩, fun h => h.elim (·.2) fun h => by have := h.1; omega⟩
theorem begn_nil {m : List In} {w : List UInt8} {g p : Nat} {q : List Nat} (hq : ∀ j, j ∈ q ↔ Begn m w g p j) (h : ¬ ((q.length : Int) > 0)) : ∀ j, ¬ Begn m w g p j := fun j hj => by
  have := (hq j).2 hj
  rw [List.eq_nil_of_length_eq_zero (l := q) (by omega)] at this
  cases this
end Go.HL.Kl.Mc
