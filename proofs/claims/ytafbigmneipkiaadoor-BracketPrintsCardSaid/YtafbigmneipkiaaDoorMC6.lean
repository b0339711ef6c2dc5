/- Part of the proofs over this seat: see the text that holds the theorem. Conditions: each theorem bears its own. -/
import Derived.Test.YtafbigmneipkiaaDoorMC5
namespace Go.HL.Kl
open Go Go.HL
/-- a run, encoded -/
def Er (r : Nat × Nat) : List Value := [.int .u8 r.1, .int .u8 r.2]
instance : Enc Er 2 := ⟨fun _ => rfl, fun _ v hv => by simp [Er] at hv; rcases hv with rfl | rfl <;> rfl⟩
theorem run_ne (p q : Nat × Nat) : Value.bool (!decide ((p.1 : Int) = q.1 ∧ (p.2 : Int) = q.2)) = .bool (decide (p ≠ q)) := by
  obtain ⟨a, b⟩ := p; obtain ⟨c, d⟩ := q
  by_cases h1 : a = c <;> by_cases h2 : b = d <;> simp [h1, h2] <;> omega
def alike (l : List Cl) (x y : Nat) : Bool := l.all fun c => c.getLsbD x == c.getLsbD y
theorem alike_step {l : List Cl} {x y i : Nat} (h : alike (l.take i) x y = true) (hi : i < l.length) (he : l[i].getLsbD x = l[i].getLsbD y) : alike (l.take (i + 1)) x y = true := by
  unfold alike at *
  rw [List.take_add_one, List.getElem?_eq_getElem hi, Option.toList_some, List.all_append, h]
  simp [he]
theorem alike_false {l : List Cl} {x y i : Nat} (hi : i < l.length) (he : l[i].getLsbD x ≠ l[i].getLsbD y) : alike l x y = false := by
  unfold alike
  rw [List.all_eq_false]
  exact ⟨l[i], List.getElem_mem hi, by simp [he]⟩
end Go.HL.Kl
