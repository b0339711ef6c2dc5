/- Part of the proofs over this seat: see the text that holds the theorem. Conditions: each theorem bears its own. -/
import Derived.Test.YtafbigmneipkiaaDoorMB9
namespace Go.HL.Kl.Bk
open Go Go.HL Go.Tab
theorem thV_how (l : List Mk) (i : Nat) : (∃ t, (∀ a, thP l a i = .ok t) ∧ thV l i = okR i (sg l i 45) t) ∨ ((∀ a, thP l a i = .bad 32 a) ∧ thV l i = badR i 32) ∨ ((∀ a, thP l a i = .bad 31 i) ∧ thV l i = badR i 31) := by
  rcases thP_at l i with ⟨t, h⟩ | h | h
  · exact .inl ⟨t, h, by unfold thV; rw [h]⟩
  · exact .inr (.inl ⟨h, by unfold thV; rw [h]⟩)
  · exact .inr (.inr ⟨h, by unfold thV; rw [h]⟩)
/-- the reference's item, beside the other one's -/
def ItR (x : Rt) : R → Prop
  | .ok t => x.r = 0 ∧ x.t = t.next ∧ x.c = t.set
  | .bad e p => x.r = e ∧ (e = 32 ∨ x.f = p) ∧ e ≠ 0
section
variable {l : List Mk} {d i : Nat} {f : Bool} {a b : Th}
theorem it_bad {e : Int} {p : Nat} (h : thP l d i = .bad e p) : itemP l d i f = .bad e p := by simp only [itemP, h]
theorem it_dash1 (ha : thP l d i = .ok a) (h : sg l i 45 = true ∧ f = false ∧ sg l (i + 1) 93 = false) (hl : l.length ≤ i + 1) : itemP l d i f = .bad 32 d := by
  simp only [itemP, ha]; rw [if_pos h, if_pos hl]
theorem it_dash2 (ha : thP l d i = .ok a) (h : sg l i 45 = true ∧ f = false ∧ sg l (i + 1) 93 = false) (hl : ¬ l.length ≤ i + 1) : itemP l d i f = .bad 30 i := by
  simp only [itemP, ha]; rw [if_pos h, if_neg hl]
theorem it_one (ha : thP l d i = .ok a) (h : ¬ (sg l i 45 = true ∧ f = false ∧ sg l (i + 1) 93 = false)) (hs : sg l a.next 45 = false ∨ l.length ≤ a.next + 1 ∨ sg l (a.next + 1) 93 = true) : itemP l d i f = .ok a := by
  simp only [itemP, ha]; rw [if_neg h, if_pos hs]
theorem it_noend (ha : thP l d i = .ok a) (h : ¬ (sg l i 45 = true ∧ f = false ∧ sg l (i + 1) 93 = false)) (hs : ¬ (sg l a.next 45 = false ∨ l.length ≤ a.next + 1 ∨ sg l (a.next + 1) 93 = true)) (he : a.e = false) : itemP l d i f = .bad 30 i := by
  simp only [itemP, ha]; rw [if_neg h, if_neg hs, if_pos he]
theorem it_second {e : Int} {p : Nat} (ha : thP l d i = .ok a) (h : ¬ (sg l i 45 = true ∧ f = false ∧ sg l (i + 1) 93 = false)) (hs : ¬ (sg l a.next 45 = false ∨ l.length ≤ a.next + 1 ∨ sg l (a.next + 1) 93 = true)) (he : a.e = true) (hb : thP l d (a.next + 1) = .bad e p) : itemP l d i f = .bad e p := by
  simp only [itemP, ha]; rw [if_neg h, if_neg hs, if_neg (by rw [he]; decide), hb]
theorem it_turn (ha : thP l d i = .ok a) (h : ¬ (sg l i 45 = true ∧ f = false ∧ sg l (i + 1) 93 = false)) (hs : ¬ (sg l a.next 45 = false ∨ l.length ≤ a.next + 1 ∨ sg l (a.next + 1) 93 = true)) (he : a.e = true) (hb : thP l d (a.next + 1) = .ok b) (hx : b.e = false ∨ b.b.toNat < a.b.toNat) : itemP l d i f = .bad 30 i := by
  simp only [itemP, ha]; rw [if_neg h, if_neg hs, if_neg (by rw [he]; decide), hb]; simp only; rw [if_pos hx]
theorem it_rng (ha : thP l d i = .ok a) (h : ¬ (sg l i 45 = true ∧ f = false ∧ sg l (i + 1) 93 = false)) (hs : ¬ (sg l a.next 45 = false ∨ l.length ≤ a.next + 1 ∨ sg l (a.next + 1) 93 = true)) (he : a.e = true) (hb : thP l d (a.next + 1) = .ok b) (hx : ¬ (b.e = false ∨ b.b.toNat < a.b.toNat)) : itemP l d i f = .ok ⟨rng a.b.toNat b.b.toNat, 0, false, b.next⟩ := by
  simp only [itemP, ha]; rw [if_neg h, if_neg hs, if_neg (by rw [he]; decide), hb]; simp only; rw [if_neg hx]
end
end Go.HL.Kl.Bk
