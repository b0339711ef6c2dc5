/- Part of the proofs over this seat: see the text that holds the theorem. Conditions: each theorem bears its own. -/
import Derived.Test.YtafbigmneipkiaaDoorMB3
import Derived.Test.YtafbigmneipkiaaDoorMC12
namespace Go.HL.Kl.Bk
open Go Go.HL Go.Tab Go.HL.Kl
theorem sizeTo_zero (c : Cl) : ∀ i, sizeTo c i = 0 → ∀ j, j < i → c.getLsbD j = false
  | 0, _, j, hj => by omega
  | i + 1, h, j, hj => by
    rw [sizeTo_step] at h
    rcases Nat.lt_or_ge j i with h1 | h1
    · exact sizeTo_zero c i (by omega) j h1
    · obtain rfl : j = i := by omega
      cases hb : c.getLsbD j
      · rfl
      · rw [hb] at h; simp at h
theorem size_zero {c : Cl} (h : size c = 0) : c = 0#256 := by
  apply BitVec.eq_of_getLsbD_eq
  intro i hi
  rw [sizeTo_zero c 256 h i hi]; simp
theorem size_lt {c : Cl} (h : size c ≤ 255) : c ≠ rng 0 255 := by
  intro e
  subst e
  have : size (rng 0 255) = 256 := by decide +kernel
  omega
theorem size_ge {c : Cl} (h : ¬ size c < 256) : c = rng 0 255 := by
  have h1 := size_not c
  have h2 : size (~~~c) = 0 := by omega
  have h3 := size_zero h2
  have h4 : c = ~~~(0#256 : Cl) := by rw [← h3, BitVec.not_not]
  rw [h4]; decide +kernel
theorem neg_z {c : Cl} (h : size c = 0) : neg c = true ∧ body c = rng 0 255 := by
  have h0 := size_zero h
  subst h0
  have hn : neg (0#256 : Cl) = true := by rw [neg]; decide +kernel
  exact ⟨hn, by rw [body, if_pos hn]; decide +kernel⟩
theorem neg_h {c : Cl} (h : size c < 256) (hb : c.getLsbD 10 = true) : neg c = true ∧ body c = ~~~c := by
  have hn : neg c = true := by rw [neg, decide_eq_true (size_lt (by omega)), hb]; rfl
  exact ⟨hn, by rw [body, if_pos hn]⟩
theorem neg_n {c : Cl} (h0 : ¬ size c = 0) (hb : c.getLsbD 10 = false) : neg c = false ∧ body c = c := by
  have hz : ¬ c = 0 := by
    rintro rfl
    exact h0 (by decide +kernel)
  have hn : neg c = false := by rw [neg, hb, decide_eq_false hz]; simp
  exact ⟨hn, by rw [body, if_neg (by rw [hn]; decide)]⟩
theorem neg_f {c : Cl} (h : ¬ size c < 256) : neg c = false ∧ body c = c := by
  have e := size_ge h
  subst e
  have hn : neg (rng 0 255) = false := by decide +kernel
  exact ⟨hn, by rw [body, if_neg (by rw [hn]; decide)]⟩
end Go.HL.Kl.Bk
