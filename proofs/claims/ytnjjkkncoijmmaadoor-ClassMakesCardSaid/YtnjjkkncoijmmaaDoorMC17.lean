/- Part of the proofs over this seat: see the text that holds the theorem. Conditions: each theorem bears its own. -/
import Derived.Test.YtnjjkkncoijmmaaDoorMC16
namespace Go.HL.Kl
open Go Go.HL
/-- the first i filled in: the bytes, then marks -/
def fb (l : List UInt8) (i : Nat) : List UInt8 := (l ++ List.replicate 16 165).take i ++ List.replicate (l.length + 16 - i) 0
theorem fb_len {l : List UInt8} {i : Nat} (h : i ≤ l.length + 16) : (fb l i).length = l.length + 16 := by simp [fb]; omega
theorem fb_zero (l : List UInt8) : fb l 0 = List.replicate (l.length + 16) 0 := by simp [fb]
theorem fb_all (l : List UInt8) : fb l (l.length + 16) = l ++ List.replicate 16 165 := by
  unfold fb; rw [List.take_of_length_le (by simp)]; simp
theorem fb_put {l : List UInt8} {i : Nat} {c : UInt8} (h : (l ++ List.replicate 16 (165 : UInt8))[i]? = some c) : fb l (i + 1) = (fb l i).set i c := by
  have hi : i < l.length + 16 := by
    rcases Nat.lt_or_ge i (l.length + 16) with h' | h'
    · exact h'
    · rw [List.getElem?_eq_none (by simp; omega)] at h; cases h
  have hl : ((l ++ List.replicate 16 (165 : UInt8)).take i).length = i := by simp; omega
  unfold fb
  rw [List.set_append_right _ _ (by omega), hl, Nat.sub_self, List.take_add_one, h, show l.length + 16 - i = (l.length + 16 - (i + 1)) + 1 by omega]
  simp [List.replicate_succ]
theorem fb_no {l : List UInt8} {i : Nat} (h : l.length ≤ i) (h3 : i < l.length + 16) : fb l (i + 1) = (fb l i).set i 165 := by
  refine fb_put ?_
  rw [List.getElem?_append_right h, List.getElem?_replicate, if_pos (by omega)]
theorem fb_yes {l : List UInt8} {i : Nat} {c : UInt8} (h : l[i]? = some c) : fb l (i + 1) = ((fb l i).set i 165).set i c := by
  rw [List.set_set]
  have hi : i < l.length := (List.getElem?_eq_some_iff.1 h).1
  exact fb_put (by rw [List.getElem?_append_left hi]; exact h)
end Go.HL.Kl
