/- Part of the proofs over this seat: see the text that holds the theorem. Conditions: each theorem bears its own. -/
import Derived.Test.YtafbigmneipkiaaDoorMB1
namespace Go.HL.Kl.Bk
open Go Go.HL Go.Tab

/-! what stands ahead does not count -/
theorem sg_app {A l : List Mk} {i : Nat} {b : UInt8} : sg (A ++ l) (A.length + i) b = sg l i b := by
  simp only [sg, List.getElem?_append_right (Nat.le_add_right _ _), Nat.add_sub_cancel_left]
theorem mk0_app {A l : List Mk} {i : Nat} : mk0 (A ++ l) (A.length + i) = mk0 l i := by
  simp only [mk0, List.getD_eq_getElem?_getD, List.getElem?_append_right (Nat.le_add_right _ _), Nat.add_sub_cancel_left]
def R.sh (d : Nat) : R → R
  | .ok t => .ok { t with next := d + t.next }
  | .bad e p => .bad e (d + p)
theorem nameEnd_app {A l : List Mk} : ∀ {n k : Nat}, nameEnd (A ++ l) n (A.length + k) = (nameEnd l n k).map (A.length + ·)
  | 0, _ => rfl
  | n + 1, k => by
    simp only [nameEnd, sg_app, Nat.add_assoc]
    split
    · rfl
    · exact nameEnd_app
theorem bytesM_app {A l : List Mk} {i k : Nat} : bytesM (A ++ l) (A.length + i) (A.length + k) = bytesM l i k := by
  simp only [bytesM, show A.length + k - (A.length + i) = k - i by omega]
  congr 2
  rw [List.drop_append, List.drop_of_length_le (by omega), List.nil_append, Nat.add_sub_cancel_left]
theorem nameP_app {A l : List Mk} {a i : Nat} : nameP (A ++ l) (A.length + a) (A.length + i) = (nameP l a i).sh A.length := by
  simp only [nameP, List.length_append, Nat.add_assoc, Nat.add_sub_add_left, nameEnd_app]
  cases h : nameEnd l (l.length - (i + 2)) (i + 2) with
  | none => rfl
  | some k =>
    simp only [Option.map_some, bytesM_app]
    cases h2 : named ⟨(bytesM l (i + 2) k).toArray⟩ with
    | none => rfl
    | some c => rfl
theorem encP_app {A l : List Mk} {a i : Nat} {y : UInt8} : encP (A ++ l) (A.length + a) (A.length + i) y = (encP l a i y).sh A.length := by
  simp only [encP, List.length_append, Nat.add_assoc, sg_app, mk0_app, Nat.add_le_add_iff_left]
  split
  · rfl
  · split
    · rfl
    · split
      · rfl
      · split <;> rfl
theorem thP_app {A l : List Mk} {a i : Nat} : thP (A ++ l) (A.length + a) (A.length + i) = (thP l a i).sh A.length := by
  simp only [thP, oneP, List.length_append, Nat.add_assoc, sg_app, mk0_app, Nat.add_le_add_iff_left, Nat.add_lt_add_iff_left, encP_app, nameP_app]
  split
  · rfl
  · split
    · split
      · rfl
      · split <;> rfl
    · rfl
theorem itemP_app {A l : List Mk} {a i : Nat} {f : Bool} : itemP (A ++ l) (A.length + a) (A.length + i) f = (itemP l a i f).sh A.length := by
  simp only [itemP, thP_app]
  cases h : thP l a i with
  | bad e p => rfl
  | ok t =>
    simp only [R.sh, List.length_append, Nat.add_assoc, sg_app, Nat.add_le_add_iff_left]
    split
    · split <;> rfl
    · split
      · rfl
      · split
        · rfl
        · rw [thP_app]
          cases h2 : thP l a (t.next + 1) with
          | bad e p => rfl
          | ok b =>
            simp only [R.sh]
            split <;> rfl
def PR.sh (d : Nat) : PR → PR
  | .ok c i => .ok c (d + i)
  | .bad e p => .bad e (d + p)
theorem loopP_app {A l : List Mk} {a : Nat} : ∀ {n i : Nat} {f : Bool} {c : Cl}, loopP (A ++ l) (A.length + a) n (A.length + i) f c = (loopP l a n i f c).sh A.length
  | 0, _, _, _ => rfl
  | n + 1, i, f, c => by
    simp only [loopP, itemP_app]
    cases h : itemP l a i f with
    | bad e p => rfl
    | ok t =>
      simp only [R.sh, sg_app]
      split
      · rfl
      · exact loopP_app
/-- enough rounds are enough -/
theorem loopP_fuel {l : List Mk} {a : Nat} : ∀ {n m i : Nat} {f : Bool} {c : Cl}, l.length + 1 ≤ n + i → l.length + 1 ≤ m + i → i ≤ l.length → loopP l a n i f c = loopP l a m i f c
  | 0, _, i, _, _, h, _, hi => by omega
  | n + 1, 0, i, _, _, _, h, hi => by omega
  | n + 1, m + 1, i, f, c, h1, h2, hi => by
    simp only [loopP]
    cases h : itemP l a i f with
    | bad e p => rfl
    | ok t =>
      have h3 := itemP_next h
      simp only
      split
      · rfl
      · exact loopP_fuel (by omega) (by omega) (by omega)
theorem bit1 {b : Bool} : (if b = true then 1 else 0 : Nat) ≤ 1 := by split <;> omega
theorem parseP_ok {A l : List Mk} {c : Cl} {i : Nat} (h0 : sg l 0 91 = true) (hp : loopP l 0 (l.length + 1) (1 + (if sg l 1 94 = true then 1 else 0)) true 0 = .ok c i) :
    parseP (A ++ l) A.length = ((if sg l 1 94 = true then ~~~c else c), (A.length : Int) + i + 1, 0) := by
  have e1 : ((A.length : Int)).toNat = A.length := by omega
  have e0 : sg (A ++ l) A.length 91 = sg l 0 91 := sg_app (i := 0)
  have e2 : sg (A ++ l) (A.length + 1) 94 = sg l 1 94 := sg_app (i := 1)
  simp only [parseP, e1, e0, e2]
  have hl := sg_lt h0
  have hn1 : ¬ ((A.length : Int) < 0 ∨ sg l 0 91 = false) := by
    rintro (h | h)
    · omega
    · rw [h0] at h; cases h
  rw [if_neg hn1]
  generalize hk : (if sg l 1 94 = true then 1 else 0 : Nat) = k at hp ⊢
  have hk1 : k ≤ 1 ∧ (k = 1 → 1 < l.length) := by
    subst hk
    by_cases h9 : sg l 1 94 = true
    · have := sg_lt h9
      rw [if_pos h9]; omega
    · rw [if_neg h9]; omega
  have e3 : loopP (A ++ l) A.length ((A ++ l).length + 1) (A.length + 1 + k) true 0 = .ok c (A.length + i) := by
    have e4 := loopP_app (A := A) (l := l) (a := 0) (n := (A ++ l).length + 1) (i := 1 + k) (f := true) (c := 0)
    rw [Nat.add_zero] at e4
    rw [show A.length + 1 + k = A.length + (1 + k) by omega, e4, loopP_fuel (m := l.length + 1) (by simp; omega) (by omega) (by omega), hp]
    rfl
  rw [e3]
  simp
end Go.HL.Kl.Bk
