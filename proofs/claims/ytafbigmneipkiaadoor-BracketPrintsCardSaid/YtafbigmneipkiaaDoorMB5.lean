/- Part of the proofs over this seat: see the text that holds the theorem. Conditions: each theorem bears its own. -/
import Derived.Test.YtafbigmneipkiaaDoorMB3
namespace Go.HL.Kl.Bk
open Go Go.HL Go.Tab

/-! a bracket hangs on its own marks -/
/-- two rows that are the same up to a place -/
structure Agree (l m : List Mk) (w : Nat) : Prop where
  at' : ∀ j, j < w → l[j]? = m[j]?
  hl : w ≤ l.length
  hm : w ≤ m.length
theorem Agree.sg {l m : List Mk} {w : Nat} (h : Agree l m w) {j : Nat} (hj : j < w) (b : UInt8) : sg m j b = sg l j b := by simp only [Bk.sg, h.at' j hj]
theorem Agree.mk0 {l m : List Mk} {w : Nat} (h : Agree l m w) {j : Nat} (hj : j < w) : mk0 m j = mk0 l j := by simp only [Go.Tab.mk0, List.getD_eq_getElem?_getD, h.at' j hj]
theorem Agree.bytes {l m : List Mk} {w : Nat} (h : Agree l m w) {i k : Nat} (hk : k ≤ w) : bytesM m i k = bytesM l i k := by
  unfold bytesM
  congr 1
  apply List.ext_getElem?
  intro j
  rw [List.getElem?_take, List.getElem?_take]
  split
  · rw [List.getElem?_drop, List.getElem?_drop, h.at' (i + j) (by omega)]
  · rfl
theorem nameEnd_agree {l m : List Mk} {w : Nat} (h : Agree l m w) : ∀ {n n' k k' : Nat}, nameEnd l n k = some k' → k' + 1 < w → k' < n' + k → nameEnd m n' k = some k'
  | 0, _, _, _, hh, _, _ => by cases hh
  | n + 1, 0, k, k', hh, hw, hn => by have := nameEnd_lt hh; omega
  | n + 1, n' + 1, k, k', hh, hw, hn => by
    have hlt := nameEnd_lt hh
    simp only [nameEnd] at hh ⊢
    rw [h.sg (by omega), h.sg (by omega)]
    split at hh
    · rename_i hs
      rw [if_pos hs]; exact hh
    · rename_i hs
      rw [if_neg hs]
      exact nameEnd_agree h hh hw (by omega)
/-- a row that is cut ahead of where the name ends -/
theorem nameEnd_cut {l m : List Mk} {w : Nat} (h : Agree l m w) (hm : m.length = w) : ∀ {n n' k k' : Nat}, nameEnd l n k = some k' → w ≤ k' + 1 → nameEnd m n' k = none
  | _, 0, _, _, _, _ => rfl
  | 0, _ + 1, _, _, hh, _ => by cases hh
  | n + 1, n' + 1, k, k', hh, hw => by
    have hlt := nameEnd_lt hh
    simp only [nameEnd] at hh ⊢
    have hs2 : (sg m k 58 && sg m (k + 1) 93) = false := by
      rcases Nat.lt_or_ge (k + 1) w with h1 | h1
      · rw [h.sg (by omega), h.sg h1]
        split at hh
        · cases hh; omega
        · rename_i hs; simpa using hs
      · rw [sg_ge (l := m) (i := k + 1) (by omega), Bool.and_false]
    rw [hs2, if_neg (by decide)]
    split at hh
    · cases hh
      rcases Nat.lt_or_ge (k + 1) w with h1 | h1
      · omega
      · -- nothing lies behind
        clear hs2
        have : ∀ n'' j, w ≤ j + 1 → nameEnd m n'' j = none := by
          intro n''
          induction n'' with
          | zero => intro j _; rfl
          | succ n'' ih =>
            intro j hj
            simp only [nameEnd]
            rw [sg_ge (l := m) (i := j + 1) (by omega), Bool.and_false, if_neg (by decide)]
            exact ih (j + 1) (by omega)
        exact this n' (k + 1) (by omega)
    · exact nameEnd_cut h hm hh hw
theorem nameP_some {l : List Mk} {a i : Nat} {t : Th} (h : nameP l a i = .ok t) : ∃ k c, nameEnd l (l.length - (i + 2)) (i + 2) = some k ∧ named ⟨(bytesM l (i + 2) k).toArray⟩ = some c ∧ t = ⟨c, 0, false, k + 2⟩ := by
  unfold nameP at h
  split at h
  · cases h
  · rename_i k hk
    split at h
    · cases h
    · rename_i c hc
      cases h
      exact ⟨k, c, hk, hc, rfl⟩
theorem nameP_agree {l m : List Mk} {w a i : Nat} {t : Th} (h : Agree l m w) (ht : nameP l a i = .ok t) (hw : t.next ≤ w) : nameP m a i = .ok t := by
  obtain ⟨k, c, hk, hc, rfl⟩ := nameP_some ht
  dsimp only at hw
  have h2 := nameEnd_lt hk
  have hm := h.hm
  have h1 := nameEnd_agree h hk (n' := m.length - (i + 2)) (by omega) (by omega)
  unfold nameP
  rw [h1]
  simp only [h.bytes (i := i + 2) (k := k) (by omega), hc]
theorem nameP_cut {l m : List Mk} {w a i : Nat} {t : Th} (h : Agree l m w) (hm : m.length = w) (ht : nameP l a i = .ok t) (hw : w < t.next) : ∀ a', nameP m a' i = .bad 32 a' := by
  obtain ⟨k, c, hk, hc, rfl⟩ := nameP_some ht
  dsimp only at hw
  intro a'
  unfold nameP
  rw [nameEnd_cut h hm hk (by omega)]
theorem encP_some {l : List Mk} {a i : Nat} {y : UInt8} {t : Th} (h : encP l a i y = .ok t) : sg l (i + 3) y = true ∧ sg l (i + 4) 93 = true ∧ t = ⟨ofL [(mk0 l (i + 2)).b], (mk0 l (i + 2)).b, y == 46, i + 5⟩ := by
  unfold encP at h
  split at h
  · cases h
  · split at h
    · cases h
    · rename_i h3
      split at h
      · cases h
      · split at h
        · cases h
        · rename_i h4
          cases h
          exact ⟨by simpa using h3, by simpa using h4, rfl⟩
theorem encP_agree {l m : List Mk} {w a i : Nat} {y : UInt8} {t : Th} (h : Agree l m w) (ht : encP l a i y = .ok t) (hw : t.next ≤ w) : encP m a i y = .ok t := by
  obtain ⟨h3, h4, rfl⟩ := encP_some ht
  dsimp only at hw
  have hm := h.hm
  unfold encP
  rw [if_neg (by omega), h.sg (by omega), h3, if_neg (by decide), if_neg (by omega), h.sg (by omega), h4, if_neg (by decide), h.mk0 (by omega)]
theorem encP_cut {l m : List Mk} {w a i : Nat} {y : UInt8} {t : Th} (h : Agree l m w) (hm : m.length = w) (ht : encP l a i y = .ok t) (hw : w < t.next) : ∀ a', encP m a' i y = .bad 32 a' := by
  obtain ⟨h3, h4, rfl⟩ := encP_some ht
  dsimp only at hw
  intro a'
  unfold encP
  split
  · rfl
  · rw [h.sg (by omega), h3, if_neg (by decide), if_pos (by omega)]
/-- is it more than one byte? -/
def multi (l : List Mk) (i : Nat) : Prop := sg l i 91 = true ∧ i + 1 < l.length ∧ (mk0 l (i + 1)).p = false ∧ ((mk0 l (i + 1)).b = 58 ∨ (mk0 l (i + 1)).b = 61 ∨ (mk0 l (i + 1)).b = 46)
theorem thP_one {l : List Mk} {a i : Nat} (hi : i < l.length) (h : ¬ multi l i) : thP l a i = .ok (oneP l i) := by
  unfold thP
  rw [if_neg (by omega)]
  split
  · rename_i h1
    split
    · rename_i h2
      exact absurd ⟨h1.1, h1.2.1, h1.2.2, .inl h2⟩ h
    · split
      · rename_i h2
        exact absurd ⟨h1.1, h1.2.1, h1.2.2, .inr h2⟩ h
      · rfl
  · rfl
theorem thP_multi {l : List Mk} {a i : Nat} (h : multi l i) : thP l a i = if (mk0 l (i + 1)).b = 58 then nameP l a i else encP l a i (mk0 l (i + 1)).b := by
  obtain ⟨h1, h2, h3, h4⟩ := h
  unfold thP
  rw [if_neg (by omega), if_pos ⟨h1, h2, h3⟩]
  split
  · rfl
  · rename_i h5
    rw [if_pos (h4.resolve_left h5)]
theorem thP_cut {l m : List Mk} {w a i : Nat} {t : Th} (h : Agree l m w) (hm : m.length = w) (hi : i < w) (ht : thP l a i = .ok t) :
    (t.next ≤ w ∧ thP m a i = .ok t) ∨ (w < t.next ∧ ∀ a', thP m a' i = .bad 32 a') ∨ (w < t.next ∧ w = i + 1 ∧ sg l i 91 = true ∧ thP m a i = .ok ⟨ofL [91], 91, true, w⟩) := by
  have hl := h.hl
  by_cases hmu : multi l i
  · have hmu' := hmu
    rw [thP_multi hmu] at ht
    obtain ⟨h1, h2, h3, h4⟩ := hmu
    have h91 : mk0 l i = ⟨91, false⟩ := by
      have := sg_at (l := l) (i := i) (b := 91) (by omega)
      rw [h1] at this
      exact of_decide_eq_true this.symm
    rcases Nat.lt_or_ge (i + 1) w with h5 | h5
    · have hmm : multi m i := ⟨by rw [h.sg hi]; exact h1, by omega, by rw [h.mk0 h5]; exact h3, by rw [h.mk0 h5]; exact h4⟩
      have e : ∀ a', thP m a' i = if (mk0 l (i + 1)).b = 58 then nameP m a' i else encP m a' i (mk0 l (i + 1)).b := by
        intro a'; rw [thP_multi hmm, h.mk0 h5]
      rcases Nat.lt_or_ge w t.next with h6 | h6
      · refine .inr (.inl ⟨h6, fun a' => ?_⟩)
        rw [e a']
        split at ht
        · rename_i h7; rw [if_pos h7]; exact nameP_cut h hm ht h6 a'
        · rename_i h7; rw [if_neg h7]; exact encP_cut h hm ht h6 a'
      · refine .inl ⟨h6, ?_⟩
        rw [e a]
        split at ht
        · rename_i h7; rw [if_pos h7]; exact nameP_agree h ht h6
        · rename_i h7; rw [if_neg h7]; exact encP_agree h ht h6
    · have hw : w = i + 1 := by omega
      refine .inr (.inr ⟨?_, hw, h1, ?_⟩)
      · split at ht
        · obtain ⟨k, c, hk, _, rfl⟩ := nameP_some ht
          have := nameEnd_lt hk
          dsimp only; omega
        · obtain ⟨_, _, rfl⟩ := encP_some ht
          dsimp only; omega
      · rw [thP_one (by omega) (by rintro ⟨_, h6, _⟩; omega)]
        simp only [oneP, h.mk0 hi, h91, hw]
  · rw [thP_one (by omega) hmu] at ht
    cases ht
    refine .inl ⟨by simp only [oneP]; omega, ?_⟩
    rw [thP_one (by omega) ?_]
    · simp only [oneP, h.mk0 hi]
    · rintro ⟨h1, h2, h3, h4⟩
      rw [h.sg hi] at h1
      rw [h.mk0 (by omega)] at h3 h4
      exact hmu ⟨h1, by omega, h3, h4⟩
/-- the same up to one place more: the same thing -/
theorem thP_agree {l m : List Mk} {w a i : Nat} {t : Th} (h : Agree l m w) (ht : thP l a i = .ok t) (hw : t.next < w) : thP m a i = .ok t := by
  have hn := thP_next ht
  have hl := h.hl
  have hmm := h.hm
  by_cases hmu : multi l i
  · rw [thP_multi hmu] at ht
    obtain ⟨h1, h2, h3, h4⟩ := hmu
    have h5 : i + 1 < w := by omega
    rw [thP_multi ⟨by rw [h.sg (by omega)]; exact h1, by omega, by rw [h.mk0 h5]; exact h3, by rw [h.mk0 h5]; exact h4⟩, h.mk0 h5]
    split at ht
    · rename_i h7; rw [if_pos h7]; exact nameP_agree h ht (by omega)
    · rename_i h7; rw [if_neg h7]; exact encP_agree h ht (by omega)
  · rw [thP_one (by omega) hmu] at ht
    cases ht
    simp only [oneP] at hw
    rw [thP_one (by omega) ?_]
    · simp only [oneP, h.mk0 (show i < w by omega)]
    · rintro ⟨h1, h2, h3, h4⟩
      rw [h.sg (by omega)] at h1
      rw [h.mk0 (by omega)] at h3 h4
      exact hmu ⟨h1, by omega, h3, h4⟩
/-- an item that came out: how -/
inductive ItemHow (l : List Mk) (a i : Nat) (f : Bool) (t : Th) : Prop
  | one (hth : thP l a i = .ok t) (hc : ¬ (sg l i 45 = true ∧ f = false ∧ sg l (i + 1) 93 = false)) (hd : sg l t.next 45 = false ∨ l.length ≤ t.next + 1 ∨ sg l (t.next + 1) 93 = true)
  | two (x y : Th) (hth : thP l a i = .ok x) (hc : ¬ (sg l i 45 = true ∧ f = false ∧ sg l (i + 1) 93 = false)) (h1 : sg l x.next 45 = true) (h2 : x.next + 1 < l.length) (h3 : sg l (x.next + 1) 93 = false) (he : x.e = true)
      (hth2 : thP l a (x.next + 1) = .ok y) (h4 : ¬ (y.e = false ∨ y.b.toNat < x.b.toNat)) (ht : t = ⟨rng x.b.toNat y.b.toNat, 0, false, y.next⟩)
theorem itemP_how {l : List Mk} {a i : Nat} {f : Bool} {t : Th} (h : itemP l a i f = .ok t) : ItemHow l a i f t := by
  unfold itemP at h
  cases h1 : thP l a i with
  | bad e p => rw [h1] at h; cases h
  | ok x =>
    rw [h1] at h
    simp only at h
    split at h
    · split at h <;> cases h
    · rename_i hc
      split at h
      · rename_i hd
        cases h
        exact .one h1 hc hd
      · rename_i hd
        have hd1 := _root_.not_or.1 hd
        have hd2 := _root_.not_or.1 hd1.2
        split at h
        · cases h
        · rename_i he
          cases h2 : thP l a (x.next + 1) with
          | bad e p => rw [h2] at h; cases h
          | ok y =>
            rw [h2] at h
            simp only at h
            split at h
            · cases h
            · rename_i h4
              cases h
              exact .two x y h1 hc (by simpa using hd1.1) (by omega) (by simpa using hd2.2) (by simpa using he) h2 h4 rfl
theorem ItemHow.item {l : List Mk} {a i : Nat} {f : Bool} {t : Th} (h : ItemHow l a i f t) : itemP l a i f = .ok t := by
  unfold itemP
  rcases h with ⟨hth, hc, hd⟩ | ⟨x, y, hth, hc, h1, h2, h3, he, hth2, h4, ht⟩
  · rw [hth]
    simp only
    rw [if_neg hc, if_pos hd]
  · rw [hth]
    simp only
    rw [if_neg hc, if_neg (by
      rintro (h | h | h)
      · rw [h1] at h; cases h
      · omega
      · rw [h3] at h; cases h), if_neg (by rw [he]; decide), hth2]
    simp only
    rw [if_neg h4, ht]
/-- an item of one row is one of the other, if the bracket goes on behind it -/
theorem item_agree {l m : List Mk} {w a i : Nat} {f : Bool} {t : Th} (h : Agree l m w) (ht : itemP l a i f = .ok t) (hw : t.next < w) (hs : sg l t.next 45 = true → t.next + 1 < w) : itemP m a i f = .ok t := by
  have hn := itemP_next ht
  have hl := h.hl
  have hmm := h.hm
  rcases itemP_how ht with ⟨hth, hc, hd⟩ | ⟨x, y, hth, hc, h1, h2, h3, he, hth2, h4, rfl⟩
  · refine ItemHow.item (.one (thP_agree h hth hw) ?_ ?_)
    · rw [h.sg (by omega), h.sg (by omega)]; exact hc
    · rw [h.sg hw]
      cases h5 : sg l t.next 45 with
      | false => exact .inl rfl
      | true =>
        rw [h5] at hd
        have h6 := hs h5
        rcases hd with hd | hd | hd
        · cases hd
        · omega
        · exact .inr (.inr (by rw [h.sg h6]; exact hd))
  · have hx := thP_next hth
    have hy := thP_next hth2
    dsimp only at hw
    refine ItemHow.item (.two x y (thP_agree h hth (by omega)) ?_ ?_ (by omega) ?_ he (thP_agree h hth2 hw) h4 rfl)
    · rw [h.sg (by omega), h.sg (by omega)]; exact hc
    · rw [h.sg (by omega)]; exact h1
    · rw [h.sg (by omega)]; exact h3
/-- where the loop ends there is a sign ] -/
theorem loop_end {l : List Mk} {a : Nat} : ∀ {n i : Nat} {f : Bool} {c c' : Cl} {e : Nat}, loopP l a n i f c = .ok c' e → sg l e 93 = true ∧ i < e
  | 0, _, _, _, _, _, h => by cases h
  | n + 1, i, f, c, c', e, h => by
    simp only [loopP] at h
    cases h1 : itemP l a i f with
    | bad e p => rw [h1] at h; cases h
    | ok t =>
      have h2 := itemP_next h1
      rw [h1] at h
      simp only at h
      split at h
      · rename_i hs
        cases h
        exact ⟨hs, h2.1⟩
      · have := loop_end h
        exact ⟨this.1, by omega⟩
theorem dash_alone {l : List Mk} {a i : Nat} {f : Bool} (h : i + 1 = l.length) (hs : sg l i 45 = true) : ∃ e p, itemP l a i false = .bad e p ∧ e = 32 ∧ p = a := by
  have h9 : ¬ multi l i := by rintro ⟨_, h6, _⟩; omega
  refine ⟨32, a, ?_, rfl, rfl⟩
  unfold itemP
  rw [thP_one (by omega) h9]
  simp only
  rw [if_pos ⟨hs, trivial, sg_ge (by omega)⟩, if_pos (by omega)]
/-- the loop over a row that is the same to the bracket's end -/
theorem loop_agree {l m : List Mk} {w a : Nat} (h : Agree l m w) : ∀ {n i : Nat} {f : Bool} {c c' : Cl} {e : Nat}, loopP l a n i f c = .ok c' e → e + 1 = w → loopP m a n i f c = .ok c' e
  | 0, _, _, _, _, _, hh, _ => by cases hh
  | n + 1, i, f, c, c', e, hh, he => by
    have hse := loop_end hh
    simp only [loopP] at hh ⊢
    cases h1 : itemP l a i f with
    | bad e p => rw [h1] at hh; cases hh
    | ok t =>
      have h2 := itemP_next h1
      rw [h1] at hh
      simp only at hh
      have key : t.next ≤ e ∧ (sg l t.next 45 = true → t.next + 1 < w) := by
        split at hh
        · rename_i hs
          cases hh
          refine ⟨Nat.le_refl _, fun h9 => ?_⟩
          rw [sg_two hs (by decide)] at h9; cases h9
        · have := loop_end hh
          omega
      rw [item_agree h h1 (by omega) key.2]
      simp only
      rw [h.sg (by omega)]
      split at hh
      · rename_i hs
        rw [if_pos hs]; exact hh
      · rename_i hs
        rw [if_neg hs]
        exact loop_agree h hh he
/-- a bracket that is cut is not closed, or it ends in a range that can't be -/
def CutBad (l : List Mk) (w a i : Nat) (r : PR) : Prop := r = .bad 32 a ∨ ∃ p, r = .bad 30 p ∧ i ≤ p ∧ p + 2 < w ∧ sg l (w - 1) 91 = true ∧ sg l (w - 2) 45 = true
theorem loop_full {m : List Mk} {w a n : Nat} {f : Bool} {c : Cl} (hm : m.length = w) : loopP m a n w f c = .bad 32 a := by
  cases n with
  | zero => rfl
  | succ n =>
    have : thP m a w = .bad 32 a := by unfold thP; rw [if_pos (by omega)]
    simp only [loopP, itemP, this]
theorem loop_cut {l m : List Mk} {w a : Nat} (h : Agree l m w) (hm : m.length = w) : ∀ {n i : Nat} {f : Bool} {c c2 c' : Cl} {e : Nat} (n2 : Nat), loopP l a n i f c = .ok c' e → w ≤ e → i ≤ w → CutBad l w a i (loopP m a n2 i f c2)
  | 0, _, _, _, _, _, _, _, hh, _, _ => by cases hh
  | n + 1, i, f, c, c2, c', e, n2, hh, he, hi => by
    rcases Nat.lt_or_ge i w with hi | hi'
    case inr => rw [show i = w by omega, loop_full hm]; exact .inl rfl
    cases n2 with
    | zero => exact .inl rfl
    | succ n2 =>
    have hl := h.hl
    have hse := loop_end hh
    simp only [loopP] at hh ⊢
    cases h1 : itemP l a i f with
    | bad e p => rw [h1] at hh; cases hh
    | ok t =>
      have h2 := itemP_next h1
      rw [h1] at hh
      simp only at hh
      -- the loop went on: behind the item no bracket closed ahead of the cut
      have hgo : t.next < w → sg l t.next 93 = false ∧ loopP l a n t.next false (c ||| t.set) = .ok c' e := by
        intro h5
        split at hh
        · cases hh; omega
        · rename_i hs; exact ⟨by simpa using hs, hh⟩
      -- an item of the cut row that ends where it is cut
      have hcutend : ∀ (t' : Th), t'.next = w → itemP m a i f = .ok t' → CutBad l w a i (match itemP m a i f with | .bad e p => PR.bad e p | .ok x => if sg m x.next 93 = true then .ok (c2 ||| x.set) x.next else loopP m a n2 x.next false (c2 ||| x.set)) := by
        intro t' h5 h6
        rw [h6]
        simp only
        rw [h5, sg_ge (by omega), if_neg (by decide), loop_full hm]
        exact .inl rfl
      have hbad : itemP m a i f = .bad 32 a → CutBad l w a i (match itemP m a i f with | .bad e p => PR.bad e p | .ok x => if sg m x.next 93 = true then .ok (c2 ||| x.set) x.next else loopP m a n2 x.next false (c2 ||| x.set)) := by
        intro h6; rw [h6]; exact .inl rfl
      -- the same item: go on
      have hsame : t.next ≤ w → itemP m a i f = .ok t → CutBad l w a i (match itemP m a i f with | .bad e p => PR.bad e p | .ok x => if sg m x.next 93 = true then .ok (c2 ||| x.set) x.next else loopP m a n2 x.next false (c2 ||| x.set)) := by
        intro h5 h6
        rcases Nat.lt_or_ge t.next w with h7 | h7
        · obtain ⟨h8, h9⟩ := hgo h7
          rw [h6]
          simp only
          rw [h.sg h7, h8, if_neg (by decide)]
          rcases loop_cut h hm (c2 := c2 ||| t.set) n2 h9 he (by omega) with r | ⟨p, r1, r2, r3⟩
          · exact .inl r
          · exact .inr ⟨p, r1, by omega, r3⟩
        · exact hcutend t (by omega) h6
      have hdash : ∀ x : Th, thP m a i = .ok x → (sg m i 45 = true ∧ f = false ∧ sg m (i + 1) 93 = false) → ¬ (sg l i 45 = true ∧ f = false ∧ sg l (i + 1) 93 = false) → itemP m a i f = .bad 32 a := by
        intro x h6 h7 h8
        have h9 : w ≤ i + 1 := by
          rcases Nat.lt_or_ge (i + 1) w with h9 | h9
          · rw [h.sg hi, h.sg h9] at h7; exact absurd h7 h8
          · exact h9
        unfold itemP
        rw [h6]
        simp only
        rw [if_pos h7, if_pos (by omega)]
      rcases itemP_how h1 with ⟨hth, hc, hd⟩ | ⟨x, y, hth, hc, g1, g2, g3, ge, hth2, g4, rfl⟩
      · rcases thP_cut h hm hi hth with ⟨h5, h6⟩ | ⟨h5, h6⟩ | ⟨h5, h7, h8, h6⟩
        · by_cases hq : sg m i 45 = true ∧ f = false ∧ sg m (i + 1) 93 = false
          · exact hbad (hdash t h6 hq hc)
          · refine hsame h5 (ItemHow.item (.one h6 hq ?_))
            rcases Nat.lt_or_ge t.next w with h7 | h7
            · rw [h.sg h7]
              rcases Nat.lt_or_ge (t.next + 1) w with h8 | h8
              · rw [h.sg h8]
                rcases hd with hd | hd | hd
                · exact .inl hd
                · omega
                · exact .inr (.inr hd)
              · exact .inr (.inl (by omega))
            · exact .inl (sg_ge (by omega))
        · exact hbad (by unfold itemP; rw [h6 a])
        · have hn45 : sg m i 45 = false := by rw [h.sg hi]; exact sg_two h8 (by decide)
          refine hcutend ⟨ofL [91], 91, true, w⟩ rfl (ItemHow.item (.one h6 (by rw [hn45]; simp) (.inl (sg_ge (Nat.le_of_eq hm)))))
      · have hx := thP_next hth
        have hy := thP_next hth2
        rcases thP_cut h hm hi hth with ⟨h5, h6⟩ | ⟨h5, h6⟩ | ⟨h5, h7, h8, h6⟩
        · by_cases hq : sg m i 45 = true ∧ f = false ∧ sg m (i + 1) 93 = false
          · exact hbad (hdash x h6 hq hc)
          · rcases Nat.lt_or_ge x.next w with h7 | h7
            · rcases Nat.lt_or_ge (x.next + 1) w with h8 | h8
              · rcases thP_cut h hm h8 hth2 with ⟨k5, k6⟩ | ⟨k5, k6⟩ | ⟨k5, k7, k8, k6⟩
                · exact hsame k5 (ItemHow.item (.two x y h6 hq (by rw [h.sg h7]; exact g1) (by omega) (by rw [h.sg h8]; exact g3) ge k6 g4 rfl))
                · refine hbad ?_
                  unfold itemP
                  rw [h6]
                  simp only
                  rw [if_neg hq, if_neg (by
                    rintro (r | r | r)
                    · rw [h.sg h7, g1] at r; cases r
                    · omega
                    · rw [h.sg h8, g3] at r; cases r), if_neg (by rw [ge]; decide), k6 a]
                · by_cases hlt : (91 : UInt8).toNat < x.b.toNat
                  · have hb : itemP m a i f = .bad 30 i := by
                      unfold itemP
                      rw [h6]
                      simp only
                      rw [if_neg hq, if_neg (by
                        rintro (r | r | r)
                        · rw [h.sg h7, g1] at r; cases r
                        · omega
                        · rw [h.sg h8, g3] at r; cases r), if_neg (by rw [ge]; decide), k6]
                      simp only
                      rw [if_pos (.inr hlt)]
                    rw [hb]
                    exact .inr ⟨i, rfl, Nat.le_refl _, by omega, by rw [show w - 1 = x.next + 1 by omega]; exact k8, by rw [show w - 2 = x.next by omega]; exact g1⟩
                  · exact hcutend ⟨rng x.b.toNat (91 : UInt8).toNat, 0, false, w⟩ rfl (ItemHow.item (.two x ⟨ofL [91], 91, true, w⟩ h6 hq (by rw [h.sg h7]; exact g1) (by omega) (by rw [h.sg h8]; exact g3) ge k6 (by rintro (r | r); cases r; exact hlt r) rfl))
              · -- the dash is the last mark
                have hit : itemP m a i f = .ok x := ItemHow.item (.one h6 hq (.inr (.inl (by omega))))
                rw [hit]
                simp only
                have hd45 : sg m x.next 45 = true := by rw [h.sg h7]; exact g1
                rw [sg_two hd45 (by decide), if_neg (by decide)]
                cases n2 with
                | zero => exact .inl rfl
                | succ n2 =>
                  obtain ⟨e1, p1, r1, rfl, rfl⟩ := dash_alone (l := m) (a := a) (i := x.next) (f := f) (by omega) hd45
                  simp only [loopP, r1]
                  exact .inl rfl
            · refine hcutend x (by omega) (ItemHow.item (.one h6 hq (.inl (sg_ge (by omega)))))
        · exact hbad (by unfold itemP; rw [h6 a])
        · have hn45 : sg m i 45 = false := by rw [h.sg hi]; exact sg_two h8 (by decide)
          refine hcutend ⟨ofL [91], 91, true, w⟩ rfl (ItemHow.item (.one h6 (by rw [hn45]; simp) (.inl (sg_ge (Nat.le_of_eq hm)))))
end Go.HL.Kl.Bk
