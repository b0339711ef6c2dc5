/- What Ends answers. Conditions: none. -/
import Derived.Test.YtihbhlgognpmmaaMT16
namespace Go.HL.Kl.Mc
open Go Go.HL Go.HL.Kl
theorem runN_in {m : List In} {w : List UInt8} {n : Nat} {c c' : Nat × Nat} (h : RunN m w n c c') (hc : c.2 ≤ w.length) : c'.2 ≤ w.length := by
  induction h with
  | zero => exact hc
  | @step n c c' c'' s _ ih =>
    refine ih ?_
    obtain ⟨i, p⟩ := c; obtain ⟨j, q⟩ := c'
    rcases stp_iff.1 s with ⟨h, _⟩ | ⟨h, _, t, b, _, _, hb, _⟩
    · simp only at hc ⊢; omega
    · have := (List.getElem?_eq_some_iff.1 hb).1
      simp only; omega
theorem hit_in {m : List In} {w : List UInt8} {f p : Nat} (h : Hit m w f p) (hf : f ≤ w.length) : f ≤ p ∧ p ≤ w.length := by
  obtain ⟨i, t, ⟨n, h⟩, _⟩ := h
  exact ⟨runN_le h, runN_in h hf⟩
/-- the answer -/
def EndsP (m : List In) (w : List UInt8) (f : Int) (out : List Bool) : Prop := out.length = w.length + 1 ∧ ∀ t : Nat, out[t]? = some true ↔ MOk m ∧ ∃ g : Nat, f = g ∧ g ≤ w.length ∧ Hit m w g t
theorem no_true {n t : Nat} : ¬ (List.replicate n false)[t]? = some true := by
  intro h
  have := List.mem_of_getElem? h
  simp at this
theorem EndsP.no {m : List In} {w : List UInt8} {f : Int} (h : f < 0 ∨ f > w.length ∨ ¬ MOk m) : EndsP m w f (List.replicate (w.length + 1) false) :=
  ⟨by simp, fun t => ⟨fun h1 => absurd h1 no_true, fun ⟨h1, g, h2, h3, _⟩ => by rcases h with h | h | h; (· omega); (· omega); exact absurd h1 h⟩⟩
theorem EndsP.yes {m : List In} {w : List UInt8} {g : Nat} {out : List Bool} (hM : MOk m) (hg : g ≤ w.length) (hl : out.length = w.length + 1) (h : ∀ t : Nat, out[t]? = some true ↔ t < w.length + 1 ∧ Hit m w g t) : EndsP m w g out :=
  ⟨hl, fun t => (h t).trans ⟨fun h1 => ⟨hM, g, rfl, hg, h1.2⟩, fun ⟨_, g', h2, h3, h4⟩ => by
    obtain rfl : g = g' := by omega
    exact ⟨by have := (hit_in h4 hg).2; omega, h4⟩⟩⟩
theorem ends_start {m : List In} {w : List UInt8} {g n t : Nat} : (List.replicate n false)[t]? = some true ↔ t < g ∧ Hit m w g t :=
  ⟨fun h => absurd h no_true, fun ⟨h1, i, u, ⟨n, h2⟩, _⟩ => by have := runN_le h2; simp only at this; omega⟩
theorem ends_end {m : List In} {w : List UInt8} {g p t : Nat} (hg : g ≤ p) (hgw : g ≤ w.length) (hp : p ≤ w.length + 1) (hn : p = w.length + 1 ∨ ∀ j, ¬ Begn m w g p j) : (t < p ∧ Hit m w g t) ↔ (t < w.length + 1 ∧ Hit m w g t) := by
  constructor
  · exact fun ⟨h1, h2⟩ => ⟨by omega, h2⟩
  · rintro ⟨h1, h2⟩
    rcases hn with rfl | hn
    · exact ⟨h1, h2⟩
    · refine ⟨Nat.lt_of_not_le fun h => ?_, h2⟩
      obtain ⟨i, u, h3, _⟩ := h2
      exact start_none hg hn (t - p) i (by rwa [show p + (t - p) = t by omega])
/-- what reach has seen of the first k begun steps -/
def SeenP (m : List In) (w : List UInt8) (p : Nat) (q : List Nat) (k : Nat) (sn : List Bool) : Prop :=
  sn.length = m.length ∧ (∀ i : Nat, sn[i]? = some true ↔ ∃ t j : Nat, t < k ∧ q[t]? = some j ∧ EpsS m w.length p j i) ∧ ∀ i j : Nat, sn[i]? = some true → Eps m w.length p i j → sn[j]? = some true
theorem SeenP.start {m : List In} {w : List UInt8} {p : Nat} {q : List Nat} : SeenP m w p q 0 (List.replicate m.length false) :=
  ⟨by simp, fun i => ⟨fun h => absurd h no_true, fun ⟨_, _, h, _⟩ => by omega⟩, fun i j h => absurd h no_true⟩
theorem SeenP.step {m : List In} {w : List UInt8} {p k j : Nat} {q : List Nat} {sn s2 : List Bool} (h : SeenP m w p q k sn) (hj : q[k]? = some j) (hl : s2.length = m.length) (h2 : ∀ i : Nat, s2[i]? = some true ↔ sn[i]? = some true ∨ EpsS m w.length p j i) (h3 : ∀ i j : Nat, s2[i]? = some true → Eps m w.length p i j → s2[j]? = some true) : SeenP m w p q (k + 1) s2 := by
  refine ⟨hl, fun i => ?_, h3⟩
  rw [h2, h.2.1]
  constructor
  · rintro (⟨t, u, h4, h5, h6⟩ | h4)
    · exact ⟨t, u, by omega, h5, h6⟩
    · exact ⟨k, j, by omega, hj, h4⟩
  · rintro ⟨t, u, h4, h5, h6⟩
    rcases Nat.lt_or_ge t k with h7 | h7
    · exact .inl ⟨t, u, h7, h5, h6⟩
    · obtain rfl : t = k := by omega
      rw [hj] at h5; cases h5
      exact .inr h6
theorem SeenP.run {m : List In} {w : List UInt8} {g p i : Nat} {q : List Nat} {sn : List Bool} (hg : g ≤ p) (hq : ∀ j, j ∈ q ↔ Begn m w g p j) (h : SeenP m w p q q.length sn) : sn[i]? = some true ↔ Run m w (0, g) (i, p) := by
  rw [h.2.1, run_start hg]
  constructor
  · rintro ⟨t, j, _, h2, h3⟩
    exact ⟨j, (hq j).1 (List.mem_of_getElem? h2), h3⟩
  · rintro ⟨j, h2, h3⟩
    obtain ⟨t, h4⟩ := List.getElem?_of_mem ((hq j).2 h2)
    exact ⟨t, j, (List.getElem?_eq_some_iff.1 h4).1, h4, h3⟩
/-- the second pass over the first k steps -/
structure PassP (m : List In) (w : List UInt8) (p : Nat) (sn out : List Bool) (k : Nat) (o2 : List Bool) (q2 : List Nat) : Prop where
  len : o2.length = out.length
  st : ∀ j, j ∈ q2 ↔ ∃ i, i < k ∧ j = i + 1 ∧ sn[i]? = some true ∧ Eat m w i p
  out : ∀ t : Nat, o2[t]? = some true ↔ out[t]? = some true ∨ (t = p ∧ ∃ i u, i < k ∧ sn[i]? = some true ∧ m[i]? = some u ∧ u.op = 6)
  le : q2.length ≤ k
theorem PassP.start {m : List In} {w : List UInt8} {p : Nat} {sn out : List Bool} : PassP m w p sn out 0 out [] :=
  ⟨rfl, fun j => ⟨fun h => (by cases h), fun ⟨_, h, _⟩ => by omega⟩, fun t => ⟨.inl, fun h => h.elim id fun h => by obtain ⟨_, _, _, h, _⟩ := h; omega⟩, Nat.le_refl _⟩
theorem PassP.next {m : List In} {w : List UInt8} {g p : Nat} {sn out o2 : List Bool} {q q2 : List Nat} (hg : g ≤ p) (hq : ∀ j, j ∈ q ↔ Begn m w g p j) (hs : SeenP m w p q q.length sn) (h : PassP m w p sn out m.length o2 q2) : ∀ j, j ∈ q2 ↔ Begn m w g (p + 1) j := by
  intro j
  rw [h.st]
  constructor
  · rintro ⟨i, _, rfl, h3, h4⟩
    exact .inr ⟨by omega, i, rfl, (hs.run hg hq).1 h3, h4⟩
  · rintro (⟨h1, _⟩ | ⟨_, i, rfl, h3, h4⟩)
    · omega
    · obtain ⟨t, b, h5, _⟩ := id h4
      exact ⟨i, (List.getElem?_eq_some_iff.1 h5).1, rfl, (hs.run hg hq).2 h3, h4⟩
theorem PassP.hits {m : List In} {w : List UInt8} {g p : Nat} {sn out o2 : List Bool} {q q2 : List Nat} (hg : g ≤ p) (hq : ∀ j, j ∈ q ↔ Begn m w g p j) (hs : SeenP m w p q q.length sn) (ho : ∀ t : Nat, out[t]? = some true ↔ t < p ∧ Hit m w g t) (h : PassP m w p sn out m.length o2 q2) : ∀ t : Nat, o2[t]? = some true ↔ t < p + 1 ∧ Hit m w g t := by
  intro t
  rw [h.out, ho]
  constructor
  · rintro (⟨h1, h2⟩ | ⟨rfl, i, u, _, h2, h3, h4⟩)
    · exact ⟨by omega, h2⟩
    · exact ⟨by omega, i, u, (hs.run hg hq).1 h2, h3, h4⟩
  · rintro ⟨h1, h2⟩
    rcases Nat.lt_or_ge t p with h3 | h3
    · exact .inl ⟨h3, h2⟩
    · obtain rfl : t = p := by omega
      obtain ⟨i, u, h4, h5, h6⟩ := h2
      exact .inr ⟨rfl, i, u, (List.getElem?_eq_some_iff.1 h5).1, (hs.run hg hq).2 h4, h5, h6⟩
theorem PassP.skip {m : List In} {w : List UInt8} {p k : Nat} {sn out o2 : List Bool} {q2 : List Nat} (h : PassP m w p sn out k o2 q2) (hn : sn[k]? = some true → ¬ Eat m w k p ∧ ∀ u, m[k]? = some u → u.op ≠ 6) : PassP m w p sn out (k + 1) o2 q2 := by
  refine ⟨h.len, fun j => ?_, fun t => ?_, by have := h.le; omega⟩
  · rw [h.st]
    constructor
    · rintro ⟨i, h1, h2⟩; exact ⟨i, by omega, h2⟩
    · rintro ⟨i, h1, h2, h3, h4⟩
      rcases Nat.lt_or_ge i k with h5 | h5
      · exact ⟨i, h5, h2, h3, h4⟩
      · obtain rfl : i = k := by omega
        exact absurd h4 (hn h3).1
  · rw [h.out]
    refine or_congr_right (and_congr_right fun _ => ?_)
    constructor
    · rintro ⟨i, u, h1, h2⟩; exact ⟨i, u, by omega, h2⟩
    · rintro ⟨i, u, h1, h2, h3, h4⟩
      rcases Nat.lt_or_ge i k with h5 | h5
      · exact ⟨i, u, h5, h2, h3, h4⟩
      · obtain rfl : i = k := by omega
        exact absurd h4 ((hn h2).2 u h3)
theorem PassP.eat {m : List In} {w : List UInt8} {p k : Nat} {sn out o2 : List Bool} {q2 : List Nat} (h : PassP m w p sn out k o2 q2) (hs : sn[k]? = some true) (he : Eat m w k p) : PassP m w p sn out (k + 1) o2 (q2 ++ [k + 1]) := by
  refine ⟨h.len, fun j => ?_, fun t => ?_, by have := h.le; simp; omega⟩
  · rw [List.mem_append, h.st, List.mem_singleton]
    constructor
    · rintro (⟨i, h1, h2⟩ | rfl)
      · exact ⟨i, by omega, h2⟩
      · exact ⟨k, by omega, rfl, hs, he⟩
    · rintro ⟨i, h1, h2, h3, h4⟩
      rcases Nat.lt_or_ge i k with h5 | h5
      · exact .inl ⟨i, h5, h2, h3, h4⟩
      · obtain rfl : i = k := by omega
        exact .inr h2
  · rw [h.out]
    refine or_congr_right (and_congr_right fun _ => ?_)
    constructor
    · rintro ⟨i, u, h1, h2⟩; exact ⟨i, u, by omega, h2⟩
    · rintro ⟨i, u, h1, h2, h3, h4⟩
      rcases Nat.lt_or_ge i k with h5 | h5
      · exact ⟨i, u, h5, h2, h3, h4⟩
      · obtain rfl : i = k := by omega
        obtain ⟨t', b, h6, h7, _⟩ := he
        rw [h3] at h6; cases h6; omega
theorem PassP.done {m : List In} {w : List UInt8} {p k : Nat} {sn out o2 : List Bool} {q2 : List Nat} {u : In} (h : PassP m w p sn out k o2 q2) (hs : sn[k]? = some true) (hu : m[k]? = some u) (ho : u.op = 6) (hp : p < o2.length) : PassP m w p sn out (k + 1) (o2.set p true) q2 := by
  refine ⟨by rw [List.length_set]; exact h.len, fun j => ?_, fun t => ?_, by have := h.le; omega⟩
  · rw [h.st]
    constructor
    · rintro ⟨i, h1, h2⟩; exact ⟨i, by omega, h2⟩
    · rintro ⟨i, h1, h2, h3, h4⟩
      rcases Nat.lt_or_ge i k with h5 | h5
      · exact ⟨i, h5, h2, h3, h4⟩
      · obtain rfl : i = k := by omega
        obtain ⟨t', b, h6, h7, _⟩ := h4
        rw [hu] at h6; cases h6; omega
  · rw [List.getElem?_set]
    by_cases hpt : p = t
    · subst hpt
      rw [if_pos rfl, if_pos hp]
      exact ⟨fun _ => .inr ⟨rfl, k, u, by omega, hs, hu, ho⟩, fun _ => rfl⟩
    · rw [if_neg hpt, h.out]
      exact or_congr_right ⟨fun h1 => absurd h1.1.symm hpt, fun h1 => absurd h1.1.symm hpt⟩
/-- the answer of Ends: memory of its own -/
def EndsC (m : List In) (w : List UInt8) (f : Int) (v : Value) (S : Hp) : Prop := ∃ (a : Option Addr) (c : Nat) (out : List Bool), v = .slice a (w.length + 1) c ∧ OwnS Ebo 1 4 v out S ∧ EndsP m w f out
theorem EndsC.of {m : List In} {w : List UInt8} {f : Int} {a : Option Addr} {c : Nat} {out : List Bool} {S : Hp} (h : OwnS Ebo 1 4 (.slice a (w.length + 1) c) out S) (hE : EndsP m w f out) : EndsC m w f (.slice a (w.length + 1) c) S := ⟨a, c, out, rfl, h, hE⟩
theorem eat_iff {m : List In} {w : List UInt8} {k p : Nat} {u : In} {y : UInt8} (hu : m[k]? = some u) (h1 : u.op = 1) (hy : w[p]? = some y) : Eat m w k p ↔ u.set.getLsbD y.toNat = true :=
  ⟨fun ⟨t, b, e1, _, e3, e4⟩ => by rw [hu] at e1; rw [hy] at e3; cases e1; cases e3; exact e4, fun h => ⟨u, y, hu, h1, hy, h⟩⟩
theorem eat_no1 {m : List In} {w : List UInt8} {k p : Nat} {u : In} (hu : m[k]? = some u) (h1 : ¬ u.op = 1) : ¬ Eat m w k p := fun ⟨t, b, e1, e2, _⟩ => by rw [hu] at e1; cases e1; exact h1 e2
theorem eat_noP {m : List In} {w : List UInt8} {k p : Nat} (h : ¬ p < w.length) : ¬ Eat m w k p := fun ⟨t, b, _, _, e, _⟩ => h (List.getElem?_eq_some_iff.1 e).1
theorem skip6 {m : List In} {k : Nat} {u : In} (hu : m[k]? = some u) (h : ¬ u.op = 6) : ∀ v, m[k]? = some v → v.op ≠ 6 := fun v e => by rw [hu] at e; cases e; exact h
end Go.HL.Kl.Mc
