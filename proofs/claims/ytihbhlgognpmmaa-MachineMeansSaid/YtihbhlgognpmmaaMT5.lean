/- Mathematics of sets of places. Conditions: none. -/
import Derived.Test.YtihbhlgognpmmaaMT4
namespace Go.HL.Kl.Mc
open Go Go.HL Go.HL.Kl
/-- a list of booleans that tells a set of places -/
structure IsS (l : List Bool) (N : Nat) (S : Nat → Prop) : Prop where
  len : l.length = N + 1
  get : ∀ p, p ≤ N → (l[p]? = some true ↔ S p)
theorem IsS.iff {l : List Bool} {N : Nat} {S S' : Nat → Prop} (h : IsS l N S) (hs : ∀ p, p ≤ N → (S p ↔ S' p)) : IsS l N S' := ⟨h.len, fun p hp => (h.get p hp).trans (hs p hp)⟩
theorem IsS.eq {l l' : List Bool} {N : Nat} {S : Nat → Prop} (h : IsS l N S) (h' : IsS l' N S) : l = l' := by
  apply List.ext_getElem?
  intro i
  by_cases hi : i ≤ N
  · have e1 := (h.get i hi).trans (h'.get i hi).symm
    have l1 : i < l.length := by rw [h.len]; omega
    have l2 : i < l'.length := by rw [h'.len]; omega
    rw [List.getElem?_eq_getElem l1, List.getElem?_eq_getElem l2] at e1 ⊢
    cases h1 : l[i] <;> cases h2 : l'[i] <;> simp [h1, h2] at e1 ⊢
  · rw [List.getElem?_eq_none (by rw [h.len]; omega), List.getElem?_eq_none (by rw [h'.len]; omega)]
def img (D : Nat → Nat → Prop) (S : Nat → Prop) (q : Nat) : Prop := ∃ p, S p ∧ D p q
/-- derivations keep to the text -/
def Inn (N : Nat) (D : Nat → Nat → Prop) : Prop := ∀ p q, p ≤ N → D p q → q ≤ N
/-- those of one node with all in it -/
def der1 (w : List UInt8) (x : Nd) (ks : F) (p q : Nat) : Prop := der w (.nd x ks .nil) false p q
theorem der1_def {w : List UInt8} {x : Nd} {ks : F} {p q : Nat} : der1 w x ks p q ↔
    (if x.op = 1 then q = p + 1 ∧ ∃ b, w[p]? = some b ∧ x.set.getLsbD b.toNat = true
      else if x.op = 2 then p = 0 ∧ q = 0
      else if x.op = 3 then p = w.length ∧ q = p
      else if x.op = 5 then der w ks true p q
      else if x.op = 6 then rounds x (der w ks false) p q
      else der w ks false p q) := by
  unfold der1
  rw [der]
  simp [der]
theorem der_cat {w : List UInt8} {x : Nd} {ks r : F} {p q : Nat} : der w (.nd x ks r) false p q ↔ ∃ t, der1 w x ks p t ∧ der w r false t q := by
  conv => lhs; rw [der]
  simp only [Bool.false_eq_true, if_false, der1_def]
theorem der_alt {w : List UInt8} {x : Nd} {ks r : F} {p q : Nat} : der w (.nd x ks r) true p q ↔ der1 w x ks p q ∨ der w r true p q := by
  conv => lhs; rw [der]
  simp only [if_true, der1_def]
theorem der_nil {w : List UInt8} {p q : Nat} : der w .nil false p q ↔ p = q := by simp [der]
theorem der_nil' {w : List UInt8} {p q : Nat} : der w .nil true p q ↔ False := by simp [der]
theorem pow_inn {N : Nat} {D : Nat → Nat → Prop} (h : Inn N D) : ∀ k, Inn N (pow D k)
  | 0, p, q, hp, e => by obtain rfl : p = q := e
                         exact hp
  | k + 1, p, q, hp, ⟨t, h1, h2⟩ => pow_inn h k t q (h p t hp h1) h2
theorem rounds_inn {N : Nat} {x : Nd} {D : Nat → Nat → Prop} (h : Inn N D) : Inn N (rounds x D) := fun p q hp ⟨k, _, _, hk⟩ => pow_inn h k p q hp hk
theorem der_inn {w : List UInt8} : ∀ (f : F) (md : Bool), Inn w.length (der w f md)
  | .nil, md, p, q, hp, h => by
    obtain ⟨_, rfl⟩ : md = false ∧ p = q := by simpa [der] using h
    exact hp
  | .nd x ks r, md, p, q, hp, h => by
    have h1 : ∀ p q, p ≤ w.length → der1 w x ks p q → q ≤ w.length := by
      intro p q hp h
      rw [der1_def] at h
      split at h
      · obtain ⟨rfl, b, hb, _⟩ := h
        exact (List.getElem?_eq_some_iff.1 hb).1
      split at h
      · omega
      split at h
      · omega
      split at h
      · exact der_inn ks true p q hp h
      split at h
      · exact rounds_inn (der_inn ks false) p q hp h
      · exact der_inn ks false p q hp h
    cases md with
    | false =>
      obtain ⟨t, h2, h3⟩ := der_cat.1 h
      exact der_inn r false t q (h1 p t hp h2) h3
    | true =>
      rcases der_alt.1 h with h2 | h2
      · exact h1 p q hp h2
      · exact der_inn r true p q hp h2
theorem der1_inn {w : List UInt8} {x : Nd} {ks : F} : Inn w.length (der1 w x ks) := der_inn _ _
theorem pow_succ' {D : Nat → Nat → Prop} {k p q : Nat} : pow D (k + 1) p q ↔ ∃ t, pow D k p t ∧ D t q := by
  rw [pow_add]
  simp [pow]
/-- so many rounds or more, up to k -/
def upTo (D : Nat → Nat → Prop) (S : Nat → Prop) (mn k q : Nat) : Prop := ∃ j, mn ≤ j ∧ j ≤ k ∧ img (pow D j) S q
theorem img_succ {D : Nat → Nat → Prop} {S : Nat → Prop} {k q : Nat} : img D (img (pow D k) S) q ↔ img (pow D (k + 1)) S q := by
  constructor
  · rintro ⟨t, ⟨p, hp, h1⟩, h2⟩; exact ⟨p, hp, pow_succ'.2 ⟨t, h1, h2⟩⟩
  · rintro ⟨p, hp, h⟩; obtain ⟨t, h1, h2⟩ := pow_succ'.1 h; exact ⟨t, ⟨p, hp, h1⟩, h2⟩
theorem upTo_succ {D : Nat → Nat → Prop} {S : Nat → Prop} {mn k q : Nat} (hk : mn ≤ k) : upTo D S mn (k + 1) q ↔ upTo D S mn k q ∨ img (pow D (k + 1)) S q := by
  constructor
  · rintro ⟨j, h1, h2, h3⟩
    by_cases e : j = k + 1
    · subst e; exact .inr h3
    · exact .inl ⟨j, h1, by omega, h3⟩
  · rintro (⟨j, h1, h2, h3⟩ | h)
    · exact ⟨j, h1, by omega, h3⟩
    · exact ⟨k + 1, by omega, by omega, h⟩
theorem upTo_start {D : Nat → Nat → Prop} {S : Nat → Prop} {mn q : Nat} : upTo D S mn mn q ↔ img (pow D mn) S q := by
  constructor
  · rintro ⟨j, h1, h2, h3⟩
    obtain rfl : j = mn := by omega
    exact h3
  · exact fun h => ⟨mn, Nat.le_refl _, Nat.le_refl _, h⟩
/-- nothing new: never anything new -/
theorem upTo_fix {D : Nat → Nat → Prop} {S : Nat → Prop} {mn k : Nat} {N : Nat} (hS : ∀ p, S p → p ≤ N) (hD : Inn N D) (hk : mn ≤ k) (h : ∀ q, q ≤ N → img (pow D (k + 1)) S q → upTo D S mn k q) : ∀ q, (∃ j, mn ≤ j ∧ img (pow D j) S q) → upTo D S mn k q := by
  have key : ∀ i q, img (pow D (k + i)) S q → upTo D S mn k q := by
    intro i
    induction i with
    | zero => intro q hq; exact ⟨k, hk, Nat.le_refl _, hq⟩
    | succ i ih =>
      intro q hq
      rw [← Nat.add_assoc] at hq
      obtain ⟨t, ht, h2⟩ := img_succ.2 hq
      obtain ⟨j, h3, h4, h5⟩ := ih t ht
      have h6 : img (pow D (j + 1)) S q := img_succ.1 ⟨t, h5, h2⟩
      by_cases e : j = k
      · subst e
        obtain ⟨p, hp, h7⟩ := h6
        exact h q (pow_inn hD _ p q (hS p hp) h7) ⟨p, hp, h7⟩
      · exact ⟨j + 1, by omega, by omega, h6⟩
  rintro q ⟨j, hj, hq⟩
  by_cases e : j ≤ k
  · exact ⟨j, hj, e, hq⟩
  · exact key (j - k) q (by rwa [show k + (j - k) = j by omega])
theorem img_rounds {x : Nd} {D : Nat → Nat → Prop} {S : Nat → Prop} {q : Nat} (h0 : 0 ≤ x.mn) : img (rounds x D) S q ↔ ∃ j, x.mn.toNat ≤ j ∧ (x.mx = -1 ∨ (j : Int) ≤ x.mx) ∧ img (pow D j) S q := by
  constructor
  · rintro ⟨p, hp, k, h1, h2, h3⟩; exact ⟨k, by omega, h2, p, hp, h3⟩
  · rintro ⟨j, h1, h2, p, hp, h3⟩; exact ⟨p, hp, j, by omega, h2, h3⟩
end Go.HL.Kl.Mc
