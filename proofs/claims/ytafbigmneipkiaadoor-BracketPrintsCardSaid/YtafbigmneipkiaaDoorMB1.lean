/- Part of the proofs over this seat: see the text that holds the theorem. Conditions: each theorem bears its own. -/
import Derived.Test.YtafbigmneipkiaaDoorM4
import Derived.Test.YtafbigmneipkiaaDoorMC16
import Derived.Test.YtafbigmneipkiaaDoorMC8
namespace Go.HL.Kl.Bk
open Go Go.HL Go.Tab

/-- the sign of a byte stands at a place -/
def sg (l : List Mk) (i : Nat) (b : UInt8) : Bool := decide (l[i]? = some ⟨b, false⟩)
theorem sg_lt {l : List Mk} {i : Nat} {b : UInt8} (h : sg l i b = true) : i < l.length := by
  have h := of_decide_eq_true h
  rcases Nat.lt_or_ge i l.length with h1 | h1
  · exact h1
  · rw [List.getElem?_eq_none h1] at h; cases h
theorem sg_ge {l : List Mk} {i : Nat} {b : UInt8} (h : l.length ≤ i) : sg l i b = false := by
  rw [sg, List.getElem?_eq_none h]; rfl
theorem sg_at {l : List Mk} {i : Nat} {b : UInt8} (h : i < l.length) : sg l i b = decide (mk0 l i = ⟨b, false⟩) := by
  rw [sg, mk0_get h]; simp only [Option.some.injEq]
theorem sg_two {l : List Mk} {i : Nat} {b c : UInt8} (h : sg l i b = true) (hbc : b ≠ c) : sg l i c = false := by
  have h := of_decide_eq_true h
  rw [sg, h]
  exact decide_eq_false fun e => hbc (by cases e; rfl)
/-- what an item is made of -/
structure Th where
  set : Cl
  b : UInt8
  e : Bool
  next : Nat
inductive R where
  | ok (t : Th)
  | bad (err : Int) (p : Nat)
def nameEnd (l : List Mk) : Nat → Nat → Option Nat
  | 0, _ => none
  | n + 1, k => if sg l k 58 && sg l (k + 1) 93 then some k else nameEnd l n (k + 1)
def bytesM (l : List Mk) (i k : Nat) : List UInt8 := ((l.drop i).take (k - i)).map Mk.b
theorem bytesM_nil {l : List Mk} {i : Nat} : bytesM l i i = [] := by simp [bytesM]
theorem bytesM_succ {l : List Mk} {i k : Nat} (hik : i ≤ k) (hk : k < l.length) : bytesM l i (k + 1) = bytesM l i k ++ [(mk0 l k).b] := by
  have e : k + 1 - i = (k - i) + 1 := by omega
  rw [bytesM, e, List.take_add_one, List.map_append, bytesM, List.getElem?_drop, show i + (k - i) = k by omega, mk0_get hk]
  rfl
theorem bytesM_len {l : List Mk} {i k : Nat} : (bytesM l i k).length ≤ l.length := by
  simp only [bytesM, List.length_map, List.length_take, List.length_drop]; omega
def nameP (l : List Mk) (at0 i : Nat) : R :=
  match nameEnd l (l.length - (i + 2)) (i + 2) with
  | none => .bad 32 at0
  | some k => match named ⟨(bytesM l (i + 2) k).toArray⟩ with
    | none => .bad 31 i
    | some c => .ok ⟨c, 0, false, k + 2⟩
def encP (l : List Mk) (at0 i : Nat) (by' : UInt8) : R :=
  if l.length ≤ i + 3 then .bad 32 at0
  else if sg l (i + 3) by' = false then .bad 31 i
  else if l.length ≤ i + 4 then .bad 32 at0
  else if sg l (i + 4) 93 = false then .bad 31 i
  else .ok ⟨ofL [(mk0 l (i + 2)).b], (mk0 l (i + 2)).b, by' == 46, i + 5⟩
def oneP (l : List Mk) (i : Nat) : Th := ⟨ofL [(mk0 l i).b], (mk0 l i).b, true, i + 1⟩
def thP (l : List Mk) (at0 i : Nat) : R :=
  if l.length ≤ i then .bad 32 at0
  else if sg l i 91 = true ∧ i + 1 < l.length ∧ (mk0 l (i + 1)).p = false then
    if (mk0 l (i + 1)).b = 58 then nameP l at0 i
    else if (mk0 l (i + 1)).b = 61 ∨ (mk0 l (i + 1)).b = 46 then encP l at0 i (mk0 l (i + 1)).b
    else .ok (oneP l i)
  else .ok (oneP l i)
def itemP (l : List Mk) (at0 i : Nat) (first : Bool) : R :=
  match thP l at0 i with
  | .bad e p => .bad e p
  | .ok a =>
    if sg l i 45 = true ∧ first = false ∧ sg l (i + 1) 93 = false then (if l.length ≤ i + 1 then .bad 32 at0 else .bad 30 i)
    else if sg l a.next 45 = false ∨ l.length ≤ a.next + 1 ∨ sg l (a.next + 1) 93 = true then .ok a
    else if a.e = false then .bad 30 i
    else match thP l at0 (a.next + 1) with
      | .bad e p => .bad e p
      | .ok b => if b.e = false ∨ b.b.toNat < a.b.toNat then .bad 30 i else .ok ⟨rng a.b.toNat b.b.toNat, 0, false, b.next⟩
inductive PR where
  | ok (c : Cl) (i : Nat)
  | bad (err : Int) (p : Nat)
def loopP (l : List Mk) (at0 : Nat) : Nat → Nat → Bool → Cl → PR
  | 0, _, _, _ => .bad 32 at0
  | n + 1, i, first, c => match itemP l at0 i first with
    | .bad e p => .bad e p
    | .ok x => if sg l x.next 93 = true then .ok (c ||| x.set) x.next else loopP l at0 n x.next false (c ||| x.set)
def parseP (l : List Mk) (at' : Int) : Cl × Int × Int :=
  if at' < 0 ∨ sg l at'.toNat 91 = false then (0, 0, 1)
  else match loopP l at'.toNat (l.length + 1) (at'.toNat + 1 + if sg l (at'.toNat + 1) 94 then 1 else 0) true 0 with
    | .ok c i => ((if sg l (at'.toNat + 1) 94 = true then ~~~c else c), (i : Int) + 1, 0)
    | .bad e p => (0, p, e)

/-! an item ends behind its beginning, in the row -/
theorem nameEnd_lt {l : List Mk} : ∀ {n k k' : Nat}, nameEnd l n k = some k' → k ≤ k' ∧ k' + 1 < l.length
  | 0, k, k', h => by cases h
  | n + 1, k, k', h => by
    simp only [nameEnd] at h
    split at h
    · rename_i hs
      simp only [Bool.and_eq_true] at hs
      cases h
      exact ⟨Nat.le_refl _, sg_lt hs.2⟩
    · have := nameEnd_lt h
      omega
theorem nameP_next {l : List Mk} {at0 i : Nat} {t : Th} (h : nameP l at0 i = .ok t) : i < t.next ∧ t.next ≤ l.length := by
  unfold nameP at h
  split at h
  · cases h
  · rename_i k hk
    have := nameEnd_lt hk
    split at h
    · cases h
    · cases h; dsimp only; omega
theorem encP_next {l : List Mk} {at0 i : Nat} {y : UInt8} {t : Th} (h : encP l at0 i y = .ok t) : i < t.next ∧ t.next ≤ l.length := by
  unfold encP at h
  split at h
  · cases h
  · split at h
    · cases h
    · split at h
      · cases h
      · split at h
        · cases h
        · cases h; dsimp only; omega
theorem thP_next {l : List Mk} {at0 i : Nat} {t : Th} (h : thP l at0 i = .ok t) : i < t.next ∧ t.next ≤ l.length := by
  unfold thP at h
  split at h
  · cases h
  · split at h
    · split at h
      · exact nameP_next h
      · split at h
        · exact encP_next h
        · cases h; simp only [oneP]; omega
    · cases h; simp only [oneP]; omega
theorem itemP_next {l : List Mk} {at0 i : Nat} {f : Bool} {t : Th} (h : itemP l at0 i f = .ok t) : i < t.next ∧ t.next ≤ l.length := by
  unfold itemP at h
  split at h
  · cases h
  · rename_i a ha
    have h1 := thP_next ha
    split at h
    · split at h <;> cases h
    · split at h
      · cases h; exact h1
      · split at h
        · cases h
        · split at h
          · cases h
          · rename_i b hb
            have h2 := thP_next hb
            split at h
            · cases h
            · cases h; dsimp only; omega
/-! where the bracket began tells only the place of an open one -/
theorem nameP_at {l : List Mk} {at0 i : Nat} : (∃ t, nameP l at0 i = .ok t ∧ ∀ a, nameP l a i = .ok t) ∨ (∀ a, nameP l a i = .bad 32 a) ∨ (∀ a, nameP l a i = .bad 31 i) := by
  unfold nameP
  split
  · exact .inr (.inl fun _ => rfl)
  · split
    · exact .inr (.inr fun _ => rfl)
    · exact .inl ⟨_, rfl, fun _ => rfl⟩
theorem thP_at (l : List Mk) (i : Nat) : (∃ t, ∀ a, thP l a i = .ok t) ∨ (∀ a, thP l a i = .bad 32 a) ∨ (∀ a, thP l a i = .bad 31 i) := by
  unfold thP
  split
  · exact .inr (.inl fun _ => rfl)
  · split
    · split
      · rcases nameP_at (l := l) (at0 := 0) (i := i) with ⟨t, _, h⟩ | h | h
        · exact .inl ⟨t, h⟩
        · exact .inr (.inl h)
        · exact .inr (.inr h)
      · split
        · unfold encP
          split
          · exact .inr (.inl fun _ => rfl)
          · split
            · exact .inr (.inr fun _ => rfl)
            · split
              · exact .inr (.inl fun _ => rfl)
              · split
                · exact .inr (.inr fun _ => rfl)
                · exact .inl ⟨_, fun _ => rfl⟩
        · exact .inl ⟨_, fun _ => rfl⟩
    · exact .inl ⟨_, fun _ => rfl⟩
end Go.HL.Kl.Bk
