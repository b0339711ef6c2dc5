/- Where nodes end; the code of a regex, made step by step. Conditions: none. -/
import Derived.Test.YtihbhlgognpmmaaMT9
namespace Go.HL.Kl.Mc
open Go Go.HL Go.HL.Kl
def Eix (n : Nat) : List Value := [.int .i64 n]
instance : Enc Eix 1 := ⟨fun _ => rfl, fun _ _ h => by simp [Eix] at h; subst h; rfl⟩
/-- of each node the place behind it and all in it, from a place on -/
def EndsOk (re : List Nd) (a : Nat) (l : List Nat) : Prop := l.length = re.length ∧ ∀ (i : Nat) (x : Nd) (ks r : F) (i' : Nat), a ≤ i → Part re (.nd x ks r) i i' → l[i]? = some (i + 1 + ks.size)
theorem Part.at {re : List Nd} : ∀ (f : F) (i i' : Nat), Part re f i i' → ∀ j, i ≤ j → j < i' → ∃ x ks r j', Part re (.nd x ks r) j j'
  | .nil, i, i', h, j, h1, h2 => by have := h.len; simp [F.size] at this; omega
  | .nd x ks r, i, i', h, j, h1, h2 => by
    obtain ⟨_, hk, hr⟩ := h.head
    by_cases e : j = i
    · subst e; exact ⟨x, ks, r, i', h⟩
    by_cases e2 : j < i + 1 + ks.size
    · exact Part.at ks _ _ hk j (by omega) e2
    · exact Part.at r _ _ hr j (by omega) h2
theorem Part.uniq {re : List Nd} {x y : Nd} {ks js r s : F} {i i' i2 : Nat} (h : Part re (.nd x ks r) i i') (h' : Part re (.nd y js s) i i2) : ks = js := by
  have h1 := h.one; have h2 := h'.one
  have := flat_inj (.nd x ks .nil) (.nd y js .nil) _ _ h1.wf h2.wf rfl (h1.flat.symm.trans h2.flat)
  have := this.1
  simp at this
  exact this.2
theorem EndsOk.start {re : List Nd} {l : List Nat} (h : l.length = re.length) : EndsOk re re.length l := ⟨h, fun i x ks r i' hi hp => by
  have := (List.getElem?_eq_some_iff.1 hp.head.1).1; omega⟩
theorem EndsOk.step {re : List Nd} {a : Nat} {l : List Nat} {x : Nd} {ks r : F} {i' : Nat} (h : EndsOk re (a + 1) l) (hp : Part re (.nd x ks r) a i') : EndsOk re a (l.set a (a + 1 + ks.size)) := by
  have hlt : a < re.length := (List.getElem?_eq_some_iff.1 hp.head.1).1
  refine ⟨by rw [List.length_set]; exact h.1, fun i y js s i2 hi hq => ?_⟩
  by_cases e : a = i
  · subst e
    rw [List.getElem?_set_self (by rw [h.1]; exact hlt), hp.uniq hq]
  · rw [List.getElem?_set_ne e]; exact h.2 i y js s i2 (by omega) hq
theorem F.size_pos {x : Nd} {ks r : F} : 0 < (F.nd x ks r).size := by simp only [F.size]; omega
theorem F.size_nil {f : F} (h : f.size = 0) : f = .nil := by
  cases f with
  | nil => rfl
  | nd x ks r => simp [F.size] at h
end Go.HL.Kl.Mc
