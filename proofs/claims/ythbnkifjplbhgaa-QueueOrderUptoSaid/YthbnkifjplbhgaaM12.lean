/- Part of the proofs over this seat: see the text that holds the theorem. Conditions: each theorem bears its own. -/
import Derived.Test.YthbnkifjplbhgaaM11
namespace Go.Proofs.Ythbnkifjplbhgaa
open Go Go.HL Go.Proofs

/-- bounds of an output: n bytes came, k calls -/
def BdG (s : OS) (n k : Nat) : Prop := 0 ≤ s.cnt ∧ s.cnt + s.kept.length ≤ n ∧ s.said.length ≤ k
theorem BdG.new {n k : Nat} : BdG ⟨[], 0, 0, []⟩ n k := ⟨by decide, by simp, Nat.zero_le _⟩
theorem BdG.mono {s : OS} {n k n' k' : Nat} (h : BdG s n k) (hn : n ≤ n') (hk : k ≤ k') : BdG s n' k' := ⟨h.1, by have := h.2.1; omega, by have := h.2.2; omega⟩
theorem BdG.hand {fail serr : Int} {s : OS} {n k : Nat} (h : BdG s n k) : BdG (handS fail serr s) n (k + 1) := by
  obtain ⟨h2, h3, h4⟩ := h
  unfold handS
  split
  · exact ⟨h2, h3, by omega⟩
  · have e : (if tookE fail serr s = 0 then s.cnt + (s.kept.length : Int) else s.cnt) = s.cnt + s.kept.length ∨ (if tookE fail serr s = 0 then s.cnt + (s.kept.length : Int) else s.cnt) = s.cnt := by split <;> simp
    refine ⟨?_, ?_, by simp; omega⟩
    · show 0 ≤ (if tookE fail serr s = 0 then s.cnt + (s.kept.length : Int) else s.cnt)
      omega
    · show (if tookE fail serr s = 0 then s.cnt + (s.kept.length : Int) else s.cnt) + ((0 : Nat) : Int) ≤ n
      omega
theorem BdG.flush {fail serr : Int} {s : OS} {n k : Nat} (h : BdG s n k) : BdG (flushS fail serr s) n (k + 1) := by
  unfold flushS
  split
  · exact h.mono (Nat.le_refl _) (by omega)
  · exact h.hand
theorem BdG.write {fail serr : Int} {s : OS} {n k : Nat} {lim : Int} {b : List UInt8} (h : BdG s n k) : BdG (writeS lim fail serr s b) (n + b.length) (k + 1) := by
  have h2 : BdG (keepS s b) (n + b.length) k := ⟨h.1, by have := h.2.1; simp [keepS]; omega, h.2.2⟩
  unfold writeS
  split
  · exact h.mono (by omega) (by omega)
  · split
    · exact h2.mono (Nat.le_refl _) (by omega)
    · exact h2.hand
/-- what a Write or a Flush comes to -/
inductive StepC (fail serr : Int) (u u' : OS) (e : Int) : Prop
  | same (h1 : u.said = u'.said) (h2 : u.err = u'.err) (h3 : u.cnt = u'.cnt) (h4 : u.err = e)
  | fails (k : List UInt8) (h0 : u.err = 0) (h1 : u.said ++ [k] = u'.said) (hf : (u.said.length : Int) + 1 = fail) (hs : serr ≠ 0) (h2 : serr = u'.err) (h3 : u.cnt = u'.cnt) (h4 : serr = e)
  | odd (k : List UInt8) (h0 : u.err = 0) (h1 : u.said ++ [k] = u'.said) (hf : (u.said.length : Int) + 1 = fail) (hs : serr = 0) (h2 : u.err = u'.err) (h3 : u.cnt + k.length = u'.cnt) (h4 : u.err = e)
  | goes (k : List UInt8) (h0 : u.err = 0) (h1 : u.said ++ [k] = u'.said) (hf : (u.said.length : Int) + 1 ≠ fail) (h2 : u.err = u'.err) (h3 : u.cnt + k.length = u'.cnt) (h4 : u.err = e)
theorem hand_step {fail serr : Int} {u : OS} {b : List UInt8} (h0 : u.err = 0) : StepC fail serr u (handS fail serr (keepS u b)) (handE fail serr (keepS u b)) := by
  unfold handS handE
  split
  · exact .same rfl rfl rfl h0
  · by_cases hf : (u.said.length : Int) + 1 = fail
    · have ht : tookE fail serr (keepS u b) = serr := by simp [tookE, keepS, hf]
      rw [ht]
      by_cases hs : serr = 0
      · exact .odd _ h0 rfl hf hs (by rw [h0, hs]) (by simp [hs, keepS]) (by rw [h0, hs])
      · exact .fails _ h0 rfl hf hs rfl (by simp [hs, keepS]) rfl
    · have ht : tookE fail serr (keepS u b) = 0 := by simp [tookE, keepS, hf]
      rw [ht]
      exact .goes _ h0 rfl hf h0 (by simp [keepS]) h0
theorem keepS_nil {u : OS} : keepS u [] = u := by cases u; simp [keepS]
theorem write_step (lim fail serr : Int) (u : OS) (b : List UInt8) : StepC fail serr u (writeS lim fail serr u b) (writeE lim fail serr u b) := by
  unfold writeS writeE
  by_cases h : u.err ≠ 0
  · rw [if_pos h, if_pos h]; exact .same rfl rfl rfl rfl
  · rw [if_neg h, if_neg h]
    have h0 : u.err = 0 := Decidable.not_not.1 h
    split
    · exact .same rfl rfl rfl h0
    · exact hand_step h0
theorem flush_step (lim fail serr : Int) (u : OS) : StepC fail serr u (flushS fail serr u) (flushE fail serr u) := by
  unfold flushS flushE
  by_cases h : u.err ≠ 0
  · rw [if_pos h, if_pos h]; exact .same rfl rfl rfl rfl
  · rw [if_neg h, if_neg h]
    have h0 : u.err = 0 := Decidable.not_not.1 h
    have := hand_step (fail := fail) (serr := serr) (u := u) (b := []) h0
    rwa [keepS_nil] at this
theorem row_snoc {slB : List (Sl UInt8)} {l : List (List UInt8)} {k : List UInt8} {n : Nat} (h : slB.map Sl.xs = l ++ [k]) (hn : n = l.length) : (row0 slB n).xs = k := by
  have hl : n < slB.length := by have := congrArg List.length h; simp at this; omega
  subst hn
  have h' : (slB.map Sl.xs)[l.length]? = some k := by rw [h]; simp
  rw [List.getElem?_map, row0_get hl] at h'
  simpa using h'
end Go.Proofs.Ythbnkifjplbhgaa
