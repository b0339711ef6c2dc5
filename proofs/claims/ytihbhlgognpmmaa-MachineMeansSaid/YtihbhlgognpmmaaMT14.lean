/- Which machines are well shaped, as an answer. Conditions: none. -/
import Derived.Test.YtihbhlgognpmmaaMT13
namespace Go.HL.Kl.Mc
open Go Go.HL Go.HL.Kl
noncomputable def mokB (m : List In) : Bool := @decide (MOk m) (Classical.propDecidable _)
theorem mokB_iff {m : List In} : mokB m = true ↔ MOk m := by
  unfold mokB
  exact ⟨fun h => @of_decide_eq_true _ (Classical.propDecidable _) h, fun h => @decide_eq_true _ (Classical.propDecidable _) h⟩
theorem mokB_no {m : List In} (h : ¬ MOk m) : mokB m = false := Bool.eq_false_iff.2 fun h' => h (mokB_iff.1 h')
theorem cels_set {κ : Cx} {H : Hp} {v : Value} {m : List In} {q : Nat} {t : In} (h : RdK Ein κ H v m) (ht : m[q]? = some t) {o : Nat} (ho : o = soff v + (q * 7 + 1)) : Cels κ H ⟨sblk v, o, none⟩ (Ec t.set) := by
  refine ⟨fun w st j u hu => ?_⟩
  subst ho
  have hj : j < 4 := by have := (List.getElem?_eq_some_iff.1 hu).1; rw [Ec_lenM] at this; exact this
  have h1 : (flat Ein m)[q * 7 + (1 + j)]? = some u := by
    rw [flat_get Ein m ht (by omega), show 1 + j = j + 1 by omega]
    simp only [Ein, List.getElem?_cons_succ]
    rw [List.getElem?_append_left (List.getElem?_eq_some_iff.1 hu).1]; exact hu
  have := (h.out w st).get _ _ h1
  rw [Addr.add_lit, show soff v + (q * 7 + 1) + j = soff v + (q * 7 + (1 + j)) by omega]
  exact this
/-- the first so many instructions are right -/
def MUp (m : List In) (q : Nat) : Prop := ∀ i t, i < q → m[i]? = some t → InOk (m.length - 1) t ∧ (t.op ≤ 3 → i + 1 < m.length)
theorem MUp.zero {m : List In} : MUp m 0 := fun i t h => by omega
theorem MUp.step {m : List In} {q : Nat} {t : In} (h : MUp m q) (ht : m[q]? = some t) (h1 : InOk (m.length - 1) t) (h2 : t.op ≤ 3 → q + 1 < m.length) : MUp m (q + 1) := by
  intro i u hi hu
  by_cases e : i = q
  · subst e; rw [ht] at hu; cases hu; exact ⟨h1, h2⟩
  · exact h i u (by omega) hu
theorem MUp.all {m : List In} (h : MUp m m.length) (h1 : 1 ≤ m.length) (h2 : m.length ≤ 65540) : mokB m = true := mokB_iff.2 ⟨h1, h2, fun i t ht => h i t (List.getElem?_eq_some_iff.1 ht).1 ht⟩
theorem mok_len {m : List In} (h : ¬ (1 ≤ m.length ∧ m.length ≤ 65540)) : mokB m = false := mokB_no fun h' => h ⟨h'.1, h'.2.1⟩
theorem mok_in {m : List In} {q : Nat} {t : In} (ht : m[q]? = some t) (h : ¬ InOk (m.length - 1) t) : mokB m = false := mokB_no fun h' => h (h'.2.2 q t ht).1
theorem mok_last {m : List In} {q : Nat} {t : In} (ht : m[q]? = some t) (h3 : t.op ≤ 3) (h : ¬ q + 1 < m.length) : mokB m = false := mokB_no fun h' => h ((h'.2.2 q t ht).2 h3)
theorem inOk_iff {E : Nat} {t : In} {lx ly : Int} (hx : lx = if t.op = 4 ∨ t.op = 5 then (E : Int) else 0) (hy : ly = if t.op = 5 then (E : Int) else 0) : InOk E t ↔ (1 ≤ t.op ∧ t.op ≤ 6) ∧ (t.op = 1 ∨ t.set = 0) ∧ (0 ≤ t.x ∧ t.x ≤ lx) ∧ (0 ≤ t.y ∧ t.y ≤ ly) := by subst hx; subst hy; exact Iff.rfl
/-- what an instruction of its kind should be -/
def wantI (t : In) : In := ⟨t.op, if t.op = 1 then t.set else 0, if t.op = 4 ∨ t.op = 5 then t.x else 0, if t.op = 5 then t.y else 0⟩
theorem wantI_of {E : Nat} {t : In} (h : InOk E t) : t = wantI t := by
  obtain ⟨_, h2, h3, h4⟩ := h
  cases t with
  | mk o s x y =>
    simp only at h2 h3 h4
    simp only [wantI, In.mk.injEq, true_and]
    refine ⟨?_, ?_, ?_⟩
    · split
      · rfl
      · exact h2.resolve_left ‹_›
    · split
      · rfl
      · rw [if_neg ‹_›] at h3; omega
    · split
      · rfl
      · rw [if_neg ‹_›] at h4; omega
theorem InOk.bnd {E : Nat} {t : In} (h : InOk E t) : 0 ≤ t.x ∧ t.x ≤ E ∧ 0 ≤ t.y ∧ t.y ≤ E := by
  obtain ⟨_, _, h3, h4⟩ := h
  refine ⟨h3.1, ?_, h4.1, ?_⟩
  · have := h3.2; split at this <;> omega
  · have := h4.2; split at this <;> omega
theorem inOk_of {n : Nat} {t : In} (h1 : 1 ≤ t.op ∧ t.op ≤ 6) (h : t = wantI t) (hx : 0 ≤ t.x ∧ t.x < (n : Int)) (hy : 0 ≤ t.y ∧ t.y < (n : Int)) : InOk (n - 1) t := by
  cases t with
  | mk o s x y =>
    simp only [wantI, In.mk.injEq, true_and] at h
    obtain ⟨e1, e2, e3⟩ := h
    simp only at hx hy h1
    refine ok_mk h1.1 h1.2 ?_ hx.1 ?_ hy.1 ?_
    · by_cases h : o = 1
      · exact .inl h
      · rw [if_neg h] at e1; exact .inr e1
    · by_cases h : o = 4 ∨ o = 5
      · rw [if_pos h]; omega
      · rw [if_neg h] at e2 ⊢; omega
    · by_cases h : o = 5
      · rw [if_pos h]; omega
      · rw [if_neg h] at e3 ⊢; omega
theorem in_set {x : In} : ∀ (j : Nat) u, (Ec x.set)[j]? = some u → (Ein x)[1 + j]? = some u := by
  intro j u h
  rw [show 1 + j = j + 1 by omega]
  simp only [Ein, List.getElem?_cons_succ]
  rw [List.getElem?_append_left (List.getElem?_eq_some_iff.1 h).1]; exact h
end Go.HL.Kl.Mc
