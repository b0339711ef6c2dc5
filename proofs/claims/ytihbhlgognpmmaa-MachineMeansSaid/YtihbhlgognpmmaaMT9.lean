/- Which lists are well shaped, as an answer. Conditions: none. -/
import Derived.Test.YtihbhlgognpmmaaMT8
namespace Go.HL.Kl.Mc
open Go Go.HL Go.HL.Kl
theorem flat_inj : ∀ (f g : F) (r s : List Nd), f.wf → g.wf → f.num = g.num → f.flat ++ r = g.flat ++ s → f = g ∧ r = s
  | .nil, .nil, r, s, _, _, _, h => ⟨rfl, h⟩
  | .nil, .nd _ _ _, _, _, _, _, hn, _ => by simp [F.num] at hn
  | .nd _ _ _, .nil, _, _, _, _, hn, _ => by simp [F.num] at hn
  | .nd x ks f, .nd y js g, r, s, hf, hg, hn, h => by
    simp only [F.flat, List.cons_append, List.append_assoc, List.cons.injEq] at h
    obtain ⟨rfl, h⟩ := h
    have hk : ks.num = js.num := by have := hf.2.1; have := hg.2.1; omega
    obtain ⟨e1, h1⟩ := flat_inj ks js _ _ hf.2.2.1 hg.2.2.1 hk h
    obtain ⟨e2, h2⟩ := flat_inj f g _ _ hf.2.2.2 hg.2.2.2 (by simpa [F.num] using hn) h1
    exact ⟨by rw [e1, e2], h2⟩
def ShpP (re : List Nd) : Prop := (∃ en, shN re 260 0 [] 0 = some (re.length, en)) ∧ ∃ x ks, Shp re x ks
noncomputable def shapedB (re : List Nd) : Bool := @decide (ShpP re) (Classical.propDecidable _)
theorem shapedB_iff {re : List Nd} : shapedB re = true ↔ ShpP re := by
  unfold shapedB
  constructor
  · intro h; exact @of_decide_eq_true _ (Classical.propDecidable _) h
  · intro h; exact @decide_eq_true _ (Classical.propDecidable _) h
theorem shapedB_no {re : List Nd} (h : ¬ ShpP re) : shapedB re = false := Bool.eq_false_iff.2 fun h' => h (shapedB_iff.1 h')
theorem shp_none {re : List Nd} (h : shN re 260 0 [] 0 = none) : shapedB re = false := shapedB_no fun ⟨⟨en, h'⟩, _⟩ => by rw [h] at h'; cases h'
theorem shp_end {re : List Nd} {j : Nat} {en : List Bool} (h : shN re 260 0 [] 0 = some (j, en)) (hj : j ≠ re.length) : shapedB re = false := shapedB_no fun ⟨⟨en', h'⟩, _⟩ => by
  rw [h] at h'; cases h'; exact hj rfl
theorem shp_tree {re : List Nd} {en : List Bool} (h : shN re 260 0 [] 0 = some (re.length, en)) : ∃ x ks, Part re (.nd x ks .nil) 0 re.length ∧ ks.depth + 1 ≤ 260 ∧ shapedB re = decide (cut (F.nd x ks .nil).weight ≤ 16384) := by
  obtain ⟨x, ks, ht⟩ := shN_tree _ _ _ _ _ _ h
  have hp := ht.part
  have hflat : re = x :: ks.flat := by simpa using ht.flat
  refine ⟨x, ks, hp, ht.dep, ?_⟩
  by_cases hw : (F.nd x ks .nil).weight ≤ 16384
  · rw [decide_eq_true (by unfold cut; omega)]
    exact shapedB_iff.2 ⟨⟨en, h⟩, x, ks, ⟨ht.wf, hflat, ht.dep, hw⟩⟩
  · rw [decide_eq_false (by unfold cut; omega)]
    refine shapedB_no fun ⟨_, y, js, hs⟩ => hw ?_
    have := flat_inj (.nd x ks .nil) (.nd y js .nil) [] [] ht.wf hs.wf rfl (by simp only [F.flat, List.append_nil]; rw [← hflat, ← hs.flat])
    rw [this.1]; exact hs.weight
noncomputable def refsB (re : List Nd) : Bool := shapedB re && re.any fun x => x.op == 8
theorem refs_yes {re : List Nd} {x : Nd} (hs : shapedB re = true) (hx : x ∈ re) (h8 : x.op = 8) : refsB re = true := by
  rw [refsB, hs, Bool.true_and, List.any_eq_true]
  exact ⟨x, hx, by simp [h8]⟩
theorem refs_no {re : List Nd} (h : ∀ j (x : Nd), j < re.length → re[j]? = some x → ¬ x.op = 8) : refsB re = false := by
  have : (re.any fun x => x.op == 8) = false := by
    rw [Bool.eq_false_iff]
    intro h'
    obtain ⟨x, hx, h8⟩ := List.any_eq_true.1 h'
    obtain ⟨j, hj⟩ := List.getElem?_of_mem hx
    exact h j x (List.getElem?_eq_some_iff.1 hj).1 hj (by simpa using h8)
  rw [refsB, this, Bool.and_false]
theorem refs_step {re : List Nd} {j : Nat} {x : Nd} (h : ∀ q (x : Nd), q < j → re[q]? = some x → ¬ x.op = 8) (hx : re[j]? = some x) (h8 : ¬ x.op = 8) : ∀ q (x : Nd), q < j + 1 → re[q]? = some x → ¬ x.op = 8 := by
  intro q y hq hy
  by_cases e : q = j
  · subst e; rw [hx] at hy; cases hy; exact h8
  · exact h q y (by omega) hy
theorem refs_shp {re : List Nd} (h : shapedB re = false) : refsB re = false := by rw [refsB, h, Bool.false_and]
theorem cut_fin2 {t a : Nat} (ht : 1 ≤ t) : min (1 + (t : Int) * (cut a : Int)) 16385 = (cut (1 + t * a) : Nat) := by
  rw [← cut_fin ht, Int.mul_comm, Int.add_comm]
end Go.HL.Kl.Mc
