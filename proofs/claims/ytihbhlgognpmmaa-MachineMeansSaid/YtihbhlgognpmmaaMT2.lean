/- Mathematics of regexes as lists of nodes: which are well shaped. Conditions: none. -/
import Derived.Test.YtihbhlgognpmmaaMT1
namespace Go.HL.Kl.Mc
open Go Go.HL Go.HL.Kl
/-- what a group or a reference asks of the groups so far -/
def gate (x : Nd) (en : List Bool) (g : Nat) : Option (List Bool × Nat) :=
  if x.op = 8 then (if 1 ≤ x.n ∧ x.n ≤ en.length ∧ en[x.n.toNat - 1]? = some true then some (en, g) else none)
  else if x.op = 7 then (if x.n = en.length + 1 ∧ x.n ≤ 255 ∧ g < 64 then some (en ++ [false], g + 1) else none)
  else some (en, g)
def kidsN (step : Nat → List Bool → Option (Nat × List Bool)) : Nat → Nat → List Bool → Option (Nat × List Bool)
  | 0, i, en => some (i, en)
  | k + 1, i, en => match step i en with
    | none => none
    | some (i', en') => kidsN step k i' en'
def shN (re : List Nd) : Nat → Nat → List Bool → Nat → Option (Nat × List Bool)
  | 0, _, _, _ => none
  | f + 1, i, en, g => match re[i]? with
    | none => none
    | some x => if ndOk x = true then
        match gate x en g with
        | none => none
        | some (en1, g1) => match kidsN (fun i en => shN re f i en g1) x.kids.toNat (i + 1) en1 with
          | none => none
          | some (i2, en2) => some (i2, if x.op = 7 then en2.set (x.n.toNat - 1) true else en2)
      else none
theorem ndOk_kids {x : Nd} (h : ndOk x = true) : 0 ≤ x.kids := by
  simp only [ndOk, Bool.and_eq_true, kidsOk] at h
  have h := h.2
  split at h
  · simp at h; omega
  · split at h
    · simp at h; omega
    · split at h <;> simp at h <;> omega
/-- a tree of the list at a place -/
structure TreeAt (re : List Nd) (d i i' : Nat) (x : Nd) (ks : F) : Prop where
  wf : (F.nd x ks .nil).wf
  flat : re.drop i = x :: (ks.flat ++ re.drop i')
  dep : ks.depth + 1 ≤ d
  len : i' = i + 1 + ks.size
  le : i' ≤ re.length
structure ForAt (re : List Nd) (d k i i' : Nat) (ks : F) : Prop where
  wf : ks.wf
  num : ks.num = k
  flat : re.drop i = ks.flat ++ re.drop i'
  dep : ks.depth ≤ d
  len : i' = i + ks.size
  le : i ≤ re.length → i' ≤ re.length
theorem kidsN_for {re : List Nd} {d : Nat} {step : Nat → List Bool → Option (Nat × List Bool)} (hs : ∀ i en i' en', step i en = some (i', en') → ∃ x ks, TreeAt re d i i' x ks) :
    ∀ k i en i' en', kidsN step k i en = some (i', en') → ∃ ks, ForAt re d k i i' ks := by
  intro k
  induction k with
  | zero =>
    intro i en i' en' h
    simp only [kidsN, Option.some.injEq, Prod.mk.injEq] at h
    obtain ⟨rfl, rfl⟩ := h
    exact ⟨.nil, trivial, rfl, rfl, Nat.zero_le _, rfl, id⟩
  | succ k ih =>
    intro i en i' en' h
    simp only [kidsN] at h
    split at h
    · cases h
    · rename_i j en1 hst
      obtain ⟨x, ks, ht⟩ := hs _ _ _ _ hst
      obtain ⟨r, hr⟩ := ih _ _ _ _ h
      refine ⟨.nd x ks r, ⟨ht.wf.1, ht.wf.2.1, ht.wf.2.2.1, hr.wf⟩, by simp [F.num, hr.num], by rw [ht.flat, hr.flat]; simp [F.flat], ?_, by rw [hr.len, ht.len]; simp only [F.size]; omega, fun _ => hr.le ht.le⟩
      simp only [F.depth]
      have := ht.dep; have := hr.dep
      omega
theorem shN_tree {re : List Nd} : ∀ f i en g i' en', shN re f i en g = some (i', en') → ∃ x ks, TreeAt re f i i' x ks := by
  intro f
  induction f with
  | zero => intro i en g i' en' h; cases h
  | succ f ih =>
    intro i en g i' en' h
    simp only [shN] at h
    split at h
    · cases h
    · rename_i x hx
      have hlt : i < re.length := (List.getElem?_eq_some_iff.1 hx).1
      split at h
      · rename_i hok
        split at h
        · cases h
        · rename_i en1 g1 hg
          split at h
          · cases h
          · rename_i i2 en2 hk
            simp only [Option.some.injEq, Prod.mk.injEq] at h
            obtain ⟨rfl, -⟩ := h
            obtain ⟨ks, hks⟩ := kidsN_for (fun i en i' en' h => ih i en g1 i' en' h) _ _ _ _ _ hk
            have h0 := ndOk_kids hok
            refine ⟨x, ks, ⟨hok, by rw [hks.num]; omega, hks.wf, trivial⟩, ?_, by have := hks.dep; omega, by rw [hks.len], hks.le hlt⟩
            rw [List.drop_eq_getElem_cons hlt, hks.flat]
            rw [List.getElem?_eq_getElem hlt] at hx
            simp at hx
            rw [hx]
      · cases h
/-- weights -/
def times (x : Nd) : Nat := if x.op = 6 then (if x.mx < 0 then x.mn.toNat + 1 else max x.mx.toNat 1) else 1
namespace F
def weight : F → Nat
  | nil => 0
  | nd x ks r => (1 + times x * ks.weight) + r.weight
end F
def cut (n : Nat) : Nat := min n 16385
theorem cut_add (a b : Nat) : cut (cut a + cut b) = cut (a + b) := by unfold cut; omega
theorem cut_mul {t a : Nat} (ht : 1 ≤ t) : cut (1 + t * cut a) = cut (1 + t * a) := by
  unfold cut
  rcases Nat.le_total a 16385 with h | h
  · rw [Nat.min_eq_left h]
  · rw [Nat.min_eq_right h]
    have h1 : 16385 ≤ t * 16385 := Nat.le_mul_of_pos_left _ ht
    have h2 : t * 16385 ≤ t * a := Nat.mul_le_mul_left _ h
    omega
theorem times_pos (x : Nd) : 1 ≤ times x := by
  unfold times
  split
  · split <;> omega
  · exact Nat.le_refl _
theorem times_le {x : Nd} (h : ndOk x = true) : times x ≤ 256 := by
  simp only [ndOk, flds, Bool.and_eq_true] at h
  have h := h.1.2
  unfold times
  split
  · rename_i h6
    rw [if_pos h6] at h
    simp at h
    split <;> omega
  · omega
/-- a well shaped list: its forest is one tree -/
structure Shp (re : List Nd) (x : Nd) (ks : F) : Prop where
  wf : (F.nd x ks .nil).wf
  flat : re = x :: ks.flat
  dep : ks.depth + 1 ≤ 260
  weight : (F.nd x ks .nil).weight ≤ 16384
open Classical in
noncomputable def shapedP (re : List Nd) : Bool := decide (∃ en, shN re 260 0 [] 0 = some (re.length, en)) && decide (∃ x ks, Shp re x ks)
theorem shN_shp {re : List Nd} {en : List Bool} (h : shN re 260 0 [] 0 = some (re.length, en)) : ∃ x ks, (F.nd x ks .nil).wf ∧ re = x :: ks.flat ∧ ks.depth + 1 ≤ 260 ∧ re.length = 1 + ks.size := by
  obtain ⟨x, ks, ht⟩ := shN_tree _ _ _ _ _ _ h
  have := ht.flat
  simp at this
  exact ⟨x, ks, ht.wf, this, ht.dep, by have := ht.len; omega⟩
end Go.HL.Kl.Mc
