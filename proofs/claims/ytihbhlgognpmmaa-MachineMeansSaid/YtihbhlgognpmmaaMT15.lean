/- Where runs lead at a place: the search. Conditions: none. -/
import Derived.Test.YtihbhlgognpmmaaMT14
namespace Go.HL.Kl.Mc
open Go Go.HL Go.HL.Kl
/-- where one step without a byte leads -/
def succs (t : In) (n p i : Nat) : List Nat :=
  if t.op = 2 then (if p = 0 then [i + 1] else []) else if t.op = 3 then (if p = n then [i + 1] else [])
  else if t.op = 4 then [t.x.toNat] else if t.op = 5 then [t.x.toNat, t.y.toNat] else []
theorem eps_succs {m : List In} {n p i j : Nat} {t : In} (hm : MOk m) (ht : m[i]? = some t) : Eps m n p i j ↔ j ∈ succs t n p i := by
  have hb := (hm.2.2 i t ht).1.bnd
  unfold Eps succs
  constructor
  · rintro ⟨u, hu, h⟩
    rw [ht] at hu; cases hu
    rcases h with ⟨ho, h1, h2⟩ | ⟨ho, h1, h2⟩ | ⟨ho, h1⟩ | ⟨ho, h1 | h1⟩
    · rw [if_pos ho, if_pos h1, h2]; simp
    · rw [if_neg (by omega), if_pos ho, if_pos h1, h2]; simp
    · rw [if_neg (by omega), if_neg (by omega), if_pos ho, h1]; simp
    · rw [if_neg (by omega), if_neg (by omega), if_neg (by omega), if_pos ho, h1]; simp
    · rw [if_neg (by omega), if_neg (by omega), if_neg (by omega), if_pos ho, h1]; simp
  · intro h
    refine ⟨t, ht, ?_⟩
    split at h
    · split at h
      · simp at h; exact .inl ⟨‹_›, ‹_›, h⟩
      · cases h
    split at h
    · split at h
      · simp at h; exact .inr (.inl ⟨‹_›, ‹_›, h⟩)
      · cases h
    split at h
    · simp at h; exact .inr (.inr (.inl ⟨‹_›, by omega⟩))
    split at h
    · simp at h
      rcases h with h | h
      · exact .inr (.inr (.inr ⟨‹_›, .inl (by omega)⟩))
      · exact .inr (.inr (.inr ⟨‹_›, .inr (by omega)⟩))
    · cases h
/-- the search so far -/
structure Srch (m : List In) (n p from_ : Nat) (s0 sn : List Bool) (todo : List Nat) : Prop where
  len : sn.length = m.length
  a : ∀ i : Nat, s0[i]? = some true → sn[i]? = some true
  b : ∀ i : Nat, sn[i]? = some true → s0[i]? = some true ∨ EpsS m n p from_ i
  c : ∀ t ∈ todo, EpsS m n p from_ t ∧ t < m.length
  d : ∀ i j : Nat, sn[i]? = some true → Eps m n p i j → sn[j]? = some true ∨ j ∈ todo
  e : sn[from_]? = some true ∨ from_ ∈ todo
theorem Srch.start {m : List In} {n p f : Nat} {s0 : List Bool} (hl : s0.length = m.length) (hf : f < m.length) (hc : ∀ i j : Nat, s0[i]? = some true → Eps m n p i j → s0[j]? = some true) : Srch m n p f s0 s0 [f] :=
  ⟨hl, fun _ h => h, fun _ h => .inl h, fun t h => by obtain rfl := List.mem_singleton.1 h; exact ⟨.refl, hf⟩, fun i j h1 h2 => .inl (hc i j h1 h2), .inr (by simp)⟩
theorem Srch.pop {m : List In} {n p f : Nat} {s0 sn : List Bool} {todo : List Nat} {t : Nat} (h : Srch m n p f s0 sn (todo ++ [t])) (ht : sn[t]? = some true) : Srch m n p f s0 sn todo := by
  refine ⟨h.len, h.a, h.b, fun u hu => h.c u (List.mem_append_left _ hu), fun i j h1 h2 => ?_, ?_⟩
  · rcases h.d i j h1 h2 with h3 | h3
    · exact .inl h3
    · rcases List.mem_append.1 h3 with h3 | h3
      · exact .inr h3
      · obtain rfl := List.mem_singleton.1 h3; exact .inl ht
  · rcases h.e with h3 | h3
    · exact .inl h3
    · rcases List.mem_append.1 h3 with h3 | h3
      · exact .inr h3
      · obtain rfl := List.mem_singleton.1 h3; exact .inl ht
theorem Srch.go {m : List In} {n p f : Nat} {s0 sn : List Bool} {todo : List Nat} {t : Nat} {u : In} (hm : MOk m) (h : Srch m n p f s0 sn (todo ++ [t])) (hu : m[t]? = some u) : Srch m n p f s0 (sn.set t true) (todo ++ succs u n p t) := by
  have htl : t < sn.length := by rw [h.len]; exact (List.getElem?_eq_some_iff.1 hu).1
  have ht := (h.c t (by simp)).1
  have key : ∀ i : Nat, (sn.set t true)[i]? = some true ↔ i = t ∨ sn[i]? = some true := by
    intro i
    by_cases e : t = i
    · subst e; rw [List.getElem?_set_self htl]; simp
    · rw [List.getElem?_set_ne e]; constructor
      · exact .inr
      · rintro (e' | h'); exact absurd e'.symm e; exact h'
  refine ⟨by rw [List.length_set]; exact h.len, fun i hi => (key i).2 (.inr (h.a i hi)), fun i hi => ?_, fun w hw => ?_, fun i j hi hij => ?_, ?_⟩
  · rcases (key i).1 hi with rfl | hi
    · exact .inr ht
    · exact h.b i hi
  · rcases List.mem_append.1 hw with hw | hw
    · exact h.c w (List.mem_append_left _ hw)
    · have := (eps_succs (n := n) (p := p) hm hu).2 hw
      exact ⟨ht.tail this, hm.lt this⟩
  · rcases (key i).1 hi with rfl | hi
    · exact .inr (List.mem_append_right _ ((eps_succs hm hu).1 hij))
    · rcases h.d i j hi hij with h3 | h3
      · exact .inl ((key j).2 (.inr h3))
      · rcases List.mem_append.1 h3 with h3 | h3
        · exact .inr (List.mem_append_left _ h3)
        · obtain rfl := List.mem_singleton.1 h3; exact .inl ((key j).2 (.inl rfl))
  · rcases h.e with h3 | h3
    · exact .inl ((key _).2 (.inr h3))
    · rcases List.mem_append.1 h3 with h3 | h3
      · exact .inr (List.mem_append_left _ h3)
      · have := List.mem_singleton.1 h3; exact .inl ((key _).2 (.inl this))
theorem Srch.done {m : List In} {n p f : Nat} {s0 sn : List Bool} (h : Srch m n p f s0 sn []) : (∀ i : Nat, sn[i]? = some true ↔ s0[i]? = some true ∨ EpsS m n p f i) ∧ ∀ i j : Nat, sn[i]? = some true → Eps m n p i j → sn[j]? = some true := by
  have hcl : ∀ i j : Nat, sn[i]? = some true → Eps m n p i j → sn[j]? = some true := fun i j h1 h2 => (h.d i j h1 h2).resolve_right (by simp)
  have hall : ∀ i j : Nat, EpsS m n p i j → sn[i]? = some true → sn[j]? = some true := by
    intro i j he
    induction he with
    | refl => exact id
    | head e _ ih => exact fun hi => ih (hcl _ _ hi e)
  exact ⟨fun i => ⟨h.b i, fun hi => hi.elim (h.a i) fun he => hall _ _ he (h.e.resolve_right (by simp))⟩, hcl⟩
theorem last_split {l : List Nat} (h : 0 < l.length) : ∃ tl t, l = tl ++ [t] := ⟨l.dropLast, l.getLast (List.ne_nil_of_length_pos h), (List.dropLast_concat_getLast _).symm⟩
/-- how many are not yet seen -/
def unseen (l : List Bool) : Nat := l.countP (!·)
theorem unseen_set : ∀ (l : List Bool) (t : Nat), l[t]? = some false → unseen (l.set t true) + 1 = unseen l
  | [], t, h => by simp at h
  | b :: l, 0, h => by
    simp at h; subst h
    simp [unseen, List.countP_cons]
  | b :: l, t + 1, h => by
    have := unseen_set l t (by simpa using h)
    simp only [unseen, List.set_cons_succ, List.countP_cons] at this ⊢
    omega
theorem unseen_le (l : List Bool) : unseen l ≤ l.length := List.countP_le_length
theorem succs_len (t : In) (n p i : Nat) : (succs t n p i).length ≤ 2 := by
  unfold succs
  repeat' split
  all_goals simp
end Go.HL.Kl.Mc
