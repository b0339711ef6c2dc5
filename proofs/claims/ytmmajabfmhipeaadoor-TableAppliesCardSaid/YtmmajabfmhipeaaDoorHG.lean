/- Part of the proofs over this seat: see the text that holds the theorem. Conditions: each theorem bears its own. -/
import Derived.Test.YtmmajabfmhipeaaDoorHlB
import Derived.Test.YtmmajabfmhipeaaDoorM1
namespace Go.HL
open Go
/-! lists of lists: for the bag that looks whether lists share memory -/
section
variable {α : Type} {E : α → List Value} {k : Nat} {T : TypeId}
/-- lists that the heap's part S bears, each owned: headers, and what they hold -/
inductive OwnL (E : α → List Value) (k : Nat) (T : TypeId) : List (Sl α) → List (List α) → Hp → Prop
  | nil : OwnL E k T [] [] []
  | cons {s : Sl α} {xs : List α} {sls : List (Sl α)} {xss : List (List α)} {S R : Hp} (h : OwnS E k T s.v xs S) (hs : OwnL E k T sls xss R) : OwnL E k T (s :: sls) (xs :: xss) (S ++ R)
theorem OwnL.at {sls : List (Sl α)} {xss : List (List α)} {S : Hp} (h : OwnL E k T sls xss S) : ∀ {n : Nat} {s : Sl α}, sls[n]? = some s →
    ∃ xs S1 Sn S2, xss[n]? = some xs ∧ S = S1 ++ (Sn ++ S2) ∧ OwnS E k T s.v xs Sn ∧ ∀ xs' Sn', OwnS E k T s.v xs' Sn' → OwnL E k T sls (xss.set n xs') (S1 ++ (Sn' ++ S2)) := by
  induction h with
  | nil => intro n s hs; simp at hs
  | @cons s xs sls xss S R h hs ih =>
    intro n s' hn
    cases n with
    | zero =>
      simp at hn; subst hn
      exact ⟨xs, [], S, R, rfl, rfl, h, fun xs' Sn' h' => by simpa using OwnL.cons h' hs⟩
    | succ n =>
      obtain ⟨xs', S1, Sn, S2, h1, rfl, h3, h4⟩ := ih (by simpa using hn)
      exact ⟨xs', S ++ S1, Sn, S2, by simpa using h1, by simp, h3, fun y Sy hy => by simpa using OwnL.cons h (h4 y Sy hy)⟩
theorem OwnL.snoc {sls : List (Sl α)} {xss : List (List α)} {S S' : Hp} {s : Sl α} {xs : List α} (h : OwnL E k T sls xss S) (h' : OwnS E k T s.v xs S') : OwnL E k T (sls ++ [s]) (xss ++ [xs]) (S ++ S') := by
  induction h with
  | nil => simpa using OwnL.cons h' .nil
  | cons h hs ih => simpa using OwnL.cons h ih
theorem OwnL.len {sls : List (Sl α)} {xss : List (List α)} {S : Hp} (h : OwnL E k T sls xss S) : xss.length = sls.length := by
  induction h with
  | nil => rfl
  | cons h hs ih => simp [ih]
/-- what is written into the list n -/
def mkL (f : Nat → Nat → α) (n m : Nat) : List α := (List.range m).map (f n)
theorem mkL_len {f : Nat → Nat → α} {n m : Nat} : (mkL f n m).length = m := by simp [mkL]
theorem mkL_get {f : Nat → Nat → α} {n m i : Nat} (h : i < m) : (mkL f n m)[i]? = some (f n i) := by simp [mkL, List.getElem?_range h]
theorem mkL_succ {f : Nat → Nat → α} {n m : Nat} : mkL f n m ++ [f n m] = mkL f n (m + 1) := by simp [mkL, List.range_succ]
theorem mkL_fill {f : Nat → Nat → α} {n m i : Nat} {l : List α} (h : Tab.Fill (f n) m i l) (hi : m ≤ i) : l = mkL f n m := h.done hi
/-- likewise, all of them marked, from the list n on -/
inductive OwnF (E : α → List Value) (k : Nat) (T : TypeId) (f : Nat → Nat → α) : Nat → List (Sl α) → Hp → Prop
  | nil {n : Nat} : OwnF E k T f n [] []
  | cons {n : Nat} {s : Sl α} {sls : List (Sl α)} {S R : Hp} (h : OwnS E k T s.v (mkL f n s.xs.length) S) (hs : OwnF E k T f (n + 1) sls R) : OwnF E k T f n (s :: sls) (S ++ R)
theorem OwnL.all {f : Nat → Nat → α} {sls : List (Sl α)} {xss : List (List α)} {S : Hp} (h : OwnL E k T sls xss S) : ∀ {n : Nat}, (∀ j s, sls[j]? = some s → xss[j]? = some (mkL f (n + j) s.xs.length)) → OwnF E k T f n sls S := by
  induction h with
  | nil => intro n _; exact .nil
  | @cons s xs sls xss S R h hs ih =>
    intro n hj
    have h0 := hj 0 s rfl
    simp at h0
    subst h0
    refine .cons h (ih fun j s' hs' => ?_)
    have := hj (j + 1) s' (by simpa using hs')
    rw [show n + 1 + j = n + (j + 1) by omega]
    simpa using this
theorem OwnF.head {f : Nat → Nat → α} {sls : List (Sl α)} {S : Hp} {n : Nat} {s : Sl α} (h : OwnF E k T f n (sls.drop n) S) (hs : sls[n]? = some s) : ∃ S1 S2, S = S1 ++ S2 ∧ OwnS E k T s.v (mkL f n s.xs.length) S1 ∧ OwnF E k T f (n + 1) (sls.drop (n + 1)) S2 := by
  have hn : n < sls.length := by
    rcases Nat.lt_or_ge n sls.length with h' | h'
    · exact h'
    · rw [List.getElem?_eq_none h'] at hs; cases hs
  have e : sls.drop n = s :: sls.drop (n + 1) := by
    rw [List.drop_eq_getElem_cons hn]
    rw [List.getElem?_eq_getElem hn] at hs
    simp at hs; rw [hs]
  rw [e] at h
  cases h with
  | cons h1 h2 => exact ⟨_, _, rfl, h1, h2⟩
/-- the first n lists have been gone on with -/
structure Done (E : α → List Value) (f : Nat → Nat → α) (sls ones mores : List (Sl α)) (G : Hp) (n : Nat) : Prop where
  out : ∀ j, j < n → ∃ s o m, sls[j]? = some s ∧ ones[j]? = some o ∧ mores[j]? = some m ∧ o.xs = mkL f j (s.xs.length + 1) ∧ m.xs = mkL f j (s.xs.length + 70) ∧ IsSl s.v s.xs.length ∧ IsSl o.v o.xs.length ∧ IsSl m.v m.xs.length ∧ RdS E s.v (mkL f j s.xs.length) G ∧ RdS E o.v o.xs G ∧ RdS E m.v m.xs G
theorem Done.zero {f : Nat → Nat → α} {sls ones mores : List (Sl α)} {G : Hp} : Done E f sls ones mores G 0 := ⟨fun _ h => by omega⟩
theorem Done.step {f : Nat → Nat → α} {sls ones mores : List (Sl α)} {G G' : Hp} {n : Nat} {s o m : Sl α} (h : Done E f sls ones mores G n) (h1 : ones.length = n) (h2 : mores.length = n) (hs : sls[n]? = some s)
    (ho : o.xs = mkL f n (s.xs.length + 1)) (hm : m.xs = mkL f n (s.xs.length + 70)) (i1 : IsSl s.v s.xs.length) (i2 : IsSl o.v o.xs.length) (i3 : IsSl m.v m.xs.length) (r1 : RdS E s.v (mkL f n s.xs.length) G') (r2 : RdS E o.v o.xs G') (r3 : RdS E m.v m.xs G') : Done E f sls (ones ++ [o]) (mores ++ [m]) (G' ++ G) (n + 1) := by
  refine ⟨fun j hj => ?_⟩
  by_cases e : j = n
  · subst e
    exact ⟨s, o, m, hs, by rw [List.getElem?_append_right (by omega)]; simp [h1], by rw [List.getElem?_append_right (by omega)]; simp [h2], ho, hm, i1, i2, i3, r1.mono HIn.appL, r2.mono HIn.appL, r3.mono HIn.appL⟩
  · obtain ⟨s', o', m', a1, a2, a3, a4, a5, b1, b2, b3, a6, a7, a8⟩ := h.out j (by omega)
    exact ⟨s', o', m', a1, by rw [List.getElem?_append_left (by omega)]; exact a2, by rw [List.getElem?_append_left (by omega)]; exact a3, a4, a5, b1, b2, b3, a6.mono HIn.appR, a7.mono HIn.appR, a8.mono HIn.appR⟩
theorem set_all {f : Nat → Nat → α} {sls : List (Sl α)} {xss : List (List α)} {n : Nat} {s : Sl α} {l xs : List α} (hA : ∀ j s, j < n → sls[j]? = some s → xss[j]? = some (mkL f j s.xs.length)) (hs : sls[n]? = some s) (hl : l = mkL f n s.xs.length) (hx : xss[n]? = some xs) :
    ∀ j s', j < n + 1 → sls[j]? = some s' → (xss.set n l)[j]? = some (mkL f j s'.xs.length) := by
  intro j s' hj hs'
  by_cases e : n = j
  · subst e
    rw [hs] at hs'; cases hs'
    rw [List.getElem?_set_self (List.getElem?_eq_some_iff.1 hx).1, hl]
  · rw [List.getElem?_set_ne e]; exact hA j s' (by omega) hs'
theorem Keep.more {v0 v : Value} {xs0 xs : List α} {S G G' : Hp} (h : Keep E k T v0 xs0 v xs S G) (hG : HIn G G') : Keep E k T v0 xs0 v xs S G' := ⟨h.own, h.old.imp (fun r => r.mono hG) fun r => r⟩
theorem sl_get {sls : List (Sl α)} {n : Nat} (h : n < sls.length) : ∃ s, sls[n]? = some s := ⟨_, List.getElem?_eq_getElem h⟩
theorem Sl.v_len {s : Sl α} {a : Option Addr} {n c : Nat} {xs : List α} {S : Hp} [Enc E k] (h : OwnS E k T s.v xs S) (_e : s.v = .slice a n c) : xs.length = s.xs.length := by
  obtain ⟨a', c', e', _⟩ := h.sl.out
  simp [Sl.v] at e'; exact e'.2.1.symm
theorem OwnS.lenv [Enc E k] {s : Sl α} {xs : List α} {S : Hp} (h : OwnS E k T s.v xs S) : xs.length = s.xs.length := by
  obtain ⟨a', c', e', _⟩ := h.sl.out
  simp [Sl.v] at e'; exact e'.2.1.symm
end
end Go.HL
