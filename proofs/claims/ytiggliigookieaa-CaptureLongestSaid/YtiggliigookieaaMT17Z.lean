/- What Ends answers. Conditions: none. -/
import Derived.Test.YtiggliigookieaaMT7Z
import Derived.Test.YtiggliigookieaaHlB
import Derived.Test.YtiggliigookieaaKF1Z
import Derived.Test.YtiggliigookieaaMT4Z
import GoSem.Instr.MapUpdate
import GoSem.Instr.MakeMap
namespace Go.HL.Kl.Mc
open Go Go.HL Go.HL.Kl
theorem runN_in {m : List In} {w : List UInt8} {n : Nat} {c c' : Nat × Nat} (h : RunN m w n c c') (hc : c.2 ≤ w.length) : c'.2 ≤ w.length := by
  induction h with
  | zero => exact hc
  | @step n c c' c'' s _ ih =>
    refine ih ?_
    obtain ⟨i, p⟩ := c; obtain ⟨j, q⟩ := c'
    rcases stp_iff.1 s with ⟨h, _⟩ | ⟨h, _, t, b, _, _, hb, _⟩
    · simp only at hc ⊢; omega
    · have := (List.getElem?_eq_some_iff.1 hb).1
      simp only; omega
theorem hit_in {m : List In} {w : List UInt8} {f p : Nat} (h : Hit m w f p) (hf : f ≤ w.length) : f ≤ p ∧ p ≤ w.length := by
  obtain ⟨i, t, ⟨n, h⟩, _⟩ := h
  exact ⟨runN_le h, runN_in h hf⟩
/-- the answer -/
def EndsP (m : List In) (w : List UInt8) (f : Int) (out : List Bool) : Prop := out.length = w.length + 1 ∧ ∀ t : Nat, out[t]? = some true ↔ MOk m ∧ ∃ g : Nat, f = g ∧ g ≤ w.length ∧ Hit m w g t
theorem no_true {n t : Nat} : ¬ (List.replicate n false)[t]? = some true := by
  intro h
  have := List.mem_of_getElem? h
  simp at this
theorem EndsP.no {m : List In} {w : List UInt8} {f : Int} (h : f < 0 ∨ f > w.length ∨ ¬ MOk m) : EndsP m w f (List.replicate (w.length + 1) false) :=
  ⟨by simp, fun t => ⟨fun h1 => absurd h1 no_true, fun ⟨h1, g, h2, h3, _⟩ => by rcases h with h | h | h; (· omega); (· omega); exact absurd h1 h⟩⟩
theorem EndsP.yes {m : List In} {w : List UInt8} {g : Nat} {out : List Bool} (hM : MOk m) (hg : g ≤ w.length) (hl : out.length = w.length + 1) (h : ∀ t : Nat, out[t]? = some true ↔ t < w.length + 1 ∧ Hit m w g t) : EndsP m w g out :=
  ⟨hl, fun t => (h t).trans ⟨fun h1 => ⟨hM, g, rfl, hg, h1.2⟩, fun ⟨_, g', h2, h3, h4⟩ => by
    obtain rfl : g = g' := by omega
    exact ⟨by have := (hit_in h4 hg).2; omega, h4⟩⟩⟩
theorem ends_start {m : List In} {w : List UInt8} {g n t : Nat} : (List.replicate n false)[t]? = some true ↔ t < g ∧ Hit m w g t :=
  ⟨fun h => absurd h no_true, fun ⟨h1, i, u, ⟨n, h2⟩, _⟩ => by have := runN_le h2; simp only at this; omega⟩
theorem ends_end {m : List In} {w : List UInt8} {g p t : Nat} (hg : g ≤ p) (hgw : g ≤ w.length) (hp : p ≤ w.length + 1) (hn : p = w.length + 1 ∨ ∀ j, ¬ Begn m w g p j) : (t < p ∧ Hit m w g t) ↔ (t < w.length + 1 ∧ Hit m w g t) := by
  constructor
  · exact fun ⟨h1, h2⟩ => ⟨by omega, h2⟩
  · rintro ⟨h1, h2⟩
    rcases hn with rfl | hn
    · exact ⟨h1, h2⟩
    · refine ⟨Nat.lt_of_not_le fun h => ?_, h2⟩
      obtain ⟨i, u, h3, _⟩ := h2
      exact start_none hg hn (t - p) i (by rwa [show p + (t - p) = t by omega])
/-- what reach has seen of the first k begun steps -/
def SeenP (m : List In) (w : List UInt8) (p : Nat) (q : List Nat) (k : Nat) (sn : List Bool) : Prop :=
  sn.length = m.length ∧ (∀ i : Nat, sn[i]? = some true ↔ ∃ t j : Nat, t < k ∧ q[t]? = some j ∧ EpsS m w.length p j i) ∧ ∀ i j : Nat, sn[i]? = some true → Eps m w.length p i j → sn[j]? = some true
theorem SeenP.start {m : List In} {w : List UInt8} {p : Nat} {q : List Nat} : SeenP m w p q 0 (List.replicate m.length false) :=
  ⟨by simp, fun i => ⟨fun h => absurd h no_true, fun ⟨_, _, h, _⟩ => by omega⟩, fun i j h => absurd h no_true⟩
theorem SeenP.step {m : List In} {w : List UInt8} {p k j : Nat} {q : List Nat} {sn s2 : List Bool} (h : SeenP m w p q k sn) (hj : q[k]? = some j) (hl : s2.length = m.length) (h2 : ∀ i : Nat, s2[i]? = some true ↔ sn[i]? = some true ∨ EpsS m w.length p j i) (h3 : ∀ i j : Nat, s2[i]? = some true → Eps m w.length p i j → s2[j]? = some true) : SeenP m w p q (k + 1) s2 := by
  refine ⟨hl, fun i => ?_, h3⟩
  rw [h2, h.2.1]
  constructor
  · rintro (⟨t, u, h4, h5, h6⟩ | h4)
    · exact ⟨t, u, by omega, h5, h6⟩
    · exact ⟨k, j, by omega, hj, h4⟩
  · rintro ⟨t, u, h4, h5, h6⟩
    rcases Nat.lt_or_ge t k with h7 | h7
    · exact .inl ⟨t, u, h7, h5, h6⟩
    · obtain rfl : t = k := by omega
      rw [hj] at h5; cases h5
      exact .inr h6
theorem SeenP.run {m : List In} {w : List UInt8} {g p i : Nat} {q : List Nat} {sn : List Bool} (hg : g ≤ p) (hq : ∀ j, j ∈ q ↔ Begn m w g p j) (h : SeenP m w p q q.length sn) : sn[i]? = some true ↔ Run m w (0, g) (i, p) := by
  rw [h.2.1, run_start hg]
  constructor
  · rintro ⟨t, j, _, h2, h3⟩
    exact ⟨j, (hq j).1 (List.mem_of_getElem? h2), h3⟩
  · rintro ⟨j, h2, h3⟩
    obtain ⟨t, h4⟩ := List.getElem?_of_mem ((hq j).2 h2)
    exact ⟨t, j, (List.getElem?_eq_some_iff.1 h4).1, h4, h3⟩
/-- the second pass over the first k steps -/
structure PassP (m : List In) (w : List UInt8) (p : Nat) (sn out : List Bool) (k : Nat) (o2 : List Bool) (q2 : List Nat) : Prop where
  len : o2.length = out.length
  st : ∀ j, j ∈ q2 ↔ ∃ i, i < k ∧ j = i + 1 ∧ sn[i]? = some true ∧ Eat m w i p
  out : ∀ t : Nat, o2[t]? = some true ↔ out[t]? = some true ∨ (t = p ∧ ∃ i u, i < k ∧ sn[i]? = some true ∧ m[i]? = some u ∧ u.op = 6)
  le : q2.length ≤ k
theorem PassP.start {m : List In} {w : List UInt8} {p : Nat} {sn out : List Bool} : PassP m w p sn out 0 out [] :=
  ⟨rfl, fun j => ⟨fun h => (by cases h), fun ⟨_, h, _⟩ => by omega⟩, fun t => ⟨.inl, fun h => h.elim id fun h => by obtain ⟨_, _, _, h, _⟩ := h; omega⟩, Nat.le_refl _⟩
theorem PassP.next {m : List In} {w : List UInt8} {g p : Nat} {sn out o2 : List Bool} {q q2 : List Nat} (hg : g ≤ p) (hq : ∀ j, j ∈ q ↔ Begn m w g p j) (hs : SeenP m w p q q.length sn) (h : PassP m w p sn out m.length o2 q2) : ∀ j, j ∈ q2 ↔ Begn m w g (p + 1) j := by
  intro j
  rw [h.st]
  constructor
  · rintro ⟨i, _, rfl, h3, h4⟩
    exact .inr ⟨by omega, i, rfl, (hs.run hg hq).1 h3, h4⟩
  · rintro (⟨h1, _⟩ | ⟨_, i, rfl, h3, h4⟩)
    · omega
    · obtain ⟨t, b, h5, _⟩ := id h4
      exact ⟨i, (List.getElem?_eq_some_iff.1 h5).1, rfl, (hs.run hg hq).2 h3, h4⟩
theorem PassP.hits {m : List In} {w : List UInt8} {g p : Nat} {sn out o2 : List Bool} {q q2 : List Nat} (hg : g ≤ p) (hq : ∀ j, j ∈ q ↔ Begn m w g p j) (hs : SeenP m w p q q.length sn) (ho : ∀ t : Nat, out[t]? = some true ↔ t < p ∧ Hit m w g t) (h : PassP m w p sn out m.length o2 q2) : ∀ t : Nat, o2[t]? = some true ↔ t < p + 1 ∧ Hit m w g t := by
  intro t
  rw [h.out, ho]
  constructor
  · rintro (⟨h1, h2⟩ | ⟨rfl, i, u, _, h2, h3, h4⟩)
    · exact ⟨by omega, h2⟩
    · exact ⟨by omega, i, u, (hs.run hg hq).1 h2, h3, h4⟩
  · rintro ⟨h1, h2⟩
    rcases Nat.lt_or_ge t p with h3 | h3
    · exact .inl ⟨h3, h2⟩
    · obtain rfl : t = p := by omega
      obtain ⟨i, u, h4, h5, h6⟩ := h2
      exact .inr ⟨rfl, i, u, (List.getElem?_eq_some_iff.1 h5).1, (hs.run hg hq).2 h4, h5, h6⟩
theorem PassP.skip {m : List In} {w : List UInt8} {p k : Nat} {sn out o2 : List Bool} {q2 : List Nat} (h : PassP m w p sn out k o2 q2) (hn : sn[k]? = some true → ¬ Eat m w k p ∧ ∀ u, m[k]? = some u → u.op ≠ 6) : PassP m w p sn out (k + 1) o2 q2 := by
  refine ⟨h.len, fun j => ?_, fun t => ?_, by have := h.le; omega⟩
  · rw [h.st]
    constructor
    · rintro ⟨i, h1, h2⟩; exact ⟨i, by omega, h2⟩
    · rintro ⟨i, h1, h2, h3, h4⟩
      rcases Nat.lt_or_ge i k with h5 | h5
      · exact ⟨i, h5, h2, h3, h4⟩
      · obtain rfl : i = k := by omega
        exact absurd h4 (hn h3).1
  · rw [h.out]
    refine or_congr_right (and_congr_right fun _ => ?_)
    constructor
    · rintro ⟨i, u, h1, h2⟩; exact ⟨i, u, by omega, h2⟩
    · rintro ⟨i, u, h1, h2, h3, h4⟩
      rcases Nat.lt_or_ge i k with h5 | h5
      · exact ⟨i, u, h5, h2, h3, h4⟩
      · obtain rfl : i = k := by omega
        exact absurd h4 ((hn h2).2 u h3)
theorem PassP.eat {m : List In} {w : List UInt8} {p k : Nat} {sn out o2 : List Bool} {q2 : List Nat} (h : PassP m w p sn out k o2 q2) (hs : sn[k]? = some true) (he : Eat m w k p) : PassP m w p sn out (k + 1) o2 (q2 ++ [k + 1]) := by
  refine ⟨h.len, fun j => ?_, fun t => ?_, by have := h.le; simp; omega⟩
  · rw [List.mem_append, h.st, List.mem_singleton]
    constructor
    · rintro (⟨i, h1, h2⟩ | rfl)
      · exact ⟨i, by omega, h2⟩
      · exact ⟨k, by omega, rfl, hs, he⟩
    · rintro ⟨i, h1, h2, h3, h4⟩
      rcases Nat.lt_or_ge i k with h5 | h5
      · exact .inl ⟨i, h5, h2, h3, h4⟩
      · obtain rfl : i = k := by omega
        exact .inr h2
  · rw [h.out]
    refine or_congr_right (and_congr_right fun _ => ?_)
    constructor
    · rintro ⟨i, u, h1, h2⟩; exact ⟨i, u, by omega, h2⟩
    · rintro ⟨i, u, h1, h2, h3, h4⟩
      rcases Nat.lt_or_ge i k with h5 | h5
      · exact ⟨i, u, h5, h2, h3, h4⟩
      · obtain rfl : i = k := by omega
        obtain ⟨t', b, h6, h7, _⟩ := he
        rw [h3] at h6; cases h6; omega
theorem PassP.done {m : List In} {w : List UInt8} {p k : Nat} {sn out o2 : List Bool} {q2 : List Nat} {u : In} (h : PassP m w p sn out k o2 q2) (hs : sn[k]? = some true) (hu : m[k]? = some u) (ho : u.op = 6) (hp : p < o2.length) : PassP m w p sn out (k + 1) (o2.set p true) q2 := by
  refine ⟨by rw [List.length_set]; exact h.len, fun j => ?_, fun t => ?_, by have := h.le; omega⟩
  · rw [h.st]
    constructor
    · rintro ⟨i, h1, h2⟩; exact ⟨i, by omega, h2⟩
    · rintro ⟨i, h1, h2, h3, h4⟩
      rcases Nat.lt_or_ge i k with h5 | h5
      · exact ⟨i, h5, h2, h3, h4⟩
      · obtain rfl : i = k := by omega
        obtain ⟨t', b, h6, h7, _⟩ := h4
        rw [hu] at h6; cases h6; omega
  · rw [List.getElem?_set]
    by_cases hpt : p = t
    · subst hpt
      rw [if_pos rfl, if_pos hp]
      exact ⟨fun _ => .inr ⟨rfl, k, u, by omega, hs, hu, ho⟩, fun _ => rfl⟩
    · rw [if_neg hpt, h.out]
      exact or_congr_right ⟨fun h1 => absurd h1.1.symm hpt, fun h1 => absurd h1.1.symm hpt⟩
/-- the answer of Ends: memory of its own -/
def EndsC (m : List In) (w : List UInt8) (f : Int) (v : Value) (S : Hp) : Prop := ∃ (a : Option Addr) (c : Nat) (out : List Bool), v = .slice a (w.length + 1) c ∧ OwnS Ebo 1 4 v out S ∧ EndsP m w f out
theorem EndsC.of {m : List In} {w : List UInt8} {f : Int} {a : Option Addr} {c : Nat} {out : List Bool} {S : Hp} (h : OwnS Ebo 1 4 (.slice a (w.length + 1) c) out S) (hE : EndsP m w f out) : EndsC m w f (.slice a (w.length + 1) c) S := ⟨a, c, out, rfl, h, hE⟩
theorem eat_iff {m : List In} {w : List UInt8} {k p : Nat} {u : In} {y : UInt8} (hu : m[k]? = some u) (h1 : u.op = 1) (hy : w[p]? = some y) : Eat m w k p ↔ u.set.getLsbD y.toNat = true :=
  ⟨fun ⟨t, b, e1, _, e3, e4⟩ => by rw [hu] at e1; rw [hy] at e3; cases e1; cases e3; exact e4, fun h => ⟨u, y, hu, h1, hy, h⟩⟩
theorem eat_no1 {m : List In} {w : List UInt8} {k p : Nat} {u : In} (hu : m[k]? = some u) (h1 : ¬ u.op = 1) : ¬ Eat m w k p := fun ⟨t, b, e1, e2, _⟩ => by rw [hu] at e1; cases e1; exact h1 e2
theorem eat_noP {m : List In} {w : List UInt8} {k p : Nat} (h : ¬ p < w.length) : ¬ Eat m w k p := fun ⟨t, b, _, _, e, _⟩ => h (List.getElem?_eq_some_iff.1 e).1
theorem skip6 {m : List In} {k : Nat} {u : In} (hu : m[k]? = some u) (h : ¬ u.op = 6) : ∀ v, m[k]? = some v → v.op ≠ 6 := fun v e => by rw [hu] at e; cases e; exact h
end Go.HL.Kl.Mc

/- Part of the proofs over this seat: see the text that holds the theorem. Conditions: each theorem bears its own. -/
namespace Go.Tab
open Go Go.HL

/-- the first j places of l hold f -/
structure Fill {α : Type} (f : Nat → α) (n j : Nat) (l : List α) : Prop where
  len : l.length = n
  get : ∀ i, i < j → l[i]? = some (f i)
theorem Fill.zero {α : Type} {f : Nat → α} {l : List α} {n : Nat} (h : l.length = n) : Fill f n 0 l := ⟨h, fun _ h => by omega⟩
theorem Fill.step {α : Type} {f : Nat → α} {n j : Nat} {l : List α} (h : Fill f n j l) (hj : j < n) {y : α} (hy : y = f j) : Fill f n (j + 1) (l.set j y) := by
  refine ⟨by simp [h.len], fun i hi => ?_⟩
  subst hy
  by_cases e : j = i
  · subst e; rw [List.getElem?_set_self (by rw [h.len]; exact hj)]
  · rw [List.getElem?_set_ne e]; exact h.get i (by omega)
theorem Fill.done {α : Type} {f : Nat → α} {n j : Nat} {l : List α} (h : Fill f n j l) (hj : n ≤ j) : l = (List.range n).map f := by
  apply List.ext_getElem?
  intro i
  by_cases hi : i < n
  · rw [h.get i (by omega), List.getElem?_map, List.getElem?_range hi]; rfl
  · rw [List.getElem?_eq_none (by rw [h.len]; omega), List.getElem?_eq_none (by simp; omega)]

def idT : List UInt8 := (List.range 256).map UInt8.ofNat
theorem idT_len : idT.length = 256 := by simp [idT]
theorem idT_get {i : Nat} (h : i < 256) : idT[i]? = some (UInt8.ofNat i) := by
  unfold idT
  rw [List.getElem?_map, List.getElem?_range h]; rfl
theorem zlen (n : Nat) : (List.replicate n (0 : UInt8)).length = n := by simp

def at0 (t : List UInt8) (i : Nat) : UInt8 := t.getD i 0
theorem at0_get {t : List UInt8} {i : Nat} (h : i < t.length) : t[i]? = some (at0 t i) := by simp [at0, h]

def thenT (t u : List UInt8) : List UInt8 := (List.range 256).map fun i => at0 u (at0 t i).toNat
theorem thenT_len (t u : List UInt8) : (thenT t u).length = 256 := by simp [thenT]
def applyT (t b : List UInt8) : List UInt8 := (List.range b.length).map fun i => at0 t (at0 b i).toNat
theorem applyT_len (t b : List UInt8) : (applyT t b).length = b.length := by simp [applyT]
theorem applyT_id (b : List UInt8) : applyT idT b = b := by
  apply List.ext_getElem?
  intro i
  by_cases hi : i < b.length
  · unfold applyT
    rw [List.getElem?_map, List.getElem?_range hi, at0_get hi]
    simp only [Option.map_some, Option.some.injEq]
    have h := idT_get (UInt8.toNat_lt (at0 b i))
    unfold at0 at h ⊢
    rw [List.getD_eq_getElem?_getD, h]
    simp
  · rw [List.getElem?_eq_none (by rw [applyT_len]; omega), List.getElem?_eq_none (by omega)]

/-- the table of the first j pairs -/
def newAt (f t : List UInt8) : Nat → Option (List UInt8)
  | 0 => some idT
  | j + 1 => if at0 f j ∈ f.take j then none else (newAt f t j).map (·.set (at0 f j).toNat (at0 t j))
def newR (f t : List UInt8) : Option (List UInt8) := if f.length = t.length then newAt f t f.length else none
theorem newAt_len {f t : List UInt8} : ∀ {j : Nat} {l : List UInt8}, newAt f t j = some l → l.length = 256
  | 0, l, h => by simp only [newAt, Option.some.injEq] at h; subst h; exact idT_len
  | j + 1, l, h => by
    simp only [newAt] at h
    split at h
    · cases h
    · cases hr : newAt f t j with
      | none => simp [hr] at h
      | some m => simp only [hr, Option.map_some, Option.some.injEq] at h; subst h; simp [newAt_len hr]
theorem newAt_none {f t : List UInt8} {j : Nat} (h : at0 f j ∈ f.take j) : ∀ {m : Nat}, j < m → newAt f t m = none
  | 0, hm => by omega
  | m + 1, hm => by
    simp only [newAt]
    by_cases e : j = m
    · subst e; rw [if_pos h]
    · rw [newAt_none h (by omega)]; simp

def zT : List UInt8 := List.replicate 256 0
theorem zT_len : zT.length = 256 := List.length_replicate
/-- what New answers -/
def tabV (r : Option (List UInt8)) : Value := .tuple #[.agg (flat Eb (r.getD zT)).toArray, .int .i64 (if r.isSome then 0 else 60)]

theorem getD_len {r : Option (List UInt8)} (h : ∀ l, r = some l → l.length = 256) : (r.getD zT).length = 256 := by
  cases r with
  | none => exact zT_len
  | some l => exact h l rfl
theorem tab_none {r : Option (List UInt8)} (h : r = none) : resV [.agg (List.replicate 256 (.int .u8 0)).toArray, .int .i64 60] = tabV r := by
  subst h
  show Value.tuple #[_, _] = tabV none
  rw [tabV]
  simp only [Option.getD_none, zT, flatEb_zeros]
  rfl
theorem tab_some {r : Option (List UInt8)} {l : List UInt8} (h : r = some l) : resV [.agg (flat Eb l).toArray, .int .i64 0] = tabV r := by subst h; rfl
theorem newR_some {f t l : List UInt8} {j : Nat} (h : newAt f t j = some l) (hl : f.length = t.length) (hj : f.length ≤ j) (hj' : j ≤ f.length) : newR f t = some l := by
  have : j = f.length := by omega
  subst this
  rw [newR, if_pos hl, h]
theorem newR_none {f t : List UInt8} {j : Nat} (h : at0 f j ∈ f.take j) (hj : j < f.length) : newR f t = none := by
  rw [newR]; split
  · exact newAt_none h hj
  · rfl
theorem seen_step {f : List UInt8} {j : Nat} {sn : List Bool} (hj : j < f.length) (hl : sn.length = 256) (h : ∀ b : UInt8, sn[b.toNat]? = some (decide (b ∈ f.take j))) :
    ∀ b : UInt8, (sn.set (at0 f j).toNat true)[b.toNat]? = some (decide (b ∈ f.take (j + 1))) := by
  intro b
  rw [List.take_add_one, at0_get hj]
  by_cases e : at0 f j = b
  · subst e
    rw [List.getElem?_set_self (by rw [hl]; exact UInt8.toNat_lt _)]
    simp
  · rw [List.getElem?_set_ne (fun h' => e (UInt8.toNat_inj.1 h')), h b]
    congr 1
    rw [Bool.eq_iff_iff]
    simp only [decide_eq_true_eq, List.mem_append, Option.toList_some, List.mem_singleton]
    constructor
    · exact fun h => .inl h
    · rintro (h | h)
      · exact h
      · exact absurd h.symm e
theorem idT_take {j : Nat} (h : j < 256) : idT.take (j + 1) = idT.take j ++ [UInt8.ofNat j] := by
  rw [List.take_add_one, idT_get h]; rfl
theorem idT_all : idT.take 256 = idT := List.take_of_length_le (by rw [idT_len]; omega)
theorem idT_tl {j : Nat} (h : j ≤ 256) : (idT.take j).length = j := by rw [List.length_take, idT_len]; omega
theorem at0_id {j : Nat} (h : j < 256) : (at0 idT j).toNat = j := by
  have h1 := idT_get h
  unfold at0
  rw [List.getD_eq_getElem?_getD, h1, Option.getD_some, UInt8.toNat_ofNat_of_lt' (by simp [UInt8.size]; omega)]
theorem at0_range {f : Nat → UInt8} {n i : Nat} (h : i < n) : at0 ((List.range n).map f) i = f i := by
  unfold at0
  rw [List.getD_eq_getElem?_getD, List.getElem?_map, List.getElem?_range h]; rfl
theorem at0_apply {t b : List UInt8} {i : Nat} (h : i < b.length) : at0 (applyT t b) i = at0 t (at0 b i).toNat := at0_range h
theorem at0_then {t u : List UInt8} {i : Nat} (h : i < 256) : at0 (thenT t u) i = at0 u (at0 t i).toNat := at0_range h
theorem applyT_then (t u b : List UInt8) : applyT (thenT t u) b = applyT u (applyT t b) := by
  unfold applyT
  rw [show ((List.range b.length).map fun i => at0 t (at0 b i).toNat).length = b.length by simp]
  refine List.map_congr_left fun i hi => ?_
  rw [at0_then (UInt8.toNat_lt _), at0_range (by simpa using hi)]
theorem thenT_assoc (t u v : List UInt8) : thenT (thenT t u) v = thenT t (thenT u v) := by
  refine List.map_congr_left fun i hi => ?_
  rw [at0_then (by simpa using hi), at0_then (UInt8.toNat_lt _)]
def xyT : List UInt8 := (idT.set 97 120).set 98 121
theorem xyT_len : xyT.length = 256 := by rw [xyT, List.length_set, List.length_set, idT_len]
theorem lv1 : newR [97, 98] [120, 121] = some xyT := rfl
theorem lv2 : newR [97, 97] [120, 121] = none := rfl
theorem lv3 : applyT xyT [97, 98, 99, 97, 98] = [120, 121, 99, 120, 121] := by decide +kernel
theorem fill_id {j : Nat} {l : List UInt8} (h : Fill UInt8.ofNat 256 j l) (hj : 256 ≤ j) : l = idT := h.done hj
theorem fill_then {t u : List UInt8} {j : Nat} {l : List UInt8} (h : Fill (fun i => at0 u (at0 t i).toNat) 256 j l) (hj : 256 ≤ j) : l = thenT t u := h.done hj
theorem fill_apply {t xs : List UInt8} {j : Nat} {l : List UInt8} (h : Fill (fun i => at0 t (at0 xs i).toNat) xs.length j l) (hj : xs.length ≤ j) : l = applyT t xs := h.done hj
attribute [irreducible] idT thenT applyT xyT
end Go.Tab

/- Lists with room behind them, of any kind. Conditions: none. -/
namespace Go.HL
open Go Go.Tab
section
variable {α : Type}
def wdlF (d : Nat → α) (xs : List α) (i : Nat) : α := (xs[i]?).getD (d i)
def wdl (d : Nat → α) (xs : List α) : List α := (List.range (xs.length + 64)).map (wdlF d xs)
theorem wdl_len (d : Nat → α) (xs : List α) : (wdl d xs).length = xs.length + 64 := by simp [wdl]
theorem wdl_at {d : Nat → α} {xs : List α} {i : Nat} (h : i < xs.length + 64) : (wdl d xs)[i]? = some (wdlF d xs i) := by
  unfold wdl
  rw [List.getElem?_map, List.getElem?_range h]; rfl
theorem wdl_in {d : Nat → α} {xs : List α} {i : Nat} {x : α} (h : xs[i]? = some x) : x = wdlF d xs i := by rw [wdlF, h]; rfl
theorem wdl_out {d : Nat → α} {xs : List α} {i : Nat} (h : ¬ i < xs.length) : d i = wdlF d xs i := by rw [wdlF, List.getElem?_eq_none (by omega)]; rfl
theorem wdl_spare {d : Nat → α} {xs : List α} {i : Nat} (h1 : ¬ i < xs.length) (h2 : i < xs.length + 64) : (wdl d xs)[i]? = some (d i) := by rw [wdl_at h2, wdl_out (d := d) h1]
theorem wdl_take (d : Nat → α) (xs : List α) : (wdl d xs).take xs.length = xs := by
  apply List.ext_getElem?
  intro i
  by_cases hi : i < xs.length
  · rw [List.getElem?_take, if_pos hi, wdl_at (by omega), ← wdl_in (List.getElem?_eq_getElem hi), List.getElem?_eq_getElem hi]
  · rw [List.getElem?_eq_none (by rw [List.length_take]; omega), List.getElem?_eq_none (by omega)]
theorem fill_wdl {d : Nat → α} {xs : List α} {j : Nat} {l : List α} (h : Fill (wdlF d xs) (xs.length + 64) j l) (hj : xs.length + 64 ≤ j) : l = wdl d xs := h.done hj
theorem ext_upto {a b : List α} (hl : a.length = b.length) (h : ∀ i, i < a.length → a[i]? = b[i]?) : a = b := by
  apply List.ext_getElem?
  intro i
  by_cases hi : i < a.length
  · exact h i hi
  · rw [List.getElem?_eq_none (by omega), List.getElem?_eq_none (by omega)]
theorem Rd.pref {α : Type} {E : α → List Value} {k : Nat} [he : Enc E k] {w : World} {a : Option Addr} {c : Nat} {xs : List α} (h : Rd E w (.slice a xs.length c) xs) (m : Nat) : Rd E w (.slice a (xs.take m).length c) (xs.take m) := by
  obtain ⟨⟨a', c', hv, hn, h0, hsp⟩, hle⟩ := h.sl
  simp only [Value.slice.injEq] at hv
  obtain ⟨rfl, _, rfl⟩ := hv
  have hlen : (xs.take m).length ≤ xs.length := by simp; omega
  refine ⟨⟨⟨_, _, rfl, by omega, h0, fun A hA hz => hsp A hA (by omega)⟩, by omega⟩, fun j u hu => ?_⟩
  refine h.get j u ?_
  rw [← List.take_append_drop m xs, flat_append, List.getElem?_append_left (List.getElem?_eq_some_iff.1 hu).1]
  exact hu
attribute [irreducible] wdl wdlF
end
theorem c_knw {P : Program} {κ : Cx} {Q : Pst} {c : Code} {L : HL.Loc} {H : Hp} {p : Prop} (h : ∀ w, St κ.w0 w κ.M H → p) (k : p → C P κ Q c L H) : C P κ Q c L H :=
  ⟨fun ro a w hr ok => (k (h w ok.st)).out ro a w hr ok⟩
end Go.HL

/- Spare instructions; the node of one byte. Conditions: none. -/
namespace Go.HL.Kl.Mc
open Go Go.HL Go.HL.Kl
def spI (i : Nat) : In := ⟨0, 0, ((1048576 * 9 + i + 1 : Nat) : Int), -7⟩
/-- the node of one byte -/
def letN (b : UInt8) : Nd := ⟨1, bit b.toNat, 0, 0, 0, 0⟩
theorem En_one : En ⟨1, 0, 0, 0, 0, 0⟩ = [.int .i8 1, .int .u64 0, .int .u64 0, .int .u64 0, .int .u64 0, .int .i64 0, .int .i64 0, .int .i64 0, .int .i64 0] := by
  show _ :: (Ec 0#256 ++ _) = _
  rw [Ec_zero]; rfl
theorem letN_set (b : UInt8) : (En (⟨1, 0, 0, 0, 0, 0⟩ : Nd)).set (0 + 1 + (((b.toNat / 64 : Nat) : Int)).toNat * 1) (Ew (1#64 <<< (b.toNat % 64))) = En (letN b) := by
  have hb := b.toNat_lt
  have h := with_eq (0#256) (x := b.toNat) hb
  have h0 : ∀ i, wd 0#256 i = 0#64 := fun i => by simp [wd]
  rw [h0, BitVec.zero_or, BitVec.zero_or] at h
  show (_ :: (Ec 0#256 ++ _)).set _ _ = _ :: (Ec (bit b.toNat) ++ _)
  rw [← h, ← Ec_set _ _ (by omega), Int.toNat_natCast, show 0 + 1 + b.toNat / 64 * 1 = b.toNat / 64 + 1 by omega, List.set_cons_succ, List.set_append_left _ _ (by show b.toNat / 64 < 4; omega)]; rfl
end Go.HL.Kl.Mc

/- The known run: the machine of a* over aab. Conditions: none. -/
namespace Go.HL.Kl.Mc
open Go Go.HL Go.HL.Kl
def starN : Nd := ⟨6, 0, 0, 0, -1, 1⟩
def reW : List Nd := [starN, letN 97]
def ksW : F := .nd (letN 97) .nil .nil
def mW : List In := mach (.nd starN ksW .nil)
theorem let_ok : ndOk (letN 97) = true := by decide +kernel
theorem wfW : (F.nd starN ksW .nil).wf := ⟨by decide +kernel, rfl, ⟨let_ok, rfl, trivial, trivial⟩, trivial⟩
theorem shpW : Shp reW starN ksW := ⟨wfW, rfl, by decide, by decide +kernel⟩
theorem shapedW : shapedB reW = true := shapedB_iff.2 ⟨⟨[], by decide +kernel⟩, _, _, shpW⟩
theorem refsW : refsB reW = false := refs_no fun j x hj hx h8 => by
  have := List.mem_of_getElem? hx
  rcases List.mem_cons.1 this with rfl | this
  · cases h8
  · rcases List.mem_cons.1 this with rfl | this
    · cases h8
    · cases this
theorem Shp.uniq {re : List Nd} {x y : Nd} {ks js : F} (h : Shp re x ks) (h' : Shp re y js) : x = y ∧ ks = js := by
  have := flat_inj (.nd x ks .nil) (.nd y js .nil) [] [] h.wf h'.wf rfl (by simp only [F.flat, List.append_nil]; rw [← h.flat, ← h'.flat])
  simpa using this.1
theorem mokW : MOk mW := mach_ok wfW (by decide +kernel)
theorem compW {v : Value} {S : Hp} (h : CompP reW v S) : ∃ a, v = .tuple #[.slice a mW.length mW.length, .int .i64 0] ∧ RdS Ein (.slice a mW.length mW.length) mW S := by
  cases h with
  | shape hs => rw [shapedW] at hs; cases hs
  | ref _ hr => rw [refsW] at hr; cases hr
  | ok _ _ h hv hm =>
    obtain ⟨rfl, rfl⟩ := h.uniq shpW
    exact ⟨_, hv, hm⟩
theorem MOk.rng {m : List In} (h : MOk m) : ∀ t ∈ m, -128 ≤ t.op ∧ t.op < 128 := fun t ht => by
  obtain ⟨i, hi⟩ := List.getElem?_of_mem ht
  have := (h.2.2 i t hi).1.1
  omega
def wW : List UInt8 := [97, 97, 98]
theorem derW {p q : Nat} : der wW (.nd starN ksW .nil) false p q ↔ ∃ k, pow (fun p q => q = p + 1 ∧ wW[p]? = some 97) k p q := by
  have h1 : ∀ p q, der wW ksW false p q ↔ (q = p + 1 ∧ wW[p]? = some 97) := by
    intro p q
    have : der wW ksW false p q ↔ ∃ t, (t = p + 1 ∧ ∃ b, wW[p]? = some b ∧ (letN 97).set.getLsbD b.toNat = true) ∧ (false = false ∧ t = q) := Iff.rfl
    rw [this]
    constructor
    · rintro ⟨t, ⟨rfl, b, hb, hs⟩, _, rfl⟩
      refine ⟨rfl, ?_⟩
      rw [show (letN 97).set = bit (97 : UInt8).toNat from rfl, bit_get b.toNat_lt, decide_eq_true_eq] at hs
      rw [hb, UInt8.toNat_inj.1 hs]
    · rintro ⟨rfl, h⟩
      exact ⟨_, ⟨rfl, 97, h, by decide +kernel⟩, rfl, rfl⟩
  have h2 : der wW (.nd starN ksW .nil) false p q ↔ ∃ t, rounds starN (der wW ksW false) p t ∧ (false = false ∧ t = q) := Iff.rfl
  have h3 : (der wW ksW false) = fun p q => q = p + 1 ∧ wW[p]? = some 97 := by funext p q; exact propext (h1 p q)
  rw [h2, h3]
  constructor
  · rintro ⟨t, ⟨k, _, _, h⟩, _, rfl⟩; exact ⟨k, h⟩
  · rintro ⟨k, h⟩; exact ⟨q, ⟨k, Int.natCast_nonneg k, .inl rfl, h⟩, rfl, rfl⟩
theorem powW : ∀ {k p q : Nat}, pow (fun p q => q = p + 1 ∧ wW[p]? = some 97) k p q → q = p ∨ q ≤ 2
  | 0, p, q, h => .inl h.symm
  | k + 1, p, q, ⟨m, ⟨h1, h2⟩, h3⟩ => by
    have hp : p < 2 := by
      rcases Nat.lt_or_ge p 2 with h | h
      · exact h
      · rcases Nat.eq_or_lt_of_le h with h | h
        · subst h; cases h2
        · have : wW.length = 3 := rfl
          have := (List.getElem?_eq_some_iff.1 h2).1
          obtain rfl : p = 2 := by omega
          omega
    rcases powW h3 with h | h <;> omega
theorem endsW {out : List Bool} (h : EndsP mW wW (0 : Int) out) : out[0]? = some true ∧ out[1]? = some true ∧ out[2]? = some true ∧ out[3]? = some false := by
  have hy : ∀ t : Nat, (∃ k, pow (fun p q => q = p + 1 ∧ wW[p]? = some 97) k 0 t) → out[t]? = some true := fun t hk => (h.2 t).2 ⟨mokW, 0, rfl, by decide, (mach_hit wfW).2 (derW.2 hk)⟩
  refine ⟨hy 0 ⟨0, rfl⟩, hy 1 ⟨1, 1, ⟨rfl, rfl⟩, rfl⟩, hy 2 ⟨2, 1, ⟨rfl, rfl⟩, 2, ⟨rfl, rfl⟩, rfl⟩, ?_⟩
  have hl : out.length = 4 := h.1
  rw [List.getElem?_eq_getElem (by omega)]
  cases hb : out[3]'(by omega) with
  | false => rfl
  | true =>
    obtain ⟨_, g, hg, _, hh⟩ := (h.2 3).1 (by rw [List.getElem?_eq_getElem (by omega), hb])
    obtain rfl : g = 0 := by omega
    obtain ⟨k, hk⟩ := derW.1 ((mach_hit wfW).1 hh)
    rcases powW hk with h | h <;> omega
theorem reW_rng : ∀ x ∈ reW, -128 ≤ x.op ∧ x.op < 128 := fun x hx => by
  rcases List.mem_cons.1 hx with rfl | hx
  · decide
  · rcases List.mem_cons.1 hx with rfl | hx
    · exact ⟨by decide, by decide⟩
    · cases hx
theorem En_star : En starN = [.int .i8 6, .int .u64 0, .int .u64 0, .int .u64 0, .int .u64 0, .int .i64 0, .int .i64 0, .int .i64 (-1), .int .i64 1] := by
  show _ :: (Ec 0#256 ++ _) = _
  rw [Ec_zero]; rfl
attribute [irreducible] mW
end Go.HL.Kl.Mc

/- Sets of places, made: of one node, of two sets. Conditions: none. -/
namespace Go.HL.Kl.Mc
open Go Go.HL Go.HL.Kl
/-! forests, one behind the other -/
def F.app : F → F → F
  | .nil, g => g
  | .nd x ks r, g => .nd x ks (r.app g)
theorem F.num_app : ∀ f g : F, (f.app g).num = f.num + g.num
  | .nil, g => by simp [F.app, F.num]
  | .nd x ks r, g => by simp only [F.app, F.num, F.num_app r g]; omega
theorem F.flat_app : ∀ f g : F, (f.app g).flat = f.flat ++ g.flat
  | .nil, g => by simp [F.app, F.flat]
  | .nd x ks r, g => by simp [F.app, F.flat, F.flat_app r g]
theorem F.size_app : ∀ f g : F, (f.app g).size = f.size + g.size
  | .nil, g => by simp [F.app, F.size]
  | .nd x ks r, g => by simp only [F.app, F.size, F.size_app r g]; omega
theorem F.wf_app : ∀ {f g : F}, f.wf → g.wf → (f.app g).wf
  | .nil, g, _, h => h
  | .nd x ks r, g, ⟨a, b, c, d⟩, h => ⟨a, b, c, F.wf_app d h⟩
theorem Part.down {re : List Nd} {y : Nd} {js r : F} {p i' : Nat} (h : Part re (.nd y js r) p i') : Part re (js.app r) (p + 1) i' := by
  obtain ⟨_, h1, h2⟩ := h.head
  have hl := h.len
  simp only [F.size] at hl
  exact ⟨F.wf_app h1.wf h2.wf, by rw [h1.flat, h2.flat, F.flat_app, List.append_assoc], by rw [F.size_app]; omega, h.le⟩
theorem F.num_nil {f : F} (h : f.num = 0) : f = .nil := by
  cases f with
  | nil => rfl
  | nd x ks r => simp [F.num] at h
/-! lists of booleans -/
def bo0 (l : List Bool) (i : Nat) : Bool := l.getD i false
theorem bo0_get {l : List Bool} {i : Nat} (h : i < l.length) : l[i]? = some (bo0 l i) := by simp [bo0, h]
theorem bo0_true {l : List Bool} {i : Nat} : bo0 l i = true ↔ l[i]? = some true := by
  unfold bo0
  rw [List.getD_eq_getElem?_getD]
  cases l[i]? <;> simp
def orF (a b : List Bool) (i : Nat) : Bool := bo0 a i || bo0 b i
def orL (a b : List Bool) : List Bool := (List.range a.length).map (orF a b)
theorem orL_len (a b : List Bool) : (orL a b).length = a.length := by simp [orL]
theorem orL_get {a b : List Bool} {i : Nat} (h : i < a.length) : (orL a b)[i]? = some (orF a b i) := by
  unfold orL
  rw [List.getElem?_map, List.getElem?_range h]; rfl
/-- is there one of b that is not of a, among the first k? -/
def moreTo (a b : List Bool) (k : Nat) : Bool := (List.range k).any fun i => bo0 b i && !bo0 a i
def moreB (a b : List Bool) : Bool := moreTo a b a.length
theorem moreTo_zero {a b : List Bool} : moreTo a b 0 = false := rfl
theorem moreTo_succ {a b : List Bool} {k : Nat} : moreTo a b (k + 1) = (moreTo a b k || (bo0 b k && !bo0 a k)) := by simp [moreTo, List.range_succ]
theorem moreTo_yes {a b : List Bool} {k : Nat} (h : moreTo a b k = true) : moreTo a b (k + 1) = true := by rw [moreTo_succ, h]; rfl
theorem moreTo_no {a b : List Bool} {k : Nat} {v : Bool} (h : moreTo a b k = false) (hv : v = (bo0 b k && !bo0 a k)) : moreTo a b (k + 1) = v := by rw [moreTo_succ, h, hv]; rfl
theorem IsS.or {a b : List Bool} {N : Nat} {S T : Nat → Prop} (ha : IsS a N S) (hb : IsS b N T) : IsS (orL a b) N (fun q => S q ∨ T q) :=
  ⟨by rw [orL_len, ha.len], fun p hp => by
    rw [orL_get (by rw [ha.len]; omega), ← ha.get p hp, ← hb.get p hp, ← bo0_true, ← bo0_true]
    simp [orF]⟩
theorem IsS.no_more {a b : List Bool} {N : Nat} {S T : Nat → Prop} (ha : IsS a N S) (hb : IsS b N T) (h : moreB a b = false) : ∀ q, q ≤ N → T q → S q := fun q hq ht => by
  rw [← ha.get q hq, ← bo0_true]
  rw [← hb.get q hq, ← bo0_true] at ht
  have h1 := List.any_eq_false.1 h q (by rw [List.mem_range, ha.len]; omega)
  rw [ht] at h1
  simpa using h1
/-- how many are not in the set -/
def cf (l : List Bool) : Nat := (List.range l.length).countP fun i => !bo0 l i
theorem cf_le (l : List Bool) : cf l ≤ l.length := by
  have := List.countP_le_length (p := fun i => !bo0 l i) (l := List.range l.length)
  simpa [cf] using this
theorem countP_mono {p q : Nat → Bool} (h : ∀ i, p i = true → q i = true) : ∀ n, (List.range n).countP p ≤ (List.range n).countP q
  | 0 => by simp
  | n + 1 => by
    have := countP_mono h n
    have h1 := h n
    simp only [List.range_succ, List.countP_append, List.countP_singleton]
    cases hp : p n <;> cases hq : q n <;> simp_all <;> omega
theorem countP_lt {p q : Nat → Bool} (h : ∀ i, p i = true → q i = true) : ∀ n k, k < n → q k = true → p k = false → (List.range n).countP p < (List.range n).countP q
  | n + 1, k, hk, h1, h2 => by
    simp only [List.range_succ, List.countP_append, List.countP_singleton]
    by_cases e : k = n
    · subst e
      have := countP_mono h k
      rw [h1, h2]; simp; omega
    · have := countP_lt h n k (by omega) h1 h2
      have h3 := h n
      cases hp : p n <;> cases hq : q n <;> simp_all <;> omega
theorem cf_more {a b : List Bool} (h : moreB a b = true) : cf (orL a b) < cf a := by
  obtain ⟨i, hi, hb⟩ := List.any_eq_true.1 h
  rw [List.mem_range] at hi
  simp only [Bool.and_eq_true, Bool.not_eq_true'] at hb
  unfold cf
  rw [orL_len]
  have e : ∀ j, j < a.length → bo0 (orL a b) j = orF a b j := fun j hj => by
    have := orL_get (b := b) hj
    simp [bo0, this]
  have e2 : (List.range a.length).countP (fun i => !bo0 (orL a b) i) = (List.range a.length).countP (fun i => !orF a b i) := by
    apply List.countP_congr
    intro j hj
    rw [e j (List.mem_range.1 hj)]
  rw [e2]
  refine countP_lt (fun j hj => ?_) _ i hi (by simp [hb.2]) (by simp [orF, hb.1])
  simp only [orF, Bool.not_eq_true', Bool.or_eq_false_iff] at hj ⊢
  exact hj.1
/-! the sets of single nodes -/
structure SetP (w : List UInt8) (s : Cl) (fr : List Bool) (j : Nat) (out : List Bool) : Prop where
  len : out.length = w.length + 1
  get : ∀ q : Nat, out[q]? = some true ↔ ∃ p, p < j ∧ q = p + 1 ∧ fr[p]? = some true ∧ ∃ b, w[p]? = some b ∧ s.getLsbD b.toNat = true
theorem rep_no {n q : Nat} : ¬ (List.replicate n false)[q]? = some true := fun h => by
  have := List.mem_of_getElem? h
  simp at this
theorem SetP.zero {w : List UInt8} {s : Cl} {fr : List Bool} : SetP w s fr 0 (List.replicate (w.length + 1) false) :=
  ⟨by simp, fun q => ⟨fun h => absurd h rep_no, fun ⟨_, h, _⟩ => by omega⟩⟩
theorem SetP.step {w : List UInt8} {s : Cl} {fr out : List Bool} {j : Nat} (h : SetP w s fr j out) (hj : j < w.length) {v : Bool} (hv : v = true ↔ fr[j]? = some true ∧ ∃ b, w[j]? = some b ∧ s.getLsbD b.toNat = true) : SetP w s fr (j + 1) (out.set (j + 1) v) := by
  refine ⟨by rw [List.length_set]; exact h.len, fun q => ?_⟩
  by_cases e : j + 1 = q
  · subst e
    rw [List.getElem?_set_self (by rw [h.len]; omega), Option.some.injEq, hv]
    constructor
    · rintro ⟨h1, h2⟩; exact ⟨j, by omega, rfl, h1, h2⟩
    · rintro ⟨p, _, h2, h3, h4⟩
      obtain rfl : j = p := by omega
      exact ⟨h3, h4⟩
  · rw [List.getElem?_set_ne e, h.get]
    constructor
    · rintro ⟨p, h1, h2⟩; exact ⟨p, by omega, h2⟩
    · rintro ⟨p, h1, h2, h3⟩; exact ⟨p, by omega, h2, h3⟩
theorem SetP.done {w : List UInt8} {x : Nd} {ks : F} {fr out : List Bool} {S : Nat → Prop} (h : SetP w x.set fr w.length out) (h1 : x.op = 1) (hS : IsS fr w.length S) : IsS out w.length (img (der1 w x ks) S) := by
  refine ⟨h.len, fun q _ => (h.get q).trans ?_⟩
  simp only [img, der1_def, if_pos h1]
  constructor
  · rintro ⟨p, h2, rfl, h3, h4⟩; exact ⟨p, (hS.get p (by omega)).1 h3, rfl, h4⟩
  · rintro ⟨p, h2, rfl, b, hb, h4⟩
    have := (List.getElem?_eq_some_iff.1 hb).1
    exact ⟨p, this, rfl, (hS.get p (by omega)).2 h2, b, hb, h4⟩
theorem IsS.none {N : Nat} : IsS (List.replicate (N + 1) false) N (fun _ => False) := ⟨by simp, fun p _ => ⟨fun h => absurd h rep_no, False.elim⟩⟩
theorem IsS.only {N k : Nat} (hk : k ≤ N) {v : Bool} {p : Prop} (hv : v = true ↔ p) : IsS ((List.replicate (N + 1) false).set k v) N (fun q => q = k ∧ p) := by
  refine ⟨by simp, fun q hq => ?_⟩
  by_cases e : k = q
  · subst e
    rw [List.getElem?_set_self (by simp; omega), Option.some.injEq, hv]
    exact ⟨fun h => ⟨rfl, h⟩, fun h => h.2⟩
  · rw [List.getElem?_set_ne e]
    exact ⟨fun h => absurd h rep_no, fun h => absurd h.1.symm e⟩
theorem IsS.bol {w : List UInt8} {x : Nd} {ks : F} {fr : List Bool} {S : Nat → Prop} (h2 : x.op = 2) (hS : IsS fr w.length S) : IsS ((List.replicate (w.length + 1) false).set 0 (bo0 fr 0)) w.length (img (der1 w x ks) S) := by
  refine (IsS.only (Nat.zero_le _) (bo0_true.trans (hS.get 0 (Nat.zero_le _)))).iff fun q _ => ?_
  simp only [img, der1_def, if_neg (show ¬ x.op = 1 by omega), if_pos h2]
  exact ⟨fun ⟨h, h'⟩ => ⟨0, h', rfl, h⟩, fun ⟨p, h, h', h''⟩ => ⟨h'', h' ▸ h⟩⟩
theorem IsS.eol {w : List UInt8} {x : Nd} {ks : F} {fr : List Bool} {S : Nat → Prop} (h3 : x.op = 3) (hS : IsS fr w.length S) : IsS ((List.replicate (w.length + 1) false).set w.length (bo0 fr w.length)) w.length (img (der1 w x ks) S) := by
  refine (IsS.only (Nat.le_refl _) (bo0_true.trans (hS.get w.length (Nat.le_refl _)))).iff fun q _ => ?_
  simp only [img, der1_def, if_neg (show ¬ x.op = 1 by omega), if_neg (show ¬ x.op = 2 by omega), if_pos h3]
  exact ⟨fun ⟨h, h'⟩ => ⟨w.length, h', rfl, h⟩, fun ⟨p, h, h', h''⟩ => ⟨by omega, h' ▸ h⟩⟩
/-- one place -/
theorem IsS.one {N k : Nat} (hk : k ≤ N) : IsS ((List.replicate (N + 1) false).set k true) N (fun q => q = k) := (IsS.only hk (p := True) (by simp)).iff fun q _ => by simp
/-! answers that are read together with what was handed in -/
def OutP (N : Nat) (S : Nat → Prop) (vf : Value) (fr : List Bool) (v : Value) (S' : Hp) : Prop :=
  ∃ (a : Option Addr) (c : Nat) (l : List Bool), v = .slice a l.length c ∧ IsS l N S ∧ ∀ W : World, (∀ b o, (b, o) ∈ S' → W.heap[b]? = some o) → Rd Ebo W vf fr → Rd Ebo W v l
/-- the contract of over and of rounds -/
def OverC (P : Program) (fn : Nat) (w : List UInt8) (x : Nd) (ks : F) : Prop := ∀ (ra : Option Addr) (rc : Nat) (re : List Nd) (ta : Option Addr) (tc i i' : Nat) (fa : Option Addr) (fc : Nat) (fr : List Bool) (S : Nat → Prop),
  (∀ x ∈ re, -128 ≤ x.op ∧ x.op < 128) → (∀ x ∈ re, ¬ x.op = 8) → w.length ≤ 1000000 → Part re (.nd x ks .nil) i i' → IsS fr w.length S → (∀ p, S p → p ≤ w.length) →
  Fn P fn [.slice ra re.length rc, .int .i64 i, .slice ta w.length tc, .slice fa fr.length fc] (fun W => Rd En W (.slice ra re.length rc) re ∧ Rd Eb W (.slice ta w.length tc) w ∧ Rd Ebo W (.slice fa fr.length fc) fr) [] (OutP w.length (img (der1 w x ks) S) (.slice fa fr.length fc) fr)
/-- read, given a part of the heap and what was handed in -/
def RdC (vf : Value) (fr : List Bool) (v : Value) (l : List Bool) (S : Hp) : Prop := ∀ W : World, (∀ b o, (b, o) ∈ S → W.heap[b]? = some o) → Rd Ebo W vf fr → Rd Ebo W v l
theorem RdC.self {vf : Value} {fr : List Bool} : RdC vf fr vf fr [] := fun _ _ h => h
theorem RdC.of {vf v : Value} {fr l : List Bool} {S : Hp} (h : RdS Ebo v l S) : RdC vf fr v l S := fun W hs _ => h.out W hs
theorem RdC.trans {vf v u : Value} {fr l m : List Bool} {S S' : Hp} (h : RdC vf fr v l S) (h' : RdC v l u m S') : RdC vf fr u m (S' ++ S) := fun W hs hf =>
  h' W (fun b o hm => hs b o (List.mem_append_left _ hm)) (h W (fun b o hm => hs b o (List.mem_append_right _ hm)) hf)
theorem RdC.mono {vf v : Value} {fr l : List Bool} {S S' : Hp} (h : RdC vf fr v l S) (hs : HIn S S') : RdC vf fr v l S' := fun W hw hf => h W (fun b o hm => hw b o (hs _ hm)) hf
theorem RdC.rdk {n : Nat} {ds : List Deferred} {w0 : World} {H S : Hp} {vf v : Value} {fr l : List Bool} (h : RdC vf fr v l S) (hf : Rd Ebo w0 vf fr) (hs : HIn S H) : RdK Ebo ⟨n, ds, w0, []⟩ H v l :=
  ⟨fun W st => h W (fun b o hm => st.has b o (hs _ hm)) ((RdK.old0 (H := H) (n := n) (ds := ds) hf).out W st)⟩
theorem img_zero {D : Nat → Nat → Prop} {S : Nat → Prop} {q : Nat} : img (pow D 0) S q ↔ S q := ⟨fun ⟨p, h, e⟩ => by obtain rfl : p = q := e; exact h, fun h => ⟨q, h, rfl⟩⟩
theorem rounds_fixed {N k : Nat} {x : Nd} {D : Nat → Nat → Prop} {S : Nat → Prop} (h0 : 0 ≤ x.mn) (hmx : x.mx = -1) (hk : x.mn.toNat ≤ k) (hS : ∀ p, S p → p ≤ N) (hD : Inn N D) (h : ∀ q, q ≤ N → img (pow D (k + 1)) S q → upTo D S x.mn.toNat k q) (q : Nat) : upTo D S x.mn.toNat k q ↔ img (rounds x D) S q := by
  rw [img_rounds h0]
  constructor
  · rintro ⟨j, h1, _, h3⟩; exact ⟨j, h1, .inl hmx, h3⟩
  · rintro ⟨j, h1, _, h3⟩; exact upTo_fix hS hD hk h q ⟨j, h1, h3⟩
theorem rounds_last {k : Nat} {x : Nd} {D : Nat → Nat → Prop} {S : Nat → Prop} (h0 : 0 ≤ x.mn) (hmx : x.mx = k) (q : Nat) : upTo D S x.mn.toNat k q ↔ img (rounds x D) S q := by
  rw [img_rounds h0]
  constructor
  · rintro ⟨j, h1, h2, h3⟩; exact ⟨j, h1, .inr (by omega), h3⟩
  · rintro ⟨j, h1, h2, h3⟩; exact ⟨j, h1, by omega, h3⟩
theorem img_cat {w : List UInt8} {y : Nd} {js r : F} {T : Nat → Prop} {p : Nat} : img (der w r false) (img (der1 w y js) T) p ↔ img (der w (.nd y js r) false) T p := by
  constructor
  · rintro ⟨t, ⟨u, h1, h2⟩, h3⟩; exact ⟨u, h1, der_cat.2 ⟨t, h2, h3⟩⟩
  · rintro ⟨u, h1, h2⟩; obtain ⟨t, h3, h4⟩ := der_cat.1 h2; exact ⟨t, ⟨u, h1, h3⟩, h4⟩
theorem img_alt {w : List UInt8} {y : Nd} {js r : F} {T : Nat → Prop} {p : Nat} : img (der w (.nd y js r) true) T p ↔ img (der1 w y js) T p ∨ img (der w r true) T p := by
  constructor
  · rintro ⟨u, h1, h2⟩; exact (der_alt.1 h2).imp (fun h => ⟨u, h1, h⟩) fun h => ⟨u, h1, h⟩
  · rintro (⟨u, h1, h2⟩ | ⟨u, h1, h2⟩)
    · exact ⟨u, h1, der_alt.2 (.inl h2)⟩
    · exact ⟨u, h1, der_alt.2 (.inr h2)⟩
theorem img_nil {w : List UInt8} {T : Nat → Prop} {p : Nat} : img (der w .nil false) T p ↔ T p := ⟨fun ⟨u, h1, h2⟩ => by obtain rfl := der_nil.1 h2; exact h1, fun h => ⟨p, h, der_nil.2 rfl⟩⟩
theorem img_nil' {w : List UInt8} {T : Nat → Prop} {p : Nat} : ¬ img (der w .nil true) T p := fun ⟨u, h1, h2⟩ => der_nil'.1 h2
theorem img_inn {w : List UInt8} {x : Nd} {ks : F} {T : Nat → Prop} (h : ∀ p, T p → p ≤ w.length) : ∀ p, img (der1 w x ks) T p → p ≤ w.length := fun p ⟨u, h1, h2⟩ => der1_inn _ _ (h u h1) h2
theorem img_else {w : List UInt8} {x : Nd} {ks : F} {T : Nat → Prop} {p : Nat} (h1 : ¬ x.op = 1) (h2 : ¬ x.op = 2) (h3 : ¬ x.op = 3) (h5 : ¬ x.op = 5) (h6 : ¬ x.op = 6) : img (der1 w x ks) T p ↔ img (der w ks false) T p := by
  simp only [img, der1_def, if_neg h1, if_neg h2, if_neg h3, if_neg h5, if_neg h6]
theorem img_alt5 {w : List UInt8} {x : Nd} {ks : F} {T : Nat → Prop} {p : Nat} (h5 : x.op = 5) : img (der1 w x ks) T p ↔ img (der w ks true) T p := by
  simp only [img, der1_def, if_neg (show ¬ x.op = 1 by omega), if_neg (show ¬ x.op = 2 by omega), if_neg (show ¬ x.op = 3 by omega), if_pos h5]
theorem img_rep6 {w : List UInt8} {x : Nd} {ks : F} {T : Nat → Prop} {p : Nat} (h6 : x.op = 6) : img (der1 w x ks) T p ↔ img (rounds x (der w ks false)) T p := by
  simp only [img, der1_def, if_neg (show ¬ x.op = 1 by omega), if_neg (show ¬ x.op = 2 by omega), if_neg (show ¬ x.op = 3 by omega), if_neg (show ¬ x.op = 5 by omega), if_pos h6]
theorem grp_kid {x : Nd} {ks : F} (h : (F.nd x ks .nil).wf) (h7 : x.op = 7) : ∃ y js, ks = .nd y js .nil := by
  have h1 := h.1
  have h2 : (ks.num : Int) = x.kids := h.2.1
  simp only [ndOk, Bool.and_eq_true] at h1
  have h3 := h1.2
  rw [kidsOk, if_pos (.inr h7), decide_eq_true_eq] at h3
  cases ks with
  | nil => simp [F.num] at h2; omega
  | nd y js r =>
    cases r with
    | nil => exact ⟨y, js, rfl⟩
    | nd z a b => simp only [F.num] at h2; omega
theorem OutP.of {N n c : Nat} {S : Nat → Prop} {vf : Value} {fr l : List Bool} {a : Option Addr} {S' : Hp} (h : OwnS Ebo 1 4 (.slice a n c) l S') (hn : l.length = n) (hi : IsS l N S) : OutP N S vf fr (.slice a n c) S' := ⟨a, c, l, by rw [hn], hi, by subst hn; exact RdC.of h.rds⟩
theorem shortB {c n : Nat} {m : Int} (hc : (c : Int) ≤ m) (hm : m ≤ 33554432) (hn : n ≤ 1000000) : c * (n + 2) ≤ 33554432 * 1000002 := Nat.mul_le_mul (by omega) (by omega)
end Go.HL.Kl.Mc

/- Runs and derivations lead to the same places. Conditions: none. -/
namespace Go.HL.Kl.Mc
open Go Go.HL Go.HL.Kl
theorem ends_isS {x : Nd} {ks : F} {w : List UInt8} {p : Nat} {out : List Bool} (hw : (F.nd x ks .nil).wf) (hM : MOk (mach (.nd x ks .nil))) (hp : p ≤ w.length) (h : EndsP (mach (.nd x ks .nil)) w (p : Int) out) : IsS out w.length (der1 w x ks p) :=
  ⟨h.1, fun q _ => (h.2 q).trans ⟨fun ⟨_, g, hg, _, hh⟩ => by
    obtain rfl : p = g := by omega
    exact (mach_hit hw).1 hh, fun hd => ⟨hM, p, rfl, hp, (mach_hit hw).2 hd⟩⟩⟩
theorem no_refs {re : List Nd} (hs : shapedB re = true) (hr : refsB re = false) : ∀ x ∈ re, ¬ x.op = 8 := fun x hx h8 => by rw [refs_yes hs hx h8] at hr; cases hr
theorem Shp.mok {re : List Nd} {x : Nd} {ks : F} (h : Shp re x ks) : MOk (mach (.nd x ks .nil)) := mach_ok h.wf h.weight
end Go.HL.Kl.Mc

/- Maps from structs of four numbers to small numbers. Conditions: none. -/
namespace Go.HL
open Go
structure Ky where
  a : Int
  b : Int
  c : Int
  d : Int
  deriving DecidableEq
def Ek (k : Ky) : List Value := [.int .i64 k.a, .int .i64 k.b, .int .i64 k.c, .int .i64 k.d]
instance : Enc Ek 4 := ⟨fun _ => rfl, fun x v hv => by
  simp only [Ek, List.mem_cons, List.not_mem_nil, or_false] at hv
  rcases hv with rfl | rfl | rfl | rfl <;> rfl⟩
structure Me where
  k : Ky
  v : Int
  born : Nat
def Me.enc (e : Me) : MapEntry := { key := .agg (Ek e.k).toArray, val := .int .i8 e.v, born := e.born }
def mpO (es : List Me) (c : Nat) : Obj := .map (es.map Me.enc).toArray c
def getK (es : List Me) (k : Ky) : Int := ((es.find? (fun e => decide (k = e.k))).map (·.v)).getD 0
def putAt (v : Int) : List Me → Ky → List Me
  | [], _ => []
  | e :: es, k => if k = e.k then { e with v := v } :: es else e :: putAt v es k
theorem getK_nil (k : Ky) : getK [] k = 0 := rfl
theorem getK_cons (e : Me) (es : List Me) (k : Ky) : getK (e :: es) k = if k = e.k then e.v else getK es k := by
  unfold getK
  by_cases h : k = e.k <;> simp [List.find?_cons, h]
theorem getK_push {es : List Me} {k : Ky} (hn : ∀ e ∈ es, k ≠ e.k) (v : Int) (n : Nat) (j : Ky) : getK (es ++ [⟨k, v, n⟩]) j = if j = k then v else getK es j := by
  induction es with
  | nil => simp [getK_cons, getK_nil]
  | cons e es ih =>
    rw [List.cons_append, getK_cons, getK_cons, ih (fun e' h => hn e' (List.mem_cons_of_mem _ h))]
    by_cases h : j = k
    · subst h; rw [if_neg (hn e List.mem_cons_self)]; simp
    · simp [h]
theorem getK_put {es : List Me} {k : Ky} (h : ∃ e ∈ es, k = e.k) (v : Int) (j : Ky) : getK (putAt v es k) j = if j = k then v else getK es j := by
  induction es with
  | nil => obtain ⟨e, he, _⟩ := h; cases he
  | cons e es ih =>
    unfold putAt
    by_cases hk : k = e.k
    · rw [if_pos hk, getK_cons, getK_cons]
      by_cases hj : j = k
      · simp [hj, hk]
      · rw [if_neg (by simp; rw [← hk]; exact hj), if_neg hj, if_neg (by rw [← hk]; exact hj)]
    · rw [if_neg hk, getK_cons, getK_cons, ih (by
        obtain ⟨e', he, hk'⟩ := h
        rcases List.mem_cons.1 he with rfl | he
        · exact absurd hk' hk
        · exact ⟨e', he, hk'⟩)]
      by_cases hj : j = k
      · subst hj; rw [if_neg hk]; simp
      · simp [hj]
section
variable {P : Program} {κ : Cx} {Q : Pst} {L : Loc} {H H' : Hp} {ops : Array Oper} {rest : List Oper} {ty t t' : TypeId} {d : Nat} {pos : String} {af : Array Edge} {x y z : Operand}
theorem ky_fq {e : Nat} [TU P e (.int .i64)] [TG P e true] (w : World) (p q : Ky) : FQ P w 9998 (Ek p).toArray (Ek q).toArray [(e, 0), (e, 1), (e, 2), (e, 3)] (decide (p = q)) := by
  have h : FQ P w 9998 (Ek p).toArray (Ek q).toArray [(e, 0), (e, 1), (e, 2), (e, 3)] _ :=
    .int (j := .i64) (p := p.a) (q := q.a) rfl rfl (.int (j := .i64) (p := p.b) (q := q.b) rfl rfl (.int (j := .i64) (p := p.c) (q := q.c) rfl rfl (.int (j := .i64) (p := p.d) (q := q.d) rfl rfl .nil)))
  have e : (p.a == q.a && (p.b == q.b && (p.c == q.c && (p.d == q.d && true)))) = decide (p = q) := by
    cases p; cases q
    simp only [Ky.mk.injEq, Bool.and_true]
    rw [Bool.eq_iff_iff]
    simp
  rw [← e]; exact h
theorem ky_eq {e : Nat} [TU P e (.int .i64)] [TG P e true] [TQ P t [(e, 0), (e, 1), (e, 2), (e, 3)]] (w : World) (p q : Ky) : (Op.equal t (.agg (Ek p).toArray) (.agg (Ek q).toArray)).run P w = .ok (decide (p = q)) w := by
  have h : ∀ w, (Op.equalIn (9998 + 2) t (.agg (Ek p).toArray) (.agg (Ek q).toArray)).run P w = .ok (decide (p = q)) w := fun w => re_struct (ky_fq w p q)
  exact h w
theorem ky_struct {l : List (Nat × Nat)} [tq : TQ P t l] : ∃ fs : Array Field, P.underlying t = some (.struct fs) ∧ fs.toList.map (fun f => (f.type, f.offset)) = l := by
  have hq := tq.out
  cases hu : P.underlying t with
  | none => simp [hu] at hq
  | some D =>
    rw [hu] at hq
    cases D
    case struct fs =>
      simp only [Option.bind_some, fieldsOf] at hq
      split at hq
      case isFalse => cases hq
      case isTrue hc =>
        simp only [Option.some.injEq] at hq
        exact ⟨fs, rfl, hq⟩
    all_goals simp [fieldsOf] at hq
theorem forIn_ok {β : Type} {f : β → PUnit → Sem (ForInStep PUnit)} {w : World} : ∀ {l : List β}, (∀ x ∈ l, (f x ⟨⟩).run P w = .ok (.yield ⟨⟩) w) → (forIn (m := Sem) l PUnit.unit f).run P w = .ok ⟨⟩ w := by
  intro l
  induction l with
  | nil => intro _; simp
  | cons x l ih =>
    intro h
    rw [List.forIn_cons, Sem.run_bind, h x List.mem_cons_self, Result.andThen_ok]
    exact ih fun y hy => h y (List.mem_cons_of_mem _ hy)
theorem checkInt {e n : Nat} {b : Bool} {v : Value} [TU P e (.int .i64)] (w : World) : (Instr.checkKey b (n + 1) e v).run P w = .ok () w := by
  unfold Instr.checkKey
  rw [Sem.run_bind, run_u, Result.andThen_ok]
  cases v <;> simp
theorem ky_check {e : Nat} {b : Bool} [TU P e (.int .i64)] [TG P e true] [TQ P t [(e, 0), (e, 1), (e, 2), (e, 3)]] (w : World) (k : Ky) : (Instr.checkKey b 10000 t (.agg (Ek k).toArray)).run P w = .ok () w := by
  obtain ⟨fs, hu, hl⟩ := ky_struct (P := P) (t := t) (l := [(e, 0), (e, 1), (e, 2), (e, 3)])
  show (Instr.checkKey b (9998 + 2) t (.agg (Ek k).toArray)).run P w = .ok () w
  unfold Instr.checkKey
  rw [Sem.run_bind, run_underlying hu, Result.andThen_ok]
  simp only []
  rw [← Array.forIn_toList, Sem.run_bind]
  refine (congrArg (fun r => Result.andThen r _) (forIn_ok fun f hf => ?_)).trans (by simp)
  have hm : (f.type, f.offset) ∈ [(e, 0), (e, 1), (e, 2), (e, 3)] := by rw [← hl]; exact List.mem_map.2 ⟨f, hf, rfl⟩
  have hp : f.type = e ∧ ∃ v, (Ek k).toArray[f.offset]? = some v := by
    simp only [List.mem_cons, Prod.mk.injEq, List.not_mem_nil, or_false] at hm
    rcases hm with ⟨h1, h2⟩ | ⟨h1, h2⟩ | ⟨h1, h2⟩ | ⟨h1, h2⟩ <;> exact ⟨h1, by rw [h2]; exact ⟨_, rfl⟩⟩
  obtain ⟨h1, v, hv⟩ := hp
  rw [h1]
  have hpp := part_plain (P := P) (e := e) (w := w) hv
  split
  · simp only [Sem.run_bind, hpp, Result.andThen_ok, checkInt, Sem.run_pure]
  · simp
theorem find_ask {e : Nat} [TU P e (.int .i64)] [TG P e true] [TQ P t [(e, 0), (e, 1), (e, 2), (e, 3)]] (w : World) (k : Ky) : ∀ (es : List Me) (i : Nat), ∃ r, (Instr.findAsking t (.agg (Ek k).toArray) (es.map Me.enc) i).run P w = .ok r w ∧
    ((r = none ∧ ∀ e ∈ es, k ≠ e.k) ∨ ∃ j v, r = some (i + j, .int .i8 v) ∧ v = getK es k ∧ (∃ e, es[j]? = some e ∧ k = e.k) ∧ ∀ u, (es.map Me.enc).toArray.modify j (fun e => { e with val := .int .i8 u, key := .agg (Ek k).toArray }) = ((putAt u es k).map Me.enc).toArray) := by
  intro es
  induction es with
  | nil => intro i; exact ⟨none, by simp [Instr.findAsking], .inl ⟨rfl, fun e h => by cases h⟩⟩
  | cons e es ih =>
    intro i
    simp only [List.map_cons]
    unfold Instr.findAsking
    rw [Sem.run_bind]
    have he := ky_eq (P := P) (t := t) w k e.k
    rw [show e.enc.key = .agg (Ek e.k).toArray from rfl, he, Result.andThen_ok]
    by_cases h : k = e.k
    · refine ⟨some (i, .int .i8 e.v), by simp [h, Me.enc], .inr ⟨0, e.v, by simp, by rw [getK_cons, if_pos h], ⟨e, rfl, h⟩, fun u => ?_⟩⟩
      apply Array.ext'
      rw [Array.toList_modify]
      simp [putAt, h, Me.enc]
    · obtain ⟨r, hr, hc⟩ := ih (i + 1)
      refine ⟨r, by simp [h, hr], ?_⟩
      rcases hc with ⟨h1, h2⟩ | ⟨j, v, h1, h2, ⟨e', he', hk⟩, h4⟩
      · exact .inl ⟨h1, fun e' he' => by rcases List.mem_cons.1 he' with rfl | he'; exact h; exact h2 e' he'⟩
      · refine .inr ⟨j + 1, v, by rw [h1]; congr 2; omega, by rw [getK_cons, if_neg h, h2], ⟨e', by simpa using he', hk⟩, fun u => ?_⟩
        have := congrArg Array.toList (h4 u)
        rw [Array.toList_modify] at this
        apply Array.ext'
        rw [Array.toList_modify]
        simp only [putAt, if_neg h, List.map_cons, List.modify_succ_cons]
        rw [show (List.map Me.enc es).modify j _ = _ from this]
theorem find_key {e : Nat} [TU P e (.int .i64)] [TG P e true] [TQ P t [(e, 0), (e, 1), (e, 2), (e, 3)]] (w : World) (k : Ky) (es : List Me) : ∃ r, (Instr.findKey t (.agg (Ek k).toArray) (es.map Me.enc)).run P w = .ok r w ∧
    ((r = none ∧ ∀ e ∈ es, k ≠ e.k) ∨ ∃ j v, r = some (j, .int .i8 v) ∧ v = getK es k ∧ (∃ e, es[j]? = some e ∧ k = e.k) ∧ ∀ u, (es.map Me.enc).toArray.modify j (fun e => { e with val := .int .i8 u, key := .agg (Ek k).toArray }) = ((putAt u es k).map Me.enc).toArray) := by
  obtain ⟨fs, hu, hl⟩ := ky_struct (P := P) (t := t) (l := [(e, 0), (e, 1), (e, 2), (e, 3)])
  obtain ⟨r, hr, hc⟩ := find_ask (P := P) (t := t) w k es 0
  refine ⟨r, ?_, by simpa using hc⟩
  unfold Instr.findKey
  rw [Sem.run_bind, run_underlying hu, Result.andThen_ok]
  cases es with
  | nil =>
    simp only [List.map_nil, Instr.findNow]
    simpa [Instr.findAsking] using hr
  | cons e es =>
    have hn : Instr.findNow (.struct fs) (.agg (Ek k).toArray) ((e :: es).map Me.enc) 0 = none := by
      simp [Instr.findNow, Instr.sameNow]
    rw [hn]
    exact hr
theorem getK_none {es : List Me} {k : Ky} (h : ∀ e ∈ es, k ≠ e.k) : getK es k = 0 := by
  induction es with
  | nil => rfl
  | cons e es ih => rw [getK_cons, if_neg (h e List.mem_cons_self)]; exact ih fun e' he => h e' (List.mem_cons_of_mem _ he)
theorem run_getObj {w : World} {b c : Nat} {es : List Me} (h : w.heap[b]? = some (mpO es c)) : (getObj b).run P w = .ok (mpO es c) w := by
  simp [getObj, Sem.run, h, mpO]
theorem run_setObj {w : World} {b c : Nat} {es : List Me} (hb : w.heap[b]? = some (mpO es c)) (o : Obj) : (setObj b o).run P w = .ok () { w with heap := w.heap.setIfInBounds b o } := by
  simp [setObj, Sem.run, hb, mpO]
theorem s_look {kt vt e b c : Nat} {es : List Me} {k : Ky} [TU P t (.map kt vt)] [TU P e (.int .i64)] [TG P e true] [TQ P kt [(e, 0), (e, 1), (e, 2), (e, 3)]] [tz : TZ P vt (.int .i8 0)] (hx : ev L x = some (.map (some b))) (hy : ev L y = some (.agg (Ek k).toArray)) (hm : (b, mpO es c) ∈ H) :
    Step P κ (.lookup t x y false) ty L H (.int .i8 (getK es k)) :=
  ⟨fun ρ w d pos af g hρ st => by
    have ho := run_getObj (P := P) (st.has _ _ hm)
    obtain ⟨r, hr, hc⟩ := find_key (P := P) (t := kt) w k es
    have hck := fun b => ky_check (P := P) (t := kt) (b := b) w k
    have hl : (Instr.lookup t (.map (some b)) (.agg (Ek k).toArray) false).run P w = .ok (.int .i8 (getK es k)) w := by
      unfold Instr.lookup
      simp only [Sem.run_bind, run_u, Result.andThen_ok, ho, mpO, hck, Sem.run_pure]
      rw [hr]
      rcases hc with ⟨h1, h2⟩ | ⟨j, v, h1, h2, _⟩
      · subst h1
        rw [getK_none h2]
        simp [run_zero]
      · subst h1; subst h2
        simp
    simp [execOp, hρ _ _ hx, hρ _ _ hy, hl]⟩
theorem sameBits_ky (k : Ky) : Instr.sameBits 10000 (.agg (Ek k).toArray) (.agg (Ek k).toArray) = true := by
  show Instr.sameBits (9999 + 1) _ _ = true
  simp [Instr.sameBits, Ek]
theorem o_mset {kt vt e b c : Nat} {es : List Me} {k : Ky} {u : Int} {R : Hp} [TU P t (.map kt vt)] [TU P e (.int .i64)] [TG P e true] [TQ P kt [(e, 0), (e, 1), (e, 2), (e, 3)]] (hx : ev L x = some (.map (some b))) (hy : ev L y = some (.agg (Ek k).toArray)) (hz : ev L z = some (.int .i8 u))
    (hpk : Pick H [(b, mpO es c)] R) (h : ∀ es' c', (∀ j, getK es' j = if j = k then u else getK es j) → O P κ ops Q rest L ((b, mpO es' c') :: R)) : O P κ ops Q (⟨none, .mapUpdate t x y z, ty, pos, af, none⟩ :: rest) L H := by
  refine ⟨fun ro a w hro ok => op_want rfl ?_⟩
  have e1 := ok.fr.ev hx
  have e2 := ok.fr.ev hy
  have e3 := ok.fr.ev hz
  have st := ok.st.perm hpk.perm
  have ho := run_getObj (P := P) (st.has _ _ (List.mem_cons_self))
  obtain ⟨r, hr, hc⟩ := find_key (P := P) (t := kt) w k es
  have hck := fun b => ky_check (P := P) (t := kt) (b := b) w k
  have key : ∃ es' c', (Instr.mapUpdate t (.map (some b)) (.agg (Ek k).toArray) (.int .i8 u)).run P w = .ok () { w with heap := w.heap.setIfInBounds b (mpO es' c') } ∧ ∀ j, getK es' j = if j = k then u else getK es j := by
    rcases hc with ⟨h1, h2⟩ | ⟨j, v, h1, h2, ⟨e', he', hk⟩, h4⟩
    · refine ⟨es ++ [⟨k, u, c⟩], c + 1, ?_, fun j => getK_push h2 u c j⟩
      subst h1
      unfold Instr.mapUpdate
      simp only [Sem.run_bind, run_u, Result.andThen_ok, ho, mpO, hck, hr]
      have e9 : (List.map Me.enc es).toArray.push { key := .agg (Ek k).toArray, val := .int .i8 u, born := c } = (List.map Me.enc (es ++ [⟨k, u, c⟩])).toArray := by
        simp [Me.enc]
      exact e9 ▸ run_setObj (hb := st.has _ _ List.mem_cons_self) _
    · refine ⟨putAt u es k, c, ?_, fun i => getK_put ⟨e', List.mem_of_getElem? he', hk⟩ u i⟩
      subst h1
      unfold Instr.mapUpdate
      simp only [Sem.run_bind, run_u, Result.andThen_ok, ho, mpO, hck, hr]
      have e8 : ((Option.map (fun x => x.key) (List.map Me.enc es).toArray[j]?).getD (Value.agg (Ek k).toArray)) = .agg (Ek k).toArray := by
        rw [List.getElem?_toArray, List.getElem?_map, he']
        simp [Me.enc, hk]
      simp only [Instr.keyThatStays, e8, sameBits_ky, if_true, Sem.run_pure, Result.andThen_ok, h4]
      exact run_setObj (hb := st.has _ _ List.mem_cons_self) _
  obtain ⟨es', c', hrun, hg⟩ := key
  have : (execOp a.eval ⟨none, .mapUpdate t x y z, ty, pos, af, none⟩).run P w = .ok .skip { w with heap := w.heap.setIfInBounds b (mpO es' c') } := by
    simp [execOp, e1, e2, e3, hrun]
  exact op_skip this ((h es' c' hg).out ro _ _ hro.tail ⟨ok.fr, st.put rfl rfl rfl rfl⟩)
theorem o_mmap (hn : Nat.blt d κ.n = true) (h : ∀ b, O P κ ops Q rest ((d, .map (some b)) :: L) ((b, mpO [] 0) :: H)) : O P κ ops Q (⟨some d, .makeMap t none, ty, pos, af, none⟩ :: rest) L H :=
  o_gen (fun u H' => ∃ b, u = .map (some b) ∧ H' = (b, mpO [] 0) :: H) hn
    (fun ρ w pos af g hρ st => ⟨_, _, _, by simp [execOp, Instr.makeMap, newObj, Sem.run, mpO], ⟨_, rfl, rfl⟩, st.alloc _⟩)
    (fun u H' ⟨b, hu, hH⟩ => by subst hu; subst hH; exact h b)
end
end Go.HL
