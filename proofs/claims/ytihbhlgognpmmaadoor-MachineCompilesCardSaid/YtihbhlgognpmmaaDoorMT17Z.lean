/- What Ends answers. Conditions: none. -/
import Derived.Test.YtihbhlgognpmmaaDoorDW12Z
import Derived.Test.YtihbhlgognpmmaaDoorMT9Z
import Derived.Test.YtihbhlgognpmmaaDoorMT20Z
import Derived.Test.YtihbhlgognpmmaaDoorHlB
import Derived.Test.YtihbhlgognpmmaaDoorMC1Z
import Derived.Test.YtihbhlgognpmmaaDoorMT3Z
import Derived.Test.YtihbhlgognpmmaaDoorDF1
namespace Go.HL.Kl.Mc
open Go Go.HL Go.HL.Kl
theorem runN_in {m : List In} {w : List UInt8} {n : Nat} {c c' : Nat × Nat} (h : RunN m w n c c') (hc : c.2 ≤ w.length) : c'.2 ≤ w.length := by
  induction h with
  | zero => exact hc
  | @step n c c' c'' s _ ih =>
    refine ih ?_
    obtain ⟨i, p⟩ := c; obtain ⟨j, q⟩ := c'
    rcases stp_iff.1 s with ⟨h, _⟩ | ⟨h, _, t, b, _, _, hb, _⟩
    · simp only at hc ⊢; omega
    · have := (List.getElem?_eq_some_iff.1 hb).1
      simp only; omega
theorem hit_in {m : List In} {w : List UInt8} {f p : Nat} (h : Hit m w f p) (hf : f ≤ w.length) : f ≤ p ∧ p ≤ w.length := by
  obtain ⟨i, t, ⟨n, h⟩, _⟩ := h
  exact ⟨runN_le h, runN_in h hf⟩
/-- the answer -/
def EndsP (m : List In) (w : List UInt8) (f : Int) (out : List Bool) : Prop := out.length = w.length + 1 ∧ ∀ t : Nat, out[t]? = some true ↔ MOk m ∧ ∃ g : Nat, f = g ∧ g ≤ w.length ∧ Hit m w g t
theorem no_true {n t : Nat} : ¬ (List.replicate n false)[t]? = some true := by
  intro h
  have := List.mem_of_getElem? h
  simp at this
theorem EndsP.no {m : List In} {w : List UInt8} {f : Int} (h : f < 0 ∨ f > w.length ∨ ¬ MOk m) : EndsP m w f (List.replicate (w.length + 1) false) :=
  ⟨by simp, fun t => ⟨fun h1 => absurd h1 no_true, fun ⟨h1, g, h2, h3, _⟩ => by rcases h with h | h | h; (· omega); (· omega); exact absurd h1 h⟩⟩
theorem EndsP.yes {m : List In} {w : List UInt8} {g : Nat} {out : List Bool} (hM : MOk m) (hg : g ≤ w.length) (hl : out.length = w.length + 1) (h : ∀ t : Nat, out[t]? = some true ↔ t < w.length + 1 ∧ Hit m w g t) : EndsP m w g out :=
  ⟨hl, fun t => (h t).trans ⟨fun h1 => ⟨hM, g, rfl, hg, h1.2⟩, fun ⟨_, g', h2, h3, h4⟩ => by
    obtain rfl : g = g' := by omega
    exact ⟨by have := (hit_in h4 hg).2; omega, h4⟩⟩⟩
theorem ends_start {m : List In} {w : List UInt8} {g n t : Nat} : (List.replicate n false)[t]? = some true ↔ t < g ∧ Hit m w g t :=
  ⟨fun h => absurd h no_true, fun ⟨h1, i, u, ⟨n, h2⟩, _⟩ => by have := runN_le h2; simp only at this; omega⟩
theorem ends_end {m : List In} {w : List UInt8} {g p t : Nat} (hg : g ≤ p) (hgw : g ≤ w.length) (hp : p ≤ w.length + 1) (hn : p = w.length + 1 ∨ ∀ j, ¬ Begn m w g p j) : (t < p ∧ Hit m w g t) ↔ (t < w.length + 1 ∧ Hit m w g t) := by
  constructor
  · exact fun ⟨h1, h2⟩ => ⟨by omega, h2⟩
  · rintro ⟨h1, h2⟩
    rcases hn with rfl | hn
    · exact ⟨h1, h2⟩
    · refine ⟨Nat.lt_of_not_le fun h => ?_, h2⟩
      obtain ⟨i, u, h3, _⟩ := h2
      exact start_none hg hn (t - p) i (by rwa [show p + (t - p) = t by omega])
/-- what reach has seen of the first k begun steps -/
def SeenP (m : List In) (w : List UInt8) (p : Nat) (q : List Nat) (k : Nat) (sn : List Bool) : Prop :=
  sn.length = m.length ∧ (∀ i : Nat, sn[i]? = some true ↔ ∃ t j : Nat, t < k ∧ q[t]? = some j ∧ EpsS m w.length p j i) ∧ ∀ i j : Nat, sn[i]? = some true → Eps m w.length p i j → sn[j]? = some true
theorem SeenP.start {m : List In} {w : List UInt8} {p : Nat} {q : List Nat} : SeenP m w p q 0 (List.replicate m.length false) :=
  ⟨by simp, fun i => ⟨fun h => absurd h no_true, fun ⟨_, _, h, _⟩ => by omega⟩, fun i j h => absurd h no_true⟩
theorem SeenP.step {m : List In} {w : List UInt8} {p k j : Nat} {q : List Nat} {sn s2 : List Bool} (h : SeenP m w p q k sn) (hj : q[k]? = some j) (hl : s2.length = m.length) (h2 : ∀ i : Nat, s2[i]? = some true ↔ sn[i]? = some true ∨ EpsS m w.length p j i) (h3 : ∀ i j : Nat, s2[i]? = some true → Eps m w.length p i j → s2[j]? = some true) : SeenP m w p q (k + 1) s2 := by
  refine ⟨hl, fun i => ?_, h3⟩
  rw [h2, h.2.1]
  constructor
  · rintro (⟨t, u, h4, h5, h6⟩ | h4)
    · exact ⟨t, u, by omega, h5, h6⟩
    · exact ⟨k, j, by omega, hj, h4⟩
  · rintro ⟨t, u, h4, h5, h6⟩
    rcases Nat.lt_or_ge t k with h7 | h7
    · exact .inl ⟨t, u, h7, h5, h6⟩
    · obtain rfl : t = k := by omega
      rw [hj] at h5; cases h5
      exact .inr h6
theorem SeenP.run {m : List In} {w : List UInt8} {g p i : Nat} {q : List Nat} {sn : List Bool} (hg : g ≤ p) (hq : ∀ j, j ∈ q ↔ Begn m w g p j) (h : SeenP m w p q q.length sn) : sn[i]? = some true ↔ Run m w (0, g) (i, p) := by
  rw [h.2.1, run_start hg]
  constructor
  · rintro ⟨t, j, _, h2, h3⟩
    exact ⟨j, (hq j).1 (List.mem_of_getElem? h2), h3⟩
  · rintro ⟨j, h2, h3⟩
    obtain ⟨t, h4⟩ := List.getElem?_of_mem ((hq j).2 h2)
    exact ⟨t, j, (List.getElem?_eq_some_iff.1 h4).1, h4, h3⟩
/-- the second pass over the first k steps -/
structure PassP (m : List In) (w : List UInt8) (p : Nat) (sn out : List Bool) (k : Nat) (o2 : List Bool) (q2 : List Nat) : Prop where
  len : o2.length = out.length
  st : ∀ j, j ∈ q2 ↔ ∃ i, i < k ∧ j = i + 1 ∧ sn[i]? = some true ∧ Eat m w i p
  out : ∀ t : Nat, o2[t]? = some true ↔ out[t]? = some true ∨ (t = p ∧ ∃ i u, i < k ∧ sn[i]? = some true ∧ m[i]? = some u ∧ u.op = 6)
  le : q2.length ≤ k
theorem PassP.start {m : List In} {w : List UInt8} {p : Nat} {sn out : List Bool} : PassP m w p sn out 0 out [] :=
  ⟨rfl, fun j => ⟨fun h => (by cases h), fun ⟨_, h, _⟩ => by omega⟩, fun t => ⟨.inl, fun h => h.elim id fun h => by obtain ⟨_, _, _, h, _⟩ := h; omega⟩, Nat.le_refl _⟩
theorem PassP.next {m : List In} {w : List UInt8} {g p : Nat} {sn out o2 : List Bool} {q q2 : List Nat} (hg : g ≤ p) (hq : ∀ j, j ∈ q ↔ Begn m w g p j) (hs : SeenP m w p q q.length sn) (h : PassP m w p sn out m.length o2 q2) : ∀ j, j ∈ q2 ↔ Begn m w g (p + 1) j := by
  intro j
  rw [h.st]
  constructor
  · rintro ⟨i, _, rfl, h3, h4⟩
    exact .inr ⟨by omega, i, rfl, (hs.run hg hq).1 h3, h4⟩
  · rintro (⟨h1, _⟩ | ⟨_, i, rfl, h3, h4⟩)
    · omega
    · obtain ⟨t, b, h5, _⟩ := id h4
      exact ⟨i, (List.getElem?_eq_some_iff.1 h5).1, rfl, (hs.run hg hq).2 h3, h4⟩
theorem PassP.hits {m : List In} {w : List UInt8} {g p : Nat} {sn out o2 : List Bool} {q q2 : List Nat} (hg : g ≤ p) (hq : ∀ j, j ∈ q ↔ Begn m w g p j) (hs : SeenP m w p q q.length sn) (ho : ∀ t : Nat, out[t]? = some true ↔ t < p ∧ Hit m w g t) (h : PassP m w p sn out m.length o2 q2) : ∀ t : Nat, o2[t]? = some true ↔ t < p + 1 ∧ Hit m w g t := by
  intro t
  rw [h.out, ho]
  constructor
  · rintro (⟨h1, h2⟩ | ⟨rfl, i, u, _, h2, h3, h4⟩)
    · exact ⟨by omega, h2⟩
    · exact ⟨by omega, i, u, (hs.run hg hq).1 h2, h3, h4⟩
  · rintro ⟨h1, h2⟩
    rcases Nat.lt_or_ge t p with h3 | h3
    · exact .inl ⟨h3, h2⟩
    · obtain rfl : t = p := by omega
      obtain ⟨i, u, h4, h5, h6⟩ := h2
      exact .inr ⟨rfl, i, u, (List.getElem?_eq_some_iff.1 h5).1, (hs.run hg hq).2 h4, h5, h6⟩
theorem PassP.skip {m : List In} {w : List UInt8} {p k : Nat} {sn out o2 : List Bool} {q2 : List Nat} (h : PassP m w p sn out k o2 q2) (hn : sn[k]? = some true → ¬ Eat m w k p ∧ ∀ u, m[k]? = some u → u.op ≠ 6) : PassP m w p sn out (k + 1) o2 q2 := by
  refine ⟨h.len, fun j => ?_, fun t => ?_, by have := h.le; omega⟩
  · rw [h.st]
    constructor
    · rintro ⟨i, h1, h2⟩; exact ⟨i, by omega, h2⟩
    · rintro ⟨i, h1, h2, h3, h4⟩
      rcases Nat.lt_or_ge i k with h5 | h5
      · exact ⟨i, h5, h2, h3, h4⟩
      · obtain rfl : i = k := by omega
        exact absurd h4 (hn h3).1
  · rw [h.out]
    refine or_congr_right (and_congr_right fun _ => ?_)
    constructor
    · rintro ⟨i, u, h1, h2⟩; exact ⟨i, u, by omega, h2⟩
    · rintro ⟨i, u, h1, h2, h3, h4⟩
      rcases Nat.lt_or_ge i k with h5 | h5
      · exact ⟨i, u, h5, h2, h3, h4⟩
      · obtain rfl : i = k := by omega
        exact absurd h4 ((hn h2).2 u h3)
theorem PassP.eat {m : List In} {w : List UInt8} {p k : Nat} {sn out o2 : List Bool} {q2 : List Nat} (h : PassP m w p sn out k o2 q2) (hs : sn[k]? = some true) (he : Eat m w k p) : PassP m w p sn out (k + 1) o2 (q2 ++ [k + 1]) := by
  refine ⟨h.len, fun j => ?_, fun t => ?_, by have := h.le; simp; omega⟩
  · rw [List.mem_append, h.st, List.mem_singleton]
    constructor
    · rintro (⟨i, h1, h2⟩ | rfl)
      · exact ⟨i, by omega, h2⟩
      · exact ⟨k, by omega, rfl, hs, he⟩
    · rintro ⟨i, h1, h2, h3, h4⟩
      rcases Nat.lt_or_ge i k with h5 | h5
      · exact .inl ⟨i, h5, h2, h3, h4⟩
      · obtain rfl : i = k := by omega
        exact .inr h2
  · rw [h.out]
    refine or_congr_right (and_congr_right fun _ => ?_)
    constructor
    · rintro ⟨i, u, h1, h2⟩; exact ⟨i, u, by omega, h2⟩
    · rintro ⟨i, u, h1, h2, h3, h4⟩
      rcases Nat.lt_or_ge i k with h5 | h5
      · exact ⟨i, u, h5, h2, h3, h4⟩
      · obtain rfl : i = k := by omega
        obtain ⟨t', b, h6, h7, _⟩ := he
        rw [h3] at h6; cases h6; omega
theorem PassP.done {m : List In} {w : List UInt8} {p k : Nat} {sn out o2 : List Bool} {q2 : List Nat} {u : In} (h : PassP m w p sn out k o2 q2) (hs : sn[k]? = some true) (hu : m[k]? = some u) (ho : u.op = 6) (hp : p < o2.length) : PassP m w p sn out (k + 1) (o2.set p true) q2 := by
  refine ⟨by rw [List.length_set]; exact h.len, fun j => ?_, fun t => ?_, by have := h.le; omega⟩
  · rw [h.st]
    constructor
    · rintro ⟨i, h1, h2⟩; exact ⟨i, by omega, h2⟩
    · rintro ⟨i, h1, h2, h3, h4⟩
      rcases Nat.lt_or_ge i k with h5 | h5
      · exact ⟨i, h5, h2, h3, h4⟩
      · obtain rfl : i = k := by omega
        obtain ⟨t', b, h6, h7, _⟩ := h4
        rw [hu] at h6; cases h6; omega
  · rw [List.getElem?_set]
    by_cases hpt : p = t
    · subst hpt
      rw [if_pos rfl, if_pos hp]
      exact ⟨fun _ => .inr ⟨rfl, k, u, by omega, hs, hu, ho⟩, fun _ => rfl⟩
    · rw [if_neg hpt, h.out]
      exact or_congr_right ⟨fun h1 => absurd h1.1.symm hpt, fun h1 => absurd h1.1.symm hpt⟩
/-- the answer of Ends: memory of its own -/
def EndsC (m : List In) (w : List UInt8) (f : Int) (v : Value) (S : Hp) : Prop := ∃ (a : Option Addr) (c : Nat) (out : List Bool), v = .slice a (w.length + 1) c ∧ OwnS Ebo 1 4 v out S ∧ EndsP m w f out
theorem EndsC.of {m : List In} {w : List UInt8} {f : Int} {a : Option Addr} {c : Nat} {out : List Bool} {S : Hp} (h : OwnS Ebo 1 4 (.slice a (w.length + 1) c) out S) (hE : EndsP m w f out) : EndsC m w f (.slice a (w.length + 1) c) S := ⟨a, c, out, rfl, h, hE⟩
theorem eat_iff {m : List In} {w : List UInt8} {k p : Nat} {u : In} {y : UInt8} (hu : m[k]? = some u) (h1 : u.op = 1) (hy : w[p]? = some y) : Eat m w k p ↔ u.set.getLsbD y.toNat = true :=
  ⟨fun ⟨t, b, e1, _, e3, e4⟩ => by rw [hu] at e1; rw [hy] at e3; cases e1; cases e3; exact e4, fun h => ⟨u, y, hu, h1, hy, h⟩⟩
theorem eat_no1 {m : List In} {w : List UInt8} {k p : Nat} {u : In} (hu : m[k]? = some u) (h1 : ¬ u.op = 1) : ¬ Eat m w k p := fun ⟨t, b, e1, e2, _⟩ => by rw [hu] at e1; cases e1; exact h1 e2
theorem eat_noP {m : List In} {w : List UInt8} {k p : Nat} (h : ¬ p < w.length) : ¬ Eat m w k p := fun ⟨t, b, _, _, e, _⟩ => h (List.getElem?_eq_some_iff.1 e).1
theorem skip6 {m : List In} {k : Nat} {u : In} (hu : m[k]? = some u) (h : ¬ u.op = 6) : ∀ v, m[k]? = some v → v.op ≠ 6 := fun v e => by rw [hu] at e; cases e; exact h
end Go.HL.Kl.Mc

/- The known run: the machine of a* over aab. Conditions: none. -/
namespace Go.HL.Kl.Mc
open Go Go.HL Go.HL.Kl
def starN : Nd := ⟨6, 0, 0, 0, -1, 1⟩
def reW : List Nd := [starN, letN 97]
def ksW : F := .nd (letN 97) .nil .nil
def mW : List In := mach (.nd starN ksW .nil)
theorem let_ok : ndOk (letN 97) = true := by decide +kernel
theorem wfW : (F.nd starN ksW .nil).wf := ⟨by decide +kernel, rfl, ⟨let_ok, rfl, trivial, trivial⟩, trivial⟩
theorem shpW : Shp reW starN ksW := ⟨wfW, rfl, by decide, by decide +kernel⟩
theorem shapedW : shapedB reW = true := shapedB_iff.2 ⟨⟨[], by decide +kernel⟩, _, _, shpW⟩
theorem refsW : refsB reW = false := refs_no fun j x hj hx h8 => by
  have := List.mem_of_getElem? hx
  rcases List.mem_cons.1 this with rfl | this
  · cases h8
  · rcases List.mem_cons.1 this with rfl | this
    · cases h8
    · cases this
theorem Shp.uniq {re : List Nd} {x y : Nd} {ks js : F} (h : Shp re x ks) (h' : Shp re y js) : x = y ∧ ks = js := by
  have := flat_inj (.nd x ks .nil) (.nd y js .nil) [] [] h.wf h'.wf rfl (by simp only [F.flat, List.append_nil]; rw [← h.flat, ← h'.flat])
  simpa using this.1
theorem mokW : MOk mW := mach_ok wfW (by decide +kernel)
theorem compW {v : Value} {S : Hp} (h : CompP reW v S) : ∃ a, v = .tuple #[.slice a mW.length mW.length, .int .i64 0] ∧ RdS Ein (.slice a mW.length mW.length) mW S := by
  cases h with
  | shape hs => rw [shapedW] at hs; cases hs
  | ref _ hr => rw [refsW] at hr; cases hr
  | ok _ _ h hv hm =>
    obtain ⟨rfl, rfl⟩ := h.uniq shpW
    exact ⟨_, hv, hm⟩
theorem MOk.rng {m : List In} (h : MOk m) : ∀ t ∈ m, -128 ≤ t.op ∧ t.op < 128 := fun t ht => by
  obtain ⟨i, hi⟩ := List.getElem?_of_mem ht
  have := (h.2.2 i t hi).1.1
  omega
def wW : List UInt8 := [97, 97, 98]
theorem derW {p q : Nat} : der wW (.nd starN ksW .nil) false p q ↔ ∃ k, pow (fun p q => q = p + 1 ∧ wW[p]? = some 97) k p q := by
  have h1 : ∀ p q, der wW ksW false p q ↔ (q = p + 1 ∧ wW[p]? = some 97) := by
    intro p q
    have : der wW ksW false p q ↔ ∃ t, (t = p + 1 ∧ ∃ b, wW[p]? = some b ∧ (letN 97).set.getLsbD b.toNat = true) ∧ (false = false ∧ t = q) := Iff.rfl
    rw [this]
    constructor
    · rintro ⟨t, ⟨rfl, b, hb, hs⟩, _, rfl⟩
      refine ⟨rfl, ?_⟩
      rw [show (letN 97).set = bit (97 : UInt8).toNat from rfl, bit_get b.toNat_lt, decide_eq_true_eq] at hs
      rw [hb, UInt8.toNat_inj.1 hs]
    · rintro ⟨rfl, h⟩
      exact ⟨_, ⟨rfl, 97, h, by decide +kernel⟩, rfl, rfl⟩
  have h2 : der wW (.nd starN ksW .nil) false p q ↔ ∃ t, rounds starN (der wW ksW false) p t ∧ (false = false ∧ t = q) := Iff.rfl
  have h3 : (der wW ksW false) = fun p q => q = p + 1 ∧ wW[p]? = some 97 := by funext p q; exact propext (h1 p q)
  rw [h2, h3]
  constructor
  · rintro ⟨t, ⟨k, _, _, h⟩, _, rfl⟩; exact ⟨k, h⟩
  · rintro ⟨k, h⟩; exact ⟨q, ⟨k, Int.natCast_nonneg k, .inl rfl, h⟩, rfl, rfl⟩
theorem powW : ∀ {k p q : Nat}, pow (fun p q => q = p + 1 ∧ wW[p]? = some 97) k p q → q = p ∨ q ≤ 2
  | 0, p, q, h => .inl h.symm
  | k + 1, p, q, ⟨m, ⟨h1, h2⟩, h3⟩ => by
    have hp : p < 2 := by
      rcases Nat.lt_or_ge p 2 with h | h
      · exact h
      · rcases Nat.eq_or_lt_of_le h with h | h
        · subst h; cases h2
        · have : wW.length = 3 := rfl
          have := (List.getElem?_eq_some_iff.1 h2).1
          obtain rfl : p = 2 := by omega
          omega
    rcases powW h3 with h | h <;> omega
theorem endsW {out : List Bool} (h : EndsP mW wW (0 : Int) out) : out[0]? = some true ∧ out[1]? = some true ∧ out[2]? = some true ∧ out[3]? = some false := by
  have hy : ∀ t : Nat, (∃ k, pow (fun p q => q = p + 1 ∧ wW[p]? = some 97) k 0 t) → out[t]? = some true := fun t hk => (h.2 t).2 ⟨mokW, 0, rfl, by decide, (mach_hit wfW).2 (derW.2 hk)⟩
  refine ⟨hy 0 ⟨0, rfl⟩, hy 1 ⟨1, 1, ⟨rfl, rfl⟩, rfl⟩, hy 2 ⟨2, 1, ⟨rfl, rfl⟩, 2, ⟨rfl, rfl⟩, rfl⟩, ?_⟩
  have hl : out.length = 4 := h.1
  rw [List.getElem?_eq_getElem (by omega)]
  cases hb : out[3]'(by omega) with
  | false => rfl
  | true =>
    obtain ⟨_, g, hg, _, hh⟩ := (h.2 3).1 (by rw [List.getElem?_eq_getElem (by omega), hb])
    obtain rfl : g = 0 := by omega
    obtain ⟨k, hk⟩ := derW.1 ((mach_hit wfW).1 hh)
    rcases powW hk with h | h <;> omega
theorem reW_rng : ∀ x ∈ reW, -128 ≤ x.op ∧ x.op < 128 := fun x hx => by
  rcases List.mem_cons.1 hx with rfl | hx
  · decide
  · rcases List.mem_cons.1 hx with rfl | hx
    · exact ⟨by decide, by decide⟩
    · cases hx
theorem En_star : En starN = [.int .i8 6, .int .u64 0, .int .u64 0, .int .u64 0, .int .u64 0, .int .i64 0, .int .i64 0, .int .i64 (-1), .int .i64 1] := by
  show _ :: (Ec 0#256 ++ _) = _
  rw [Ec_zero]; rfl
attribute [irreducible] mW
end Go.HL.Kl.Mc

/- Runs and derivations lead to the same places. Conditions: none. -/
namespace Go.HL.Kl.Mc
open Go Go.HL Go.HL.Kl
theorem ends_isS {x : Nd} {ks : F} {w : List UInt8} {p : Nat} {out : List Bool} (hw : (F.nd x ks .nil).wf) (hM : MOk (mach (.nd x ks .nil))) (hp : p ≤ w.length) (h : EndsP (mach (.nd x ks .nil)) w (p : Int) out) : IsS out w.length (der1 w x ks p) :=
  ⟨h.1, fun q _ => (h.2 q).trans ⟨fun ⟨_, g, hg, _, hh⟩ => by
    obtain rfl : p = g := by omega
    exact (mach_hit hw).1 hh, fun hd => ⟨hM, p, rfl, hp, (mach_hit hw).2 hd⟩⟩⟩
theorem no_refs {re : List Nd} (hs : shapedB re = true) (hr : refsB re = false) : ∀ x ∈ re, ¬ x.op = 8 := fun x hx h8 => by rw [refs_yes hs hx h8] at hr; cases hr
theorem Shp.mok {re : List Nd} {x : Nd} {ks : F} (h : Shp re x ks) : MOk (mach (.nd x ks .nil)) := mach_ok h.wf h.weight
end Go.HL.Kl.Mc

/- What the reference's code answers: so many instructions. Conditions: none. -/
namespace Go.HL.Kl.Mc
open Go Go.HL Go.HL.Kl
/-- an answer: a list of its own of so many instructions -/
def CodeP (T n : Nat) (v : Value) (S' : Hp) : Prop := ∃ (a : Option Addr) (c : Nat) (m : List In), v = .slice a m.length c ∧ m.length = n ∧ OwnS Ein 7 T (.slice a m.length c) m S'
theorem CodeP.of {T n c : Nat} {a : Option Addr} {m : List In} {S : Hp} (h : OwnS Ein 7 T (.slice a m.length c) m S) (hn : m.length = n) : CodeP T n (.slice a m.length c) S := ⟨a, c, m, rfl, hn, h⟩
theorem CodeP.of2 {T N n c : Nat} {a : Option Addr} {m : List In} {S : Hp} (h : OwnS Ein 7 T (.slice a n c) m S) (hl : m.length = n) (hn : n = N) : CodeP T N (.slice a n c) S := by subst hl; exact .of h hn
/-- the contract of code, of sides -/
def CodeC (P : Program) (fn T : Nat) (x : Nd) (ks : F) : Prop := ∀ (ma : Option Addr) (mc : Nat) (m : List In) (Sm : Hp) (ra : Option Addr) (rc : Nat) (re : List Nd) (i i1 : Nat), (∀ x ∈ re, -128 ≤ x.op ∧ x.op < 128) → (∀ x ∈ re, ¬ x.op = 8) → re.length ≤ 1000000 → Part re (.nd x ks .nil) i i1 → OwnS Ein 7 T (.slice ma m.length mc) m Sm → m.length + lenT x ks ≤ 70000 →
  Fn P fn [.slice ma m.length mc, .slice ra re.length rc, .int .i64 i] (fun W => Rd En W (.slice ra re.length rc) re ∧ Apart (keys Sm) (.slice ra re.length rc)) Sm (CodeP T (m.length + lenT x ks))
theorem lenM_true (y : Nd) (js r : F) (h : r ≠ .nil) : lenM (.nd y js r) true = lenT y js + 2 + lenM r true := by
  cases r with
  | nil => exact absurd rfl h
  | nd z a b => exact lenM_more y js z a b
theorem F.num_pos {r : F} (h : 0 < r.num) : r ≠ .nil := fun e => by subst e; simp [F.num] at h
theorem lenT_7 {x y : Nd} {js : F} (h7 : x.op = 7) : lenT x (.nd y js .nil) = lenT y js := by
  rw [lenT_c (by omega) (by omega) (by omega) (by omega) (by omega), lenM_cat]; simp [lenM]
theorem lenM_one (y : Nd) (js : F) : lenM (.nd y js .nil) false = lenT y js := by rw [lenM_cat]; simp [lenM]
theorem mul_step {j n L : Nat} (h : j < n) : j * L + L ≤ n * L := by rw [← Nat.succ_mul]; exact Nat.mul_le_mul_right _ h
theorem rep_len {x : Nd} {ks : F} (h6 : x.op = 6) : lenT x ks = x.mn.toNat * lenM ks false + (if x.mx = -1 then lenM ks false + 2 else (x.mx - x.mn).toNat * (lenM ks false + 1)) := lenT_6 h6
end Go.HL.Kl.Mc

/- Nodes, instructions and their lists as they come in. Conditions: none. -/
namespace Go.HL.Kl.Mc
open Go Go.HL Go.HL.Kl Go.RowKit Go.ChangeShapes Go.WideShapes Go.ChangeAt
def Ew1 (w : BitVec 64) : List Value := [Ew w]
instance : Enc Ew1 1 := ⟨fun _ => rfl, fun _ v hv => by simp [Ew1, Ew] at hv; subst hv; rfl⟩
theorem open_u64 {P : Program} {t : TypeId} (ht : P.underlying t = some (.int .u64)) : Opens P t Ew1 (fun _ _ => True) := by
  refine ⟨fun enc w fuel cs x h _ => ?_⟩
  obtain ⟨n, rfl, _, hw⟩ := DataW.trod_int ht h
  have hb : 0 ≤ n ∧ n ≤ 18446744073709551615 := by
    simp only [Lit.wf] at hw
    simpa [IntKind.min, IntKind.max, IntKind.signed, IntKind.bits] using hw
  refine ⟨BitVec.ofNat 64 n.toNat, ?_, trivial⟩
  have e : (BitVec.ofNat 64 n.toNat).toNat = n.toNat := by
    rw [BitVec.toNat_ofNat]
    exact Nat.mod_eq_of_lt (by rw [show (2 : Nat) ^ 64 = 18446744073709551616 from by decide]; omega)
  simp only [Ew1, Ew, e, List.cons.injEq, Value.int.injEq, true_and, and_true]
  omega
def mk4 (a b c d : BitVec 64) : Cl := setw (setw (setw (setw 0 0 a) 1 b) 2 c) 3 d
theorem mk4_wd (a b c d : BitVec 64) : Ec (mk4 a b c d) = [Ew a, Ew b, Ew c, Ew d] := by
  simp [Ec, mk4, wd_setw]
theorem open_cl {P : Program} {t e : TypeId} (ht : P.underlying t = some (.array 4 e)) (he : P.underlying e = some (.int .u64)) (hk : P.cellsOf e = 1) (hc : P.cellsOf t = 4) : Opens P t Ec (fun _ _ => True) := by
  refine ⟨fun enc w fuel cs x h hw => ?_⟩
  obtain ⟨xs, rfl, hl, _⟩ := (open_array ht hk (by rw [hc]) (open_u64 he)).out enc w fuel cs x h hw
  match xs, hl with
  | [a, b, c, d], _ => exact ⟨mk4 a b c d, by rw [mk4_wd]; rfl, trivial⟩
def Ei8 (n : Int) : List Value := [.int .i8 n]
instance : Enc Ei8 1 := ⟨fun _ => rfl, fun _ _ h => by simp [Ei8] at h; subst h; rfl⟩
theorem open_i8 {P : Program} {t : TypeId} (ht : P.underlying t = some (.int .i8)) : Opens P t Ei8 (fun _ n => -128 ≤ n ∧ n < 128) := by
  refine ⟨fun enc w fuel cs x h _ => ?_⟩
  obtain ⟨n, rfl, _, hw⟩ := DataW.trod_int ht h
  refine ⟨n, rfl, ?_⟩
  simp only [Lit.wf] at hw
  have : -128 ≤ n ∧ n ≤ 127 := by simpa [IntKind.min, IntKind.max, IntKind.signed, IntKind.bits] using hw
  omega
theorem open_struct6 {P : Program} {t : TypeId} {f0 f1 f2 f3 f4 f5 : Field} {α0 α1 α2 α3 α4 α5 γ : Type} {E0 : α0 → List Value} {E1 : α1 → List Value} {E2 : α2 → List Value} {E3 : α3 → List Value} {E4 : α4 → List Value} {E5 : α5 → List Value} {E : γ → List Value} {M0 : World → α0 → Prop} {M1 : World → α1 → Prop} {M2 : World → α2 → Prop} {M3 : World → α3 → Prop} {M4 : World → α4 → Prop} {M5 : World → α5 → Prop} {Mem : World → γ → Prop}
    (ht : P.underlying t = some (.struct #[f0, f1, f2, f3, f4, f5])) (h0 : f0.offset = 0) (h1 : f1.offset = P.cellsOf f0.type) (h2 : f2.offset = P.cellsOf f0.type + P.cellsOf f1.type) (h3 : f3.offset = P.cellsOf f0.type + P.cellsOf f1.type + P.cellsOf f2.type)
    (h4 : f4.offset = P.cellsOf f0.type + P.cellsOf f1.type + P.cellsOf f2.type + P.cellsOf f3.type) (h5 : f5.offset = P.cellsOf f0.type + P.cellsOf f1.type + P.cellsOf f2.type + P.cellsOf f3.type + P.cellsOf f4.type) (hc : P.cellsOf t = P.cellsOf f0.type + P.cellsOf f1.type + P.cellsOf f2.type + P.cellsOf f3.type + P.cellsOf f4.type + P.cellsOf f5.type)
    (o0 : Opens P f0.type E0 M0) (o1 : Opens P f1.type E1 M1) (o2 : Opens P f2.type E2 M2) (o3 : Opens P f3.type E3 M3) (o4 : Opens P f4.type E4 M4) (o5 : Opens P f5.type E5 M5) (mk : ∀ w a b c d e f, M0 w a → M1 w b → M2 w c → M3 w d → M4 w e → M5 w f → ∃ z, E z = E0 a ++ (E1 b ++ (E2 c ++ (E3 d ++ (E4 e ++ E5 f)))) ∧ Mem w z) : Opens P t E Mem := by
  refine ⟨fun enc w fuel cs x h hw => ?_⟩
  obtain ⟨hl, n, hf⟩ := trod_fields ht h hw
  obtain ⟨y0, e0, w0⟩ := hf 0 f0 rfl
  obtain ⟨y1, e1, w1⟩ := hf 1 f1 rfl
  obtain ⟨y2, e2, w2⟩ := hf 2 f2 rfl
  obtain ⟨y3, e3, w3⟩ := hf 3 f3 rfl
  obtain ⟨y4, e4, w4⟩ := hf 4 f4 rfl
  obtain ⟨y5, e5, w5⟩ := hf 5 f5 rfl
  obtain ⟨a, ha, ma⟩ := o0.out enc w _ _ _ e0 w0
  obtain ⟨b, hb, mb⟩ := o1.out enc w _ _ _ e1 w1
  obtain ⟨c, hcc, mc⟩ := o2.out enc w _ _ _ e2 w2
  obtain ⟨d, hd, md⟩ := o3.out enc w _ _ _ e3 w3
  obtain ⟨e, he, me⟩ := o4.out enc w _ _ _ e4 w4
  obtain ⟨f, hff, mf⟩ := o5.out enc w _ _ _ e5 w5
  obtain ⟨z, hz, hm⟩ := mk w a b c d e f ma mb mc md me mf
  refine ⟨z, ?_, hm⟩
  rw [hz, ← ha, ← hb, ← hcc, ← hd, ← he, ← hff, h0, h1, h2, h3, h4, h5, List.drop_zero, List.take_of_length_le (l := cs.drop (P.cellsOf f0.type + _ + _ + _ + _)) (by rw [List.length_drop]; omega), ← cells_split, ← cells_split, ← cells_split, ← cells_split, List.take_append_drop]
end Go.HL.Kl.Mc

/- Part of the proofs over this seat: see the text that holds the theorem. Conditions: each theorem bears its own. -/
namespace Go.HL
open Go
/-! lists of lists: for the bag that looks whether lists share memory -/
section
variable {α : Type} {E : α → List Value} {k : Nat} {T : TypeId}
/-- lists that the heap's part S bears, each owned: headers, and what they hold -/
inductive OwnL (E : α → List Value) (k : Nat) (T : TypeId) : List (Sl α) → List (List α) → Hp → Prop
  | nil : OwnL E k T [] [] []
  | cons {s : Sl α} {xs : List α} {sls : List (Sl α)} {xss : List (List α)} {S R : Hp} (h : OwnS E k T s.v xs S) (hs : OwnL E k T sls xss R) : OwnL E k T (s :: sls) (xs :: xss) (S ++ R)
theorem OwnL.at {sls : List (Sl α)} {xss : List (List α)} {S : Hp} (h : OwnL E k T sls xss S) : ∀ {n : Nat} {s : Sl α}, sls[n]? = some s →
    ∃ xs S1 Sn S2, xss[n]? = some xs ∧ S = S1 ++ (Sn ++ S2) ∧ OwnS E k T s.v xs Sn ∧ ∀ xs' Sn', OwnS E k T s.v xs' Sn' → OwnL E k T sls (xss.set n xs') (S1 ++ (Sn' ++ S2)) := by
  induction h with
  | nil => intro n s hs; simp at hs
  | @cons s xs sls xss S R h hs ih =>
    intro n s' hn
    cases n with
    | zero =>
      simp at hn; subst hn
      exact ⟨xs, [], S, R, rfl, rfl, h, fun xs' Sn' h' => by simpa using OwnL.cons h' hs⟩
    | succ n =>
      obtain ⟨xs', S1, Sn, S2, h1, rfl, h3, h4⟩ := ih (by simpa using hn)
      exact ⟨xs', S ++ S1, Sn, S2, by simpa using h1, by simp, h3, fun y Sy hy => by simpa using OwnL.cons h (h4 y Sy hy)⟩
theorem OwnL.snoc {sls : List (Sl α)} {xss : List (List α)} {S S' : Hp} {s : Sl α} {xs : List α} (h : OwnL E k T sls xss S) (h' : OwnS E k T s.v xs S') : OwnL E k T (sls ++ [s]) (xss ++ [xs]) (S ++ S') := by
  induction h with
  | nil => simpa using OwnL.cons h' .nil
  | cons h hs ih => simpa using OwnL.cons h ih
theorem OwnL.len {sls : List (Sl α)} {xss : List (List α)} {S : Hp} (h : OwnL E k T sls xss S) : xss.length = sls.length := by
  induction h with
  | nil => rfl
  | cons h hs ih => simp [ih]
/-- what is written into the list n -/
def mkL (f : Nat → Nat → α) (n m : Nat) : List α := (List.range m).map (f n)
theorem mkL_len {f : Nat → Nat → α} {n m : Nat} : (mkL f n m).length = m := by simp [mkL]
theorem mkL_get {f : Nat → Nat → α} {n m i : Nat} (h : i < m) : (mkL f n m)[i]? = some (f n i) := by simp [mkL, List.getElem?_range h]
theorem mkL_succ {f : Nat → Nat → α} {n m : Nat} : mkL f n m ++ [f n m] = mkL f n (m + 1) := by simp [mkL, List.range_succ]
theorem mkL_fill {f : Nat → Nat → α} {n m i : Nat} {l : List α} (h : Tab.Fill (f n) m i l) (hi : m ≤ i) : l = mkL f n m := h.done hi
/-- likewise, all of them marked, from the list n on -/
inductive OwnF (E : α → List Value) (k : Nat) (T : TypeId) (f : Nat → Nat → α) : Nat → List (Sl α) → Hp → Prop
  | nil {n : Nat} : OwnF E k T f n [] []
  | cons {n : Nat} {s : Sl α} {sls : List (Sl α)} {S R : Hp} (h : OwnS E k T s.v (mkL f n s.xs.length) S) (hs : OwnF E k T f (n + 1) sls R) : OwnF E k T f n (s :: sls) (S ++ R)
theorem OwnL.all {f : Nat → Nat → α} {sls : List (Sl α)} {xss : List (List α)} {S : Hp} (h : OwnL E k T sls xss S) : ∀ {n : Nat}, (∀ j s, sls[j]? = some s → xss[j]? = some (mkL f (n + j) s.xs.length)) → OwnF E k T f n sls S := by
  induction h with
  | nil => intro n _; exact .nil
  | @cons s xs sls xss S R h hs ih =>
    intro n hj
    have h0 := hj 0 s rfl
    simp at h0
    subst h0
    refine .cons h (ih fun j s' hs' => ?_)
    have := hj (j + 1) s' (by simpa using hs')
    rw [show n + 1 + j = n + (j + 1) by omega]
    simpa using this
theorem OwnF.head {f : Nat → Nat → α} {sls : List (Sl α)} {S : Hp} {n : Nat} {s : Sl α} (h : OwnF E k T f n (sls.drop n) S) (hs : sls[n]? = some s) : ∃ S1 S2, S = S1 ++ S2 ∧ OwnS E k T s.v (mkL f n s.xs.length) S1 ∧ OwnF E k T f (n + 1) (sls.drop (n + 1)) S2 := by
  have hn : n < sls.length := by
    rcases Nat.lt_or_ge n sls.length with h' | h'
    · exact h'
    · rw [List.getElem?_eq_none h'] at hs; cases hs
  have e : sls.drop n = s :: sls.drop (n + 1) := by
    rw [List.drop_eq_getElem_cons hn]
    rw [List.getElem?_eq_getElem hn] at hs
    simp at hs; rw [hs]
  rw [e] at h
  cases h with
  | cons h1 h2 => exact ⟨_, _, rfl, h1, h2⟩
/-- the first n lists have been gone on with -/
structure Done (E : α → List Value) (f : Nat → Nat → α) (sls ones mores : List (Sl α)) (G : Hp) (n : Nat) : Prop where
  out : ∀ j, j < n → ∃ s o m, sls[j]? = some s ∧ ones[j]? = some o ∧ mores[j]? = some m ∧ o.xs = mkL f j (s.xs.length + 1) ∧ m.xs = mkL f j (s.xs.length + 70) ∧ IsSl s.v s.xs.length ∧ IsSl o.v o.xs.length ∧ IsSl m.v m.xs.length ∧ RdS E s.v (mkL f j s.xs.length) G ∧ RdS E o.v o.xs G ∧ RdS E m.v m.xs G
theorem Done.zero {f : Nat → Nat → α} {sls ones mores : List (Sl α)} {G : Hp} : Done E f sls ones mores G 0 := ⟨fun _ h => by omega⟩
theorem Done.step {f : Nat → Nat → α} {sls ones mores : List (Sl α)} {G G' : Hp} {n : Nat} {s o m : Sl α} (h : Done E f sls ones mores G n) (h1 : ones.length = n) (h2 : mores.length = n) (hs : sls[n]? = some s)
    (ho : o.xs = mkL f n (s.xs.length + 1)) (hm : m.xs = mkL f n (s.xs.length + 70)) (i1 : IsSl s.v s.xs.length) (i2 : IsSl o.v o.xs.length) (i3 : IsSl m.v m.xs.length) (r1 : RdS E s.v (mkL f n s.xs.length) G') (r2 : RdS E o.v o.xs G') (r3 : RdS E m.v m.xs G') : Done E f sls (ones ++ [o]) (mores ++ [m]) (G' ++ G) (n + 1) := by
  refine ⟨fun j hj => ?_⟩
  by_cases e : j = n
  · subst e
    exact ⟨s, o, m, hs, by rw [List.getElem?_append_right (by omega)]; simp [h1], by rw [List.getElem?_append_right (by omega)]; simp [h2], ho, hm, i1, i2, i3, r1.mono HIn.appL, r2.mono HIn.appL, r3.mono HIn.appL⟩
  · obtain ⟨s', o', m', a1, a2, a3, a4, a5, b1, b2, b3, a6, a7, a8⟩ := h.out j (by omega)
    exact ⟨s', o', m', a1, by rw [List.getElem?_append_left (by omega)]; exact a2, by rw [List.getElem?_append_left (by omega)]; exact a3, a4, a5, b1, b2, b3, a6.mono HIn.appR, a7.mono HIn.appR, a8.mono HIn.appR⟩
theorem set_all {f : Nat → Nat → α} {sls : List (Sl α)} {xss : List (List α)} {n : Nat} {s : Sl α} {l xs : List α} (hA : ∀ j s, j < n → sls[j]? = some s → xss[j]? = some (mkL f j s.xs.length)) (hs : sls[n]? = some s) (hl : l = mkL f n s.xs.length) (hx : xss[n]? = some xs) :
    ∀ j s', j < n + 1 → sls[j]? = some s' → (xss.set n l)[j]? = some (mkL f j s'.xs.length) := by
  intro j s' hj hs'
  by_cases e : n = j
  · subst e
    rw [hs] at hs'; cases hs'
    rw [List.getElem?_set_self (List.getElem?_eq_some_iff.1 hx).1, hl]
  · rw [List.getElem?_set_ne e]; exact hA j s' (by omega) hs'
theorem Keep.more {v0 v : Value} {xs0 xs : List α} {S G G' : Hp} (h : Keep E k T v0 xs0 v xs S G) (hG : HIn G G') : Keep E k T v0 xs0 v xs S G' := ⟨h.own, h.old.imp (fun r => r.mono hG) fun r => r⟩
theorem sl_get {sls : List (Sl α)} {n : Nat} (h : n < sls.length) : ∃ s, sls[n]? = some s := ⟨_, List.getElem?_eq_getElem h⟩
theorem Sl.v_len {s : Sl α} {a : Option Addr} {n c : Nat} {xs : List α} {S : Hp} [Enc E k] (h : OwnS E k T s.v xs S) (_e : s.v = .slice a n c) : xs.length = s.xs.length := by
  obtain ⟨a', c', e', _⟩ := h.sl.out
  simp [Sl.v] at e'; exact e'.2.1.symm
theorem OwnS.lenv [Enc E k] {s : Sl α} {xs : List α} {S : Hp} (h : OwnS E k T s.v xs S) : xs.length = s.xs.length := by
  obtain ⟨a', c', e', _⟩ := h.sl.out
  simp [Sl.v] at e'; exact e'.2.1.symm
end
end Go.HL

/- Compile's errors; nodes written over. Conditions: none. -/
namespace Go.HL.Kl.Mc
open Go Go.HL Go.HL.Kl
/-- the error of Compile -/
noncomputable def errC (re : List Nd) : Int := if shapedB re = false then 49 else if refsB re = true then 44 else 0
theorem errC_shape {re : List Nd} (h : shapedB re = false) : errC re = 49 := by rw [errC, if_pos h]
theorem errC_ref {re : List Nd} (hs : shapedB re = true) (h : refsB re = true) : errC re = 44 := by rw [errC, if_neg (by rw [hs]; decide), if_pos h]
theorem errC_ok {re : List Nd} (hs : shapedB re = true) (h : refsB re = false) : errC re = 0 := by rw [errC, if_neg (by rw [hs]; decide), if_neg (by rw [h]; decide)]
theorem CompO.pair {T : Nat} {re : List Nd} {v : Value} {S : Hp} (h : CompO T re v S) : ∃ sv, v = .tuple #[sv, .int .i64 (errC re)] ∧ (errC re ≠ 0 → sv = .slice none 0 0 ∧ S = []) ∧
    (errC re = 0 → ∃ x ks a, shapedB re = true ∧ Shp re x ks ∧ sv = .slice a (mach (.nd x ks .nil)).length (mach (.nd x ks .nil)).length ∧ OwnS Ein 7 T (.slice a (mach (.nd x ks .nil)).length (mach (.nd x ks .nil)).length) (mach (.nd x ks .nil)) S) := by
  cases h with
  | shape hs hv hn => rw [errC_shape hs]; exact ⟨_, hv, fun _ => ⟨rfl, hn⟩, fun h => by cases h⟩
  | ref hs hr hv hn => rw [errC_ref hs hr]; exact ⟨_, hv, fun _ => ⟨rfl, hn⟩, fun h => by cases h⟩
  | ok hs hr h hv hm => rw [errC_ok hs hr]; exact ⟨_, hv, fun h => absurd rfl h, fun _ => ⟨_, _, _, hs, h, rfl, hm⟩⟩
theorem cut_eq {n : Nat} (h : n ≤ 16384) : cut n = n := by unfold cut; omega
theorem Shp.mach_le {re : List Nd} {x : Nd} {ks : F} (h : Shp re x ks) : (mach (.nd x ks .nil)).length ≤ 4 * (F.nd x ks .nil).weight + 4 := by
  have h1 := (code_weight (.nd x ks .nil) h.wf).1
  rw [mach_len]; omega
/-- the first j nodes are sets -/
structure SetsTo (l : List Nd) (n j : Nat) : Prop where
  len : l.length = n
  rng : ∀ x ∈ l, -128 ≤ x.op ∧ x.op < 128
  get : ∀ t, t < j → ∃ y, l[t]? = some y ∧ y.op = 1 ∧ y.kids = 0
theorem SetsTo.start {l : List Nd} (h : ∀ x ∈ l, -128 ≤ x.op ∧ x.op < 128) : SetsTo l l.length 0 := ⟨rfl, h, fun t h => by omega⟩
theorem mem_set3 {α : Type} {l : List α} {j : Nat} {a b y x : α} (h : x ∈ ((l.set j a).set j b).set j y) : x = y ∨ x ∈ l := by
  rw [List.set_set, List.set_set] at h
  rcases List.mem_or_eq_of_mem_set h with h | h
  · exact .inr h
  · exact .inl h
theorem SetsTo.step {l : List Nd} {n j : Nat} (h : SetsTo l n j) (hj : j < n) (a b y : Nd) (hy : y.op = 1 ∧ y.kids = 0) : SetsTo (((l.set j a).set j b).set j y) n (j + 1) := by
  refine ⟨by simp [h.len], fun x hx => ?_, fun t ht => ?_⟩
  · rcases mem_set3 hx with rfl | hx
    · rw [hy.1]; omega
    · exact h.rng x hx
  · rw [List.set_set, List.set_set]
    by_cases e : j = t
    · subst e
      exact ⟨y, List.getElem?_set_self (by rw [h.len]; exact hj), hy⟩
    · rw [List.getElem?_set_ne e]
      exact h.get t (by omega)
theorem SetsTo.bad {l : List Nd} {n : Nat} (h : SetsTo l n n) (hn : 1 < n) : errC l = 49 := by
  refine errC_shape (shapedB_no fun ⟨_, x, ks, hs⟩ => ?_)
  obtain ⟨y, hy, h1, h2⟩ := h.get 0 (by omega)
  have hx : x = y := by
    rw [hs.flat] at hy
    simpa using hy
  subst hx
  have hk : (ks.num : Int) = x.kids := hs.wf.2.1
  cases ks with
  | nil =>
    have := congrArg List.length hs.flat
    rw [h.len] at this
    simp [F.flat] at this
    omega
  | nd z a b => simp only [F.num] at hk; omega
def cls9 (j : Nat) : Cl := mk4 9#64 0#64 (BitVec.ofNat 64 j) 0#64
theorem conv9 {j : Nat} (h : j ≤ 1000000000000) : Value.int .u64 (IntKind.u64.wrap (j : Int)) = Ew (BitVec.ofNat 64 j) := by
  have h1 : (BitVec.ofNat 64 j).toNat = j := by
    rw [BitVec.toNat_ofNat]
    exact Nat.mod_eq_of_lt (by rw [show (2 : Nat) ^ 64 = 18446744073709551616 from by decide]; omega)
  rw [Ew, h1, wrap_u64, Int.emod_eq_of_lt (by omega) (by omega)]
theorem Ec_cls9 (j : Nat) : Ec (cls9 j) = [.int .u64 9, .int .u64 0, Ew (BitVec.ofNat 64 j), .int .u64 0] := mk4_wd _ _ _ _
attribute [irreducible] cls9
def spN (i : Nat) : Nd := ⟨0, 0, ((1048576 * 9 + i + 1 : Nat) : Int), -7, 0, 0⟩
theorem En_sp (i : Nat) : En (spN i) = [.int .i8 0, .int .u64 0, .int .u64 0, .int .u64 0, .int .u64 0, .int .i64 ((1048576 * 9 + i + 1 : Nat) : Int), .int .i64 (-7), .int .i64 0, .int .i64 0] := by
  show _ :: (Ec 0#256 ++ _) = _
  rw [Ec_zero]; rfl
theorem OwnL.one1 {α : Type} {E : α → List Value} {k T : Nat} {s : Sl α} {xs : List α} {S : Hp} (h : OwnS E k T s.v xs S) : OwnL E k T [s] [xs] S := by simpa using OwnL.cons h .nil
theorem sl_all2 {α : Type} {s u : Sl α} {n : Nat} (h1 : s.xs.length ≤ n) (h2 : u.xs.length ≤ n) : ∀ (j : Nat) (x : Sl α), [s, u][j]? = some x → x.xs.length ≤ n := fun j x hx => by
  rcases List.mem_cons.1 (List.mem_of_getElem? hx) with rfl | hm
  · exact h1
  · obtain rfl := List.mem_singleton.1 hm; exact h2
end Go.HL.Kl.Mc

/- Part of the proofs over this seat: see the text that holds the theorem. Conditions: each theorem bears its own. -/
namespace Go.Proofs.YtihbhlgognpmmaaDoor
open Go Go.HL Go.Proofs Go.HL.Kl Go.HL.Kl.Mc
theorem eqNodes_fn (a a2 : Option Addr) (c c2 : Nat) (xs ys : List Nd) : HL.Fn Tryd.prog 11 [.slice a xs.length c, .slice a2 ys.length c2] (fun w => Rd En w (.slice a xs.length c) xs ∧ Rd En w (.slice a2 ys.length c2) ys) [] (fun v _ => v = .bool (decide (xs = ys))) := by
  refine fn_of Tryd.func11 rfl rfl rfl fun w0 hw => ?_
  obtain ⟨hx, hy⟩ := hw
  have hsx := hx.sl
  have hsy := hy.sl
  have hbx := hsx.le
  have hby := hsy.le
  refine c_seq fun _ hK1 => ?_
  refine c_region ?_
  refine o_step rfl (s_assign rfl) ?_
  refine o_nil ?_
  refine x_then (hK1 _ _ ?_)
  refine c_seq fun _ hK2 => ?_
  refine c_seq fun _ hK3 => ?_
  refine c_region ?_
  refine o_step rfl (s_move rfl) ?_
  refine o_step rfl (s_len rfl) ?_
  refine o_step rfl (s_move rfl) ?_
  refine o_step rfl (s_len rfl) ?_
  refine o_step rfl (s_neq rfl rfl) ?_
  refine o_nil ?_
  refine x_then (hK3 _ _ ?_)
  refine c_if rfl (fun hl => ?_) (fun hl => ?_)
  ·
   refine c_seq fun _ hK4 => ?_
   refine c_region ?_
   refine o_step rfl (s_assign rfl) ?_
   refine o_nil ?_
   refine x_then (hK4 _ _ ?_)
   refine c_ret ?_
   refine x_then_ret (?_)
   exact x_ret rfl (.tmp rfl (.nil)) ((congrArg Value.bool (decide_eq_false (by intro e; subst e; omega)).symm))
  ·
   refine c_skip ?_
   refine x_then (hK2 _ _ ?_)
   refine c_seq fun _ hK5 => ?_
   refine c_seq fun _ hK6 => ?_
   refine c_region ?_
   refine o_step rfl (s_assign rfl) ?_
   refine o_nil ?_
   refine x_then (hK6 _ _ ?_)
   refine c_block ?_
   -- not carried: 4
   refine c_loopB (fun (j : Nat) => j ≤ xs.length ∧ ∀ i, i < j → xs[i]? = ys[i]?) (fun (j : Nat) => [(5, .int .i64 j)]) [(0, _), (1, _)] (fun (j : Nat) => _) (fun (j : Nat) => xs.length - j) 0 ⟨by omega, fun i hi => by omega⟩ sbA sbA hzB ?_
   rintro j ⟨hj, hjt⟩
   refine c_seq fun _ hK7 => ?_
   refine c_seq fun _ hK8 => ?_
   refine c_region ?_
   refine o_step rfl (s_move rfl) ?_
   refine o_step rfl (s_move rfl) ?_
   refine o_step rfl (s_len rfl) ?_
   refine o_step rfl (s_lss rfl rfl) ?_
   refine o_nil ?_
   refine x_then (hK8 _ _ ?_)
   refine c_if rfl (fun hlt => ?_) (fun hlt => ?_)
   ·
    obtain ⟨x, hxj⟩ : ∃ x, xs[j]? = some x := ⟨_, List.getElem?_eq_getElem (by omega)⟩
    obtain ⟨y, hyj⟩ : ∃ y, ys[j]? = some y := ⟨_, List.getElem?_eq_getElem (by omega)⟩
    refine c_skip ?_
    refine x_then (hK7 _ _ ?_)
    refine c_seq fun _ hK9 => ?_
    refine c_block ?_
    refine c_seq fun _ hK10 => ?_
    refine c_drawE ([]) (fun i => false) ?_
    refine e_take 0 rfl (by kernel_rfl) (by kernel_rfl) (by kernel_rfl) (by kernel_rfl) (fun _ _ => rfl) rfl (by exact HSub.nil) (s_move rfl) ?_
    refine e_take 1 rfl (by kernel_rfl) (by kernel_rfl) (by kernel_rfl) (by kernel_rfl) (fun _ _ => rfl) rfl (by exact HSub.nil) (s_move rfl) ?_
    refine e_take 2 rfl (by kernel_rfl) (by kernel_rfl) (by kernel_rfl) (by kernel_rfl) (fun _ _ => rfl) rfl (by exact HSub.nil) (s_idx rfl rfl hsx (by omega)) ?_
    refine e_take 3 rfl (by kernel_rfl) (by kernel_rfl) (by kernel_rfl) (by kernel_rfl) (fun _ _ => rfl) rfl (by exact HSub.nil) (s_ldB rfl ((RdK.old0 hx).lds j hxj (by omega)) (by rfl)) ?_
    refine e_take 4 rfl (by kernel_rfl) (by kernel_rfl) (by kernel_rfl) (by kernel_rfl) (fun _ _ => rfl) rfl (by exact HSub.nil) (s_move rfl) ?_
    refine e_take 5 rfl (by kernel_rfl) (by kernel_rfl) (by kernel_rfl) (by kernel_rfl) (fun _ _ => rfl) rfl (by exact HSub.nil) (s_move rfl) ?_
    refine e_take 6 rfl (by kernel_rfl) (by kernel_rfl) (by kernel_rfl) (by kernel_rfl) (fun _ _ => rfl) rfl (by exact HSub.nil) (s_idx rfl rfl hsy (by omega)) ?_
    refine e_take 7 rfl (by kernel_rfl) (by kernel_rfl) (by kernel_rfl) (by kernel_rfl) (fun _ _ => rfl) rfl (by exact HSub.nil) (s_ldB rfl ((RdK.old0 hy).lds j hyj (by omega)) (by rfl)) ?_
    refine e_take 8 rfl (by kernel_rfl) (by kernel_rfl) (by kernel_rfl) (by kernel_rfl) (fun _ _ => rfl) rfl (by exact HSub.nil) (s_neq_nd rfl rfl) ?_
    refine e_done (by kernel_rfl) ?_
    refine x_then (hK10 _ _ ?_)
    refine c_ifn rfl (fun hne => ?_) (fun hne => ?_)
    ·
     refine c_seq fun _ hK11 => ?_
     refine c_region ?_
     refine o_step rfl (s_assign rfl) ?_
     refine o_nil ?_
     refine x_then (hK11 _ _ ?_)
     refine c_ret ?_
     refine x_block_ret (x_then_ret (x_then_ret (x_block_ret (x_then_ret (?_)))))
     exact x_ret rfl (.tmp rfl (.nil)) ((congrArg Value.bool (decide_eq_false (by intro e; subst e; rw [hxj] at hyj; cases hyj; exact hne rfl)).symm))
    ·
     refine c_skip ?_
     refine x_block ?_
     refine x_then (hK9 _ _ ?_)
     refine c_region ?_
     refine o_step rfl (s_move rfl) ?_
     refine o_step rfl (s_add rfl rfl (by omega)) ?_
     refine o_step rfl (s_assign rfl) ?_
     refine o_nil ?_
     exact x_then (x_inv (j + 1) ⟨by omega, fun i hi => by rcases Nat.lt_or_ge i j with h | h; exact hjt i h; rw [show i = j by omega, hxj, hyj, hne]⟩ (by first | omega | (dsimp only; omega)) sbA hzB)
   ·
    refine c_exit ?_
    refine x_then_exit ?_
    refine x_then_exit ?_
    refine x_block_exit ?_
    refine x_then (hK5 _ _ ?_)
    refine c_seq fun _ hK12 => ?_
    refine c_region ?_
    refine o_step rfl (s_assign rfl) ?_
    refine o_nil ?_
    refine x_then (hK12 _ _ ?_)
    refine c_ret ?_
    refine ?_
    exact x_ret rfl (.tmp rfl (.nil)) ((congrArg Value.bool (decide_eq_true (ext_upto (by omega) fun i hi => hjt i (by omega))).symm))

theorem wideNodes_fn (a : Option Addr) (c : Nat) (xs : List Nd) (hn : xs.length ≤ 2147483647) : HL.Fn Tryd.prog 7 [.slice a xs.length c] (fun w => Rd En w (.slice a xs.length c) xs) [] (fun v S' => ∃ a', v = .slice a' xs.length (xs.length + 64) ∧ OwnS En 9 41 (.slice a' (wdl spN xs).length (xs.length + 64)) (wdl spN xs) S') := by
  refine fn_of Tryd.func7 rfl rfl rfl fun w0 hw => ?_
  have hsx := hw.sl
  have hbx := hsx.le
  have hwl := wdl_len spN xs
  refine c_seq fun _ hK1 => ?_
  refine c_region ?_
  refine o_step rfl (s_assign rfl) ?_
  refine o_nil ?_
  refine x_then (hK1 _ _ ?_)
  refine c_seq fun _ hK2 => ?_
  refine c_region ?_
  refine o_step rfl (s_move rfl) ?_
  refine o_step rfl (s_len rfl) ?_
  refine o_step rfl (s_add rfl rfl (by omega)) ?_
  refine o_make (E := En) (zx := zN) (n := xs.length + 64) rfl rfl (by rw [En_zero]; rfl) (by omega) (by omega) rfl fun b8 S8 hS8 => ?_
  refine o_step rfl (s_assign rfl) ?_
  refine o_nil ?_
  refine x_then (hK2 _ _ ?_)
  refine c_seq fun _ hK3 => ?_
  refine c_seq fun _ hK4 => ?_
  refine c_region ?_
  refine o_step rfl (s_assign rfl) ?_
  refine o_nil ?_
  refine x_then (hK4 _ _ ?_)
  refine c_block ?_
  refine c_loop3 (fun (j : Nat) (l : List Nd) (S : Hp) => j ≤ xs.length + 64 ∧ Tab.Fill (wdlF spN xs) (xs.length + 64) j l ∧ OwnS En 9 41 (.slice (some ⟨b8, 0, none⟩) (xs.length + 64) (xs.length + 64)) l S) (fun (j : Nat) (l : List Nd) (S : Hp) => [(4, .int .i64 j)]) [(0, _), (2, _), (3, _)] (fun (j : Nat) (l : List Nd) (S : Hp) => S) (fun (j : Nat) (l : List Nd) (S : Hp) => xs.length + 64 - j) 0 _ _ ⟨by omega, .zero List.length_replicate, hS8⟩ sbA sbA hzB ?_
  rintro j l S ⟨hj, hl, hS⟩
  have hsl := hS.sl
  have hll := hl.len
  rw [hll] at hsl
  refine c_seq fun _ hK5 => ?_
  refine c_seq fun _ hK6 => ?_
  refine c_region ?_
  refine o_step rfl (s_move rfl) ?_
  refine o_step rfl (s_move rfl) ?_
  refine o_step rfl (s_len rfl) ?_
  refine o_step rfl (s_lss rfl rfl) ?_
  refine o_nil ?_
  refine x_then (hK6 _ _ ?_)
  refine c_if rfl (fun hlt => ?_) (fun hlt => ?_)
  ·
   refine c_skip ?_
   refine x_then (hK5 _ _ ?_)
   refine c_seq fun _ hK7 => ?_
   refine c_block ?_
   refine c_seq fun _ hK8 => ?_
   refine c_region ?_
   refine o_step rfl (s_move rfl) ?_
   refine o_step rfl (s_move rfl) ?_
   refine o_step rfl (s_len rfl) ?_
   refine o_step rfl (s_lss rfl rfl) ?_
   refine o_nil ?_
   refine x_then (hK8 _ _ ?_)
   refine c_if rfl (fun hin => ?_) (fun hin => ?_)
   ·
    obtain ⟨x, hxj⟩ : ∃ x, xs[j]? = some x := ⟨_, List.getElem?_eq_getElem (by omega)⟩
    refine c_region ?_
    refine o_step rfl (s_move rfl) ?_
    refine o_step rfl (s_move rfl) ?_
    refine o_step rfl (s_move rfl) ?_
    refine o_step rfl (s_move rfl) ?_
    refine o_step rfl (s_idx rfl rfl hsx (by omega)) ?_
    refine o_step rfl (s_ldB rfl ((RdK.old0 hw).lds j hxj (by omega)) (by rfl)) ?_
    refine o_step rfl (s_idx rfl rfl hsl (by omega)) ?_
    refine o_stSE j x hS pkA rfl rfl (by omega) (by rw [Int.toNat_natCast]) fun S' hS' => ?_
    refine o_nil ?_
    refine x_block ?_
    refine x_then (hK7 _ _ ?_)
    refine c_region ?_
    refine o_step rfl (s_move rfl) ?_
    refine o_step rfl (s_add rfl rfl (by omega)) ?_
    refine o_step rfl (s_assign rfl) ?_
    refine o_nil ?_
    exact x_then (x_inv (j + 1, _, _) ⟨by omega, hl.step (by omega) (wdl_in hxj), hS'⟩ (by first | omega | (dsimp only; omega)) sbA hzB)
   ·
    refine c_region ?_
    refine o_step rfl (s_move rfl) ?_
    refine o_step rfl (s_move rfl) ?_
    refine o_step rfl (s_move rfl) ?_
    refine o_callP (num_fn 9 j (by omega) (by omega)) rfl rfl rfl (fun _ _ => trivial) (fun v29 hv29 => ?_)
    subst hv29
    refine o_step rfl (step_cast (v' := .agg (En (spN j)).toArray) (s_build (cs := [_, _, _, _, _, _, _, _, _]) (vs := [_, _]) rfl rfl (.cons rfl rfl rfl rfl rfl (.cons rfl rfl rfl rfl rfl (.nil)))) (by rw [En_sp])) ?_
    refine o_step rfl (s_idx rfl rfl hsl (by omega)) ?_
    refine o_stSE j (spN j) hS pkA rfl rfl (by omega) (by rw [Int.toNat_natCast]) fun S' hS' => ?_
    refine o_nil ?_
    refine x_block ?_
    refine x_then (hK7 _ _ ?_)
    refine c_region ?_
    refine o_step rfl (s_move rfl) ?_
    refine o_step rfl (s_add rfl rfl (by omega)) ?_
    refine o_step rfl (s_assign rfl) ?_
    refine o_nil ?_
    exact x_then (x_inv (j + 1, _, _) ⟨by omega, hl.step (by omega) (wdl_out (d := spN) (by omega)), hS'⟩ (by first | omega | (dsimp only; omega)) sbA hzB)
  ·
   have hd := fill_wdl hl (by omega)
   subst hd
   refine c_exit ?_
   refine x_then_exit ?_
   refine x_then_exit ?_
   refine x_block_exit ?_
   refine x_then (hK3 _ _ ?_)
   refine c_seq fun _ hK9 => ?_
   refine c_region ?_
   refine o_step rfl (s_move rfl) ?_
   refine o_step rfl (s_move rfl) ?_
   refine o_step rfl (s_len rfl) ?_
   refine o_step rfl (s_slice_hi rfl rfl (by omega)) ?_
   refine o_step rfl (s_assign rfl) ?_
   refine o_nil ?_
   refine x_then (hK9 _ _ ?_)
   refine c_ret ?_
   refine ?_
   exact x_ret rfl (.tmp rfl (.nil)) (⟨_, rfl, by rw [hwl]; exact hS⟩)

theorem spareNodes_fn (a : Option Addr) (c : Nat) (xs : List Nd) (hn : xs.length ≤ 2147483647) : HL.Fn Tryd.prog 12 [.slice a xs.length c] (fun w => Rd En w (.slice a (wdl spN xs).length c) (wdl spN xs)) [] (fun v _ => v = .bool true) := by
  refine fn_of Tryd.func12 rfl rfl rfl fun w0 hw => ?_
  have hwl := wdl_len spN xs
  have hsx := hw.sl
  have hc := hsx.cap
  refine c_seq fun _ hK1 => ?_
  refine c_region ?_
  refine o_step rfl (s_assign rfl) ?_
  refine o_nil ?_
  refine x_then (hK1 _ _ ?_)
  refine c_seq fun _ hK2 => ?_
  refine c_region ?_
  refine o_step rfl (s_move rfl) ?_
  refine o_step rfl (s_move rfl) ?_
  refine o_step rfl (s_len rfl) ?_
  refine o_step rfl (s_add rfl rfl (by omega)) ?_
  refine o_step rfl (s_slice_hi rfl rfl (by omega)) ?_
  rw [show ((xs.length : Int) + 64).toNat = (wdl spN xs).length from by rw [wdl_len]; omega]
  refine o_step rfl (s_assign rfl) ?_
  refine o_nil ?_
  refine x_then (hK2 _ _ ?_)
  refine c_seq fun _ hK3 => ?_
  refine c_seq fun _ hK4 => ?_
  refine c_region ?_
  refine o_step rfl (s_move rfl) ?_
  refine o_step rfl (s_len rfl) ?_
  refine o_step rfl (s_assign rfl) ?_
  refine o_nil ?_
  refine x_then (hK4 _ _ ?_)
  refine c_block ?_
  -- not carried: 2
  refine c_loopB (fun (j : Nat) => xs.length ≤ j ∧ j ≤ xs.length + 64) (fun (j : Nat) => [(4, .int .i64 j)]) [(3, _)] (fun (j : Nat) => _) (fun (j : Nat) => xs.length + 64 - j) xs.length ⟨by omega, by omega⟩ sbA sbA hzB ?_
  rintro j ⟨hj1, hj2⟩
  refine c_seq fun _ hK5 => ?_
  refine c_seq fun _ hK6 => ?_
  refine c_region ?_
  refine o_step rfl (s_move rfl) ?_
  refine o_step rfl (s_move rfl) ?_
  refine o_step rfl (s_len rfl) ?_
  refine o_step rfl (s_lss rfl rfl) ?_
  refine o_nil ?_
  refine x_then (hK6 _ _ ?_)
  refine c_if rfl (fun hlt => ?_) (fun hlt => ?_)
  ·
   have hxj := wdl_spare (d := spN) (xs := xs) (i := j) (by omega) (by omega)
   refine c_skip ?_
   refine x_then (hK5 _ _ ?_)
   refine c_seq fun _ hK7 => ?_
   refine c_block ?_
   refine c_seq fun _ hK8 => ?_
   refine c_drawE ([]) (fun i => false) ?_
   refine e_take 0 rfl (by kernel_rfl) (by kernel_rfl) (by kernel_rfl) (by kernel_rfl) (fun _ _ => rfl) rfl (by exact HSub.nil) (s_move rfl) ?_
   refine e_take 1 rfl (by kernel_rfl) (by kernel_rfl) (by kernel_rfl) (by kernel_rfl) (fun _ _ => rfl) rfl (by exact HSub.nil) (s_move rfl) ?_
   refine e_take 2 rfl (by kernel_rfl) (by kernel_rfl) (by kernel_rfl) (by kernel_rfl) (fun _ _ => rfl) rfl (by exact HSub.nil) (s_idx rfl rfl hsx (by omega)) ?_
   refine e_take 3 rfl (by kernel_rfl) (by kernel_rfl) (by kernel_rfl) (by kernel_rfl) (fun _ _ => rfl) rfl (by exact HSub.nil) (s_ldB rfl ((RdK.old0 hw).lds j hxj (by omega)) (by rfl)) ?_
   refine e_take 4 rfl (by kernel_rfl) (by kernel_rfl) (by kernel_rfl) (by kernel_rfl) (fun _ _ => rfl) rfl (by exact HSub.nil) (s_move rfl) ?_
   refine e_one 5 rfl (by kernel_rfl) ?_
   refine o_callP (num_fn 9 j (by omega) (by omega)) rfl rfl rfl (fun _ _ => trivial) (fun v23 hv23 => ?_)
   subst hv23
   refine o_nil ?_
   refine x_oneS (by exact HSub.nil) ?_
   refine e_take 6 rfl (by kernel_rfl) (by kernel_rfl) (by kernel_rfl) (by kernel_rfl) (fun _ _ => rfl) rfl (by exact HSub.nil) (step_cast (v' := .agg (En (spN j)).toArray) (s_build (cs := [_, _, _, _, _, _, _, _, _]) (vs := [_, _]) rfl rfl (.cons rfl rfl rfl rfl rfl (.cons rfl rfl rfl rfl rfl (.nil)))) (by rw [En_sp])) ?_
   refine e_take 7 rfl (by kernel_rfl) (by kernel_rfl) (by kernel_rfl) (by kernel_rfl) (fun _ _ => rfl) rfl (by exact HSub.nil) (step_cast (v' := .bool true) (s_eql_nd rfl rfl) (by rw [decide_eq_true rfl])) ?_
   refine e_take 8 rfl (by kernel_rfl) (by kernel_rfl) (by kernel_rfl) (by kernel_rfl) (fun _ _ => rfl) rfl (by exact HSub.nil) (s_not rfl) ?_
   refine e_done (by kernel_rfl) ?_
   refine x_then (hK8 _ _ ?_)
   refine c_false rfl ?_
   refine c_skip ?_
   refine x_block ?_
   refine x_then (hK7 _ _ ?_)
   refine c_region ?_
   refine o_step rfl (s_move rfl) ?_
   refine o_step rfl (s_add rfl rfl (by omega)) ?_
   refine o_step rfl (s_assign rfl) ?_
   refine o_nil ?_
   exact x_then (x_inv (j + 1) ⟨by omega, by omega⟩ (by first | omega | (dsimp only; omega)) sbA hzB)
  ·
   refine c_exit ?_
   refine x_then_exit ?_
   refine x_then_exit ?_
   refine x_block_exit ?_
   refine x_then (hK3 _ _ ?_)
   refine c_seq fun _ hK9 => ?_
   refine c_region ?_
   refine o_step rfl (s_assign rfl) ?_
   refine o_nil ?_
   refine x_then (hK9 _ _ ?_)
   refine c_ret ?_
   refine ?_
   exact x_ret rfl (.tmp rfl (.nil)) (rfl)

theorem copyInstrs_fn (ba : Option Addr) (bc : Nat) (b : List In) (hb : b.length ≤ 80000) : HL.Fn Tryd.prog 16 [.slice ba b.length bc] (fun w => Rd Ein w (.slice ba b.length bc) b) [] (fun v S' => ∃ a c, v = .slice a b.length c ∧ OwnS Ein 7 73 (.slice a b.length c) b S') := by
  refine fn_of Tryd.func16 rfl rfl rfl fun w0 hw => ?_
  refine c_seq fun _ hK1 => ?_
  refine c_region ?_
  refine o_step rfl (s_assign rfl) ?_
  refine o_nil ?_
  refine x_then (hK1 _ _ ?_)
  refine c_seq fun _ hK2 => ?_
  refine c_region ?_
  refine o_step rfl (s_assign rfl) ?_
  refine o_nil ?_
  refine x_then (hK2 _ _ ?_)
  refine c_seq fun _ hK3 => ?_
  refine c_region ?_
  refine o_step rfl (s_move rfl) ?_
  refine o_step rfl (s_move rfl) ?_
  refine o_app OwnS.nil (RdK.old0 hw) rfl rfl rfl rfl (by simp; omega) (by simp; omega) rfl pkA fun a6 c6 S6 hS6 => ?_
  simp only [List.nil_append] at hS6
  refine o_step rfl (s_assign rfl) ?_
  refine o_nil ?_
  refine x_then (hK3 _ _ ?_)
  refine c_ret ?_
  refine ?_
  refine x_sub (Sub.refl _) (H' := S6) hzB ?_
  exact x_ret rfl (.tmp rfl (.nil)) (⟨_, _, rfl, hS6⟩)

theorem rWeightV_fn (ra : Option Addr) (rc : Nat) (re : List Nd) (hre : ∀ x ∈ re, -128 ≤ x.op ∧ x.op < 128) (x : Nd) (ks : F) (hsb : shapedB re = true) (hs : Shp re x ks) : HL.Fn Tryd.prog 15 [.slice ra re.length rc] (fun w => Rd En w (.slice ra re.length rc) re) [] (fun v _ => v = .int .i64 ((F.nd x ks .nil).weight : Nat)) := by
  refine fn_of Tryd.func15 rfl rfl rfl fun w0 hw => ?_
  refine c_seq fun _ hK1 => ?_
  refine c_region ?_
  refine o_step rfl (s_assign rfl) ?_
  refine o_nil ?_
  refine x_then (hK1 _ _ ?_)
  refine c_seq fun _ hK2 => ?_
  refine c_seq fun _ hK3 => ?_
  refine c_region ?_
  refine o_step rfl (s_move rfl) ?_
  refine o_callP (rShaped_fn ra rc re hre) rfl rfl rfl (fun w st => (RdK.old0 hw).out w st) (fun v6 hv6 => ?_)
  rw [hsb] at hv6
  subst hv6
  refine o_step rfl (s_not rfl) ?_
  refine o_nil ?_
  refine x_then (hK3 _ _ ?_)
  refine c_false rfl ?_
  refine c_skip ?_
  refine x_then (hK2 _ _ ?_)
  refine c_seq fun _ hK4 => ?_
  refine c_region ?_
  refine o_step rfl (s_move rfl) ?_
  refine o_callP (rWeigh_fn (ks.size + 1) x ks (by omega) ra rc re 0 _ hre hs.part) rfl rfl rfl (fun w st => (RdK.old0 hw).out w st) (fun v10 hv10 => ?_)
  subst hv10
  refine o_step rfl (s_move rfl) ?_
  refine o_step rfl (s_extract rfl rfl) ?_
  refine o_step rfl (s_extract rfl rfl) ?_
  refine o_step rfl (s_assign rfl) ?_
  refine o_step rfl (s_assign rfl) ?_
  refine o_nil ?_
  refine x_then (hK4 _ _ ?_)
  refine c_seq fun _ hK5 => ?_
  refine c_region ?_
  refine o_step rfl (s_move rfl) ?_
  refine o_step rfl (s_assign rfl) ?_
  refine o_nil ?_
  refine x_then (hK5 _ _ ?_)
  refine c_ret ?_
  refine ?_
  exact x_ret rfl (.tmp rfl (.nil)) ((by rw [cut_eq hs.weight]; rfl))
end Go.Proofs.YtihbhlgognpmmaaDoor

/- Part of the proofs over this seat: see the text that holds the theorem. Conditions: each theorem bears its own. -/
namespace Go.Proofs.YtihbhlgognpmmaaDoor
open Go Go.HL Go.Proofs Go.HL.Kl Go.HL.Kl.Mc
theorem behind_fn (ra : Option Addr) (rc : Nat) (re : List Nd) (x : Nd) (ks : F) (i i1 : Nat) (hp : Part re (.nd x ks .nil) i i1) : HL.Fn Tryd.prog 58 [.slice ra re.length rc, .int .i64 i] (fun w => Rd En w (.slice ra re.length rc) re) [] (fun v _ => v = .int .i64 i1) := by
  refine fn_of Tryd.func58 rfl rfl rfl fun w0 hw => ?_
  have hsl := hw.sl
  have hbl := hsl.le
  refine c_seq fun _ hK1 => ?_
  refine c_region ?_
  refine o_step rfl (s_assign rfl) ?_
  refine o_nil ?_
  refine x_then (hK1 _ _ ?_)
  refine c_seq fun _ hK2 => ?_
  refine c_region ?_
  refine o_step rfl (s_assign rfl) ?_
  refine o_nil ?_
  refine x_then (hK2 _ _ ?_)
  refine c_seq fun _ hK3 => ?_
  refine c_block ?_
  refine c_loop2 (fun (g : F) (p : Nat) => Part re g p i1) (fun (g : F) (p : Nat) => [(5, .int .i64 g.num), (1, .int .i64 p)]) [(0, _), (4, _)] (fun (g : F) (p : Nat) => _) (fun (g : F) (p : Nat) => i1 - p) (.nd x ks .nil) i hp (by exact Sub.cons' rfl (by rw [F.num, F.num]; rfl) sbA) sbA hzB ?_
  rintro g p hpg
  have hgl := hpg.len
  have hgle := hpg.le
  have hgn := F.num_le g
  refine c_seq fun _ hK4 => ?_
  refine c_seq fun _ hK5 => ?_
  refine c_region ?_
  refine o_step rfl (s_move rfl) ?_
  by_cases hg : (g.num : Int) > 0
  ·
   obtain ⟨y, js, r, rfl⟩ : ∃ y js r, g = F.nd y js r := by cases g with | nil => simp [F.num] at hg | nd y a b => exact ⟨y, a, b, rfl⟩
   have hy := hpg.head.1
   have hyl := (List.getElem?_eq_some_iff.1 hy).1
   have hkn : (js.num : Int) = y.kids := hpg.wf.2.1
   have hjn := F.num_le js
   simp only [F.num] at hg hgn ⊢
   simp only [F.size] at hgl hgn
   refine o_step rfl (step_cast (v' := .bool true) (s_gtr rfl rfl) (by rw [decide_eq_true (by omega)])) ?_
   refine o_nil ?_
   refine x_then (hK5 _ _ ?_)
   refine c_true rfl ?_
   refine c_skip ?_
   refine x_then (hK4 _ _ ?_)
   refine c_block ?_
   refine c_seq fun _ hK6 => ?_
   refine c_region ?_
   refine o_step rfl (s_move rfl) ?_
   refine o_step rfl (s_sub rfl rfl (by omega)) ?_
   refine o_step rfl (s_move rfl) ?_
   refine o_step rfl (s_move rfl) ?_
   refine o_step rfl (s_idx rfl rfl hsl (by omega)) ?_
   refine o_step rfl (s_field rfl rfl (by decide)) ?_
   refine o_step rfl (s_ld rfl ((RdK.old0 hw).ld p 8 hy rfl (by decide) (by omega))) ?_
   refine o_step rfl (s_add rfl rfl (by omega)) ?_
   refine o_step rfl (s_assign rfl) ?_
   refine o_nil ?_
   refine x_then (hK6 _ _ ?_)
   refine c_region ?_
   refine o_step rfl (s_move rfl) ?_
   refine o_step rfl (s_add rfl rfl (by omega)) ?_
   refine o_step rfl (s_assign rfl) ?_
   refine o_nil ?_
   refine x_block ?_
   exact x_then (x_inv ((js.app r), p + 1) hpg.down (by dsimp only; omega) (by exact Sub.cons' rfl (by rw [F.num_app, ← hkn]; congr 1; omega) sbA) hzB)
  ·
   obtain rfl : g = F.nil := F.num_nil (by omega)
   simp only [F.size] at hgl
   refine o_step rfl (step_cast (v' := .bool false) (s_gtr rfl rfl) (by rw [decide_eq_false (by omega)])) ?_
   refine o_nil ?_
   refine x_then (hK5 _ _ ?_)
   refine c_false rfl ?_
   refine c_exit ?_
   refine x_then_exit ?_
   refine x_then_exit ?_
   refine x_block_exit ?_
   refine x_then (hK3 _ _ ?_)
   refine c_seq fun _ hK7 => ?_
   refine c_region ?_
   refine o_step rfl (s_move rfl) ?_
   refine o_step rfl (s_assign rfl) ?_
   refine o_nil ?_
   refine x_then (hK7 _ _ ?_)
   refine c_ret ?_
   refine ?_
   exact x_ret rfl (.tmp rfl (.nil)) ((congrArg (Value.int .i64) (by omega)))

end Go.Proofs.YtihbhlgognpmmaaDoor
