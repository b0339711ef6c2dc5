/- Mathematics of the longest match: the list of instructions to which runs come at a place. Conditions: none. -/
import Derived.Test.YtloepfcndglmmaaDoorHM2Z
import Derived.Test.YtloepfcndglmmaaDoorHTZ
import Derived.Test.YtloepfcndglmmaaDoorMK2Z
import Derived.Test.YtloepfcndglmmaaDoorVZN4Z
namespace Go.HL.Kl.Mc
open Go Go.HL Go.HL.Kl
def comeL (l : List Nat) (k : Nat) : List Nat := if k ∈ l then l else l ++ [k]
theorem comeL_mem {l : List Nat} {k j : Nat} : j ∈ comeL l k ↔ j ∈ l ∨ j = k := by
  unfold comeL
  split
  · exact ⟨.inl, fun h => h.elim id fun h => h ▸ ‹k ∈ l›⟩
  · simp
theorem comeL_pre {l : List Nat} {k i : Nat} (h : i < l.length) : (comeL l k)[i]? = l[i]? := by
  unfold comeL
  split
  · rfl
  · rw [List.getElem?_append_left h]
theorem comeL_len {l : List Nat} {k : Nat} : l.length ≤ (comeL l k).length ∧ (comeL l k).length ≤ l.length + 1 := by
  unfold comeL
  split <;> simp
theorem comeL_nd {l : List Nat} {k : Nat} (h : l.Nodup) : (comeL l k).Nodup := by
  unfold comeL
  split
  · exact h
  · rw [List.nodup_append]
    refine ⟨h, by simp, fun a ha b hb e => ?_⟩
    simp only [List.mem_singleton] at hb
    subst hb; subst e; exact ‹a ∉ l› ha
structure MetOk (mt : List Int) (st : Int) (l : List Nat) (N : Nat) : Prop where
  len : mt.length = N
  get : ∀ (k : Nat) v, mt[k]? = some v → (v = st ↔ k ∈ l)
  le : ∀ v ∈ mt, 0 ≤ v ∧ v ≤ st
  lt : ∀ k ∈ l, k < N
  nd : l.Nodup
theorem nodup_le : ∀ {N : Nat} {l : List Nat}, l.Nodup → (∀ k ∈ l, k < N) → l.length ≤ N
  | 0, l, _, hl => by
    cases l with
    | nil => exact Nat.le_refl _
    | cons a l => exact absurd (hl a List.mem_cons_self) (by omega)
  | N + 1, l, h, hl => by
    have h1 := nodup_le (N := N) (h.erase N) fun k hk => by
      have h2 := (h.mem_erase_iff).1 hk
      have := hl k h2.2
      have := h2.1
      omega
    by_cases hm : N ∈ l
    · rw [List.length_erase_of_mem hm] at h1; omega
    · rw [List.erase_of_not_mem hm] at h1; omega
theorem MetOk.big {mt : List Int} {st : Int} {l : List Nat} {N : Nat} (h : MetOk mt st l N) : l.length ≤ N := nodup_le h.nd h.lt
theorem MetOk.come {mt : List Int} {st : Int} {l : List Nat} {N k : Nat} (h : MetOk mt st l N) (hk : k < N) (hn : k ∉ l) (h0 : 0 ≤ st) : MetOk (mt.set k st) st (comeL l k) N := by
  refine ⟨by rw [List.length_set]; exact h.len, fun j v hv => ?_, fun v hv => ?_, fun j hj => ?_, comeL_nd h.nd⟩
  · rw [comeL_mem]
    by_cases e : k = j
    · subst e
      rw [List.getElem?_set_self (by rw [h.len]; exact hk)] at hv
      cases hv
      exact ⟨fun _ => .inr rfl, fun _ => rfl⟩
    · rw [List.getElem?_set_ne e] at hv
      rw [h.get j v hv]
      exact ⟨.inl, fun h => h.elim id fun e' => absurd e'.symm e⟩
  · rcases List.mem_or_eq_of_mem_set hv with h' | rfl
    · exact h.le v h'
    · exact ⟨h0, Int.le_refl _⟩
  · rcases comeL_mem.1 hj with h' | rfl
    · exact h.lt j h'
    · exact hk
variable {m : List In} {w : List UInt8}
structure Lst (m : List In) (n p : Nat) (B : Nat → Prop) (l : List Nat) (i : Nat) : Prop where
  lt : ∀ k ∈ l, k < m.length
  base : ∀ k, B k → k ∈ l
  src : ∀ k ∈ l, ∃ b, B b ∧ EpsS m n p b k
  cl : ∀ (j k k' : Nat), j < i → l[j]? = some k → Eps m n p k k' → k' ∈ l
theorem Lst.start {n p : Nat} {B : Nat → Prop} {l : List Nat} (hl : ∀ k, k ∈ l ↔ B k) (hb : ∀ k, B k → k < m.length) : Lst m n p B l 0 :=
  ⟨fun k hk => hb k ((hl k).1 hk), fun k hk => (hl k).2 hk, fun k hk => ⟨k, (hl k).1 hk, .refl⟩, fun j k k' h => by omega⟩
structure LstS (m : List In) (n p : Nat) (B : Nat → Prop) (l : List Nat) (i : Nat) (D : List Nat) : Prop where
  lst : Lst m n p B l i
  pl : i < l.length
  dn : ∀ k ∈ D, k ∈ l
theorem Lst.go {n p : Nat} {B : Nat → Prop} {l : List Nat} {i : Nat} (h : Lst m n p B l i) (hi : i < l.length) : LstS m n p B l i [] := ⟨h, hi, fun k hk => by cases hk⟩
theorem LstS.come {n p : Nat} {B : Nat → Prop} {l D : List Nat} {i k k' : Nat} (hm : MOk m) (h : LstS m n p B l i D) (hk : l[i]? = some k) (he : Eps m n p k k') : LstS m n p B (comeL l k') i (k' :: D) := by
  refine ⟨⟨fun j hj => ?_, fun j hj => comeL_mem.2 (.inl (h.lst.base j hj)), fun j hj => ?_, fun j x x' hj hx hxx => ?_⟩, Nat.lt_of_lt_of_le h.pl comeL_len.1, fun j hj => ?_⟩
  · rcases comeL_mem.1 hj with h' | rfl
    · exact h.lst.lt j h'
    · exact hm.lt he
  · rcases comeL_mem.1 hj with h' | rfl
    · exact h.lst.src j h'
    · obtain ⟨b, hb, hbk⟩ := h.lst.src k (List.mem_of_getElem? hk)
      exact ⟨b, hb, hbk.tail he⟩
  · rw [comeL_pre (Nat.lt_trans hj h.pl)] at hx
    exact comeL_mem.2 (.inl (h.lst.cl j x x' hj hx hxx))
  · rcases List.mem_cons.1 hj with rfl | hj
    · exact comeL_mem.2 (.inr rfl)
    · exact comeL_mem.2 (.inl (h.dn j hj))
theorem LstS.next {n p : Nat} {B : Nat → Prop} {l D : List Nat} {i k : Nat} (h : LstS m n p B l i D) (hk : l[i]? = some k) (hd : ∀ k', Eps m n p k k' → k' ∈ D) : Lst m n p B l (i + 1) := by
  refine ⟨h.lst.lt, h.lst.base, h.lst.src, fun j x x' hj hx hxx => ?_⟩
  by_cases e : j = i
  · subst e; rw [hk] at hx; cases hx
    exact h.dn x' (hd x' hxx)
  · exact h.lst.cl j x x' (by omega) hx hxx
theorem Lst.done {n p : Nat} {B : Nat → Prop} {l : List Nat} {i : Nat} (h : Lst m n p B l i) (hi : l.length ≤ i) (k : Nat) : k ∈ l ↔ ∃ b, B b ∧ EpsS m n p b k := by
  refine ⟨h.src k, fun ⟨b, hb, he⟩ => ?_⟩
  have key : ∀ {x y : Nat}, EpsS m n p x y → x ∈ l → y ∈ l := by
    intro x y he
    induction he with
    | refl => exact id
    | head h1 _ ih =>
      intro hx
      obtain ⟨j, hj⟩ := List.mem_iff_getElem?.1 hx
      exact ih (h.cl j _ _ (Nat.lt_of_lt_of_le (List.getElem?_eq_some_iff.1 hj).1 hi) hj h1)
  exact key he (h.base b hb)
def wayB (m : List In) (w : List UInt8) (p : Nat) (l : List Nat) (j : Nat) (k : Nat) : Prop := ∃ i x, i < j ∧ l[i]? = some x ∧ Eat m w x p ∧ k = x + 1
theorem wayB_zero {p : Nat} {l : List Nat} {k : Nat} : ¬ wayB m w p l 0 k := fun ⟨i, _, h, _⟩ => by omega
theorem wayB_yes {p j x : Nat} {l : List Nat} {k : Nat} (hx : l[j]? = some x) (he : Eat m w x p) : wayB m w p l (j + 1) k ↔ wayB m w p l j k ∨ k = x + 1 := by
  constructor
  · rintro ⟨i, y, h1, h2, h3, h4⟩
    by_cases e : i = j
    · subst e; rw [hx] at h2; cases h2; exact .inr h4
    · exact .inl ⟨i, y, by omega, h2, h3, h4⟩
  · rintro (⟨i, y, h1, h2, h3, h4⟩ | h)
    · exact ⟨i, y, by omega, h2, h3, h4⟩
    · exact ⟨j, x, by omega, hx, he, h⟩
theorem wayB_no {p j x : Nat} {l : List Nat} {k : Nat} (hx : l[j]? = some x) (he : ¬ Eat m w x p) : wayB m w p l (j + 1) k ↔ wayB m w p l j k := by
  constructor
  · rintro ⟨i, y, h1, h2, h3, h4⟩
    by_cases e : i = j
    · subst e; rw [hx] at h2; cases h2; exact absurd h3 he
    · exact ⟨i, y, by omega, h2, h3, h4⟩
  · rintro ⟨i, y, h1, h2, h3, h4⟩; exact ⟨i, y, by omega, h2, h3, h4⟩
def Base (m : List In) (w : List UInt8) (f p : Nat) (k : Nat) : Prop := (p = f ∧ k = 0) ∨ ∃ q x, p = q + 1 ∧ f ≤ q ∧ Run m w (0, f) (x, q) ∧ Eat m w x q ∧ k = x + 1
theorem run_base2 {f p k : Nat} (hf : f ≤ p) : Run m w (0, f) (k, p) ↔ ∃ b, Base m w f p b ∧ EpsS m w.length p b k := by
  rcases Nat.lt_or_ge f p with h | h
  · obtain ⟨q, rfl⟩ : ∃ q, p = q + 1 := ⟨p - 1, by omega⟩
    rw [run_succ (by omega)]
    constructor
    · rintro ⟨j, h1, h2, h3⟩; exact ⟨j + 1, .inr ⟨q, j, rfl, by omega, h1, h2, rfl⟩, h3⟩
    · rintro ⟨b, (⟨h1, _⟩ | ⟨q', x, h1, _, h2, h3, rfl⟩), h4⟩
      · omega
      · obtain rfl : q = q' := by omega
        exact ⟨x, h2, h3, h4⟩
  · obtain rfl : p = f := by omega
    rw [run_base]
    constructor
    · intro h; exact ⟨0, .inl ⟨rfl, rfl⟩, h⟩
    · rintro ⟨b, (⟨_, rfl⟩ | ⟨q', x, h1, h2, _⟩), h4⟩
      · exact h4
      · omega
theorem base_lt {f p k : Nat} (hm : MOk m) (h : Base m w f p k) : k < m.length := by
  rcases h with ⟨_, rfl⟩ | ⟨q, x, _, _, _, ⟨t, b, ht, ho, _⟩, rfl⟩
  · exact hm.1
  · exact (hm.2.2 x t ht).2 (by omega)
theorem way_base {f p : Nat} {l : List Nat} (hf : f ≤ p) (hl : ∀ k, k ∈ l ↔ Run m w (0, f) (k, p)) {k : Nat} : wayB m w p l l.length k ↔ Base m w f (p + 1) k := by
  constructor
  · rintro ⟨i, x, _, h2, h3, rfl⟩
    exact .inr ⟨p, x, rfl, hf, (hl x).1 (List.mem_of_getElem? h2), h3, rfl⟩
  · rintro (⟨h1, _⟩ | ⟨q, x, h1, _, h2, h3, rfl⟩)
    · omega
    · obtain rfl : p = q := by omega
      obtain ⟨i, hi⟩ := List.mem_iff_getElem?.1 ((hl x).2 h2)
      exact ⟨i, x, (List.getElem?_eq_some_iff.1 hi).1, hi, h3, rfl⟩
structure EndsTo (m : List In) (w : List UInt8) (f p : Nat) (es : List Bool) (last : Int) : Prop where
  len : es.length = w.length + 1
  get : ∀ q, q ≤ w.length → (es[q]? = some true ↔ f ≤ q ∧ q < p ∧ Hit m w f q)
  last : (last = -1 ∧ ∀ q, q ≤ w.length → ¬ (f ≤ q ∧ q < p ∧ Hit m w f q)) ∨ ∃ q : Nat, last = q ∧ f ≤ q ∧ q < p ∧ q ≤ w.length ∧ Hit m w f q ∧ ∀ q', q < q' → q' < p → q' ≤ w.length → ¬ Hit m w f q'
theorem EndsTo.zero {f : Nat} : EndsTo m w f f (List.replicate (w.length + 1) false) (-1) :=
  ⟨List.length_replicate, fun q hq => ⟨fun h => (by rw [List.getElem?_replicate] at h; split at h <;> cases h), fun ⟨h1, h2, _⟩ => by omega⟩, .inl ⟨rfl, fun q _ ⟨h1, h2, _⟩ => by omega⟩⟩
theorem EndsTo.step {f p : Nat} {es es' : List Bool} {last last' : Int} (h : EndsTo m w f p es last) (hf : f ≤ p) (hp : p ≤ w.length) (h1 : Hit m w f p → es' = es.set p true ∧ last' = p) (h2 : ¬ Hit m w f p → es' = es ∧ last' = last) : EndsTo m w f (p + 1) es' last' := by
  by_cases hh : Hit m w f p
  · obtain ⟨rfl, rfl⟩ := h1 hh
    refine ⟨by rw [List.length_set]; exact h.len, fun q hq => ?_, .inr ⟨p, rfl, hf, by omega, hp, hh, fun q' a b c => by omega⟩⟩
    by_cases e : p = q
    · subst e
      rw [List.getElem?_set_self (by rw [h.len]; omega)]
      exact ⟨fun _ => ⟨hf, by omega, hh⟩, fun _ => rfl⟩
    · rw [List.getElem?_set_ne e, h.get q hq]
      exact ⟨fun ⟨a, b, c⟩ => ⟨a, by omega, c⟩, fun ⟨a, b, c⟩ => ⟨a, by omega, c⟩⟩
  · obtain ⟨rfl, rfl⟩ := h2 hh
    refine ⟨h.len, fun q hq => ?_, ?_⟩
    · rw [h.get q hq]
      exact ⟨fun ⟨a, b, c⟩ => ⟨a, by omega, c⟩, fun ⟨a, b, c⟩ => ⟨a, by (by_cases e : q = p; (· subst e; exact absurd c hh); (· omega)), c⟩⟩
    · rcases h.last with ⟨e, hn⟩ | ⟨q, e, a, b, c, d, g⟩
      · exact .inl ⟨e, fun q hq ⟨a, b, c⟩ => by (by_cases e : q = p; (· subst e; exact hh c); (· exact hn q hq ⟨a, by omega, c⟩))⟩
      · exact .inr ⟨q, e, a, by omega, c, d, fun q' x y z => by (by_cases e' : q' = p; (· subst e'; exact hh); (· exact g q' x (by omega) z))⟩
theorem hit_mem {f p : Nat} {l : List Nat} (hl : ∀ k, k ∈ l ↔ Run m w (0, f) (k, p)) : Hit m w f p ↔ ∃ k t, k ∈ l ∧ m[k]? = some t ∧ t.op = 6 :=
  ⟨fun ⟨i, t, h1, h2, h3⟩ => ⟨i, t, (hl i).2 h1, h2, h3⟩, fun ⟨k, t, h1, h2, h3⟩ => ⟨k, t, (hl k).1 h1, h2, h3⟩⟩
theorem EndsTo.stop {f p : Nat} {es : List Bool} {last : Int} (h : EndsTo m w f p es last) (hn : ∀ k, ¬ Base m w f p k) (hf : f < p) : ∀ q, p ≤ q → ¬ Hit m w f q := by
  have key : ∀ n k, ¬ Run m w (0, f) (k, p + n) := by
    intro n
    induction n with
    | zero => intro k hr; obtain ⟨b, hb, _⟩ := (run_base2 (by omega)).1 hr; exact hn b hb
    | succ n ih =>
      intro k hr
      rw [← Nat.add_assoc, run_succ (by omega)] at hr
      obtain ⟨j, h1, _⟩ := hr
      exact ih j h1
  intro q hq ⟨i, t, hr, _⟩
  exact key (q - p) i (by rw [show p + (q - p) = q by omega]; exact hr)
theorem EndsTo.ext {f p p' : Nat} {es : List Bool} {last : Int} (h : EndsTo m w f p es last) (hp : p ≤ p') (hn : ∀ q, p ≤ q → q ≤ w.length → ¬ Hit m w f q) : EndsTo m w f p' es last := by
  refine ⟨h.len, fun q hq => ?_, ?_⟩
  · rw [h.get q hq]
    exact ⟨fun ⟨a, b, c⟩ => ⟨a, by omega, c⟩, fun ⟨a, b, c⟩ => ⟨a, Nat.lt_of_not_le fun e => hn q e hq c, c⟩⟩
  · rcases h.last with ⟨e, hn'⟩ | ⟨q, e, a, b, c, d, g⟩
    · exact .inl ⟨e, fun q hq ⟨a, b, c⟩ => hn' q hq ⟨a, Nat.lt_of_not_le fun e => hn q e hq c, c⟩⟩
    · exact .inr ⟨q, e, a, by omega, c, d, fun q' x y z c' => (Nat.lt_or_ge q' p).elim (fun e' => g q' x e' z c') fun e' => hn q' e' z c'⟩
structure Done6 (m : List In) (l : List Nat) (i p : Nat) (es0 : List Bool) (last0 : Int) (es : List Bool) (last : Int) : Prop where
  y : (∃ j k t, j < i ∧ l[j]? = some k ∧ m[k]? = some t ∧ t.op = 6) → es = es0.set p true ∧ last = p
  n : ¬ (∃ (j k : Nat) (t : In), j < i ∧ l[j]? = some k ∧ m[k]? = some t ∧ t.op = 6) → es = es0 ∧ last = last0
theorem Done6.zero {l : List Nat} {p : Nat} {es0 : List Bool} {last0 : Int} : Done6 m l 0 p es0 last0 es0 last0 := ⟨fun ⟨j, _, _, h, _⟩ => by omega, fun _ => ⟨rfl, rfl⟩⟩
theorem Done6.mono {l l' : List Nat} {i p : Nat} {es0 es : List Bool} {last0 last : Int} (h : Done6 m l i p es0 last0 es last) (hl : ∀ j, j < i → l'[j]? = l[j]?) : Done6 m l' i p es0 last0 es last :=
  ⟨fun ⟨j, k, t, h1, h2, h3⟩ => h.y ⟨j, k, t, h1, by rw [← hl j h1]; exact h2, h3⟩, fun hn => h.n fun ⟨j, k, t, h1, h2, h3⟩ => hn ⟨j, k, t, h1, by rw [hl j h1]; exact h2, h3⟩⟩
theorem Done6.no {l : List Nat} {i p k : Nat} {t : In} {es0 es : List Bool} {last0 last : Int} (h : Done6 m l i p es0 last0 es last) (hk : l[i]? = some k) (ht : m[k]? = some t) (h6 : ¬ t.op = 6) : Done6 m l (i + 1) p es0 last0 es last := by
  have e : ∀ {j k' t'}, j < i + 1 → l[j]? = some k' → m[k']? = some t' → t'.op = 6 → j < i := by
    intro j k' t' h1 h2 h3 h4
    rcases Nat.lt_or_ge j i with h5 | h5
    · exact h5
    · obtain rfl : j = i := by omega
      rw [hk] at h2; cases h2
      rw [ht] at h3; cases h3
      exact absurd h4 h6
  exact ⟨fun ⟨j, k', t', h1, h2, h3, h4⟩ => h.y ⟨j, k', t', e h1 h2 h3 h4, h2, h3, h4⟩, fun hn => h.n fun ⟨j, k', t', h1, h2, h3⟩ => hn ⟨j, k', t', by omega, h2, h3⟩⟩
theorem Done6.yes {l : List Nat} {i p k : Nat} {t : In} {es0 es : List Bool} {last0 last : Int} (h : Done6 m l i p es0 last0 es last) (hk : l[i]? = some k) (ht : m[k]? = some t) (h6 : t.op = 6) : Done6 m l (i + 1) p es0 last0 (es.set p true) p := by
  refine ⟨fun _ => ⟨?_, rfl⟩, fun hn => absurd ⟨i, k, t, by omega, hk, ht, h6⟩ hn⟩
  by_cases hc : ∃ (j k : Nat) (t : In), j < i ∧ l[j]? = some k ∧ m[k]? = some t ∧ t.op = 6
  · rw [(h.y hc).1, List.set_set]
  · rw [(h.n hc).1]
theorem EndsTo.done {f p i : Nat} {l : List Nat} {es es0 : List Bool} {last last0 : Int} (h : EndsTo m w f p es0 last0) (hd : Done6 m l i p es0 last0 es last) (hi : l.length ≤ i) (hf : f ≤ p) (hp : p ≤ w.length) (hl : ∀ k, k ∈ l ↔ Run m w (0, f) (k, p)) : EndsTo m w f (p + 1) es last := by
  refine h.step hf hp (fun hh => ?_) (fun hh => ?_)
  · obtain ⟨k, t, h1, h2, h3⟩ := (hit_mem hl).1 hh
    obtain ⟨j, hj⟩ := List.mem_iff_getElem?.1 h1
    exact hd.y ⟨j, k, t, Nat.lt_of_lt_of_le (List.getElem?_eq_some_iff.1 hj).1 hi, hj, h2, h3⟩
  · exact hd.n fun ⟨j, k, t, _, h1, h2, h3⟩ => hh ((hit_mem hl).2 ⟨k, t, List.mem_of_getElem? h1, h2, h3⟩)
def Es16 (x : Int) : List Value := [.int .i16 x]
instance : Enc Es16 1 := ⟨fun _ => rfl, fun x v hv => by
  simp only [Es16, List.mem_cons, List.not_mem_nil, or_false] at hv
  subst hv; rfl⟩
structure FrG where
  (st steps last : Int) (mt : List Int) (ha : Option Addr) (hc : Nat) (l : List Nat) (wa : Option Addr) (wc : Nat) (wl : List Nat) (es : List Bool) (St Sh Sw Se : Hp)
end Go.HL.Kl.Mc
namespace Go.Proofs.YtloepfcndglmmaaDoor
open Go Go.HL Go.Proofs Go.HL.Kl Go.HL.Kl.Mc Go.HL.Kl.Mc.AskE
theorem wrap16 {x : Int} (h : -32768 ≤ x ∧ x < 32768) : IntKind.i16.wrap x = x := by
  simp [IntKind.wrap, IntKind.signed, IntKind.bits]; omega
theorem fresh_fn (bS : Nat) (ma : Option Addr) (mc : Nat) (m : List In) (ta : Option Addr) (tc : Nat) (vh vw ve : Value) (st steps : Int) (mt : List Int) (St : Hp) (hT : OwnS Es16 1 126 (.slice ta m.length tc) mt St) (l : List Nat) (hM : MetOk mt st l m.length) (h0 : 0 ≤ st) (h1 : st ≤ 32767) : HL.Fn Tryd.prog 99 [pt bS] (fun _ => True) ((bS, .cells [.slice ma m.length mc, .slice ta m.length tc, .int .i16 st, vh, vw, ve, .int .i64 steps].toArray 128 (0, 0)) :: St) (fun _ S' => ∃ mt' St' st', S' = (bS, .cells [.slice ma m.length mc, .slice ta m.length tc, .int .i16 st', vh, vw, ve, .int .i64 steps].toArray 128 (0, 0)) :: St' ∧ OwnS Es16 1 126 (.slice ta m.length tc) mt' St' ∧ MetOk mt' st' [] m.length ∧ 0 ≤ st' ∧ st' ≤ 32767) := by
  refine fn_of Tryd.func99 rfl rfl rfl fun w0 hw => ?_
  have hml := hM.len
  refine c_seqJ (ι := Int × List Int × Hp) (fun g => (0 ≤ g.1 ∧ g.1 ≤ 32766) ∧ OwnS Es16 1 126 (.slice ta m.length tc) g.2.1 g.2.2 ∧ (∀ v ∈ g.2.1, 0 ≤ v ∧ v ≤ g.1) ∧ g.2.1.length = m.length) (fun g => []) [(0, _)] (fun g => (bS, .cells [.slice ma m.length mc, .slice ta m.length tc, .int .i16 g.1, vh, vw, ve, .int .i64 steps].toArray 128 (0, 0)) :: g.2.2) sbA ?_ ?_
  ·rintro g ⟨⟨hg0, hg1⟩, hgo, hgv, hgl⟩
   refine c_region (oM ?_); refine oS sN ?_; refine oS sF ?_; refine oS sL ?_; refine oS (step_cast (v' := .int .i16 (g.1 + 1)) (s_addw rfl rfl) (congrArg _ (wrap16 (by omega)))) ?_; refine oS sN ?_; refine oS sF ?_; refine o_store rfl rfl rfl upA ltA rfl ?_; refine o_nil ?_; refine x_sub (Sub.refl _) (H' := (bS, .cells [.slice ma m.length mc, .slice ta m.length tc, .int .i16 (g.1 + 1), vh, vw, ve, .int .i64 steps].toArray 128 (0, 0)) :: g.2.2) hzB ?_; exact x_end rfl (.nil) (⟨g.2.1, g.2.2, g.1 + 1, rfl, hgo, ⟨hgl, fun k v hv => ⟨fun e => by have := (hgv v (List.mem_of_getElem? hv)).2; omega, fun h => (by cases h)⟩, fun v hv => ⟨(hgv v hv).1, by have := (hgv v hv).2; omega⟩, fun k h => (by cases h), List.nodup_nil⟩, by omega, by omega⟩)
  ·intro _ hJ1
   refine cR fun _ hK2 => ?_; refine oM ?_; refine oS sN ?_; refine oS sF ?_; refine oS sL ?_
   by_cases hs : st = 32767
   ·refine oS eqT (oZ hK2 ?_); refine cT (cR fun _ hK3 => ?_); refine oM ?_; refine oS sN ?_; refine oS sF ?_; refine oS sL ?_; refine o_clear (zx := (0 : Int)) hT rfl rfl pkA fun S4 hS4 => ?_; refine oZ hK3 (c_region (oM ?_)); refine oS sN ?_; refine oS sF ?_; refine o_store rfl rfl rfl upA ltA rfl ?_; refine o_nil ?_; exact x_then (hJ1 (0, List.replicate mt.length 0, S4) _ _ ⟨⟨by show (0 : Int) ≤ 0; decide, by show (0 : Int) ≤ 32766; decide⟩, (by have h := hS4; simpa [hml] using h), (fun v hv => by have := List.eq_of_mem_replicate hv; dsimp only; omega), by simpa using hml⟩ sbA sbA hzB)
   ·refine oS eqF (oZ hK2 ?_); refine cF (c_skip ?_); exact x_then (hJ1 (st, mt, St) _ _ ⟨⟨h0, by omega⟩, hT, hM.le, hml⟩ sbA sbA hzB)
set_option maxHeartbeats 1000000 in
theorem come_fn (bS : Nat) (ma : Option Addr) (mc : Nat) (m : List In) (hml : m.length ≤ 70000) (ta : Option Addr) (tc : Nat) (vh vw ve : Value) (st steps : Int) (mt : List Int) (St : Hp) (hT : OwnS Es16 1 126 (.slice ta m.length tc) mt St) (la : Option Addr) (lc : Nat) (l : List Nat) (Sl : Hp) (hl : OwnS Eix 1 3 (.slice la l.length lc) l Sl) (hM : MetOk mt st l m.length) (h0 : 0 ≤ st) (k : Nat) (hk : k < m.length) : HL.Fn Tryd.prog 100 [pt bS, .slice la l.length lc, .int .i64 k] (fun _ => True) ((bS, .cells [.slice ma m.length mc, .slice ta m.length tc, .int .i16 st, vh, vw, ve, .int .i64 steps].toArray 128 (0, 0)) :: (St ++ Sl)) (fun v S' => ∃ a c mt' St' Sl' steps', v = .slice a (comeL l k).length c ∧ S' = (bS, .cells [.slice ma m.length mc, .slice ta m.length tc, .int .i16 st, vh, vw, ve, .int .i64 steps'].toArray 128 (0, 0)) :: (St' ++ Sl') ∧ OwnS Es16 1 126 (.slice ta m.length tc) mt' St' ∧ OwnS Eix 1 3 (.slice a (comeL l k).length c) (comeL l k) Sl' ∧ MetOk mt' st (comeL l k) m.length) := by
  refine fn_of Tryd.func100 rfl rfl rfl fun w0 hw => ?_
  have hml2 := hM.len
  have hbig := hM.big
  obtain ⟨x, hx⟩ : ∃ x, mt[k]? = some x := gE
  have hTs := hT.sl
  have hgx := hM.get k x hx
  refine cR fun _ hK1 => ?_; refine oA (oZ hK1 (c_seq fun _ hK2 => ?_)); refine c_seq fun _ hK3 => ?_; refine c_drawE ((bS, .cells [.slice ma m.length mc, .slice ta m.length tc, .int .i16 st, vh, vw, ve, .int .i64 steps].toArray 128 (0, 0)) :: St) (fun i => false) ?_; refine eK 0 rfl sM ?_; refine eK 1 rfl sN ?_; refine eK 2 rfl sF ?_; refine eK 3 rfl sL ?_; refine eK 4 rfl sM ?_; refine eK 5 rfl (s_idx rfl rfl (by rw [hml2] at hTs; exact hTs) (by omega)) ?_; refine eK 6 rfl (s_ld rfl ((hT.rdk hiA).ld k 0 hx rfl (by decide) (by omega))) ?_; refine eK 7 rfl sM ?_; refine eK 8 rfl sN ?_; refine eK 9 rfl sF ?_; refine eK 10 rfl sL (eO 11 rfl ?_)
  by_cases hxs : x = st
  ·have hkl := hgx.1 hxs
   have hcl : comeL l k = l := if_pos hkl
   refine o_step rfl (step_cast (v' := .bool true) (s_eql rfl rfl) (by rw [decide_eq_true hxs])) ?_; refine o_nil ?_; refine x_oneS hzB ?_; refine e_done (by kernel_rfl) ?_; refine x_then (hK3 _ _ ?_); refine c_true rfl ?_; refine c_seq fun _ hK4 => ?_; refine c_region ?_; refine o_step rfl (s_move rfl) ?_; refine o_step rfl (s_assign rfl) ?_; refine o_nil ?_; refine x_then (hK4 _ _ ?_); refine c_ret ?_; refine x_then_ret (?_); refine x_sub (Sub.refl _) (H' := (bS, .cells [.slice ma m.length mc, .slice ta m.length tc, .int .i16 st, vh, vw, ve, .int .i64 steps].toArray 128 (0, 0)) :: (St ++ Sl)) hzB ?_; exact x_ret rfl (.tmp rfl (.nil)) (⟨la, lc, mt, St, Sl, steps, by rw [hcl]; rfl, rfl, hT, by rw [hcl]; exact hl, by rw [hcl]; exact hM⟩)
  ·have hkl : k ∉ l := fun h => hxs (hgx.2 h)
   have hcl : comeL l k = l ++ [k] := if_neg hkl
   refine oS (eqF (h := hxs)) ?_; refine oX (eZ hK3 ?_); refine cFZ hK2 (c_seq fun _ hK5 => ?_); refine c_drawE ([(bS, .cells [.slice ma m.length mc, .slice ta m.length tc, .int .i16 st, vh, vw, ve, .int .i64 steps].toArray 128 (0, 0))]) (fun i => false) ?_; refine eK 0 rfl sM ?_; refine eK 1 rfl sN ?_; refine eK 2 rfl sF ?_; refine eK 3 rfl sL ?_; refine eK 4 rfl sM ?_; refine eK 5 rfl sM ?_; refine eK 6 rfl sN ?_; refine eK 7 rfl sF ?_; refine eK 8 rfl sL (eO 9 rfl ?_); refine oS (s_idx rfl rfl (by rw [hml2] at hTs; exact hTs) (by omega)) ?_; refine oX (eO 10 rfl ?_); refine o_stS1 k st hT pkA rfl rfl rfl (by omega) (by omega) fun S' hS' => ?_; refine oX (eZ hK5 (cR fun _ hK6 => ?_)); refine oM ?_; refine oS sN ?_; refine oS sF ?_; refine oS sL ?_; refine oS (s_addw rfl rfl) ?_; refine oS sN ?_; refine oS sF ?_; refine o_store rfl rfl rfl upA ltA rfl ?_; refine oZ hK6 (cR fun _ hK7 => ?_); refine oM (oM ?_); refine o_bs (E := Eix) (xs := [k]) (vs := [_]) rfl rfl rfl rfl rfl (by decide) (by decide) fun b39 S39 hS39 => ?_
   refine o_app hl (hS39.rdk hiA) rfl rfl rfl rfl (by simp; omega) (by simp; omega) rfl pkA fun a40 c40 S40 hS40 => ?_; refine o_step rfl (s_assign rfl) ?_; refine o_nil ?_; refine x_then (hK7 _ _ ?_); refine c_ret ?_; refine ?_; refine x_sub (Sub.refl _) (H' := (bS, .cells [.slice ma m.length mc, .slice ta m.length tc, .int .i16 st, vh, vw, ve, .int .i64 (IntKind.i64.wrap (steps + 1))].toArray 128 (0, 0)) :: (S' ++ S40)) hzB ?_; exact x_ret rfl (.tmp rfl (.nil)) (⟨a40, c40, mt.set k st, S', S40, _, by rw [hcl]; rfl, rfl, hS', by rw [hcl]; exact hS40, hM.come hk hkl h0⟩)
def SrE (bS : Nat) (m : List In) (n : Nat) (es : List Bool) (S : Hp) : Prop := ∃ (ma : Option Addr) (mc : Nat) (ta : Option Addr) (tc : Nat) (g : FrG) (l0 : List Nat) (ea : Option Addr) (ec : Nat) (Sm : Hp),
  S = (bS, .cells [.slice ma m.length mc, .slice ta m.length tc, .int .i16 g.st, .slice g.ha g.l.length g.hc, .slice g.wa g.wl.length g.wc, .slice ea es.length ec, .int .i64 g.steps].toArray 128 (0, 0)) :: (Sm ++ (g.St ++ (g.Sh ++ (g.Sw ++ g.Se)))) ∧
  OwnS Ein 7 119 (.slice ma m.length mc) m Sm ∧ OwnS Es16 1 126 (.slice ta m.length tc) g.mt g.St ∧ MetOk g.mt g.st l0 m.length ∧ (0 ≤ g.st ∧ g.st ≤ 32767) ∧
  OwnS Eix 1 3 (.slice g.ha g.l.length g.hc) g.l g.Sh ∧ OwnS Eix 1 3 (.slice g.wa g.wl.length g.wc) g.wl g.Sw ∧ OwnS Ebo 1 4 (.slice ea es.length ec) es g.Se ∧ (es.length = n + 1 ∨ (es = [] ∧ ec = 0)) ∧ g.l.length ≤ m.length ∧ g.wl.length ≤ m.length
set_option maxHeartbeats 4000000 in
theorem from_fn (bS : Nat) (ma : Option Addr) (mc : Nat) (m : List In) (ta : Option Addr) (tc : Nat) (g0 : FrG) (l0 : List Nat) (ea0 : Option Addr) (ec0 : Nat) (es : List Bool) (Sm : Hp) (hm : OwnS Ein 7 119 (.slice ma m.length mc) m Sm) (hmr : ∀ x ∈ m, -128 ≤ x.op ∧ x.op < 128) (hmok : MOk m) (hT0 : OwnS Es16 1 126 (.slice ta m.length tc) g0.mt g0.St) (hM0 : MetOk g0.mt g0.st l0 m.length) (h00 : 0 ≤ g0.st ∧ g0.st ≤ 32767) (hl0 : OwnS Eix 1 3 (.slice g0.ha g0.l.length g0.hc) g0.l g0.Sh) (hW0 : OwnS Eix 1 3 (.slice g0.wa g0.wl.length g0.wc) g0.wl g0.Sw) (hE0 : OwnS Ebo 1 4 (.slice ea0 es.length ec0) es g0.Se) (xa : Option Addr) (xc : Nat) (w : List UInt8) (hwl : w.length ≤ 1000000) (hes : es.length = w.length + 1 ∨ (es = [] ∧ ec0 = 0)) (hgl : g0.l.length ≤ m.length) (hgw : g0.wl.length ≤ m.length) (f : Nat) (hf : f ≤ w.length) : HL.Fn Tryd.prog 79 [pt bS, .slice xa w.length xc, .int .i64 f] (fun W => Rd Eb W (.slice xa w.length xc) w ∧ Apart (keys ((bS, .cells [.slice ma m.length mc, .slice ta m.length tc, .int .i16 g0.st, (.slice g0.ha g0.l.length g0.hc), (.slice g0.wa g0.wl.length g0.wc), .slice ea0 es.length ec0, .int .i64 g0.steps].toArray 128 (0, 0)) :: (Sm ++ (g0.St ++ (g0.Sh ++ (g0.Sw ++ g0.Se)))))) (.slice xa w.length xc)) ((bS, .cells [.slice ma m.length mc, .slice ta m.length tc, .int .i16 g0.st, (.slice g0.ha g0.l.length g0.hc), (.slice g0.wa g0.wl.length g0.wc), .slice ea0 es.length ec0, .int .i64 g0.steps].toArray 128 (0, 0)) :: (Sm ++ (g0.St ++ (g0.Sh ++ (g0.Sw ++ g0.Se))))) (fun v S' => ∃ es' last, v = .int .i64 last ∧ SrE bS m w.length es' S' ∧ EndsTo m w f (w.length + 1) es' last) := by
  refine fn_of Tryd.func79 rfl rfl rfl fun w0 hw => ?_
  have hml : m.length ≤ 70000 := by have := hmok.2.1; omega
  have hm1 : 0 < m.length := hmok.1
  have hxl := hw.1.sl
  have hms := hm.sl
  have hec := hE0.sl.cap
  have hEs0 := hE0.sl
  refine cR fun _ hK1 => ?_; refine oA (oZ hK1 ?_); refine c_seqJ (ι := Option Addr × Nat × Nat × List Bool × Hp) (fun j => OwnS Ebo 1 4 (.slice j.1 j.2.2.1 j.2.1) j.2.2.2.1 j.2.2.2.2 ∧ j.2.2.2.1.length = w.length + 1 ∧ j.2.2.1 = w.length + 1) (fun j => []) [(0, _), (1, _), (2, _), (6, _)] (fun j => (bS, .cells [.slice ma m.length mc, .slice ta m.length tc, .int .i16 g0.st, (.slice g0.ha g0.l.length g0.hc), (.slice g0.wa g0.wl.length g0.wc), (.slice j.1 j.2.2.1 j.2.1), .int .i64 g0.steps].toArray 128 (0, 0)) :: (Sm ++ (g0.St ++ (g0.Sh ++ (g0.Sw ++ j.2.2.2.2))))) sbA ?_ ?_
  ·rintro ⟨ja, jc, jn, jes, jS⟩ ⟨hj, hjl, hjn⟩
   refine cR fun _ hK3 => ?_; refine oM (oM ?_); refine oS sN ?_; refine oS sF ?_; refine oS sL (oM ?_); refine oS sC ?_; refine oS sD ?_; refine oS (step_cast (v' := .slice ja (w.length + 1) jc) (s_slice_hi rfl rfl (by have := hj.sl.cap; omega)) (congrArg (fun n => Value.slice ja n jc) (by omega))) ?_; refine oS sN ?_; refine oS sF ?_; refine o_store rfl rfl rfl upA ltA rfl ?_; refine oZ hK3 (cR fun _ hK4 => ?_); refine oM ?_; refine oS sN ?_; refine oS sF ?_; refine oS sL ?_
   dsimp only at hj hjl hjn
   subst hjn; refine o_clear (zx := false) hj rfl rfl pkA fun S45 hS45 => ?_; refine oZ hK4 (cR fun _ hK5 => ?_); refine oA (oZ hK5 (cR fun _ hK6 => ?_)); refine oM ?_; refine o_call (fresh_fn bS ma mc m ta tc (.slice g0.ha g0.l.length g0.hc) (.slice g0.wa g0.wl.length g0.wc) (.slice ja (w.length + 1) jc) g0.st g0.steps g0.mt g0.St hT0 l0 hM0 h00.1 h00.2) rfl rfl rfl ((Pick.takeC pkA pkA)) (fun _ _ => trivial) (fun v47 S47 ⟨mt1, St1, st1, hS47, hT, hM, h0, h1⟩ => ?_); subst hS47
   refine oZ hK6 (cR fun _ hK7 => ?_); refine oM (oM (oM ?_)); refine oS sN ?_; refine oS sF ?_; refine oS sL ?_; refine oS (step_cast (v' := .slice g0.ha ([] : List Nat).length g0.hc) (s_slice_hi rfl rfl (by omega)) rfl) ?_
   have hl1 := hl0.pre 0 (Nat.zero_le _)
   rw [List.take_zero] at hl1
   refine o_call (come_fn bS ma mc m hml ta tc ((.slice g0.ha g0.l.length g0.hc)) ((.slice g0.wa g0.wl.length g0.wc)) (.slice ja (w.length + 1) jc) st1 g0.steps mt1 St1 hT g0.ha g0.hc [] g0.Sh hl1 hM h0 0 hm1) rfl rfl rfl ((Pick.takeC pkA (Pick.takeA pkA pkA))) (fun _ _ => trivial) (fun v55 S55 ⟨a2, c2, mt2, St2, Sl2, sp2, hv55, hS55, hT2, hl2, hM2⟩ => ?_); subst hv55
   subst hS55; refine oS sN ?_; refine oS sF ?_; refine o_store rfl rfl rfl upA ltA rfl ?_; refine oZ hK7 (c_seq fun _ hK8 => ?_); refine cR fun _ hK9 => ?_; refine oM (oA (oZ hK9 (c_block ?_)))
   obtain ⟨ea, hea⟩ : ∃ ea, ea = ja := ⟨_, rfl⟩
   obtain ⟨ec, hec2⟩ : ∃ ec, ec = jc := ⟨_, rfl⟩
   rw [← hea, ← hec2] at hS45
   have hz : OwnS Ebo 1 4 (.slice ea (w.length + 1) ec) (List.replicate (w.length + 1) false) S45 := by rw [hjl] at hS45; exact hS45
   have hb0 : ∀ k, k ∈ comeL ([] : List Nat) 0 ↔ Base m w f f k := fun k => by rw [comeL_mem]; exact ⟨fun h => .inl ⟨rfl, h.elim (fun h => by cases h) id⟩, fun h => h.elim (fun h => .inr h.2) fun ⟨q, x, h1, h2, _⟩ => by omega⟩
   refine c_loop2 (fun (p : Nat) (g : FrG) => f ≤ p ∧ p ≤ w.length ∧ (OwnS Es16 1 126 (.slice ta m.length tc) g.mt g.St ∧ OwnS Eix 1 3 (.slice g.ha g.l.length g.hc) g.l g.Sh ∧ OwnS Eix 1 3 (.slice g.wa g.wl.length g.wc) g.wl g.Sw ∧ OwnS Ebo 1 4 (.slice ea (w.length + 1) ec) g.es g.Se ∧ (0 ≤ g.st ∧ g.st ≤ 32767) ∧ g.wl.length ≤ m.length) ∧ MetOk g.mt g.st g.l m.length ∧ (∀ k, k ∈ g.l ↔ Base m w f p k) ∧ EndsTo m w f p g.es g.last) (fun (p : Nat) (g : FrG) => [(8, .int .i64 p), (7, .int .i64 g.last)]) [(0, _), (1, _), (6, _)] (fun (p : Nat) (g : FrG) => (bS, .cells [.slice ma m.length mc, .slice ta m.length tc, .int .i16 g.st, (.slice g.ha g.l.length g.hc), (.slice g.wa g.wl.length g.wc), .slice ea (w.length + 1) ec, .int .i64 g.steps].toArray 128 (0, 0)) :: (Sm ++ (g.St ++ (g.Sh ++ (g.Sw ++ g.Se))))) (fun (p : Nat) (g : FrG) => w.length + 1 - p) f ⟨st1, sp2, -1, mt2, a2, c2, comeL [] 0, g0.wa, g0.wc, g0.wl, List.replicate (w.length + 1) false, St2, Sl2, g0.Sw, S45⟩ ⟨Nat.le_refl _, hf, ⟨hT2, hl2, hW0, hz, ⟨h0, h1⟩, hgw⟩, hM2, hb0, EndsTo.zero⟩ sbA sbA (by subst hea; subst hec2; (try dsimp only); (try simp only [List.append_assoc, List.cons_append, List.nil_append]); exact hzB) ?_
   rintro p g ⟨hfp, hpn, ⟨hT, hl, hW, hE, ⟨h0, h1⟩, hwl2⟩, hM, hB, hE2⟩
   have hE2l := hE2.len
   refine c_seq fun _ hK10 => ?_; refine cR fun _ hK11 => ?_; refine oM ?_; refine oS sN ?_; refine oS sF ?_; refine oS sL ?_; refine oS sC ?_
   by_cases hlen : (g.l.length : Int) > 0
   ·refine oS gtT (oZ hK11 ?_); refine cTZ hK10 (c_seq fun _ hK12 => ?_); refine c_block (c_seq fun _ hK13 => ?_); refine cR fun _ hK14 => ?_; refine oA (oZ hK14 (c_block ?_))
    obtain ⟨gp, hgp⟩ : ∃ gp, gp = g := ⟨_, rfl⟩
    subst hgp; refine c_loop2 (fun (i : Nat) (g : FrG) => i ≤ g.l.length ∧ (OwnS Es16 1 126 (.slice ta m.length tc) g.mt g.St ∧ OwnS Eix 1 3 (.slice g.ha g.l.length g.hc) g.l g.Sh ∧ OwnS Eix 1 3 (.slice g.wa g.wl.length g.wc) g.wl g.Sw ∧ OwnS Ebo 1 4 (.slice ea (w.length + 1) ec) g.es g.Se ∧ (0 ≤ g.st ∧ g.st ≤ 32767) ∧ g.wl.length ≤ m.length) ∧ MetOk g.mt g.st g.l m.length ∧ Lst m w.length p (Base m w f p) g.l i ∧ Done6 m g.l i p gp.es gp.last g.es g.last ∧ g.es.length = w.length + 1) (fun (i : Nat) (g : FrG) => [(9, .int .i64 i), (7, .int .i64 g.last)]) [(0, _), (1, _), (6, _), (8, _), (59, _), (60, _), (61, _), (62, _), (63, _), (64, _)] (fun (i : Nat) (g : FrG) => (bS, .cells [.slice ma m.length mc, .slice ta m.length tc, .int .i16 g.st, (.slice g.ha g.l.length g.hc), (.slice g.wa g.wl.length g.wc), .slice ea (w.length + 1) ec, .int .i64 g.steps].toArray 128 (0, 0)) :: (Sm ++ (g.St ++ (g.Sh ++ (g.Sw ++ g.Se))))) (fun (i : Nat) (g : FrG) => m.length + 1 - i) 0 gp ⟨Nat.zero_le _, ⟨hT, hl, hW, hE, ⟨h0, h1⟩, hwl2⟩, hM, Lst.start hB fun k => base_lt hmok, Done6.zero, hE2l⟩ sbA sbA hzB ?_
    rintro i g ⟨hi, ⟨hT, hl, hW, hE, ⟨h0, h1⟩, hwl2⟩, hM, hLs, hD, hel⟩
    refine c_seq fun _ hK15 => ?_; refine cR fun _ hK16 => ?_; refine oM (oM ?_); refine oS sN ?_; refine oS sF ?_; refine oS sL ?_; refine oS sC ?_
    by_cases hig : (i : Int) < g.l.length
    ·obtain ⟨k, hk⟩ : ∃ k, g.l[i]? = some k := gE
     have hkm := hLs.lt k (List.mem_of_getElem? hk)
     obtain ⟨u, hu⟩ : ∃ u, m[k]? = some u := ⟨_, List.getElem?_eq_getElem hkm⟩
     have hum := hmr u (List.mem_of_getElem? hu)
     have huk := hmok.2.2 k u hu
     have hub := huk.1.bnd
     have huo := huk.1.1
     have hig : i < g.l.length := by omega
     have hgb := hM.big
     have hil : i < 70000 := by omega
     refine oS lsT (oZ hK16 ?_); refine cTZ hK15 (c_seq fun _ hK17 => ?_); refine c_block (cR fun _ hK18 => ?_); refine oM ?_; refine oS sN ?_; refine oS sF ?_; refine oS sL (oM ?_); refine oS (s_idx rfl rfl hl.sl (by omega)) ?_; refine oS (s_ld rfl ((hl.rdk hiA).ld i 0 hk rfl (by decide) (by omega))) ?_; refine oA (oZ hK18 (cR fun _ hK19 => ?_)); refine oM ?_; refine oS sN ?_; refine oS sF ?_; refine oS sL (oM ?_); refine oS (s_idx rfl rfl hms (by omega)) ?_; refine oA (oZ hK19 (cR fun _ hK20 => ?_)); refine oM ?_; refine oS sN ?_; refine oS sF ?_; refine oS (s_ld rfl ((hm.rdk hiA).ld k 0 hu rfl (by decide) (by omega))) ?_; refine oZ hK20 (c_block (cR fun _ hK21 => ?_))
     by_cases o2 : u.op = 2
     ·refine oS (eqT (h := o2)) ?_; refine oA (oZ hK21 ?_); refine cT (cR fun _ hK22 => ?_); refine oM ?_
      by_cases hp0 : (p : Int) = 0
      ·refine oS eqT (oZ hK22 ?_); refine cT (c_region (oM (oM (oM ?_)))); refine oS sN ?_; refine oS sF ?_; refine oS sL (oM ?_); refine oS sD ?_; refine o_call (come_fn bS ma mc m hml ta tc ((.slice g.ha g.l.length g.hc)) ((.slice g.wa g.wl.length g.wc)) (.slice ea (w.length + 1) ec) g.st g.steps g.mt g.St hT g.ha g.hc g.l g.Sh hl hM h0 (k + 1) (huk.2 (by omega))) rfl rfl rfl ((Pick.takeC pkA (Pick.takeA pkA pkA))) (fun _ _ => trivial) (fun v105 S105 ⟨a3, c3, mt3, St3, Sl3, sp3, hv105, hS105, hT3, hl3, hM3⟩ => ?_); subst hv105
       subst hS105; refine oS sN ?_; refine oS sF ?_; refine o_store rfl rfl rfl upA ltA rfl ?_; refine o_nil (x_block (x_block (xZ hK17 (c_region (oM ?_))))); refine oS sD (oA (o_nil ?_)); exact x_then (x_inv (i + 1, ⟨g.st, sp3, g.last, mt3, a3, c3, comeL g.l (k + 1), g.wa, g.wc, g.wl, g.es, St3, Sl3, g.Sw, g.Se⟩) ⟨by dsimp only; have := (comeL_len (l := g.l) (k := (k + 1))).1; omega, ⟨hT3, hl3, hW, hE, ⟨h0, h1⟩, hwl2⟩, hM3, ((hLs.go hig).come hmok hk ⟨u, hu, .inl ⟨o2, by omega, rfl⟩⟩).next (by rw [comeL_pre hig]; exact hk) (fun k2 he2 => by rw [eps_succs hmok hu, succs, if_pos o2, if_pos (by omega)] at he2; first | exact he2 | (simpa using he2)), (hD.mono (fun j hj => comeL_pre (by omega))).no (by rw [comeL_pre hig]; exact hk) hu (by omega), hel⟩ (by dsimp only; have := hM.big; omega) sbA (by (try dsimp only); (try simp only [List.append_assoc, List.cons_append, List.nil_append]); exact hzB))
      ·refine oS eqF (oZ hK22 ?_); refine cF (c_skip (x_block (x_block (xZ hK17 (c_region (oM ?_)))))); refine oS sD (oA (o_nil ?_)); exact x_then (x_inv (i + 1, g) ⟨by dsimp only; omega, ⟨hT, hl, hW, hE, ⟨h0, h1⟩, hwl2⟩, hM, (hLs.go hig).next hk (fun k2 he2 => by rw [eps_succs hmok hu, succs, if_pos o2, if_neg (by omega)] at he2; first | exact he2 | (simpa using he2)), hD.no hk hu (by omega), hel⟩ (by dsimp only; have := hM.big; omega) sbA hzB)
     ·refine oS (eqF (h := o2)) ?_; refine oA (oZ hK21 ?_); refine cF (cR fun _ hK23 => ?_)
      by_cases o3 : u.op = 3
      ·refine oS (eqT (h := o3)) ?_; refine oA (oZ hK23 ?_); refine cT (cR fun _ hK24 => ?_); refine oM (oM ?_); refine oS sC ?_
       by_cases hpe : (p : Int) = w.length
       ·refine oS eqT (oZ hK24 ?_); refine cT (c_region (oM (oM (oM ?_)))); refine oS sN ?_; refine oS sF ?_; refine oS sL (oM ?_); refine oS sD ?_; refine o_call (come_fn bS ma mc m hml ta tc ((.slice g.ha g.l.length g.hc)) ((.slice g.wa g.wl.length g.wc)) (.slice ea (w.length + 1) ec) g.st g.steps g.mt g.St hT g.ha g.hc g.l g.Sh hl hM h0 (k + 1) (huk.2 (by omega))) rfl rfl rfl ((Pick.takeC pkA (Pick.takeA pkA pkA))) (fun _ _ => trivial) (fun v122 S122 ⟨a3, c3, mt3, St3, Sl3, sp3, hv122, hS122, hT3, hl3, hM3⟩ => ?_); subst hv122
        subst hS122; refine oS sN ?_; refine oS sF ?_; refine o_store rfl rfl rfl upA ltA rfl ?_; refine o_nil (x_block (x_block (xZ hK17 (c_region (oM ?_))))); refine oS sD (oA (o_nil ?_)); exact x_then (x_inv (i + 1, ⟨g.st, sp3, g.last, mt3, a3, c3, comeL g.l (k + 1), g.wa, g.wc, g.wl, g.es, St3, Sl3, g.Sw, g.Se⟩) ⟨by dsimp only; have := (comeL_len (l := g.l) (k := (k + 1))).1; omega, ⟨hT3, hl3, hW, hE, ⟨h0, h1⟩, hwl2⟩, hM3, ((hLs.go hig).come hmok hk ⟨u, hu, .inr (.inl ⟨o3, by omega, rfl⟩)⟩).next (by rw [comeL_pre hig]; exact hk) (fun k2 he2 => by rw [eps_succs hmok hu, succs, if_neg o2, if_pos o3, if_pos (by omega)] at he2; first | exact he2 | (simpa using he2)), (hD.mono (fun j hj => comeL_pre (by omega))).no (by rw [comeL_pre hig]; exact hk) hu (by omega), hel⟩ (by dsimp only; have := hM.big; omega) sbA (by (try dsimp only); (try simp only [List.append_assoc, List.cons_append, List.nil_append]); exact hzB))
       ·refine oS eqF (oZ hK24 ?_); refine cF (c_skip (x_block (x_block (xZ hK17 (c_region (oM ?_)))))); refine oS sD (oA (o_nil ?_)); exact x_then (x_inv (i + 1, g) ⟨by dsimp only; omega, ⟨hT, hl, hW, hE, ⟨h0, h1⟩, hwl2⟩, hM, (hLs.go hig).next hk (fun k2 he2 => by rw [eps_succs hmok hu, succs, if_neg o2, if_pos o3, if_neg (by omega)] at he2; first | exact he2 | (simpa using he2)), hD.no hk hu (by omega), hel⟩ (by dsimp only; have := hM.big; omega) sbA hzB)
      ·refine oS (eqF (h := o3)) ?_; refine oA (oZ hK23 ?_); refine cF (cR fun _ hK25 => ?_)
       by_cases o4 : u.op = 4
       ·refine oS (eqT (h := o4)) ?_; refine oA (oZ hK25 ?_); refine cT ?_; refine c_drawE ((bS, .cells [.slice ma m.length mc, .slice ta m.length tc, .int .i16 g.st, (.slice g.ha g.l.length g.hc), (.slice g.wa g.wl.length g.wc), .slice ea (w.length + 1) ec, .int .i64 g.steps].toArray 128 (0, 0)) :: Sm) (fun i => Nat.beq i 10 || Nat.beq i 11 || Nat.beq i 12 || Nat.beq i 13) ?_; refine eP 0 rfl sM ?_; refine eP 1 rfl sM ?_; refine eP 2 rfl sM ?_; refine eP 3 rfl sN ?_; refine eP 4 rfl sF ?_; refine eK 5 rfl sL ?_; refine eP 6 rfl sM ?_; refine eP 7 rfl sN ?_; refine eP 8 rfl sF ?_; refine eK 9 rfl (step_cast (v' := .int .i64 (u.x.toNat : Int)) (s_ld rfl ((hm.rdk hiA).ld k 5 hu rfl (by decide) (by omega))) (congrArg (Value.int .i64) (by have := huk.1.2.2.1.1; omega))) ?_; refine eO 10 rfl ?_; refine o_call (come_fn bS ma mc m hml ta tc ((.slice g.ha g.l.length g.hc)) ((.slice g.wa g.wl.length g.wc)) (.slice ea (w.length + 1) ec) g.st g.steps g.mt g.St hT g.ha g.hc g.l g.Sh hl hM h0 u.x.toNat (by have := huk.1.2.2.1.2; rw [if_pos (by omega)] at this; omega)) rfl rfl rfl ((Pick.takeC pkA (Pick.takeA pkA pkA))) (fun _ _ => trivial) (fun v137 S137 ⟨a3, c3, mt3, St3, Sl3, sp3, hv137, hS137, hT3, hl3, hM3⟩ => ?_); subst hv137
        subst hS137; refine o_nil ?_; refine x_oneL rfl ?_; refine eO 11 rfl ?_; refine oS sN (o_nil ?_); refine x_oneL rfl ?_; refine eO 12 rfl ?_; refine oS sF (o_nil ?_); refine x_oneL rfl ?_; refine eO 13 rfl ?_; refine o_store rfl rfl rfl upA ltA rfl ?_; refine o_nil ?_; refine x_oneL rfl ?_; refine e_done (by kernel_rfl) ?_; refine x_block (x_block (xZ hK17 (c_region (oM ?_)))); refine oS sD (oA (o_nil ?_)); exact x_then (x_inv (i + 1, ⟨g.st, sp3, g.last, mt3, a3, c3, comeL g.l u.x.toNat, g.wa, g.wc, g.wl, g.es, St3, Sl3, g.Sw, g.Se⟩) ⟨by dsimp only; have := (comeL_len (l := g.l) (k := u.x.toNat)).1; omega, ⟨hT3, hl3, hW, hE, ⟨h0, h1⟩, hwl2⟩, hM3, ((hLs.go hig).come hmok hk ⟨u, hu, .inr (.inr (.inl ⟨o4, by omega⟩))⟩).next (by rw [comeL_pre hig]; exact hk) (fun k2 he2 => by rw [eps_succs hmok hu, succs, if_neg o2, if_neg o3, if_pos o4] at he2; first | exact he2 | (simpa using he2)), (hD.mono (fun j hj => comeL_pre (by omega))).no (by rw [comeL_pre hig]; exact hk) hu (by omega), hel⟩ (by dsimp only; have := hM.big; omega) sbA (by (try dsimp only); (try simp only [List.append_assoc, List.cons_append, List.nil_append]); exact hzB))
       ·refine oS (eqF (h := o4)) ?_; refine oA (oZ hK25 ?_); refine cF (cR fun _ hK26 => ?_)
        by_cases o5 : u.op = 5
        ·refine oS (eqT (h := o5)) ?_; refine oA (oZ hK26 ?_); refine cT (c_seq fun _ hK27 => ?_); refine c_drawE ((bS, .cells [.slice ma m.length mc, .slice ta m.length tc, .int .i16 g.st, (.slice g.ha g.l.length g.hc), (.slice g.wa g.wl.length g.wc), .slice ea (w.length + 1) ec, .int .i64 g.steps].toArray 128 (0, 0)) :: Sm) (fun i => Nat.beq i 10 || Nat.beq i 11 || Nat.beq i 12 || Nat.beq i 13) ?_; refine eP 0 rfl sM ?_; refine eP 1 rfl sM ?_; refine eP 2 rfl sM ?_; refine eP 3 rfl sN ?_; refine eP 4 rfl sF ?_; refine eK 5 rfl sL ?_; refine eP 6 rfl sM ?_; refine eP 7 rfl sN ?_; refine eP 8 rfl sF ?_; refine eK 9 rfl (step_cast (v' := .int .i64 (u.x.toNat : Int)) (s_ld rfl ((hm.rdk hiA).ld k 5 hu rfl (by decide) (by omega))) (congrArg (Value.int .i64) (by have := huk.1.2.2.1.1; omega))) ?_; refine eO 10 rfl ?_; refine o_call (come_fn bS ma mc m hml ta tc ((.slice g.ha g.l.length g.hc)) ((.slice g.wa g.wl.length g.wc)) (.slice ea (w.length + 1) ec) g.st g.steps g.mt g.St hT g.ha g.hc g.l g.Sh hl hM h0 u.x.toNat (by have := huk.1.2.2.1.2; rw [if_pos (by omega)] at this; omega)) rfl rfl rfl ((Pick.takeC pkA (Pick.takeA pkA pkA))) (fun _ _ => trivial) (fun v152 S152 ⟨a3, c3, mt3, St3, Sl3, sp3, hv152, hS152, hT3, hl3, hM3⟩ => ?_); subst hv152
         subst hS152; refine o_nil ?_; refine x_oneL rfl ?_; refine eO 11 rfl ?_; refine oS sN (o_nil ?_); refine x_oneL rfl ?_; refine eO 12 rfl ?_; refine oS sF (o_nil ?_); refine x_oneL rfl ?_; refine eO 13 rfl ?_; refine o_store rfl rfl rfl upA ltA rfl ?_; refine o_nil ?_; refine x_oneL rfl ?_; refine eZ hK27 ?_; refine c_drawE ((bS, .cells [.slice ma m.length mc, .slice ta m.length tc, .int .i16 g.st, (.slice a3 (comeL g.l u.x.toNat).length c3), (.slice g.wa g.wl.length g.wc), .slice ea (w.length + 1) ec, .int .i64 sp3].toArray 128 (0, 0)) :: Sm) (fun i => Nat.beq i 10 || Nat.beq i 11 || Nat.beq i 12 || Nat.beq i 13) ?_; refine eP 0 rfl sM ?_; refine eP 1 rfl sM ?_; refine eP 2 rfl sM ?_; refine eP 3 rfl sN ?_; refine eP 4 rfl sF ?_; refine eK 5 rfl sL ?_; refine eP 6 rfl sM ?_; refine eP 7 rfl sN ?_; refine eP 8 rfl sF ?_; refine eK 9 rfl (step_cast (v' := .int .i64 (u.y.toNat : Int)) (s_ld rfl ((hm.rdk hiA).ld k 6 hu rfl (by decide) (by omega))) (congrArg (Value.int .i64) (by have := huk.1.2.2.2.1; omega))) ?_; refine eO 10 rfl ?_; refine o_call (come_fn bS ma mc m hml ta tc ((.slice a3 (comeL g.l u.x.toNat).length c3)) ((.slice g.wa g.wl.length g.wc)) (.slice ea (w.length + 1) ec) g.st sp3 mt3 St3 hT3 a3 c3 (comeL g.l u.x.toNat) Sl3 hl3 hM3 h0 u.y.toNat (by have := huk.1.2.2.2.2; rw [if_pos (by omega)] at this; omega)) rfl rfl rfl ((Pick.takeC pkA (Pick.takeA pkA pkA))) (fun _ _ => trivial) (fun v165 S165 ⟨a4, c4, mt4, St4, Sl4, sp4, hv165, hS165, hT4, hl4, hM4⟩ => ?_)
         subst hv165; subst hS165
         refine o_nil ?_; refine x_oneL rfl ?_; refine eO 11 rfl ?_; refine oS sN (o_nil ?_); refine x_oneL rfl ?_; refine eO 12 rfl ?_; refine oS sF (o_nil ?_); refine x_oneL rfl ?_; refine eO 13 rfl ?_; refine o_store rfl rfl rfl upA ltA rfl ?_; refine o_nil ?_; refine x_oneL rfl ?_; refine e_done (by kernel_rfl) ?_; refine x_block (x_block (xZ hK17 (c_region (oM ?_)))); refine oS sD (oA (o_nil ?_)); exact x_then (x_inv (i + 1, ⟨g.st, sp4, g.last, mt4, a4, c4, comeL (comeL g.l u.x.toNat) u.y.toNat, g.wa, g.wc, g.wl, g.es, St4, Sl4, g.Sw, g.Se⟩) ⟨by dsimp only; have := (comeL_len (l := g.l) (k := u.x.toNat)).1; have := (comeL_len (l := comeL g.l u.x.toNat) (k := u.y.toNat)).1; omega, ⟨hT4, hl4, hW, hE, ⟨h0, h1⟩, hwl2⟩, hM4, (((hLs.go hig).come hmok hk ⟨u, hu, .inr (.inr (.inr ⟨o5, .inl (by omega)⟩))⟩).come hmok (by rw [comeL_pre hig]; exact hk) ⟨u, hu, .inr (.inr (.inr ⟨o5, .inr (by omega)⟩))⟩).next (by rw [comeL_pre (Nat.lt_of_lt_of_le hig comeL_len.1), comeL_pre hig]; exact hk) (fun k2 he2 => by rw [eps_succs hmok hu, succs, if_neg o2, if_neg o3, if_neg o4, if_pos o5] at he2; simp only [List.mem_cons, List.not_mem_nil, or_false] at he2 ⊢; exact he2.symm), (hD.mono (fun j hj => by rw [comeL_pre (Nat.lt_of_lt_of_le (by omega) comeL_len.1), comeL_pre (by omega)])).no (by rw [comeL_pre (Nat.lt_of_lt_of_le hig comeL_len.1), comeL_pre hig]; exact hk) hu (by omega), hel⟩ (by dsimp only; have := hM.big; omega) sbA (by (try dsimp only); (try simp only [List.append_assoc, List.cons_append, List.nil_append]); exact hzB))
        ·refine oS (eqF (h := o5)) ?_; refine oA (oZ hK26 ?_); refine cF (cR fun _ hK28 => ?_)
         by_cases o6 : u.op = 6
         ·refine oS (eqT (h := o6)) ?_; refine oA (oZ hK28 ?_); refine cT (cR fun _ hK29 => ?_); refine oM ?_; refine oS sN ?_; refine oS sF ?_; refine oS sL (oM ?_); refine oS (s_idx rfl rfl (by have h := hE.sl; rw [hel] at h; exact h) (by omega)) ?_; refine o_stS1 p true hE pkA rfl rfl rfl (by rw [hel]; omega) (by omega) fun S' hS' => ?_; refine oZ hK29 (c_region (oM (oA (o_nil (x_block (x_block (xZ hK17 (c_region (oM ?_))))))))); refine oS sD (oA (o_nil ?_)); exact x_then (x_inv (i + 1, ⟨g.st, g.steps, (p : Int), g.mt, g.ha, g.hc, g.l, g.wa, g.wc, g.wl, g.es.set p true, g.St, g.Sh, g.Sw, S'⟩) ⟨by dsimp only; omega, ⟨hT, hl, hW, hS', ⟨h0, h1⟩, hwl2⟩, hM, (hLs.go hig).next hk (fun k2 he2 => by rw [eps_succs hmok hu, succs, if_neg o2, if_neg o3, if_neg o4, if_neg o5] at he2; first | exact he2 | (simpa using he2)), hD.yes hk hu o6, by dsimp only; rw [List.length_set]; exact hel⟩ (by dsimp only; have := hM.big; omega) sbA (by (try dsimp only); (try simp only [List.append_assoc, List.cons_append, List.nil_append]); exact hzB))
         ·refine oS (eqF (h := o6)) ?_; refine oA (oZ hK28 ?_); refine cF (c_skip (x_block (x_block (xZ hK17 (c_region (oM ?_)))))); refine oS sD (oA (o_nil ?_)); exact x_then (x_inv (i + 1, g) ⟨by dsimp only; omega, ⟨hT, hl, hW, hE, ⟨h0, h1⟩, hwl2⟩, hM, (hLs.go hig).next hk (fun k2 he2 => by rw [eps_succs hmok hu, succs, if_neg o2, if_neg o3, if_neg o4, if_neg o5] at he2; first | exact he2 | (simpa using he2)), hD.no hk hu (by omega), hel⟩ (by dsimp only; have := hM.big; omega) sbA hzB)
    ·have hie : g.l.length ≤ i := by omega
     have hrun : ∀ k, k ∈ g.l ↔ Run m w (0, f) (k, p) := fun k => (hLs.done hie k).trans (run_base2 hfp).symm
     have hEd := hE2.done hD hie hfp hpn hrun
     obtain ⟨g1, hg1⟩ : ∃ g1, g1 = g := ⟨_, rfl⟩
     subst hg1; refine oS lsF (oZ hK16 ?_); refine cF ?_; refine c_exit ?_; refine x_then_exit (x_then_exit (x_block_exit (xZ hK13 (c_seq fun _ hK30 => ?_)))); refine cR fun _ hK31 => ?_; refine oM (oM ?_); refine oS sC ?_
     by_cases hpe : (p : Int) = w.length
     ·obtain rfl : p = w.length := by omega
      refine oS eqT (oZ hK31 ?_); refine cT ?_; refine c_exit ?_; refine x_then_exit ?_; refine x_block_pass rfl ?_; refine x_then_exit (x_then_exit (x_block_exit (xZ hK8 (cR fun _ hK32 => ?_)))); refine oM (oA (oZ hK32 (c_ret ?_))); refine ?_; refine x_sub (Sub.refl _) (H' := (bS, .cells [.slice ma m.length mc, .slice ta m.length tc, .int .i16 g1.st, (.slice g1.ha g1.l.length g1.hc), (.slice g1.wa g1.wl.length g1.wc), .slice ea (w.length + 1) ec, .int .i64 g1.steps].toArray 128 (0, 0)) :: (Sm ++ (g1.St ++ (g1.Sh ++ (g1.Sw ++ g1.Se))))) hzB ?_; exact xR rfl rfl (⟨g1.es, g1.last, rfl, ⟨ma, mc, ta, tc, g1, g1.l, ea, ec, Sm, by rw [hel], hm, hT, hM, ⟨h0, h1⟩, hl, hW, by rw [hel]; exact hE, .inl hel, hM.big, hwl2⟩, hEd⟩)
     ·refine oS eqF (oZ hK31 ?_); refine cFZ hK30 (cR fun _ hK33 => ?_); refine oM ?_; refine o_call (fresh_fn bS ma mc m ta tc (.slice g1.ha g1.l.length g1.hc) (.slice g1.wa g1.wl.length g1.wc) (.slice ea (w.length + 1) ec) g1.st g1.steps g1.mt g1.St hT g1.l hM h0 h1) rfl rfl rfl ((Pick.takeC pkA pkA)) (fun _ _ => trivial) (fun v182 S182 ⟨mt5, St5, st5, hS182, hT5, hM5, h05, h15⟩ => ?_); subst hS182
      refine oZ hK33 (cR fun _ hK34 => ?_); refine oM (oM ?_); refine oS sN ?_; refine oS sF ?_; refine oS sL ?_; refine oS (step_cast (v' := .slice g1.wa ([] : List Nat).length g1.wc) (s_slice_hi rfl rfl (by omega)) rfl) ?_
      have hW2 := hW.pre 0 (Nat.zero_le _)
      rw [List.take_zero] at hW2
      refine oS sN ?_; refine oS sF ?_; refine o_store rfl rfl rfl upA ltA rfl ?_; refine oZ hK34 (c_seq fun _ hK35 => ?_); refine cR fun _ hK36 => ?_; refine oM ?_; refine oS sN ?_; refine oS sF ?_; refine oS sL ?_; refine oS sC (oM (oZ hK36 (c_block ?_))); refine c_loop2 (fun (j : Nat) (g2 : FrG) => j ≤ g1.l.length ∧ OwnS Es16 1 126 (.slice ta m.length tc) g2.mt g2.St ∧ OwnS Eix 1 3 (.slice g2.wa g2.wl.length g2.wc) g2.wl g2.Sw ∧ OwnS Ebo 1 4 (.slice ea (w.length + 1) ec) g2.es g2.Se ∧ (0 ≤ g2.st ∧ g2.st ≤ 32767) ∧ MetOk g2.mt g2.st g2.wl m.length ∧ (∀ k, k ∈ g2.wl ↔ wayB m w p g1.l j k) ∧ g2.es = g1.es ∧ g2.last = g1.last) (fun (j : Nat) (g2 : FrG) => [(196, .int .i64 j)]) [(0, _), (1, _), (6, _), (7, _), (8, _), (9, _), (59, _), (60, _), (61, _), (62, _), (63, _), (64, _), (67, _), (68, _), (69, _), (70, _), (71, _), (72, _), (73, _), (177, _), (178, _), (179, _), (180, _), (181, _), (183, _), (184, _), (185, _), (186, _), (187, _), (188, _), (189, _), (190, _), (191, _), (192, _), (193, _), (194, _), (195, _)] (fun (j : Nat) (g2 : FrG) => (bS, .cells [.slice ma m.length mc, .slice ta m.length tc, .int .i16 g2.st, (.slice g1.ha g1.l.length g1.hc), (.slice g2.wa g2.wl.length g2.wc), .slice ea (w.length + 1) ec, .int .i64 g2.steps].toArray 128 (0, 0)) :: (Sm ++ (g2.St ++ (g1.Sh ++ (g2.Sw ++ g2.Se))))) (fun (j : Nat) (g2 : FrG) => g1.l.length - j) 0 ⟨st5, g1.steps, g1.last, mt5, none, 0, [], g1.wa, g1.wc, [], g1.es, St5, [], g1.Sw, g1.Se⟩ ⟨Nat.zero_le _, hT5, hW2, hE, ⟨h05, h15⟩, hM5, fun k => ⟨fun h => (by cases h), fun h => absurd h wayB_zero⟩, rfl, rfl⟩ sbA sbA hzB ?_
      rintro j g2 ⟨hj2, hT6, hW6, hE6, ⟨h06, h16⟩, hM6, hwb, hg2e, hg2l⟩
      refine cR fun _ hK37 => ?_
      by_cases hjl : (j : Int) < g1.l.length
      ·obtain ⟨k, hk⟩ : ∃ k, g1.l[j]? = some k := gE
       have hkm := hLs.lt k (List.mem_of_getElem? hk)
       obtain ⟨u, hu⟩ : ∃ u, m[k]? = some u := ⟨_, List.getElem?_eq_getElem hkm⟩
       have hum := hmr u (List.mem_of_getElem? hu)
       have huk := hmok.2.2 k u hu
       obtain ⟨b, hb⟩ : ∃ b, w[p]? = some b := gE
       have hgb := hM.big
       have hjk : j < 70000 := by omega
       refine oS lsT (oZ hK37 (c_seq fun _ hK38 => ?_)); refine cTZ hK38 (c_seq fun _ hK39 => ?_); refine c_block (cR fun _ hK40 => ?_); refine oS (s_idx rfl rfl hl.sl (by omega)) ?_; refine oS (s_ld rfl ((hl.rdk hiA).ld j 0 hk rfl (by decide) (by omega))) ?_; refine oA (oZ hK40 (cR fun _ hK41 => ?_)); refine oM ?_; refine oS sN ?_; refine oS sF ?_; refine oS sL (oM ?_); refine oS (s_idx rfl rfl hms (by omega)) ?_; refine oA (oZ hK41 (c_seq fun _ hK42 => ?_)); refine c_drawE (Sm) (fun i => false) ?_; refine eK 0 rfl sM ?_; refine eK 1 rfl sN ?_; refine eK 2 rfl sF ?_; refine eK 3 rfl (s_ld rfl ((hm.rdk hiA).ld k 0 hu rfl (by decide) (by omega))) ?_
       by_cases o1 : u.op = 1
       ·refine eK 4 rfl (eqT (h := o1)) ?_; refine eK 5 rfl sM ?_; refine eG 6 rfl sM ?_; refine eG 7 rfl sN ?_; refine eG 8 rfl sF ?_; refine eG 9 rfl (s_ldB rfl (cels_set (hm.rdk hiA) hu (by omega)) (by rfl)) ?_; refine eG 10 rfl sM ?_; refine eG 11 rfl sM ?_; refine eG 12 rfl (s_idx rfl rfl hxl (by omega)) ?_; refine eG 13 rfl (s_ld rfl ((RdK.old hw.1 hw.2).ld p 0 hb rfl (by decide) (by omega))) ?_; refine eO 14 rfl ?_; refine oY ?_; refine o_callP (has_fn u.set b.toNat b.toNat_lt) rfl rfl rfl (fun _ _ => trivial) (fun v220 hv220 => ?_); subst hv220
        cases hh : u.set.getLsbD b.toNat
        ·have hne : ¬ Eat m w k p := fun ⟨t, b2, h1, _, h3, h4⟩ => by rw [hu] at h1; cases h1; rw [hb] at h3; cases h3; rw [hh] at h4; cases h4
         refine oX (eO 15 rfl ?_); refine oS sT (oX (eZ hK42 ?_)); refine cF (c_skip (x_block (xZ hK39 (c_region ?_)))); refine oS sD (oM (o_nil ?_)); exact xI (j + 1, g2) ⟨by omega, hT6, hW6, hE6, ⟨h06, h16⟩, hM6, fun k2 => by rw [hwb k2]; exact (wayB_no hk hne).symm, hg2e, hg2l⟩
        ·have hea : Eat m w k p := ⟨u, b, hu, o1, hb, hh⟩
         refine oX (eO 15 rfl ?_); refine oS sT (oX (eZ hK42 ?_)); refine cT (c_region (oM (oM (oM ?_)))); refine oS sN ?_; refine oS sF ?_; refine oS sL (oM ?_); refine oS sD ?_; refine o_call (come_fn bS ma mc m hml ta tc ((.slice g1.ha g1.l.length g1.hc)) ((.slice g2.wa g2.wl.length g2.wc)) (.slice ea (w.length + 1) ec) g2.st g2.steps g2.mt g2.St hT6 g2.wa g2.wc g2.wl g2.Sw hW6 hM6 h06 (k + 1) (huk.2 (by omega))) rfl rfl rfl ((Pick.takeC pkA (Pick.takeA pkA pkA))) (fun _ _ => trivial) (fun v230 S230 ⟨a7, c7, mt7, St7, Sl7, sp7, hv230, hS230, hT7, hl7, hM7⟩ => ?_)
         subst hv230; subst hS230
         refine oS sN ?_; refine oS sF ?_; refine o_store rfl rfl rfl upA ltA rfl ?_; refine o_nil (x_block (xZ hK39 (c_region ?_))); refine oS sD (oM (o_nil ?_)); exact x_then (x_inv (j + 1, ⟨g2.st, sp7, g2.last, mt7, g2.ha, g2.hc, g2.l, a7, c7, comeL g2.wl (k + 1), g2.es, St7, g2.Sh, Sl7, g2.Se⟩) ⟨by omega, hT7, hl7, hE6, ⟨h06, h16⟩, hM7, fun k2 => by dsimp only; rw [comeL_mem, hwb k2]; exact (wayB_yes hk hea).symm, hg2e, hg2l⟩ (by first | omega | (dsimp only; omega)) sbA (by (try dsimp only); (try simp only [List.append_assoc, List.cons_append, List.nil_append]); exact hzB))
       ·have hne : ¬ Eat m w k p := fun ⟨t, b2, h1, h2, _⟩ => by rw [hu] at h1; cases h1; exact o1 h2
        refine eK 4 rfl (eqF (h := o1)) ?_; refine eK 5 rfl sM ?_; refine eS 6 rfl (eS 7 rfl (eS 8 rfl (eS 9 rfl (eS 10 rfl (eS 11 rfl (eS 12 rfl (eS 13 rfl (eO 14 rfl ?_)))))))); refine oN (oX (eO 15 rfl ?_)); refine oS sP (oX (eZ hK42 ?_)); refine cF (c_skip (x_block (xZ hK39 (c_region ?_)))); refine oS sD (oM (o_nil ?_)); exact xI (j + 1, g2) ⟨by omega, hT6, hW6, hE6, ⟨h06, h16⟩, hM6, fun k2 => by rw [hwb k2]; exact (wayB_no hk hne).symm, hg2e, hg2l⟩
      ·have hje : j = g1.l.length := by omega
       refine oS lsF (oZ hK37 (c_seq fun _ hK43 => ?_)); refine cF ?_; refine c_exit ?_; refine x_then_exit (x_then_exit (x_block_exit (xZ hK35 ?_))); refine c_drawE ([(bS, .cells [.slice ma m.length mc, .slice ta m.length tc, .int .i16 g2.st, (.slice g1.ha g1.l.length g1.hc), (.slice g2.wa g2.wl.length g2.wc), .slice ea (w.length + 1) ec, .int .i64 g2.steps].toArray 128 (0, 0))]) (fun i => Nat.beq i 12 || Nat.beq i 13 || Nat.beq i 14 || Nat.beq i 15) ?_; refine eP 0 rfl sM ?_; refine eP 1 rfl sM ?_; refine eP 2 rfl sM ?_; refine eP 3 rfl sN ?_; refine eP 4 rfl sF ?_; refine eK 5 rfl sL ?_; refine eP 6 rfl sM ?_; refine eP 7 rfl sN ?_; refine eP 8 rfl sF ?_; refine eK 9 rfl sL ?_; refine eP 10 rfl sN ?_; refine eP 11 rfl sF (eO 12 rfl ?_); refine o_store rfl rfl rfl upA ltA rfl ?_; refine o_nil ?_; refine x_oneL rfl ?_; refine eO 13 rfl ?_; refine oS sN (o_nil ?_); refine x_oneL rfl ?_; refine eO 14 rfl ?_; refine oS sF (o_nil ?_); refine x_oneL rfl ?_; refine eO 15 rfl ?_; refine o_store rfl rfl rfl upA ltA rfl ?_; refine o_nil ?_; refine x_oneL rfl ?_; refine e_done (by kernel_rfl) ?_; refine x_block (xZ hK12 (c_region (oM ?_))); refine oS sD ?_
       refine oA (o_nil ?_); exact x_then (x_inv (p + 1, ⟨g2.st, g2.steps, g1.last, g2.mt, g2.wa, g2.wc, g2.wl, g1.ha, g1.hc, g1.l, g2.es, g2.St, g2.Sw, g1.Sh, g2.Se⟩) ⟨by omega, by omega, ⟨hT6, hW6, hl, hE6, ⟨h06, h16⟩, hM.big⟩, hM6, fun k => by rw [hwb k, hje]; exact way_base hfp hrun, by dsimp only; rw [hg2e]; exact hEd⟩ (by first | omega | (dsimp only; omega)) sbA (by (try dsimp only); (try simp only [List.append_assoc, List.cons_append, List.nil_append]); exact hzB))
   ·have hl00 : g.l = [] := List.eq_nil_of_length_eq_zero (by omega)
    refine oS gtF (oZ hK11 ?_); refine cF ?_; refine c_exit ?_; refine x_then_exit (x_then_exit (x_block_exit (xZ hK8 (cR fun _ hK44 => ?_)))); refine oM (oA (oZ hK44 (c_ret ?_))); refine ?_
    have hnb : ∀ k, ¬ Base m w f p k := fun k h => by have := (hB k).2 h; rw [hl00] at this; cases this
    have hfp2 : f < p := Nat.lt_of_not_le fun h => hnb 0 (.inl ⟨by omega, rfl⟩)
    refine x_sub (Sub.refl _) (H' := (bS, .cells [.slice ma m.length mc, .slice ta m.length tc, .int .i16 g.st, (.slice g.ha g.l.length g.hc), (.slice g.wa g.wl.length g.wc), .slice ea (w.length + 1) ec, .int .i64 g.steps].toArray 128 (0, 0)) :: (Sm ++ (g.St ++ (g.Sh ++ (g.Sw ++ g.Se))))) hzB ?_; exact xR rfl rfl (⟨g.es, g.last, rfl, ⟨ma, mc, ta, tc, g, g.l, ea, ec, Sm, by rw [hE2l], hm, hT, hM, ⟨h0, h1⟩, hl, hW, by rw [hE2l]; exact hE, .inl hE2l, hM.big, hwl2⟩, hE2.ext (by omega) fun q hq _ => hE2.stop hnb hfp2 q hq⟩)
  ·intro _ hJ2
   refine cR fun _ hK45 => ?_; refine oM ?_; refine oS sN ?_; refine oS sF ?_; refine oS sL ?_; refine oS (s_cap rfl) ?_; refine oM ?_; refine oS sC ?_; refine oS sD ?_
   by_cases hcap : (ec0 : Int) < (w.length : Int) + 1
   ·refine oS lsT (oZ hK45 ?_); refine cT (c_region (oM (oM ?_))); refine oS sC ?_; refine oS sD ?_; refine o_make (E := Ebo) (zx := false) (n := w.length + 1) rfl rfl rfl (by omega) (by omega) rfl fun b28 S28 hS28 => ?_; refine oS sN ?_; refine oS sF ?_; refine o_store rfl rfl rfl upA ltA rfl ?_; refine o_nil ?_; exact x_then (hJ2 (some ⟨b28, 0, none⟩, w.length + 1, w.length + 1, List.replicate (w.length + 1) false, S28) _ _ ⟨by simpa using hS28, List.length_replicate, rfl⟩ sbA sbA hzB)
   ·refine oS lsF (oZ hK45 ?_); refine cF (c_skip ?_); exact x_then (hJ2 (ea0, ec0, es.length, es, g0.Se) _ _ ⟨hE0, by rcases hes with h | ⟨h1, h2⟩; (· exact h); (· subst h1; omega), by rcases hes with h | ⟨h1, h2⟩; (· exact h); (· subst h1; omega)⟩ sbA sbA hzB)
end Go.Proofs.YtloepfcndglmmaaDoor
namespace Go.HL.Kl.Mc
structure LFound (m : List In) (w : List UInt8) (f p q : Nat) : Prop where
  fp : f ≤ p
  pq : p ≤ q
  qn : q ≤ w.length
  hit : Hit m w p q
  far : ∀ q', q < q' → q' ≤ w.length → ¬ Hit m w p q'
  near : ∀ p' q', f ≤ p' → p' < p → p' ≤ q' → q' ≤ w.length → ¬ Hit m w p' q'
def LNone (m : List In) (w : List UInt8) (f : Nat) : Prop := ∀ p q, f ≤ p → p ≤ q → q ≤ w.length → ¬ Hit m w p q
theorem MetOk.start {N : Nat} : MetOk (List.replicate N 0) 0 (List.range N) N := by
  refine ⟨List.length_replicate, fun k v hv => ?_, fun v hv => ?_, fun k hk => List.mem_range.1 hk, List.nodup_range⟩
  · have h1 := (List.getElem?_eq_some_iff.1 hv).1
    rw [List.length_replicate] at h1
    rw [List.getElem?_replicate, if_pos h1] at hv
    cases hv
    exact ⟨fun _ => List.mem_range.2 h1, fun _ => rfl⟩
  · have := List.eq_of_mem_replicate hv
    subst this
    exact ⟨Int.le_refl _, Int.le_refl _⟩
end Go.HL.Kl.Mc
