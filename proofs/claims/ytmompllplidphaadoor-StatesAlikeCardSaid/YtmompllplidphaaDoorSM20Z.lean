/- Places and texts: paths, and what the parts of a regex mean by them. Conditions: none. -/
import Derived.Test.YtmompllplidphaaDoorSM15Z
import Derived.Test.YtmompllplidphaaDoorMT3Z
import Derived.Test.YtmompllplidphaaDoorSW1Z
import Derived.Test.YtmompllplidphaaDoorMK1Z
namespace Go.HL.Sts
open Go Go.HL Go.HL.Kl Go.HL.Kl.Mc
inductive Path (E T : Nat → Nat → Prop) : Nat → Nat → Nat → Nat → Prop
  | one {p i : Nat} (h : T p i) : Path E T p i p (i + 1)
  | step {p i r q j : Nat} (h : T p i) (he : E p r) (hr : Path E T r (i + 1) q j) : Path E T p i q j
theorem Path.lt {E T : Nat → Nat → Prop} {p i q j : Nat} (h : Path E T p i q j) : i < j := by
  induction h with
  | one => omega
  | step _ _ _ ih => omega
theorem Path.trans {E T : Nat → Nat → Prop} {p i q m r s j : Nat} (h : Path E T p i q m) (he : E q r) (h' : Path E T r m s j) : Path E T p i s j := by
  induction h with
  | one ht => exact .step ht he h'
  | step ht h1 _ ih => exact .step ht h1 (ih he h')
theorem Path.mono {E E' T T' : Nat → Nat → Prop} {R : Nat → Prop} (hE : ∀ p q, R p → E p q → E' p q) (hR : ∀ p q, R p → E p q → R q) (hT : ∀ p i, R p → T p i → T' p i) {p i q j : Nat} (h : Path E T p i q j) (hp : R p) : Path E' T' p i q j := by
  induction h with
  | one ht => exact .one (hT _ _ hp ht)
  | step ht h1 _ ih => exact .step (hT _ _ hp ht) (hE _ _ hp h1) (ih (hR _ _ hp h1))
theorem Path.stay {E T : Nat → Nat → Prop} {R : Nat → Prop} (hR : ∀ p q, R p → E p q → R q) {p i q j : Nat} (h : Path E T p i q j) (hp : R p) : R q := by
  induction h with
  | one ht => exact hp
  | step ht h1 _ ih => exact ih (hR _ _ hp h1)
def nul (c : Pt) (B E : Bool) : Bool := if B then (if E then c.n11 else c.n10) else (if E then c.n01 else c.n00)
def fst' (c : Pt) (B : Bool) (p : Nat) : Prop := (if B then c.f1 else c.f0).getLsbD p = true
def lst' (c : Pt) (E : Bool) (p : Nat) : Prop := (if E then c.l1 else c.l0).getLsbD p = true
structure Fr (N : Nat) (E T : Nat → Nat → Prop) (R : Nat → Prop) (c : Pt) (D : Nat → Nat → Prop) : Prop where
  rF : ∀ b p, fst' c b p → R p
  rL : ∀ b p, lst' c b p → R p
  rE : ∀ p q, R p → E p q → R q
  nl : ∀ i, i ≤ N → (D i i ↔ nul c (decide (i = 0)) (decide (i = N)) = true)
  ph : ∀ i j, i < j → j ≤ N → (D i j ↔ ∃ p q, fst' c (decide (i = 0)) p ∧ Path E T p i q j ∧ lst' c (decide (j = N)) q)
  inn : ∀ i j, i ≤ N → D i j → i ≤ j ∧ j ≤ N
theorem Fr.congr {N : Nat} {E T E' T' : Nat → Nat → Prop} {R : Nat → Prop} {c : Pt} {D : Nat → Nat → Prop} (h : Fr N E T R c D) (hE : ∀ p q, R p → (E p q ↔ E' p q)) (hT : ∀ p i, R p → (T p i ↔ T' p i)) : Fr N E' T' R c D where
  rF := h.rF
  rL := h.rL
  rE := fun p q hp he => h.rE p q hp ((hE p q hp).2 he)
  nl := h.nl
  ph := fun i j hij hj => by
    rw [h.ph i j hij hj]
    constructor
    · rintro ⟨p, q, h1, h2, h3⟩
      exact ⟨p, q, h1, h2.mono (R := R) (fun p q hp he => (hE p q hp).1 he) h.rE (fun p i hp ht => (hT p i hp).1 ht) (h.rF _ _ h1), h3⟩
    · rintro ⟨p, q, h1, h2, h3⟩
      exact ⟨p, q, h1, h2.mono (R := R) (fun p q hp he => (hE p q hp).2 he) (fun p q hp he => h.rE p q hp ((hE p q hp).2 he)) (fun p i hp ht => (hT p i hp).2 ht) (h.rF _ _ h1), h3⟩
  inn := h.inn
theorem Fr.iff {N : Nat} {E T : Nat → Nat → Prop} {R : Nat → Prop} {c : Pt} {D D' : Nat → Nat → Prop} (h : Fr N E T R c D) (hD : ∀ i j, i ≤ N → (D i j ↔ D' i j)) : Fr N E T R c D' where
  rF := h.rF
  rL := h.rL
  rE := h.rE
  nl := fun i hi => (hD i i hi).symm.trans (h.nl i hi)
  ph := fun i j hij hj => (hD i j (by omega)).symm.trans (h.ph i j hij hj)
  inn := fun i j hi hd => h.inn i j hi ((hD i j hi).2 hd)
theorem fst_or (a b : Sp) (p : Nat) : (a ||| b).getLsbD p = true ↔ a.getLsbD p = true ∨ b.getLsbD p = true := by rw [BitVec.getLsbD_or, Bool.or_eq_true]
theorem orIf_get (s t : Sp) (b : Bool) (p : Nat) : (orIf s b t).getLsbD p = true ↔ s.getLsbD p = true ∨ (b = true ∧ t.getLsbD p = true) := by
  unfold orIf
  cases b <;> simp [BitVec.getLsbD_or]
theorem fst_cat (a b : Pt) (B : Bool) (p : Nat) : fst' (catP a b) B p ↔ fst' a B p ∨ (nul a B false = true ∧ fst' b B p) := by
  cases B <;> simp [fst', catP, nul, orIf_get]
theorem lst_cat (a b : Pt) (E : Bool) (p : Nat) : lst' (catP a b) E p ↔ lst' b E p ∨ (nul b false E = true ∧ lst' a E p) := by
  cases E <;> simp [lst', catP, nul, orIf_get]
theorem nul_cat (a b : Pt) (B E : Bool) : nul (catP a b) B E = true ↔ nul a B E = true ∧ nul b B E = true := by
  cases B <;> cases E <;> simp [nul, catP]
theorem fst_alt (a b : Pt) (B : Bool) (p : Nat) : fst' (altP a b) B p ↔ fst' a B p ∨ fst' b B p := by
  cases B <;> simp [fst', altP, BitVec.getLsbD_or]
theorem lst_alt (a b : Pt) (E : Bool) (p : Nat) : lst' (altP a b) E p ↔ lst' a E p ∨ lst' b E p := by
  cases E <;> simp [lst', altP, BitVec.getLsbD_or]
theorem nul_alt (a b : Pt) (B E : Bool) : nul (altP a b) B E = true ↔ nul a B E = true ∨ nul b B E = true := by
  cases B <;> cases E <;> simp [nul, altP]
theorem Fr.cat {N : Nat} {E E' T : Nat → Nat → Prop} {R1 R2 : Nat → Prop} {a b : Pt} {D1 D2 : Nat → Nat → Prop} (h1 : Fr N E T R1 a D1) (h2 : Fr N E T R2 b D2) (hd : ∀ p, R1 p → R2 p → False)
    (hE1 : ∀ p q, R1 p → (E' p q ↔ E p q ∨ (lst' a false p ∧ fst' b false q))) (hE2 : ∀ p q, R2 p → (E' p q ↔ E p q)) : Fr N E' T (fun p => R1 p ∨ R2 p) (catP a b) (fun i j => ∃ t, D1 i t ∧ D2 t j) := by
  have stay2 : ∀ p q, R2 p → E' p q → R2 q := fun p q hp he => h2.rE p q hp ((hE2 p q hp).1 he)
  have p2 : ∀ {p i q j}, R2 p → (Path E' T p i q j ↔ Path E T p i q j) := by
    intro p i q j hp
    exact ⟨fun h => h.mono (R := R2) (fun p q hp he => (hE2 p q hp).1 he) stay2 (fun _ _ _ h => h) hp, fun h => h.mono (R := R2) (fun p q hp he => (hE2 p q hp).2 he) h2.rE (fun _ _ _ h => h) hp⟩
  have p1 : ∀ {p i q j}, R1 p → Path E T p i q j → Path E' T p i q j := fun hp h => h.mono (R := R1) (fun p q hp he => (hE1 p q hp).2 (.inl he)) h1.rE (fun _ _ _ h => h) hp
  have spl : ∀ {p i q j}, Path E' T p i q j → R1 p → (R1 q ∧ Path E T p i q j) ∨ (R2 q ∧ ∃ q' p' m, Path E T p i q' m ∧ lst' a false q' ∧ fst' b false p' ∧ Path E T p' m q j) := by
    intro p i q j h
    induction h with
    | one ht => exact fun hp => .inl ⟨hp, .one ht⟩
    | @step p i r q j ht he hr ih =>
      intro hp
      rcases (hE1 _ _ hp).1 he with he' | ⟨hA, hB⟩
      · rcases ih (h1.rE _ _ hp he') with ⟨hq, hP⟩ | ⟨hq, q', p', m, hP, hx⟩
        · exact .inl ⟨hq, .step ht he' hP⟩
        · exact .inr ⟨hq, q', p', m, .step ht he' hP, hx⟩
      · have hr2 := h2.rF _ _ hB
        exact .inr ⟨hr.stay stay2 hr2, p, r, i + 1, .one ht, hA, hB, (p2 hr2).1 hr⟩
  refine ⟨?_, ?_, ?_, ?_, ?_, ?_⟩
  · intro B p hp
    rcases (fst_cat a b B p).1 hp with h | ⟨_, h⟩
    · exact .inl (h1.rF _ _ h)
    · exact .inr (h2.rF _ _ h)
  · intro B p hp
    rcases (lst_cat a b B p).1 hp with h | ⟨_, h⟩
    · exact .inr (h2.rL _ _ h)
    · exact .inl (h1.rL _ _ h)
  · rintro p q (hp | hp) he
    · rcases (hE1 p q hp).1 he with h | ⟨_, h⟩
      · exact .inl (h1.rE _ _ hp h)
      · exact .inr (h2.rF _ _ h)
    · exact .inr (stay2 p q hp he)
  · intro i hi
    rw [nul_cat, ← h1.nl i hi, ← h2.nl i hi]
    constructor
    · rintro ⟨t, ha, hb⟩
      have x1 := h1.inn i t hi ha
      have x2 := h2.inn t i (by omega) hb
      obtain rfl : t = i := by omega
      exact ⟨ha, hb⟩
    · rintro ⟨ha, hb⟩; exact ⟨i, ha, hb⟩
  · intro i j hij hj
    constructor
    · rintro ⟨t, ha, hb⟩
      have x1 := h1.inn i t (by omega) ha
      have x2 := h2.inn t j (by omega) hb
      rcases Nat.lt_or_ge i t with hit | hit
      · rcases Nat.lt_or_ge t j with htj | htj
        · obtain ⟨p, q', g1, g2, g3⟩ := (h1.ph i t hit (by omega)).1 ha
          obtain ⟨p', q, g4, g5, g6⟩ := (h2.ph t j htj hj).1 hb
          rw [decide_eq_false (by omega)] at g3 g4
          refine ⟨p, q, (fst_cat _ _ _ _).2 (.inl g1), (p1 (h1.rF _ _ g1) g2).trans ((hE1 _ _ (h1.rL _ _ g3)).2 (.inr ⟨g3, g4⟩)) ((p2 (h2.rF _ _ g4)).2 g5), (lst_cat _ _ _ _).2 (.inl g6)⟩
        · obtain rfl : t = j := by omega
          obtain ⟨p, q', g1, g2, g3⟩ := (h1.ph i t hit hj).1 ha
          have g4 := (h2.nl t hj).1 hb
          rw [decide_eq_false (show ¬ t = 0 by omega)] at g4
          exact ⟨p, q', (fst_cat _ _ _ _).2 (.inl g1), p1 (h1.rF _ _ g1) g2, (lst_cat _ _ _ _).2 (.inr ⟨g4, g3⟩)⟩
      · obtain rfl : t = i := by omega
        obtain ⟨p', q, g4, g5, g6⟩ := (h2.ph t j hij hj).1 hb
        have g7 := (h1.nl t (by omega)).1 ha
        rw [decide_eq_false (show ¬ t = N by omega)] at g7
        exact ⟨p', q, (fst_cat _ _ _ _).2 (.inr ⟨g7, g4⟩), (p2 (h2.rF _ _ g4)).2 g5, (lst_cat _ _ _ _).2 (.inl g6)⟩
    · rintro ⟨p, q, hF, hP, hL⟩
      rcases (fst_cat _ _ _ _).1 hF with hF | ⟨hn, hF⟩
      · have hp := h1.rF _ _ hF
        rcases spl hP hp with ⟨hq, hP'⟩ | ⟨hq, q', p', m, g1, g2, g3, g4⟩
        · rcases (lst_cat _ _ _ _).1 hL with hL | ⟨hn, hL⟩
          · exact (hd q hq (h2.rL _ _ hL)).elim
          · refine ⟨j, (h1.ph i j hij hj).2 ⟨p, q, hF, hP', hL⟩, (h2.nl j hj).2 ?_⟩
            rw [decide_eq_false (show ¬ j = 0 by omega)]; exact hn
        · have m1 := g1.lt
          have m2 := g4.lt
          have hL' : lst' b (decide (j = N)) q := by
            rcases (lst_cat _ _ _ _).1 hL with hL | ⟨_, hL⟩
            · exact hL
            · exact (hd q (h1.rL _ _ hL) hq).elim
          refine ⟨m, (h1.ph i m m1 (by omega)).2 ⟨p, q', hF, g1, ?_⟩, (h2.ph m j m2 hj).2 ⟨p', q, ?_, g4, hL'⟩⟩
          · rw [decide_eq_false (by omega)]; exact g2
          · rw [decide_eq_false (by omega)]; exact g3
      · have hp := h2.rF _ _ hF
        have hP' := (p2 hp).1 hP
        have hq := hP'.stay h2.rE hp
        have hL' : lst' b (decide (j = N)) q := by
          rcases (lst_cat _ _ _ _).1 hL with hL | ⟨_, hL⟩
          · exact hL
          · exact (hd q (h1.rL _ _ hL) hq).elim
        refine ⟨i, (h1.nl i (by omega)).2 ?_, (h2.ph i j hij hj).2 ⟨p, q, hF, hP', hL'⟩⟩
        rw [decide_eq_false (show ¬ i = N by omega)]; exact hn
  · rintro i j hi ⟨t, ha, hb⟩
    have x1 := h1.inn i t hi ha
    have x2 := h2.inn t j (by omega) hb
    omega
theorem Fr.alt {N : Nat} {E T : Nat → Nat → Prop} {R1 R2 : Nat → Prop} {a b : Pt} {D1 D2 : Nat → Nat → Prop} (h1 : Fr N E T R1 a D1) (h2 : Fr N E T R2 b D2) (hd : ∀ p, R1 p → R2 p → False) : Fr N E T (fun p => R1 p ∨ R2 p) (altP a b) (fun i j => D1 i j ∨ D2 i j) where
  rF := fun B p hp => by
    rcases (fst_alt a b B p).1 hp with h | h
    · exact .inl (h1.rF _ _ h)
    · exact .inr (h2.rF _ _ h)
  rL := fun B p hp => by
    rcases (lst_alt a b B p).1 hp with h | h
    · exact .inl (h1.rL _ _ h)
    · exact .inr (h2.rL _ _ h)
  rE := fun p q hp he => hp.imp (fun h => h1.rE _ _ h he) (fun h => h2.rE _ _ h he)
  nl := fun i hi => by rw [nul_alt, ← h1.nl i hi, ← h2.nl i hi]
  ph := fun i j hij hj => by
    rw [h1.ph i j hij hj, h2.ph i j hij hj]
    constructor
    · rintro (⟨p, q, g1, g2, g3⟩ | ⟨p, q, g1, g2, g3⟩)
      · exact ⟨p, q, (fst_alt _ _ _ _).2 (.inl g1), g2, (lst_alt _ _ _ _).2 (.inl g3)⟩
      · exact ⟨p, q, (fst_alt _ _ _ _).2 (.inr g1), g2, (lst_alt _ _ _ _).2 (.inr g3)⟩
    · rintro ⟨p, q, g1, g2, g3⟩
      rcases (fst_alt _ _ _ _).1 g1 with g1 | g1
      · have hq := g2.stay h1.rE (h1.rF _ _ g1)
        rcases (lst_alt _ _ _ _).1 g3 with g3 | g3
        · exact .inl ⟨p, q, g1, g2, g3⟩
        · exact (hd q hq (h2.rL _ _ g3)).elim
      · have hq := g2.stay h2.rE (h2.rF _ _ g1)
        rcases (lst_alt _ _ _ _).1 g3 with g3 | g3
        · exact (hd q (h1.rL _ _ g3) hq).elim
        · exact .inr ⟨p, q, g1, g2, g3⟩
  inn := fun i j hi h => h.elim (h1.inn i j hi) (h2.inn i j hi)
theorem Fr.plus {N : Nat} {E E' T : Nat → Nat → Prop} {R : Nat → Prop} {a : Pt} {D : Nat → Nat → Prop} (h : Fr N E T R a D) (hE : ∀ p q, R p → (E' p q ↔ E p q ∨ (lst' a false p ∧ fst' a false q))) : Fr N E' T R a (fun i j => ∃ k, 1 ≤ k ∧ pow D k i j) := by
  have hinn : ∀ k i j, i ≤ N → pow D k i j → i ≤ j ∧ j ≤ N := by
    intro k
    induction k with
    | zero => intro i j hi hp; have : i = j := hp; omega
    | succ k ih =>
      rintro i j hi ⟨m, h1, h2⟩
      have x1 := h.inn i m hi h1
      have x2 := ih m j (by omega) h2
      omega
  have stay : ∀ p q, R p → E' p q → R q := fun p q hp he => by
    rcases (hE p q hp).1 he with h1 | ⟨_, h1⟩
    · exact h.rE _ _ hp h1
    · exact h.rF _ _ h1
  have up : ∀ {p i q j}, R p → Path E T p i q j → Path E' T p i q j := fun hp hP => hP.mono (R := R) (fun p q hp he => (hE p q hp).2 (.inl he)) h.rE (fun _ _ _ h => h) hp
  have fwd : ∀ k i j, i < j → j ≤ N → pow D k i j → ∃ p q, fst' a (decide (i = 0)) p ∧ Path E' T p i q j ∧ lst' a (decide (j = N)) q := by
    intro k
    induction k with
    | zero => intro i j hij hj hp; have : i = j := hp; omega
    | succ k ih =>
      rintro i j hij hj ⟨m, h1, h2⟩
      have x1 := h.inn i m (by omega) h1
      have x2 := hinn k m j (by omega) h2
      rcases Nat.lt_or_ge i m with him | him
      · obtain ⟨p, q, g1, g2, g3⟩ := (h.ph i m him (by omega)).1 h1
        rcases Nat.lt_or_ge m j with hmj | hmj
        · obtain ⟨p', q', g4, g5, g6⟩ := ih m j hmj hj h2
          rw [decide_eq_false (by omega)] at g3 g4
          exact ⟨p, q', g1, (up (h.rF _ _ g1) g2).trans ((hE _ _ (h.rL _ _ g3)).2 (.inr ⟨g3, g4⟩)) g5, g6⟩
        · obtain rfl : m = j := by omega
          exact ⟨p, q, g1, up (h.rF _ _ g1) g2, g3⟩
      · obtain rfl : m = i := by omega
        exact ih m j hij hj h2
  have cut : ∀ {p i q j}, Path E' T p i q j → R p → (Path E T p i q j) ∨ ∃ q' r m, Path E T p i q' m ∧ lst' a false q' ∧ fst' a false r ∧ Path E' T r m q j := by
    intro p i q j hP
    induction hP with
    | one ht => exact fun _ => .inl (.one ht)
    | @step p i r q j ht he hr ih =>
      intro hp
      rcases (hE _ _ hp).1 he with he' | ⟨hA, hB⟩
      · rcases ih (h.rE _ _ hp he') with h1 | ⟨q', r', m, h1, h2⟩
        · exact .inl (.step ht he' h1)
        · exact .inr ⟨q', r', m, .step ht he' h1, h2⟩
      · exact .inr ⟨p, r, i + 1, .one ht, hA, hB, hr⟩
  have bwd : ∀ n i j, j ≤ i + n → j ≤ N → ∀ p q, fst' a (decide (i = 0)) p → Path E' T p i q j → lst' a (decide (j = N)) q → ∃ k, 1 ≤ k ∧ pow D k i j := by
    intro n
    induction n with
    | zero => intro i j hn hj p q _ hP _; have := hP.lt; omega
    | succ n ih =>
      intro i j hn hj p q hF hP hL
      rcases cut hP (h.rF _ _ hF) with h1 | ⟨q', r, m, h1, h2, h3, h4⟩
      · exact ⟨1, Nat.le_refl _, j, (h.ph i j h1.lt hj).2 ⟨p, q, hF, h1, hL⟩, rfl⟩
      · have m1 := h1.lt
        have m2 := h4.lt
        obtain ⟨k, hk, hpk⟩ := ih m j (by omega) hj r q (by rw [decide_eq_false (by omega)]; exact h3) h4 hL
        exact ⟨k + 1, by omega, m, (h.ph i m m1 (by omega)).2 ⟨p, q', hF, h1, by rw [decide_eq_false (by omega)]; exact h2⟩, hpk⟩
  refine ⟨h.rF, h.rL, stay, fun i hi => ?_, fun i j hij hj => ?_, fun i j hi ⟨k, _, hp⟩ => hinn k i j hi hp⟩
  · rw [← h.nl i hi]
    constructor
    · rintro ⟨k, hk, hp⟩
      obtain ⟨k, rfl⟩ : ∃ k', k = k' + 1 := ⟨k - 1, by omega⟩
      obtain ⟨m, h1, h2⟩ := hp
      have x1 := h.inn i m hi h1
      have x2 := hinn k m i (by omega) h2
      obtain rfl : m = i := by omega
      exact h1
    · intro hd; exact ⟨1, Nat.le_refl _, i, hd, rfl⟩
  · constructor
    · rintro ⟨k, _, hp⟩; exact fwd k i j hij hj hp
    · rintro ⟨p, q, g1, g2, g3⟩; exact bwd (j - i) i j (by omega) hj p q g1 g2 g3
def tk (w : List UInt8) (x : Plc) (p i : Nat) : Prop := ∃ b, w[i]? = some b ∧ (x.sets[p]?.getD 0).getLsbD b.toNat = true
def ed (x : Plc) (p q : Nat) : Prop := (x.fol[p]?.getD 0).getLsbD q = true
def Rg (lo hi : Nat) (p : Nat) : Prop := lo ≤ p ∧ p < hi
structure PreAt (lo : Nat) (x y : Plc) : Prop where
  le : lo ≤ x.sets.length
  st : ∃ t, y.sets = x.sets ++ t
  fo : ∀ p : Nat, p < lo → y.fol[p]? = x.fol[p]?
  ln : y.fol.length = y.sets.length
structure Acc (w : List UInt8) (lo : Nat) (x : Plc) (c : Pt) (D : Nat → Nat → Prop) : Prop where
  le : lo ≤ x.sets.length
  ln : x.fol.length = x.sets.length
  fr : Fr w.length (ed x) (tk w x) (Rg lo x.sets.length) c D
theorem Fr.rg {N : Nat} {E T : Nat → Nat → Prop} {R R' : Nat → Prop} {c : Pt} {D : Nat → Nat → Prop} (h : Fr N E T R c D) (hR : ∀ p, R p ↔ R' p) : Fr N E T R' c D := by
  have : R = R' := funext fun p => propext (hR p)
  rwa [← this]
theorem tk_pre {w : List UInt8} {x y : Plc} (h : ∃ t, y.sets = x.sets ++ t) {p : Nat} (hp : p < x.sets.length) (i : Nat) : tk w x p i ↔ tk w y p i := by
  obtain ⟨t, ht⟩ := h
  unfold tk
  rw [ht, List.getElem?_append_left hp]
theorem ed_join {x : Plc} {a b : Sp} {p q : Nat} (hp : p < x.fol.length) : ed (x.join a b) p q ↔ ed x p q ∨ (a.getLsbD p = true ∧ b.getLsbD q = true) := by
  unfold ed Plc.join joinF
  simp only [List.getElem?_mapIdx, List.getElem?_eq_getElem hp, Option.map_some, Option.getD_some]
  cases e : a.getLsbD p <;> simp [BitVec.getLsbD_or]
theorem ed_eq {x y : Plc} {p : Nat} (h : y.fol[p]? = x.fol[p]?) (q : Nat) : ed x p q ↔ ed y p q := by unfold ed; rw [h]
def Sem (w : List UInt8) (m : Mk) (n : Nat) (D : Nat → Nat → Prop) : Prop := ∀ x : Plc, x.fol.length = x.sets.length → x.sets.length + n ≤ 24 →
  PreAt x.sets.length x (m x).2 ∧ (m x).2.sets.length = x.sets.length + n ∧ Acc w x.sets.length (m x).2 (m x).1 D
theorem Acc.up {w : List UInt8} {lo : Nat} {x y : Plc} {c : Pt} {D : Nat → Nat → Prop} (h : Acc w lo x c D) (hp : PreAt x.sets.length x y) : Fr w.length (ed y) (tk w y) (Rg lo x.sets.length) c D :=
  h.fr.congr (fun p q hr => ed_eq (hp.fo p hr.2) q) (fun p i hr => tk_pre hp.st hr.2 i)
theorem join_sets (x : Plc) (a b : Sp) : (x.join a b).sets = x.sets := rfl
theorem join_fol (x : Plc) (a b : Sp) : (x.join a b).fol.length = x.fol.length := joinF_len _ _ _
theorem join_row {x : Plc} {a b : Sp} {p : Nat} (ha : a.getLsbD p = false) : (x.join a b).fol[p]? = x.fol[p]? := by
  unfold Plc.join joinF
  simp only [List.getElem?_mapIdx]
  cases x.fol[p]? with
  | none => rfl
  | some s => simp [ha]
theorem Acc.cat {w : List UInt8} {lo n : Nat} {x : Plc} {c : Pt} {m : Mk} {D1 D2 : Nat → Nat → Prop} (h : Acc w lo x c D1) (hm : Sem w m n D2) (hr : x.sets.length + n ≤ 24) :
    PreAt lo x (catM c m x).2 ∧ (catM c m x).2.sets.length = x.sets.length + n ∧ Acc w lo (catM c m x).2 (catM c m x).1 (fun i j => ∃ t, D1 i t ∧ D2 t j) := by
  obtain ⟨h1, h2, h3⟩ := hm x h.ln hr
  have hlf : (m x).2.fol.length = x.sets.length + n := by rw [h3.ln, h2]
  have hl0 : ∀ p, c.l0.getLsbD p = true → Rg lo x.sets.length p := fun p hp => h.fr.rL false p hp
  refine ⟨⟨h.le, h1.st, fun p hp => ?_, ?_⟩, h2, ⟨?_, ?_, ?_⟩⟩
  · show ((m x).2.join c.l0 (m x).1.f0).fol[p]? = _
    rw [join_row, h1.fo p (by have := h.le; omega)]
    cases e : c.l0.getLsbD p with
    | false => rfl
    | true => have := hl0 p e; unfold Rg at this; omega
  · show ((m x).2.join c.l0 (m x).1.f0).fol.length = (m x).2.sets.length
    rw [join_fol, h3.ln]
  · show lo ≤ (m x).2.sets.length
    have := h.le; omega
  · show ((m x).2.join c.l0 (m x).1.f0).fol.length = (m x).2.sets.length
    rw [join_fol, h3.ln]
  · have hc := Fr.cat (E' := ed ((m x).2.join c.l0 (m x).1.f0)) (h.up h1) h3.fr (fun p g1 g2 => by unfold Rg at g1 g2; omega)
      (fun p q hp => ed_join (by unfold Rg at hp; omega))
      (fun p q hp => by
        rw [ed_join (by unfold Rg at hp; omega)]
        constructor
        · rintro (g | ⟨g, _⟩)
          · exact g
          · have := hl0 p g; unfold Rg at this hp; omega
        · exact .inl)
    refine hc.rg fun p => ?_
    show Rg _ _ p ∨ Rg _ _ p ↔ Rg lo (m x).2.sets.length p
    have := h.le
    unfold Rg; omega
theorem Acc.catL {w : List UInt8} {lo n : Nat} {x : Plc} {c : Pt} {m : Mk} {D1 D2 : Nat → Nat → Prop} (h : Acc w lo x c D2) (hm : Sem w m n D1) (hr : x.sets.length + n ≤ 24) :
    PreAt lo x (Sts.catL m c x).2 ∧ (Sts.catL m c x).2.sets.length = x.sets.length + n ∧ Acc w lo (Sts.catL m c x).2 (Sts.catL m c x).1 (fun i j => ∃ t, D1 i t ∧ D2 t j) := by
  obtain ⟨h1, h2, h3⟩ := hm x h.ln hr
  have hlf : (m x).2.fol.length = x.sets.length + n := by rw [h3.ln, h2]
  have hl0 : ∀ p, (m x).1.l0.getLsbD p = true → Rg x.sets.length (m x).2.sets.length p := fun p hp => h3.fr.rL false p hp
  have hlo : ∀ p, p < x.sets.length → ((m x).2.join (m x).1.l0 c.f0).fol[p]? = (m x).2.fol[p]? := fun p hp => by
    rw [join_row]
    cases e : (m x).1.l0.getLsbD p with
    | false => rfl
    | true => have := hl0 p e; unfold Rg at this; omega
  refine ⟨⟨h.le, h1.st, fun p hp => ?_, ?_⟩, h2, ⟨?_, ?_, ?_⟩⟩
  · show ((m x).2.join (m x).1.l0 c.f0).fol[p]? = _
    rw [hlo p (by have := h.le; omega), h1.fo p (by have := h.le; omega)]
  · show ((m x).2.join (m x).1.l0 c.f0).fol.length = (m x).2.sets.length
    rw [join_fol, h3.ln]
  · show lo ≤ (m x).2.sets.length
    have := h.le; omega
  · show ((m x).2.join (m x).1.l0 c.f0).fol.length = (m x).2.sets.length
    rw [join_fol, h3.ln]
  · have hc := Fr.cat (E' := ed ((m x).2.join (m x).1.l0 c.f0)) h3.fr (h.up h1) (fun p g1 g2 => by unfold Rg at g1 g2; omega)
      (fun p q hp => ed_join (by unfold Rg at hp; omega))
      (fun p q hp => (ed_eq (hlo p hp.2) q).symm)
    refine hc.rg fun p => ?_
    show Rg _ _ p ∨ Rg _ _ p ↔ Rg lo (m x).2.sets.length p
    have := h.le
    unfold Rg; omega
theorem Acc.altN {w : List UInt8} {lo n : Nat} {x : Plc} {c : Pt} {m : Mk} {D1 D2 : Nat → Nat → Prop} (h : Acc w lo x c D1) (hm : Sem w m n D2) (hr : x.sets.length + n ≤ 24) :
    PreAt lo x (m x).2 ∧ (m x).2.sets.length = x.sets.length + n ∧ Acc w lo (m x).2 (altP c (m x).1) (fun i j => D1 i j ∨ D2 i j) := by
  obtain ⟨h1, h2, h3⟩ := hm x h.ln hr
  refine ⟨⟨h.le, h1.st, fun p hp => h1.fo p (by have := h.le; omega), h3.ln⟩, h2, ⟨by have := h.le; omega, h3.ln, ?_⟩⟩
  refine (Fr.alt (h.up h1) h3.fr (fun p g1 g2 => by unfold Rg at g1 g2; omega)).rg fun p => ?_
  have := h.le
  unfold Rg; omega
theorem fr_noth {N : Nat} {E T : Nat → Nat → Prop} : Fr N E T (fun _ => False) nothP (fun i j => i = j) where
  rF := fun b p h => by cases b <;> simp [fst', nothP] at h
  rL := fun b p h => by cases b <;> simp [lst', nothP] at h
  rE := fun p q h => h.elim
  nl := fun i hi => by simp only [true_iff]; cases decide (i = 0) <;> cases decide (i = N) <;> rfl
  ph := fun i j hij hj => by
    constructor
    · intro h; omega
    · rintro ⟨p, q, h, _⟩
      exfalso
      cases decide (i = 0) <;> simp [fst', nothP] at h
  inn := fun i j hi h => by omega
theorem fr_zero {N : Nat} {E T : Nat → Nat → Prop} : Fr N E T (fun _ => False) zeroP (fun _ _ => False) where
  rF := fun b p h => by cases b <;> simp [fst', zeroP] at h
  rL := fun b p h => by cases b <;> simp [lst', zeroP] at h
  rE := fun p q h => h.elim
  nl := fun i hi => by simp only [false_iff]; cases decide (i = 0) <;> cases decide (i = N) <;> simp [nul, zeroP]
  ph := fun i j hij hj => by
    constructor
    · exact False.elim
    · rintro ⟨p, q, h, _⟩
      cases decide (i = 0) <;> simp [fst', zeroP] at h
  inn := fun i j hi h => h.elim
theorem acc_noth {w : List UInt8} {x : Plc} (h : x.fol.length = x.sets.length) : Acc w x.sets.length x nothP (fun i j => i = j) := ⟨Nat.le_refl _, h, fr_noth.rg fun p => ⟨False.elim, fun h => by unfold Rg at h; omega⟩⟩
theorem acc_zero {w : List UInt8} {x : Plc} (h : x.fol.length = x.sets.length) : Acc w x.sets.length x zeroP (fun _ _ => False) := ⟨Nat.le_refl _, h, fr_zero.rg fun p => ⟨False.elim, fun h => by unfold Rg at h; omega⟩⟩
theorem Acc.optN {w : List UInt8} {lo : Nat} {x : Plc} {c : Pt} {D : Nat → Nat → Prop} (h : Acc w lo x c D) : Acc w lo x (altP nothP c) (fun i j => i = j ∨ D i j) := ⟨h.le, h.ln, (Fr.alt fr_noth h.fr fun p g _ => g).rg fun p => ⟨fun g => g.elim False.elim id, .inr⟩⟩
theorem Acc.iff {w : List UInt8} {lo : Nat} {x : Plc} {c : Pt} {D D' : Nat → Nat → Prop} (h : Acc w lo x c D) (hD : ∀ i j, i ≤ w.length → (D i j ↔ D' i j)) : Acc w lo x c D' := ⟨h.le, h.ln, h.fr.iff hD⟩
theorem PreAt.trans {lo : Nat} {x y z : Plc} (h : PreAt lo x y) (h' : PreAt lo y z) : PreAt lo x z := by
  obtain ⟨t, ht⟩ := h.st
  obtain ⟨u, hu⟩ := h'.st
  exact ⟨h.le, ⟨t ++ u, by rw [hu, ht, List.append_assoc]⟩, fun p hp => (h'.fo p hp).trans (h.fo p hp), h'.ln⟩
theorem PreAt.refl {lo : Nat} {x : Plc} (h : lo ≤ x.sets.length) (hl : x.fol.length = x.sets.length) : PreAt lo x x := ⟨h, ⟨[], by simp⟩, fun _ _ => rfl, hl⟩
theorem Acc.iter {w : List UInt8} {m : Mk} {n : Nat} {D : Nat → Nat → Prop} (hm : Sem w m n D) : ∀ (k : Nat) {lo : Nat} {x : Plc} {c : Pt} {D0 : Nat → Nat → Prop}, Acc w lo x c D0 → x.sets.length + k * n ≤ 24 →
    PreAt lo x (iterM (fun c => catM c m) k c x).2 ∧ (iterM (fun c => catM c m) k c x).2.sets.length = x.sets.length + k * n ∧ Acc w lo (iterM (fun c => catM c m) k c x).2 (iterM (fun c => catM c m) k c x).1 (fun i j => ∃ t, D0 i t ∧ pow D k t j)
  | 0, lo, x, c, D0, h, _ => ⟨PreAt.refl h.le h.ln, by simp [iterM], h.iff fun i j _ => ⟨fun g => ⟨j, g, rfl⟩, fun ⟨t, g, e⟩ => (show t = j from e) ▸ g⟩⟩
  | k + 1, lo, x, c, D0, h, hr => by
    rw [Nat.succ_mul] at hr ⊢
    obtain ⟨h1, h2, h3⟩ := h.cat hm (by omega)
    obtain ⟨g1, g2, g3⟩ := Acc.iter hm k h3 (by omega)
    refine ⟨h1.trans g1, by show (iterM (fun c => catM c m) k (catM c m x).1 (catM c m x).2).2.sets.length = _; omega, g3.iff fun i j _ => ?_⟩
    constructor
    · rintro ⟨t, ⟨s, a, b⟩, c⟩; exact ⟨s, a, t, b, c⟩
    · rintro ⟨s, a, t, b, c⟩; exact ⟨t, ⟨s, a, b⟩, c⟩
theorem Acc.more {w : List UInt8} {m : Mk} {n : Nat} {D : Nat → Nat → Prop} (hm : Sem w m n D) : ∀ (k : Nat) {lo : Nat} {x : Plc} {c : Pt} {e : Nat}, Acc w lo x c (fun i j => ∃ r, r ≤ e ∧ pow D r i j) → x.sets.length + k * n ≤ 24 →
    PreAt lo x (iterM (moreM m) k c x).2 ∧ (iterM (moreM m) k c x).2.sets.length = x.sets.length + k * n ∧ Acc w lo (iterM (moreM m) k c x).2 (iterM (moreM m) k c x).1 (fun i j => ∃ r, r ≤ e + k ∧ pow D r i j)
  | 0, lo, x, c, e, h, _ => ⟨PreAt.refl h.le h.ln, by simp [iterM], h⟩
  | k + 1, lo, x, c, e, h, hr => by
    rw [Nat.succ_mul] at hr ⊢
    obtain ⟨h1, h2, h3⟩ := h.catL hm (by omega)
    have h4 : Acc w lo (moreM m c x).2 (moreM m c x).1 (fun i j => ∃ r, r ≤ e + 1 ∧ pow D r i j) := h3.optN.iff fun i j _ => by
      constructor
      · rintro (rfl | ⟨t, a, r, hr, b⟩)
        · exact ⟨0, by omega, rfl⟩
        · exact ⟨r + 1, by omega, t, a, b⟩
      · rintro ⟨r, hr, a⟩
        cases r with
        | zero => exact .inl a
        | succ r => obtain ⟨t, b, c⟩ := a; exact .inr ⟨t, b, r, by omega, c⟩
    obtain ⟨g1, g2, g3⟩ := Acc.more hm k (e := e + 1) h4 (by show (Sts.catL m c x).2.sets.length + _ ≤ _; omega)
    refine ⟨h1.trans g1, by show (iterM (moreM m) k (moreM m c x).1 (moreM m c x).2).2.sets.length = _; rw [g2]; show (Sts.catL m c x).2.sets.length + _ = _; omega, g3.iff fun i j _ => ?_⟩
    rw [show e + (k + 1) = e + 1 + k by omega]
theorem Acc.join {w : List UInt8} {lo : Nat} {x y : Plc} {c b : Pt} {D1 D2 : Nat → Nat → Prop} (h : Acc w lo x c D1) (h1 : PreAt x.sets.length x y) (h3 : Acc w x.sets.length y b D2) :
    PreAt lo x (y.join c.l0 b.f0) ∧ Acc w lo (y.join c.l0 b.f0) (catP c b) (fun i j => ∃ t, D1 i t ∧ D2 t j) := by
  have hl0 : ∀ p, c.l0.getLsbD p = true → Rg lo x.sets.length p := fun p hp => h.fr.rL false p hp
  have hle := h3.le
  have hln := h3.ln
  refine ⟨⟨h.le, h1.st, fun p hp => ?_, by rw [join_fol]; exact h3.ln⟩, ⟨by show lo ≤ y.sets.length; have := h.le; omega, by rw [join_fol]; exact h3.ln, ?_⟩⟩
  · rw [join_row, h1.fo p (by have := h.le; omega)]
    cases e : c.l0.getLsbD p with
    | false => rfl
    | true => have := hl0 p e; unfold Rg at this; omega
  · have hc := Fr.cat (E' := ed (y.join c.l0 b.f0)) (h.up h1) h3.fr (fun p g1 g2 => by unfold Rg at g1 g2; omega)
      (fun p q hp => ed_join (by unfold Rg at hp; omega))
      (fun p q hp => by
        rw [ed_join (by unfold Rg at hp; omega)]
        constructor
        · rintro (g | ⟨g, _⟩)
          · exact g
          · have := hl0 p g; unfold Rg at this hp; omega
        · exact .inl)
    refine hc.rg fun p => ?_
    show Rg _ _ p ∨ Rg _ _ p ↔ Rg lo y.sets.length p
    have := h.le
    unfold Rg; omega
theorem Acc.star {w : List UInt8} {lo : Nat} {x : Plc} {c : Pt} {D : Nat → Nat → Prop} (h : Acc w lo x c D) : PreAt lo x (x.join c.l0 c.f0) ∧ Acc w lo (x.join c.l0 c.f0) (altP nothP c) (fun i j => ∃ k, pow D k i j) := by
  have hl0 : ∀ p, c.l0.getLsbD p = true → Rg lo x.sets.length p := fun p hp => h.fr.rL false p hp
  have hln := h.ln
  refine ⟨⟨h.le, ⟨[], by simp [join_sets]⟩, fun p hp => ?_, by rw [join_fol]; exact h.ln⟩, ?_⟩
  · rw [join_row]
    cases e : c.l0.getLsbD p with
    | false => rfl
    | true => have := hl0 p e; unfold Rg at this; omega
  · have hp := Fr.plus (E' := ed (x.join c.l0 c.f0)) h.fr (fun p q hp => ed_join (by unfold Rg at hp; omega))
    have ha : Acc w lo (x.join c.l0 c.f0) c (fun i j => ∃ k, 1 ≤ k ∧ pow D k i j) := ⟨h.le, by rw [join_fol]; exact h.ln, hp⟩
    refine ha.optN.iff fun i j _ => ?_
    constructor
    · rintro (rfl | ⟨k, _, g⟩)
      · exact ⟨0, rfl⟩
      · exact ⟨k, g⟩
    · rintro ⟨k, g⟩
      cases k with
      | zero => exact .inl g
      | succ k => exact .inr ⟨k + 1, by omega, g⟩
theorem pow_add {D : Nat → Nat → Prop} : ∀ (a b i j : Nat), (∃ t, pow D a i t ∧ pow D b t j) ↔ pow D (a + b) i j
  | 0, b, i, j => by
    rw [Nat.zero_add]
    exact ⟨fun ⟨t, e, h⟩ => (show i = t from e) ▸ h, fun h => ⟨i, rfl, h⟩⟩
  | a + 1, b, i, j => by
    rw [show a + 1 + b = (a + b) + 1 by omega]
    constructor
    · rintro ⟨t, ⟨m, h1, h2⟩, h3⟩
      exact ⟨m, h1, (pow_add a b m j).1 ⟨t, h2, h3⟩⟩
    · rintro ⟨m, h1, h2⟩
      obtain ⟨t, h3, h4⟩ := (pow_add a b m j).2 h2
      exact ⟨t, ⟨m, h1, h3⟩, h4⟩
theorem sem_rep {w : List UInt8} {m : Mk} {n : Nat} {D : Nat → Nat → Prop} (hm : Sem w m n D) {nd : Nd} (h0 : 0 ≤ nd.mn) (h1 : nd.mx = -1 ∨ nd.mn ≤ nd.mx) : Sem w (repM m nd.mn nd.mx) (reps nd * n) (rounds nd D) := by
  intro x hx hr
  unfold reps at hr ⊢
  by_cases hneg : nd.mx < 0
  · rw [if_pos hneg, Nat.succ_mul] at hr ⊢
    rw [repM_neg hneg]
    obtain ⟨a1, a2, a3⟩ := Acc.iter hm nd.mn.toNat (acc_noth (w := w) hx) (by omega)
    obtain ⟨b1, b2, b3⟩ := hm (iterM (fun c => catM c m) nd.mn.toNat nothP x).2 a3.ln (by omega)
    obtain ⟨s1, s2⟩ := b3.star
    have hp : PreAt (iterM (fun c => catM c m) nd.mn.toNat nothP x).2.sets.length (iterM (fun c => catM c m) nd.mn.toNat nothP x).2 ((m (iterM (fun c => catM c m) nd.mn.toNat nothP x).2).2.join (m (iterM (fun c => catM c m) nd.mn.toNat nothP x).2).1.l0 (m (iterM (fun c => catM c m) nd.mn.toNat nothP x).2).1.f0) := ⟨Nat.le_refl _, b1.st, fun p hp => (s1.fo p hp).trans (b1.fo p hp), s1.ln⟩
    obtain ⟨j1, j2⟩ := a3.join hp s2
    refine ⟨a1.trans j1, by show (m (iterM (fun c => catM c m) nd.mn.toNat nothP x).2).2.sets.length = _; omega, j2.iff fun i j _ => ?_⟩
    unfold rounds
    constructor
    · rintro ⟨t, ⟨s, rfl, h2⟩, k, h3⟩
      exact ⟨nd.mn.toNat + k, by omega, .inl (by omega), (pow_add _ _ _ _).1 ⟨t, h2, h3⟩⟩
    · rintro ⟨k, hk, _, h2⟩
      obtain ⟨t, h3, h4⟩ := (pow_add nd.mn.toNat (k - nd.mn.toNat) i j).2 (by rw [show nd.mn.toNat + (k - nd.mn.toNat) = k by omega]; exact h2)
      exact ⟨t, ⟨i, rfl, h3⟩, _, h4⟩
  · rw [if_neg hneg] at hr ⊢
    rw [repM_pos hneg]
    have hmul : nd.mx.toNat * n = nd.mn.toNat * n + (nd.mx - nd.mn).toNat * n := by rw [← Nat.add_mul]; congr 1; omega
    rw [hmul] at hr ⊢
    obtain ⟨a1, a2, a3⟩ := Acc.iter hm nd.mn.toNat (acc_noth (w := w) hx) (by omega)
    have hno : Acc w (iterM (fun c => catM c m) nd.mn.toNat nothP x).2.sets.length (iterM (fun c => catM c m) nd.mn.toNat nothP x).2 nothP (fun i j => ∃ r, r ≤ 0 ∧ pow D r i j) := (acc_noth a3.ln).iff fun i j _ => ⟨fun e => ⟨0, Nat.le_refl _, e⟩, fun ⟨r, h, g⟩ => by obtain rfl : r = 0 := (by omega); exact g⟩
    obtain ⟨b1, b2, b3⟩ := Acc.more hm (nd.mx - nd.mn).toNat hno (by omega)
    obtain ⟨j1, j2⟩ := a3.join b1 b3
    refine ⟨a1.trans j1, by show (iterM (moreM m) (nd.mx - nd.mn).toNat nothP (iterM (fun c => catM c m) nd.mn.toNat nothP x).2).2.sets.length = _; omega, j2.iff fun i j _ => ?_⟩
    unfold rounds
    constructor
    · rintro ⟨t, ⟨s, rfl, h2⟩, k, hk, h3⟩
      exact ⟨nd.mn.toNat + k, by omega, .inr (by omega), (pow_add _ _ _ _).1 ⟨t, h2, h3⟩⟩
    · rintro ⟨k, hk, hk2, h2⟩
      obtain ⟨t, h3, h4⟩ := (pow_add nd.mn.toNat (k - nd.mn.toNat) i j).2 (by rw [show nd.mn.toNat + (k - nd.mn.toNat) = k by omega]; exact h2)
      exact ⟨t, ⟨i, rfl, h3⟩, _, by omega, h4⟩
theorem sem_set {w : List UInt8} (s : Kl.Cl) : Sem w (setM s) 1 (fun i j => j = i + 1 ∧ ∃ b, w[i]? = some b ∧ s.getLsbD b.toNat = true) := by
  intro x hx hr
  refine ⟨⟨Nat.le_refl _, ⟨[s], rfl⟩, fun p hp => by show (x.fol ++ [0])[p]? = _; rw [List.getElem?_append_left (by omega)], by simp [setM, hx]⟩, by simp [setM], ⟨by simp [setM], by simp [setM, hx], ?_⟩⟩
  have hfl : ∀ p, (pit x.sets.length).getLsbD p = true → p = x.sets.length := fun p hp => by
    rcases Nat.lt_or_ge p 24 with h | h
    · rw [pit_get h] at hp; simpa using hp
    · rw [BitVec.getLsbD_of_ge _ _ h] at hp; cases hp
  have hpi : (pit x.sets.length).getLsbD x.sets.length = true := by rw [pit_get (by omega)]; simp
  have hno : ∀ q, ¬ ed (setM s x).2 x.sets.length q := fun q h => by
    unfold ed setM at h
    rw [List.getElem?_append_right (by omega), hx, Nat.sub_self] at h
    simp at h
  have htk : ∀ i, tk w (setM s x).2 x.sets.length i ↔ ∃ b, w[i]? = some b ∧ s.getLsbD b.toNat = true := fun i => by
    unfold tk setM
    rw [List.getElem?_append_right (by omega), Nat.sub_self]; rfl
  refine ⟨fun b p h => ?_, fun b p h => ?_, fun p q hp he => ?_, fun i hi => ?_, fun i j hij hj => ?_, fun i j hi h => ?_⟩
  · have := hfl p (by cases b <;> exact h)
    subst this
    exact ⟨Nat.le_refl _, by simp [setM]⟩
  · have := hfl p (by cases b <;> exact h)
    subst this
    exact ⟨Nat.le_refl _, by simp [setM]⟩
  · unfold Rg at hp
    have : p = x.sets.length := by simp [setM] at hp; omega
    subst this
    exact absurd he (hno q)
  · constructor
    · rintro ⟨h, _⟩; omega
    · intro h; cases decide (i = 0) <;> cases decide (i = w.length) <;> simp [nul, setM] at h
  · constructor
    · rintro ⟨rfl, h⟩
      exact ⟨x.sets.length, x.sets.length, by cases decide (i = 0) <;> exact hpi, .one ((htk i).2 h), by cases decide (i + 1 = w.length) <;> exact hpi⟩
    · rintro ⟨p, q, g1, g2, g3⟩
      have := hfl p (by revert g1; cases decide (i = 0) <;> exact id)
      subst this
      cases g2 with
      | one ht => exact ⟨rfl, (htk i).1 ht⟩
      | step _ he _ => exact absurd he (hno _)
  · obtain ⟨rfl, b, hb, _⟩ := h
    have := (List.getElem?_eq_some_iff.1 hb).1
    omega
theorem sem_begin {w : List UInt8} : Sem w (fun x => ({ zeroP with n10 := true, n11 := true }, x)) 0 (fun i j => i = 0 ∧ j = 0) := by
  intro x hx _
  refine ⟨PreAt.refl (Nat.le_refl _) hx, rfl, ⟨Nat.le_refl _, hx, ?_⟩⟩
  refine ⟨fun b p h => ?_, fun b p h => ?_, fun p q hp => ?_, fun i hi => ?_, fun i j hij hj => ?_, fun i j hi h => by omega⟩
  · cases b <;> simp [fst', zeroP] at h
  · cases b <;> simp [lst', zeroP] at h
  · unfold Rg at hp; dsimp only at hp; omega
  · by_cases h0 : i = 0
    · subst h0
      simp only [and_self, true_iff, decide_true]
      cases decide (0 = w.length) <;> rfl
    · rw [decide_eq_false h0]
      constructor
      · rintro ⟨h, _⟩; exact absurd h h0
      · intro h; cases decide (i = w.length) <;> simp [nul, zeroP] at h
  · constructor
    · rintro ⟨_, _⟩; omega
    · rintro ⟨p, q, h, _⟩; exfalso; cases decide (i = 0) <;> simp [fst', zeroP] at h
theorem sem_end {w : List UInt8} : Sem w (fun x => ({ zeroP with n01 := true, n11 := true }, x)) 0 (fun i j => i = w.length ∧ j = i) := by
  intro x hx _
  refine ⟨PreAt.refl (Nat.le_refl _) hx, rfl, ⟨Nat.le_refl _, hx, ?_⟩⟩
  refine ⟨fun b p h => ?_, fun b p h => ?_, fun p q hp => ?_, fun i hi => ?_, fun i j hij hj => ?_, fun i j hi h => by omega⟩
  · cases b <;> simp [fst', zeroP] at h
  · cases b <;> simp [lst', zeroP] at h
  · unfold Rg at hp; dsimp only at hp; omega
  · by_cases h0 : i = w.length
    · rw [decide_eq_true h0]
      simp only [h0, and_self, true_iff]
      cases decide (w.length = 0) <;> rfl
    · rw [decide_eq_false h0]
      constructor
      · rintro ⟨h, _⟩; exact absurd h h0
      · intro h; cases decide (i = 0) <;> simp [nul, zeroP] at h
  · constructor
    · rintro ⟨_, _⟩; omega
    · rintro ⟨p, q, h, _⟩; exfalso; cases decide (i = 0) <;> simp [fst', zeroP] at h
def nref : F → Prop
  | .nil => True
  | .nd x ks r => ¬ x.op = 8 ∧ nref ks ∧ nref r
theorem nref_of : ∀ (f : F), (∀ y ∈ f.flat, ¬ y.op = 8) → nref f
  | .nil, _ => trivial
  | .nd x ks r, h => ⟨h x (by simp [F.flat]), nref_of ks fun y hy => h y (by simp [F.flat, hy]), nref_of r fun y hy => h y (by simp [F.flat, hy])⟩
def KidS (w : List UInt8) (f : F) : Prop := ∀ (b : Bool) {lo : Nat} {x : Plc} {c : Pt} {D : Nat → Nat → Prop}, Acc w lo x c D → x.sets.length + cntM f ≤ 24 →
  PreAt lo x (kidsM f b c x).2 ∧ (kidsM f b c x).2.sets.length = x.sets.length + cntM f ∧ Acc w lo (kidsM f b c x).2 (kidsM f b c x).1 (fun i j => if b = true then D i j ∨ der w f true i j else ∃ t, D i t ∧ der w f false t j)
theorem part_of {w : List UInt8} {n : Nd} {ks : F} (hw : (F.nd n ks .nil).wf) (h8 : ¬ n.op = 8) (hk : KidS w ks) (hy : ∀ y js, ks = .nd y js .nil → Sem w (partM y js) (cnt1 y js) (der1 w y js)) : Sem w (partM n ks) (cnt1 n ks) (der1 w n ks) := by
  by_cases h1 : n.op = 1
  · intro x hx hr
    rw [partM_set h1, cnt1_set h1] at *
    obtain ⟨a, b, c⟩ := sem_set (w := w) n.set x hx (by omega)
    exact ⟨a, b, c.iff fun i j _ => by rw [der1_def]; simp [h1]⟩
  by_cases h2 : n.op = 2
  · intro x hx hr
    have hc : cnt1 n ks = 0 := by simp [cnt1, h2]
    rw [partM_begin h2, hc]
    obtain ⟨a, b, c⟩ := sem_begin (w := w) x hx (by omega)
    exact ⟨a, b, c.iff fun i j _ => by rw [der1_def]; simp [h2]⟩
  by_cases h3 : n.op = 3
  · intro x hx hr
    have hc : cnt1 n ks = 0 := by simp [cnt1, h3]
    rw [partM_end h3, hc]
    obtain ⟨a, b, c⟩ := sem_end (w := w) x hx (by omega)
    exact ⟨a, b, c.iff fun i j _ => by rw [der1_def]; simp [h3]⟩
  by_cases h4 : n.op = 4
  · intro x hx hr
    rw [cnt1_op (.inl h4)] at hr ⊢
    rw [partM_cat h4]
    obtain ⟨a, b, c⟩ := hk false (acc_noth (w := w) hx) hr
    exact ⟨a, b, c.iff fun i j _ => by rw [der1_def]; simp [h4]⟩
  by_cases h5 : n.op = 5
  · intro x hx hr
    rw [cnt1_op (.inr (.inl h5))] at hr ⊢
    rw [partM_alt h5]
    obtain ⟨a, b, c⟩ := hk true (acc_zero (w := w) hx) hr
    exact ⟨a, b, c.iff fun i j _ => by rw [der1_def]; simp [h5]⟩
  by_cases h6 : n.op = 6
  · obtain ⟨y, js, rfl⟩ := one_kid hw (.inl h6)
    have hf := flds_rep hw.1 h6
    have hmx : n.mx = -1 ∨ n.mn ≤ n.mx := by
      have h7 := hw.1
      simp only [ndOk, Bool.and_eq_true] at h7
      have := (flds_iff.1 h7.1).2.2.2.1 h6
      omega
    intro x hx hr
    rw [cnt1_rep h6, cnt_kid] at hr ⊢
    rw [partM_rep h6]
    obtain ⟨a, b, c⟩ := sem_rep (hy y js rfl) hf.1 hmx x hx hr
    refine ⟨a, b, c.iff fun i j _ => ?_⟩
    rw [der1_def]
    simp only [h6]
    exact Iff.rfl
  by_cases h7 : n.op = 7
  · obtain ⟨y, js, rfl⟩ := one_kid hw (.inr h7)
    intro x hx hr
    rw [cnt1_op (.inr (.inr h7)), cnt_kid] at hr ⊢
    rw [partM_group h7]
    obtain ⟨a, b, c⟩ := hy y js rfl x hx hr
    refine ⟨a, b, c.iff fun i j _ => ?_⟩
    rw [der1_def (x := n)]
    simp only [h7]
    exact Iff.rfl
  · exfalso
    have h7' := hw.1
    simp only [ndOk, Bool.and_eq_true] at h7'
    have := (flds_iff.1 h7'.1).1
    omega
theorem kids_sem (w : List UInt8) : ∀ (f : F), f.wf → nref f → KidS w f
  | .nil, _, _ => fun b lo x c D h _ => ⟨PreAt.refl h.le h.ln, rfl, h.iff fun i j _ => by cases b <;> simp [der]⟩
  | .nd n ks r, hw, hn => fun b lo x c D h hr => by
    have hp : Sem w (partM n ks) (cnt1 n ks) (der1 w n ks) := part_of ⟨hw.1, hw.2.1, hw.2.2.1, trivial⟩ hn.1 (kids_sem w ks hw.2.2.1 hn.2.1) fun y js e => by
      subst e
      intro x hx hr
      have hkk := kids_sem w (.nd y js .nil) hw.2.2.1 hn.2.1 true (acc_zero (w := w) hx) (by rw [cnt_kid]; exact hr)
      rw [kids_one, cnt_kid] at hkk
      obtain ⟨a, b, c⟩ := hkk
      exact ⟨a, b, c.iff fun i j _ => by rw [if_pos rfl, der_alt, der_nil']; simp⟩
    rw [cntM_nd] at hr ⊢
    cases b with
    | false =>
      rw [kidsM_cat]
      obtain ⟨a1, a2, a3⟩ := h.cat hp (by omega)
      obtain ⟨b1, b2, b3⟩ := kids_sem w r hw.2.2.2 hn.2.2 false a3 (by omega)
      refine ⟨a1.trans b1, by omega, b3.iff fun i j _ => ?_⟩
      simp only [Bool.false_eq_true, if_false]
      constructor
      · rintro ⟨t, ⟨s, g1, g2⟩, g3⟩; exact ⟨s, g1, der_cat.2 ⟨t, g2, g3⟩⟩
      · rintro ⟨s, g1, g2⟩
        obtain ⟨t, g3, g4⟩ := der_cat.1 g2
        exact ⟨t, ⟨s, g1, g3⟩, g4⟩
    | true =>
      rw [kidsM_alt]
      obtain ⟨a1, a2, a3⟩ := h.altN hp (by omega)
      obtain ⟨b1, b2, b3⟩ := kids_sem w r hw.2.2.2 hn.2.2 true a3 (by omega)
      refine ⟨a1.trans b1, by omega, b3.iff fun i j _ => ?_⟩
      simp only [if_true]
      rw [der_alt]
      exact or_assoc
theorem part_sem {w : List UInt8} {n : Nd} {ks : F} (hw : (F.nd n ks .nil).wf) (hn : nref (.nd n ks .nil)) : Sem w (partM n ks) (cnt1 n ks) (der1 w n ks) :=
  part_of hw hn.1 (kids_sem w ks hw.2.2.1 hn.2.1) fun y js e => by
    subst e
    intro x hx hr
    have hkk := kids_sem w (.nd y js .nil) hw.2.2.1 hn.2.1 true (acc_zero (w := w) hx) (by rw [cnt_kid]; exact hr)
    rw [kids_one, cnt_kid] at hkk
    obtain ⟨a, b, c⟩ := hkk
    exact ⟨a, b, c.iff fun i j _ => by rw [if_pos rfl, der_alt, der_nil']; simp⟩
/-! where the classes of the places come from -/
def SubM (m : Mk) (L : List Kl.Cl) : Prop := ∀ x s, s ∈ (m x).2.sets → s ∈ x.sets ∨ s ∈ L
theorem SubM.cat {m : Mk} {L : List Kl.Cl} (h : SubM m L) (c : Pt) : SubM (catM c m) L := h
theorem SubM.catL {m : Mk} {L : List Kl.Cl} (h : SubM m L) (c : Pt) : SubM (Sts.catL m c) L := h
theorem SubM.iter {f : Pt → Mk} {L : List Kl.Cl} (h : ∀ c, SubM (f c) L) : ∀ k c, SubM (iterM f k c) L
  | 0, c => fun x s hs => .inl hs
  | k + 1, c => fun x s hs => by
    rcases SubM.iter h k _ _ s hs with h1 | h1
    · exact h c x s h1
    · exact .inr h1
theorem SubM.rep {m : Mk} {L : List Kl.Cl} (h : SubM m L) (mn mx : Int) : SubM (repM m mn mx) L := by
  intro x s hs
  have hi := SubM.iter (f := fun c => catM c m) (fun c => h.cat c) mn.toNat nothP x s
  by_cases hn : mx < 0
  · rw [repM_neg hn] at hs
    rcases h _ s hs with h1 | h1
    · exact hi h1
    · exact .inr h1
  · rw [repM_pos hn] at hs
    rcases SubM.iter (f := moreM m) (fun c => h.catL c) (mx - mn).toNat nothP _ s hs with h1 | h1
    · exact hi h1
    · exact .inr h1
theorem setsOf_cons (n : Nd) (l : List Nd) : ∀ s ∈ setsOf l, s ∈ setsOf (n :: l) := by
  intro s hs
  simp only [setsOf, List.mem_map, List.mem_filter] at hs ⊢
  obtain ⟨y, ⟨h1, h2⟩, h3⟩ := hs
  exact ⟨y, ⟨List.mem_cons_of_mem _ h1, h2⟩, h3⟩
theorem setsOf_app {a b : List Nd} {s : Kl.Cl} : s ∈ setsOf (a ++ b) ↔ s ∈ setsOf a ∨ s ∈ setsOf b := by
  simp [setsOf, or_and_right, exists_or]
theorem SubM.mono {m : Mk} {L L' : List Kl.Cl} (h : SubM m L) (hl : ∀ s ∈ L, s ∈ L') : SubM m L' := fun x s hs => (h x s hs).imp id (hl s)
theorem sub_part {n : Nd} {ks : F} (hk : ∀ b c, SubM (kidsM ks b c) (setsOf ks.flat)) : SubM (partM n ks) (setsOf (n :: ks.flat)) := by
  have hc := setsOf_cons n ks.flat
  unfold partM oneM
  intro x s hs
  by_cases h1 : n.op = 1
  · simp only [h1, if_true, setM, List.mem_append, List.mem_singleton] at hs
    rcases hs with hs | rfl
    · exact .inl hs
    · right; simp [setsOf, h1]
  · simp only [if_neg h1] at hs
    by_cases h2 : n.op = 2
    · simp only [if_pos h2] at hs; exact .inl hs
    · simp only [if_neg h2] at hs
      by_cases h3 : n.op = 3
      · simp only [if_pos h3] at hs; exact .inl hs
      · simp only [if_neg h3] at hs
        by_cases h4 : n.op = 4
        · simp only [if_pos h4] at hs; exact ((hk _ _).mono hc) x s hs
        · simp only [if_neg h4] at hs
          by_cases h5 : n.op = 5
          · simp only [if_pos h5] at hs; exact ((hk _ _).mono hc) x s hs
          · simp only [if_neg h5] at hs
            by_cases h6 : n.op = 6
            · simp only [if_pos h6] at hs; exact (((hk _ _).rep _ _).mono hc) x s hs
            · simp only [if_neg h6] at hs
              by_cases h7 : n.op = 7
              · simp only [if_pos h7] at hs; exact ((hk _ _).mono hc) x s hs
              · simp only [if_neg h7] at hs; exact .inl hs
theorem sub_kids : ∀ (f : F) (b : Bool) (c : Pt), SubM (kidsM f b c) (setsOf f.flat)
  | .nil, _, _ => fun x s hs => .inl hs
  | .nd n ks r, b, c => by
    have hp : SubM (partM n ks) (setsOf (n :: ks.flat)) := sub_part fun b c => sub_kids ks b c
    have e : (F.nd n ks r).flat = (n :: ks.flat) ++ r.flat := by simp [F.flat]
    intro x s hs
    rw [e]
    cases b with
    | false =>
      rw [kidsM_cat] at hs
      rcases sub_kids r false _ _ s hs with h1 | h1
      · exact (hp x s h1).imp id fun h => setsOf_app.2 (.inl h)
      · exact .inr (setsOf_app.2 (.inr h1))
    | true =>
      rw [kidsM_alt] at hs
      rcases sub_kids r true _ _ s hs with h1 | h1
      · exact (hp x s h1).imp id fun h => setsOf_app.2 (.inl h)
      · exact .inr (setsOf_app.2 (.inr h1))
/-! sets of places -/
theorem folTo_get {fol : List Sp} {s : Sp} (p : Nat) : ∀ n, n ≤ fol.length → ((folTo fol s n).getLsbD p = true ↔ ∃ r, r < n ∧ s.getLsbD r = true ∧ (fol[r]?.getD 0).getLsbD p = true)
  | 0, _ => by simp [folTo]
  | n + 1, hn => by
    have ih := folTo_get (fol := fol) (s := s) p n (by omega)
    unfold folTo
    by_cases h : s.getLsbD n = true
    · rw [if_pos h, fst_or, ih]
      constructor
      · rintro (⟨r, a, b, c⟩ | h2)
        · exact ⟨r, by omega, b, c⟩
        · exact ⟨n, by omega, h, h2⟩
      · rintro ⟨r, a, b, c⟩
        rcases Nat.lt_or_ge r n with h3 | h3
        · exact .inl ⟨r, h3, b, c⟩
        · obtain rfl : r = n := by omega
          exact .inr c
    · rw [if_neg h, ih]
      constructor
      · rintro ⟨r, a, b, c⟩; exact ⟨r, by omega, b, c⟩
      · rintro ⟨r, a, b, c⟩
        rcases Nat.lt_or_ge r n with h3 | h3
        · exact ⟨r, h3, b, c⟩
        · obtain rfl : r = n := by omega
          exact absurd b h
theorem rdTo_get {sets : List Kl.Cl} {a : Kl.Cl} {p : Nat} (hp : p < 24) : ∀ n, n ≤ 24 → ((rdTo sets a n).getLsbD p = true ↔ p < n ∧ (sets[p]?.getD 0) &&& a ≠ 0)
  | 0, _ => by simp [rdTo]
  | n + 1, hn => by
    have ih := rdTo_get (sets := sets) (a := a) hp n (by omega)
    unfold rdTo
    by_cases h : (sets[n]?.getD 0) &&& a = 0
    · rw [if_pos h, ih]
      constructor
      · rintro ⟨h1, h2⟩; exact ⟨by omega, h2⟩
      · rintro ⟨h1, h2⟩
        rcases Nat.lt_or_ge p n with h3 | h3
        · exact ⟨h3, h2⟩
        · obtain rfl : p = n := by omega
          exact absurd h h2
    · rw [if_neg h, fst_or, ih, pit_get hp]
      simp only [decide_eq_true_eq]
      constructor
      · rintro (⟨h1, h2⟩ | rfl)
        · exact ⟨by omega, h2⟩
        · exact ⟨by omega, h⟩
      · rintro ⟨h1, h2⟩
        rcases Nat.lt_or_ge p n with h3 | h3
        · exact .inl ⟨h3, h2⟩
        · exact .inr (by omega)
theorem and_get (a b : Sp) (p : Nat) : (a &&& b).getLsbD p = true ↔ a.getLsbD p = true ∧ b.getLsbD p = true := by rw [BitVec.getLsbD_and, Bool.and_eq_true]
theorem ne_get {s : Sp} : s ≠ 0 ↔ ∃ p, s.getLsbD p = true := by
  constructor
  · intro h
    refine Classical.byContradiction fun hc => h ?_
    apply BitVec.eq_of_getLsbD_eq
    intro i _
    cases e : s.getLsbD i with
    | false => simp
    | true => exact absurd ⟨i, e⟩ hc
  · rintro ⟨p, hp⟩ rfl
    simp at hp
/-! the rows of the wide machine -/
def RowOk (rds : List Sp) (fr : Sp) (row : List Nat) (met : List Sp) : Prop := ∀ (k : Nat) (r : Sp), rds[k]? = some r → ∃ j, row[k]? = some (j + 1) ∧ met[j]? = some (fr &&& r)
theorem RowOk.mono {rds : List Sp} {fr : Sp} {row : List Nat} {met : List Sp} (h : RowOk rds fr row met) (t : List Sp) : RowOk rds fr row (met ++ t) := fun k r hr => by
  obtain ⟨j, h1, h2⟩ := h k r hr
  exact ⟨j, h1, by rw [List.getElem?_append_left (List.getElem?_eq_some_iff.1 h2).1]; exact h2⟩
theorem rowT_ok (fr : Sp) : ∀ (rds met : List Sp), (∃ t, (rowT rds fr met).2 = met ++ t) ∧ RowOk rds fr (rowT rds fr met).1 (rowT rds fr met).2
  | [], met => ⟨⟨[], by simp [rowT]⟩, fun k r h => by simp at h⟩
  | x :: rds, met => by
    obtain ⟨⟨t, ht⟩, h2⟩ := rowT_ok fr rds (addN met (fr &&& x))
    obtain ⟨u, hu⟩ := add_pre met (fr &&& x)
    refine ⟨⟨u ++ t, by show (rowT rds fr (addN met (fr &&& x))).2 = _; rw [ht, hu, List.append_assoc]⟩, fun k r hr => ?_⟩
    cases k with
    | zero =>
      obtain rfl : x = r := by simpa using hr
      refine ⟨met.idxOf (fr &&& x), rfl, ?_⟩
      show (rowT rds fr (addN met (fr &&& x))).2[_]? = _
      have h3 := idx_add met (fr &&& x)
      rw [ht, List.getElem?_append_left (List.getElem?_eq_some_iff.1 h3).1]
      exact h3
    | succ k => exact h2 k r (by simpa using hr)
structure WdC (fol rds : List Sp) (root : Pt) (q : Nat) (w : Wd) : Prop where
  e0 : w.ends[0]? = some root.n11
  r0 : ∃ row, w.next[0]? = some row ∧ RowOk rds root.f1 row w.met
  ln : w.next.length = q + 1
  le : w.ends.length = q + 1
  rs : ∀ (i : Nat) (s : Sp), i < q → w.met[i]? = some s → w.ends[i + 1]? = some (decide (s &&& root.l1 ≠ 0)) ∧ ∃ row, w.next[i + 1]? = some row ∧ RowOk rds (folTo fol s fol.length) row w.met
theorem WdC.init (fol rds : List Sp) (root : Pt) : WdC fol rds root 0 (wdInit rds root) := by
  obtain ⟨_, h2⟩ := rowT_ok root.f1 rds []
  exact ⟨rfl, ⟨_, rfl, h2⟩, rfl, rfl, fun i s h => by omega⟩
theorem WdC.step {fol rds : List Sp} {root : Pt} {q : Nat} {w : Wd} (h : WdC fol rds root q w) (hq : q < w.met.length) : WdC fol rds root (q + 1) (wdStep fol rds root.l1 q w) := by
  obtain ⟨s, hs⟩ : ∃ s, w.met[q]? = some s := ⟨_, List.getElem?_eq_getElem hq⟩
  have e : wdStep fol rds root.l1 q w = ⟨(rowT rds (folTo fol s fol.length) w.met).2, w.next ++ [(rowT rds (folTo fol s fol.length) w.met).1], w.ends ++ [decide (s &&& root.l1 ≠ 0)]⟩ := by
    simp only [wdStep, Wd.row, hs, Option.getD_some]
  obtain ⟨⟨t, ht⟩, h2⟩ := rowT_ok (folTo fol s fol.length) rds w.met
  rw [e]
  refine ⟨?_, ?_, by simp [h.ln], by simp [h.le], fun i s' hi hs' => ?_⟩
  · show (w.ends ++ _)[0]? = _
    rw [List.getElem?_append_left (by have := h.le; omega)]; exact h.e0
  · obtain ⟨row, h3, h4⟩ := h.r0
    refine ⟨row, ?_, ?_⟩
    · show (w.next ++ _)[0]? = _
      rw [List.getElem?_append_left (by have := h.ln; omega)]; exact h3
    · show RowOk _ _ _ (rowT rds (folTo fol s fol.length) w.met).2
      rw [ht]; exact h4.mono t
  · dsimp only at hs' ⊢
    rw [ht, List.getElem?_append_left (by omega)] at hs'
    rcases Nat.lt_or_ge i q with hiq | hiq
    · obtain ⟨h5, row, h6, h7⟩ := h.rs i s' hiq hs'
      refine ⟨by rw [List.getElem?_append_left (by have := h.le; omega)]; exact h5, row, by rw [List.getElem?_append_left (by have := h.ln; omega)]; exact h6, ?_⟩
      rw [ht]; exact h7.mono t
    · obtain rfl : i = q := by omega
      rw [hs] at hs'
      obtain rfl := Option.some.inj hs'
      refine ⟨by rw [List.getElem?_append_right (by rw [h.le]; omega), h.le]; simp, _, by rw [List.getElem?_append_right (by rw [h.ln]; omega), h.ln]; simp, h2⟩
theorem WdC.run {fol rds : List Sp} {root : Pt} : ∀ (f q : Nat) (w : Wd), q + f = full → w.met.Nodup → q ≤ w.met.length → WdC fol rds root q w → WdC fol rds root (wdRun fol rds root.l1 f q w).met.length (wdRun fol rds root.l1 f q w)
  | 0, q, w, hf, hn, hq, _ => by
    have := sets_len hn
    unfold full at hf
    omega
  | f + 1, q, w, hf, hn, hq, h => by
    unfold wdRun
    by_cases hl : q < w.met.length
    · rw [if_pos hl]
      have hm := rowT_mono (folTo fol (w.met[q]?.getD 0) fol.length) rds w.met
      exact WdC.run f (q + 1) _ (by omega) (rowT_nodup _ _ _ hn) (by show q + 1 ≤ (rowT rds _ w.met).2.length; omega) (h.step hl)
    · rw [if_neg hl]
      rwa [show w.met.length = q by omega]
theorem wideM_ok (x : Plc) (root : Pt) (atoms : List Kl.Cl) : WdC x.fol (rdsOf x.sets atoms) root (wideM x root atoms).met.length (wideM x root atoms) :=
  WdC.run _ _ _ (by omega) (rowT_nodup _ _ _ List.nodup_nil) (Nat.zero_le _) (WdC.init _ _ _)
end Go.HL.Sts
