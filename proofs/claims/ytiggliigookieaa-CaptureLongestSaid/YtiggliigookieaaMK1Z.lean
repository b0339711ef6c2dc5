/- Mathematics of captures: the questions, what is known. Conditions: none. -/
import Derived.Test.YtiggliigookieaaMT17Z
import Derived.Test.YtiggliigookieaaHlB
import Derived.Test.YtiggliigookieaaMT7Z
import Derived.Test.YtiggliigookieaaMT4Z
namespace Go.HL.Kl.Mc
open Go Go.HL Go.HL.Kl
theorem Part.uniqF {re : List Nd} : ∀ (f g : F) (i e : Nat), Part re f i e → Part re g i e → f = g
  | .nil, .nil, _, _, _, _ => rfl
  | .nil, .nd y js s, i, e, h, h' => by have h1 := h.len; have h2 := h'.len; simp only [F.size] at h1 h2; omega
  | .nd x ks r, .nil, i, e, h, h' => by have h1 := h.len; have h2 := h'.len; simp only [F.size] at h1 h2; omega
  | .nd x ks r, .nd y js s, i, e, h, h' => by
    have hk := h.uniq h'
    subst hk
    obtain ⟨h0, _, hr⟩ := h.head
    obtain ⟨h0', _, hr'⟩ := h'.head
    obtain rfl : x = y := by rw [h0] at h0'; exact Option.some.inj h0'
    rw [Part.uniqF r s _ _ hr hr']
theorem Part.uniq1 {re : List Nd} {x y : Nd} {ks js : F} {i e e' : Nat} (h : Part re (.nd x ks .nil) i e) (h' : Part re (.nd y js .nil) i e') : x = y ∧ ks = js ∧ e = e' := by
  have hk := h.uniq h'
  subst hk
  obtain ⟨h0, _, _⟩ := h.head
  obtain ⟨h0', _, _⟩ := h'.head
  have hl := h.len
  have hl' := h'.len
  exact ⟨by rw [h0] at h0'; exact Option.some.inj h0', rfl, by simp only [F.size] at hl hl'; omega⟩
/-- rounds, when there were r -/
def RR (x : Nd) (D : Nat → Nat → Prop) (r p q : Nat) : Prop := ∃ k : Nat, x.mn ≤ ((r + k : Nat) : Int) ∧ (x.mx = -1 ∨ ((r + k : Nat) : Int) ≤ x.mx) ∧ pow D k p q
/-- the end of the next round can be m -/
def RQ (x : Nd) (D : Nat → Nat → Prop) (r p q m : Nat) : Prop := (x.mx = -1 ∨ (r : Int) < x.mx) ∧ (m ≠ p ∨ (r : Int) < x.mn ∨ r = 0) ∧ D p m ∧ RR x D (r + 1) m q
theorem rounds_RR {x : Nd} {D : Nat → Nat → Prop} {p q : Nat} : rounds x D p q ↔ RR x D 0 p q := by simp [rounds, RR]
theorem RR_cap {x : Nd} {D : Nat → Nat → Prop} {r s p q : Nat} (h1 : x.mx = -1) (h2 : x.mn ≤ (r : Int)) (h3 : x.mn ≤ (s : Int)) : RR x D r p q ↔ RR x D s p q :=
  ⟨fun ⟨k, _, _, hk⟩ => ⟨k, by omega, .inl h1, hk⟩, fun ⟨k, _, _, hk⟩ => ⟨k, by omega, .inl h1, hk⟩⟩
theorem RR_step {x : Nd} {D : Nat → Nat → Prop} {r q : Nat} : ∀ {p : Nat}, RR x D r p q ↔ (p = q ∧ x.mn ≤ (r : Int) ∧ (x.mx = -1 ∨ (r : Int) ≤ x.mx)) ∨ ∃ m, RQ x D r p q m := by
  have hf : ∀ k p, x.mn ≤ ((r + k : Nat) : Int) → (x.mx = -1 ∨ ((r + k : Nat) : Int) ≤ x.mx) → pow D k p q → (p = q ∧ x.mn ≤ (r : Int) ∧ (x.mx = -1 ∨ (r : Int) ≤ x.mx)) ∨ ∃ m, RQ x D r p q m := by
    intro k
    induction k with
    | zero => intro p h1 h2 h; exact .inl ⟨h, by simpa using h1, by simpa using h2⟩
    | succ k ih =>
      intro p h1 h2 ⟨m, hm, hk⟩
      by_cases hc : m ≠ p ∨ (r : Int) < x.mn ∨ r = 0
      · exact .inr ⟨m, by omega, hc, hm, k, by rw [show r + 1 + k = r + (k + 1) by omega]; exact h1, by rw [show r + 1 + k = r + (k + 1) by omega]; exact h2, hk⟩
      · obtain ⟨rfl, h3⟩ : m = p ∧ ¬ (r : Int) < x.mn := by
          refine ⟨?_, fun h => hc (.inr (.inl h))⟩
          exact Classical.byContradiction fun h => hc (.inl h)
        exact ih m (by omega) (by omega) hk
  intro p
  constructor
  · rintro ⟨k, h1, h2, h⟩; exact hf k p h1 h2 h
  · rintro (⟨rfl, h1, h2⟩ | ⟨m, h1, h2, h3, k, h4, h5, h6⟩)
    · exact ⟨0, by simpa using h1, by simpa using h2, rfl⟩
    · exact ⟨k + 1, by rw [show r + (k + 1) = r + 1 + k by omega]; exact h4, by rw [show r + (k + 1) = r + 1 + k by omega]; exact h5, m, h3, h6⟩
/-- the questions that are answered yes -/
inductive Qry (w : List UInt8) (re : List Nd) : Ky → Prop
  | alt {x : Nd} {ks : F} {i i1 p q : Nat} (hp : Part re (.nd x ks .nil) i i1) (h5 : x.op = 5) (h : der w ks true p q) : Qry w re ⟨i, -1, p, q⟩
  | cat {x : Nd} {ks g : F} {i i1 m p q : Nat} (hp : Part re (.nd x ks .nil) i i1) (h4 : x.op = 4) (hg : Part re g m i1) (h : der w g false p q) : Qry w re ⟨i, m, p, q⟩
  | rep {x : Nd} {ks : F} {i i1 r p q : Nat} (hp : Part re (.nd x ks .nil) i i1) (h6 : x.op = 6) (h : RR x (der w ks false) r p q) : Qry w re ⟨i, r, p, q⟩
theorem Qry_alt {w : List UInt8} {re : List Nd} {x : Nd} {ks : F} {i i1 p q : Nat} (hp : Part re (.nd x ks .nil) i i1) (h5 : x.op = 5) : Qry w re ⟨i, -1, p, q⟩ ↔ der w ks true p q := by
  refine ⟨fun h => ?_, fun h => .alt hp h5 h⟩
  generalize hk : (⟨i, -1, p, q⟩ : Ky) = k at h
  cases h <;> simp only [Ky.mk.injEq] at hk
  case alt x' ks' i' i1' p' q' hp' h5' h' =>
    obtain ⟨h1, _, h2, h3⟩ := hk
    obtain rfl : i = i' := by omega
    obtain rfl : p = p' := by omega
    obtain rfl : q = q' := by omega
    obtain ⟨rfl, rfl, rfl⟩ := hp.uniq1 hp'
    exact h'
  all_goals omega
theorem Qry_cat {w : List UInt8} {re : List Nd} {x : Nd} {ks g : F} {i i1 m p q : Nat} (hp : Part re (.nd x ks .nil) i i1) (h4 : x.op = 4) (hg : Part re g m i1) : Qry w re ⟨i, m, p, q⟩ ↔ der w g false p q := by
  refine ⟨fun h => ?_, fun h => .cat hp h4 hg h⟩
  generalize hk : (⟨i, m, p, q⟩ : Ky) = k at h
  cases h <;> simp only [Ky.mk.injEq] at hk
  case cat x' ks' g' i' i1' m' p' q' hp' h4' hg' h' =>
    obtain ⟨h1, h0, h2, h3⟩ := hk
    obtain rfl : i = i' := by omega
    obtain rfl : p = p' := by omega
    obtain rfl : q = q' := by omega
    obtain rfl : m = m' := by omega
    obtain ⟨rfl, rfl, rfl⟩ := hp.uniq1 hp'
    rw [Part.uniqF g g' _ _ hg hg']; exact h'
  case alt => omega
  case rep x' ks' i' i1' r' p' q' hp' h6' h' =>
    obtain ⟨h1, h0, h2, h3⟩ := hk
    obtain rfl : i = i' := by omega
    obtain ⟨rfl, rfl, rfl⟩ := hp.uniq1 hp'
    omega
theorem Qry_rep {w : List UInt8} {re : List Nd} {x : Nd} {ks : F} {i i1 r p q : Nat} (hp : Part re (.nd x ks .nil) i i1) (h6 : x.op = 6) : Qry w re ⟨i, r, p, q⟩ ↔ RR x (der w ks false) r p q := by
  refine ⟨fun h => ?_, fun h => .rep hp h6 h⟩
  generalize hk : (⟨i, r, p, q⟩ : Ky) = k at h
  cases h <;> simp only [Ky.mk.injEq] at hk
  case rep x' ks' i' i1' r' p' q' hp' h6' h' =>
    obtain ⟨h1, h0, h2, h3⟩ := hk
    obtain rfl : i = i' := by omega
    obtain rfl : p = p' := by omega
    obtain rfl : q = q' := by omega
    obtain rfl : r = r' := by omega
    obtain ⟨rfl, rfl, rfl⟩ := hp.uniq1 hp'
    exact h'
  case alt => omega
  case cat x' ks' g' i' i1' m' p' q' hp' h4' hg' h' =>
    obtain ⟨h1, h0, h2, h3⟩ := hk
    obtain rfl : i = i' := by omega
    obtain ⟨rfl, rfl, rfl⟩ := hp.uniq1 hp'
    omega
/-- what is known is true -/
def MapOk (w : List UInt8) (re : List Nd) (es : List Me) : Prop := ∀ k, getK es k = 0 ∨ (getK es k = 1 ∧ Qry w re k) ∨ (getK es k = -1 ∧ ¬ Qry w re k)
theorem MapOk.nil {w : List UInt8} {re : List Nd} : MapOk w re [] := fun _ => .inl rfl
theorem MapOk.no {w : List UInt8} {re : List Nd} {es es' : List Me} {k : Ky} (h : MapOk w re es) (hk : ¬ Qry w re k) (hg : ∀ j, getK es' j = if j = k then -1 else getK es j) : MapOk w re es' := fun j => by
  rw [hg j]
  by_cases e : j = k
  · subst e; rw [if_pos rfl]; exact .inr (.inr ⟨rfl, hk⟩)
  · rw [if_neg e]; exact h j
theorem MapOk.yes {w : List UInt8} {re : List Nd} {es es' es2 : List Me} {k : Ky} (h : MapOk w re es) (hk : Qry w re k) (hg : ∀ j, getK es' j = if j = k then -1 else getK es j) (hg2 : ∀ j, getK es2 j = if j = k then 1 else getK es' j) : MapOk w re es2 := fun j => by
  rw [hg2 j]
  by_cases e : j = k
  · subst e; rw [if_pos rfl]; exact .inr (.inl ⟨rfl, hk⟩)
  · rw [if_neg e, hg j, if_neg e]; exact h j
open Classical in
noncomputable def dQ (Q : Prop) : Bool := decide Q
theorem dQ_t {Q : Prop} (h : Q) : dQ Q = true := by simp [dQ, h]
theorem dQ_f {Q : Prop} (h : ¬ Q) : dQ Q = false := by simp [dQ, h]
theorem dQ_iff {Q : Prop} : dQ Q = true ↔ Q := by simp [dQ]
theorem dQ_congr {Q R : Prop} (h : Q ↔ R) : dQ Q = dQ R := by simp [dQ, h]
theorem dQ_b {Q : Prop} {b : Bool} (h : b = true ↔ Q) : dQ Q = b := by
  cases b
  · exact dQ_f fun q => by have := h.2 q; cases this
  · exact dQ_t (h.1 rfl)
attribute [irreducible] dQ
/-- an asker and what it holds -/
structure AskE where
  (bRe bTx bA bS bE bM nF rF : Nat)
  (ra : Option Addr) (rc : Nat) (re : List Nd) (ta : Option Addr) (tc : Nat) (tx : List UInt8) (l : List Nat)
namespace AskE
abbrev vre (K : AskE) : Value := .slice K.ra K.re.length K.rc
abbrev vtx (K : AskE) : Value := .slice K.ta K.tx.length K.tc
abbrev ven (K : AskE) : Value := .slice (some ⟨K.bE, 0, none⟩) K.re.length K.re.length
abbrev pt (b : Nat) : Value := .pointer (some ⟨b, 0, none⟩)
abbrev cells (K : AskE) : List Value := [K.vre, K.ven, K.vtx, .map (some K.bM), .func (.func K.nF) [].toArray [pt K.bRe, pt K.bTx, pt K.bA].toArray, .func (.func K.rF) [].toArray [pt K.bA].toArray]
end AskE
open AskE
structure Env (w : World) (K : AskE) (M : List Nat) : Prop where
  p1 : RdP w K.bRe 0 [K.vre]
  p2 : RdP w K.bTx 0 [K.vtx]
  p3 : RdP w K.bA 0 [pt K.bS]
  p4 : RdP w K.bS 0 K.cells
  d1 : Rd En w K.vre K.re
  d2 : Rd Eb w K.vtx K.tx
  d3 : Rd Eix w K.ven K.l
  n1 : K.bRe ∉ M
  n2 : K.bTx ∉ M
  n3 : K.bA ∉ M
  n4 : K.bS ∉ M
  a1 : Apart M K.vre
  a2 : Apart M K.vtx
  a3 : Apart M K.ven
/-- what the asker holds is sound -/
structure AskE.ok (K : AskE) : Prop where
  rng : ∀ x ∈ K.re, -128 ≤ x.op ∧ x.op < 128
  no8 : ∀ x ∈ K.re, ¬ x.op = 8
  len : K.re.length ≤ 1000000
  tx : K.tx.length ≤ 1000000
  ends : EndsOk K.re 0 K.l
def AnsK (K : AskE) (Q : Prop) (v : Value) (S' : Hp) : Prop := ∃ es c, v = .bool (dQ Q) ∧ S' = [(K.bM, mpO es c)] ∧ MapOk K.tx K.re es
def NodeK (P : Program) (K : AskE) (x : Nd) (ks : F) : Prop := ∀ (i i1 p q : Nat) (es : List Me) (c : Nat), Part K.re (.nd x ks .nil) i i1 → p ≤ q → q ≤ K.tx.length → MapOk K.tx K.re es →
  Fn P K.nF [.int .i64 i, .int .i64 p, .int .i64 q, pt K.bRe, pt K.bTx, pt K.bA] (fun W => Env W K [K.bM]) [(K.bM, mpO es c)] (AnsK K (der1 K.tx x ks p q))
def RestK (P : Program) (K : AskE) (k : Ky) : Prop := ∀ (es : List Me) (c : Nat), MapOk K.tx K.re es →
  Fn P K.rF [.agg (Ek k).toArray, pt K.bA] (fun W => Env W K [K.bM]) [(K.bM, mpO es c)] (AnsK K (Qry K.tx K.re k))
def FindK (P : Program) (K : AskE) (fn : Nat) (k : Ky) : Prop := ∀ (es : List Me) (c : Nat), MapOk K.tx K.re es →
  Fn P fn [pt K.bS, .agg (Ek k).toArray] (fun W => Env W K [K.bM]) [(K.bM, mpO es c)] (AnsK K (Qry K.tx K.re k))
/-- the greatest -/
def Grt (Q : Nat → Prop) (p q m : Nat) : Prop := p ≤ m ∧ m ≤ q ∧ Q m ∧ ∀ n, m < n → n ≤ q → ¬ Q n
def KidP (K : AskE) (Q : Nat → Prop) (p q : Nat) (v : Value) (S' : Hp) : Prop := ∃ es c, S' = [(K.bM, mpO es c)] ∧ MapOk K.tx K.re es ∧
  ((∃ m, Grt Q p q m ∧ v = .tuple #[.int .i64 m, .bool true]) ∨ ((∀ m, p ≤ m → m ≤ q → ¬ Q m) ∧ v = .tuple #[.int .i64 0, .bool false]))
def KidK (P : Program) (K : AskE) (fn : Nat) (k : Ky) (Q : Nat → Prop) (p q : Nat) : Prop := ∀ (es : List Me) (c : Nat), MapOk K.tx K.re es →
  Fn P fn [pt K.bS, .agg (Ek k).toArray] (fun W => Env W K [K.bM]) [(K.bM, mpO es c)] (KidP K Q p q)
theorem Env.out {w0 w : World} {K : AskE} {M M' : List Nat} {H : Hp} (h : Env w0 K M) (st : St w0 w M H) (hs : ∀ b ∈ M', b ∈ M) : Env w K M' := by
  have am : ∀ {v : Value}, Apart M v → Apart M' v := fun ha a n c e hz hb => ha a n c e hz (hs _ hb)
  exact ⟨(RdPK.old (κ := ⟨0, [], w0, M⟩) (H := H) h.p1 h.n1).out w st, (RdPK.old (κ := ⟨0, [], w0, M⟩) (H := H) h.p2 h.n2).out w st, (RdPK.old (κ := ⟨0, [], w0, M⟩) (H := H) h.p3 h.n3).out w st, (RdPK.old (κ := ⟨0, [], w0, M⟩) (H := H) h.p4 h.n4).out w st,
    (RdK.old (κ := ⟨0, [], w0, M⟩) (H := H) h.d1 h.a1).out w st, (RdK.old (κ := ⟨0, [], w0, M⟩) (H := H) h.d2 h.a2).out w st, (RdK.old (κ := ⟨0, [], w0, M⟩) (H := H) h.d3 h.a3).out w st,
    fun hb => h.n1 (hs _ hb), fun hb => h.n2 (hs _ hb), fun hb => h.n3 (hs _ hb), fun hb => h.n4 (hs _ hb), am h.a1, am h.a2, am h.a3⟩
end Go.HL.Kl.Mc

/- Mathematics of captures: one tree's derivations by its kind. Conditions: none. -/
namespace Go.HL.Kl.Mc
open Go Go.HL Go.HL.Kl
theorem der1_1 {w : List UInt8} {x : Nd} {ks : F} {p q : Nat} (h : x.op = 1) : der1 w x ks p q ↔ q = p + 1 ∧ ∃ b, w[p]? = some b ∧ x.set.getLsbD b.toNat = true := by rw [der1_def, if_pos h]
theorem der1_2 {w : List UInt8} {x : Nd} {ks : F} {p q : Nat} (h : x.op = 2) : der1 w x ks p q ↔ p = 0 ∧ q = 0 := by rw [der1_def, if_neg (by omega), if_pos h]
theorem der1_3 {w : List UInt8} {x : Nd} {ks : F} {p q : Nat} (h : x.op = 3) : der1 w x ks p q ↔ p = w.length ∧ q = p := by rw [der1_def, if_neg (by omega), if_neg (by omega), if_pos h]
theorem der1_4 {w : List UInt8} {x : Nd} {ks : F} {p q : Nat} (h : x.op = 4 ∨ x.op = 7) : der1 w x ks p q ↔ der w ks false p q := by rw [der1_def, if_neg (by omega), if_neg (by omega), if_neg (by omega), if_neg (by omega), if_neg (by omega)]
theorem der1_5 {w : List UInt8} {x : Nd} {ks : F} {p q : Nat} (h : x.op = 5) : der1 w x ks p q ↔ der w ks true p q := by rw [der1_def, if_neg (by omega), if_neg (by omega), if_neg (by omega), if_pos h]
theorem der1_6 {w : List UInt8} {x : Nd} {ks : F} {p q : Nat} (h : x.op = 6) : der1 w x ks p q ↔ RR x (der w ks false) 0 p q := by rw [der1_def, if_neg (by omega), if_neg (by omega), if_neg (by omega), if_neg (by omega), if_pos h, rounds_RR]
theorem der_one {w : List UInt8} {y : Nd} {js : F} {p q : Nat} : der w (.nd y js .nil) false p q ↔ der1 w y js p q := by
  rw [der_cat]
  exact ⟨fun ⟨t, h1, h2⟩ => by rw [der_nil] at h2; exact h2 ▸ h1, fun h => ⟨q, h, der_nil.2 rfl⟩⟩
theorem RR_congr {x : Nd} {D E : Nat → Nat → Prop} (h : ∀ p q, D p q ↔ E p q) {r p q : Nat} : RR x D r p q ↔ RR x E r p q := by
  have e : D = E := by funext p q; exact propext (h p q)
  rw [e]
theorem der_fone {w : List UInt8} {y : Nd} {js : F} : der w (.nd y js .nil) false = der1 w y js := by funext p q; exact propext der_one
theorem MapOk.ans {w : List UInt8} {re : List Nd} {es : List Me} {k : Ky} (h : MapOk w re es) (h0 : getK es k ≠ 0) : decide (getK es k > 0) = dQ (Qry w re k) := by
  rcases h k with h | ⟨h, hq⟩ | ⟨h, hq⟩
  · exact absurd h h0
  · rw [dQ_t hq, h]; rfl
  · rw [dQ_f hq, h]; rfl
theorem one_kid {x : Nd} {ks : F} (hw : (F.nd x ks .nil).wf) (h : x.op = 6 ∨ x.op = 7) : ∃ y js, ks = .nd y js .nil := by
  have hok : ndOk x = true := hw.1
  have hk : (ks.num : Int) = x.kids := hw.2.1
  have h1 : x.kids = 1 := by
    simp only [ndOk, Bool.and_eq_true] at hok
    have := hok.2
    simp only [kidsOk] at this
    rcases h with h | h <;> simp [h] at this <;> omega
  cases ks with
  | nil => simp [F.num] at hk; omega
  | nd y js r =>
    cases r with
    | nil => exact ⟨y, js, rfl⟩
    | nd z a b => simp [F.num] at hk; omega
/-- derivations go on -/
def Up (D : Nat → Nat → Prop) : Prop := ∀ p q, D p q → p ≤ q
theorem pow_up {D : Nat → Nat → Prop} (h : Up D) : ∀ k, Up (pow D k)
  | 0, p, q, e => Nat.le_of_eq e
  | k + 1, p, q, ⟨t, h1, h2⟩ => Nat.le_trans (h p t h1) (pow_up h k t q h2)
theorem RR_up {x : Nd} {D : Nat → Nat → Prop} {r : Nat} (h : Up D) : Up (RR x D r) := fun p q ⟨k, _, _, hk⟩ => pow_up h k p q hk
theorem der_up {w : List UInt8} : ∀ (f : F) (md : Bool), Up (der w f md)
  | .nil, md, p, q, h => by
    obtain ⟨_, rfl⟩ : md = false ∧ p = q := by simpa [der] using h
    exact Nat.le_refl _
  | .nd x ks r, md, p, q, h => by
    have h1 : Up (der1 w x ks) := by
      intro p q h
      rw [der1_def] at h
      split at h
      · omega
      split at h
      · omega
      split at h
      · omega
      split at h
      · exact der_up ks true p q h
      split at h
      · rw [rounds_RR] at h; exact RR_up (der_up ks false) p q h
      · exact der_up ks false p q h
    cases md with
    | false =>
      obtain ⟨t, h2, h3⟩ := der_cat.1 h
      exact Nat.le_trans (h1 p t h2) (der_up r false t q h3)
    | true =>
      rcases der_alt.1 h with h2 | h2
      · exact h1 p q h2
      · exact der_up r true p q h2
theorem der1_up {w : List UInt8} {x : Nd} {ks : F} : Up (der1 w x ks) := der_up _ _
/-- how many rounds count -/
def nxtR (x : Nd) (r : Nat) : Nat := if x.mx < 0 then min (r + 1) (max x.mn.toNat 1) else r + 1
theorem RR_nxt {x : Nd} {D : Nat → Nat → Prop} {r p q : Nat} (h : x.mx = -1 ∨ 0 ≤ x.mx) : RR x D (nxtR x r) p q ↔ RR x D (r + 1) p q := by
  unfold nxtR
  split
  · rcases Nat.le_total (r + 1) (max x.mn.toNat 1) with h1 | h1
    · rw [Nat.min_eq_left h1]
    · rw [Nat.min_eq_right h1]
      exact RR_cap (by omega) (by omega) (by omega)
  · exact Iff.rfl
theorem rep_rng {x : Nd} (hok : ndOk x = true) (h6 : x.op = 6) : 0 ≤ x.mn ∧ x.mn ≤ 255 ∧ (x.mx = -1 ∨ x.mn ≤ x.mx ∧ x.mx ≤ 255) := by
  simp only [ndOk, flds, Bool.and_eq_true] at hok
  have h := hok.1.2
  rw [if_pos h6] at h
  simpa using h
theorem kid_cat {w : List UInt8} {y : Nd} {js r : F} {p q : Nat} (h : ∀ m, p ≤ m → m ≤ q → ¬ (der1 w y js p m ∧ der w r false m q)) : ¬ der w (.nd y js r) false p q := fun hd => by
  obtain ⟨t, h1, h2⟩ := der_cat.1 hd
  exact h t (der1_up _ _ h1) (der_up _ _ _ _ h2) ⟨h1, h2⟩
theorem kid_rep {x : Nd} {D : Nat → Nat → Prop} {r p q : Nat} (hu : Up D) (hn : ¬ (p = q ∧ x.mn ≤ (r : Int))) (h : ∀ m, p ≤ m → m ≤ q → ¬ RQ x D r p q m) : ¬ RR x D r p q := fun hd => by
  rcases RR_step.1 hd with ⟨h1, h2, _⟩ | ⟨m, hm⟩
  · exact hn ⟨h1, h2⟩
  · exact h m (hu _ _ hm.2.2.1) (RR_up hu _ _ hm.2.2.2) hm
end Go.HL.Kl.Mc

/- Part of the proofs over this seat: see the text that holds the theorem. Conditions: each theorem bears its own. -/
namespace Go.Proofs.Ytiggliigookieaa
open Go Go.HL Go.Proofs Go.HL.Kl Go.HL.Kl.Mc Go.HL.Kl.Mc.AskE
set_option maxHeartbeats 1000000 in
theorem node_clo (K : AskE) (hK : K.ok) (x : Nd) (ks : F) (i i1 p q : Nat) (es : List Me) (c : Nat) (hp : Part K.re (.nd x ks .nil) i i1) (hpq : p ≤ q) (hq : q ≤ K.tx.length) (hes : MapOk K.tx K.re es) (ihN : x.op = 7 → ∀ y js, ks = .nd y js .nil → NodeK Try.prog K y js) (h4 : x.op = 4 → RestK Try.prog K ⟨i, (i + 1 : Nat), p, q⟩) (h5 : x.op = 5 → RestK Try.prog K ⟨i, -1, p, q⟩) (h6 : x.op = 6 → RestK Try.prog K ⟨i, (0 : Nat), p, q⟩) : HL.Fn Try.prog 39 [.int .i64 i, .int .i64 p, .int .i64 q, pt K.bRe, pt K.bTx, pt K.bA] (fun W => Env W K [K.bM]) [(K.bM, mpO es c)] (AnsK K (der1 K.tx x ks p q)) := by
  refine fn_of Try.func39 rfl rfl rfl fun w0 hw => ?_
  have hsl := hw.d1.sl
  have hst := hw.d2.sl
  have hse := hw.d3.sl
  have htl := hK.tx
  have hrl := hK.len
  obtain rfl : i1 = i + 1 + ks.size := by have := hp.len; simp only [F.size] at this; omega
  obtain ⟨hx, hpk, _⟩ := hp.head
  have hilt := (List.getElem?_eq_some_iff.1 hx).1
  have hxm := List.mem_of_getElem? hx
  have hox := hK.rng x hxm
  have hx8 := hK.no8 x hxm
  have hok : ndOk x = true := hp.wf.1
  have hop : 1 ≤ x.op ∧ x.op ≤ 8 := (flds_iff.1 (by simp only [ndOk, Bool.and_eq_true] at hok; exact hok.1)).1
  have hpkl := hpk.le
  have hei := hK.ends.2 i x ks .nil _ (Nat.zero_le _) hp
  have hell := hK.ends.1
  rw [hell] at hse
  refine c_seq fun _ hK1 => ?_
  refine c_region ?_
  refine o_step rfl (s_assign rfl) ?_
  refine o_nil ?_
  refine x_then (hK1 _ _ ?_)
  refine c_seq fun _ hK2 => ?_
  refine c_seq fun _ hK3 => ?_
  refine c_region ?_
  refine o_step rfl (s_ld rfl ((RdPK.old hw.p1 hw.n1).cel (j := 0) rfl rfl)) ?_
  refine o_step rfl (s_move rfl) ?_
  refine o_step rfl (s_idx rfl rfl hsl (by omega)) ?_
  refine o_step rfl (s_ldB rfl ((RdK.old hw.d1 hw.a1).lds i hx rfl) (by rfl)) ?_
  refine o_alloc (l := En zN) (by rw [En_zero]; rfl) rfl fun b10 => ?_
  refine o_stW rfl rfl upA lnA lnA onA ?_
  refine o_nil ?_
  refine x_then (hK3 _ _ ?_)
  refine c_seq fun _ hK4 => ?_
  refine c_region ?_
  refine o_step rfl (s_field rfl rfl (by decide)) ?_
  refine o_step rfl (s_ld rfl (.own meA rfl)) ?_
  refine o_nil ?_
  refine x_then (hK4 _ _ ?_)
  refine c_block ?_
  refine c_seq fun _ hK5 => ?_
  refine c_region ?_
  by_cases o1 : x.op = 1
  ·
   refine o_step rfl (step_cast (v' := .bool true) (s_eql rfl rfl) (by rw [decide_eq_true o1])) ?_
   refine o_step rfl (s_assign rfl) ?_
   refine o_nil ?_
   refine x_then (hK5 _ _ ?_)
   refine c_true rfl ?_
   refine c_seq fun _ hK6 => ?_
   refine c_drawE ([(b10, .cells (En x).toArray 51 (0, 0))]) (fun i => false) ?_
   refine e_take 0 rfl (by kernel_rfl) (by kernel_rfl) (by kernel_rfl) (by kernel_rfl) (fun _ _ => rfl) rfl hzB (s_move rfl) ?_
   refine e_take 1 rfl (by kernel_rfl) (by kernel_rfl) (by kernel_rfl) (by kernel_rfl) (fun _ _ => rfl) rfl hzB (s_move rfl) ?_
   refine e_take 2 rfl (by kernel_rfl) (by kernel_rfl) (by kernel_rfl) (by kernel_rfl) (fun _ _ => rfl) rfl hzB (s_add rfl rfl (by omega)) ?_
   by_cases hqp : (q : Int) = (p : Int) + 1
   ·
    obtain ⟨b, hb⟩ : ∃ b, K.tx[p]? = some b := ⟨_, List.getElem?_eq_getElem (by omega)⟩
    refine e_take 3 rfl (by kernel_rfl) (by kernel_rfl) (by kernel_rfl) (by kernel_rfl) (fun _ _ => rfl) rfl hzB (step_cast (v' := .bool true) (s_eql rfl rfl) (by rw [decide_eq_true (by omega)])) ?_
    refine e_take 4 rfl (by kernel_rfl) (by kernel_rfl) (by kernel_rfl) (by kernel_rfl) (fun _ _ => rfl) rfl hzB (s_move rfl) ?_
    refine e_take 5 rfl (by kernel_rfl) (by kernel_rfl) (by kernel_rfl) (by kernel_rfl) (fun _ fr => by rw [wanted_of fr rfl rfl rfl]; rfl) rfl hzB (s_field rfl rfl (by decide)) ?_
    refine e_take 6 rfl (by kernel_rfl) (by kernel_rfl) (by kernel_rfl) (by kernel_rfl) (fun _ fr => by rw [wanted_of fr rfl rfl rfl]; rfl) rfl hzB (s_ldB rfl (RdPK.cels (RdPK.own' (cs := Ec x.set) meA nd_set)) (Ec_lenM _)) ?_
    refine e_take 7 rfl (by kernel_rfl) (by kernel_rfl) (by kernel_rfl) (by kernel_rfl) (fun _ fr => by rw [wanted_of fr rfl rfl rfl]; rfl) rfl hzB (s_ld rfl ((RdPK.old hw.p2 hw.n2).cel (j := 0) rfl rfl)) ?_
    refine e_take 8 rfl (by kernel_rfl) (by kernel_rfl) (by kernel_rfl) (by kernel_rfl) (fun _ fr => by rw [wanted_of fr rfl rfl rfl]; rfl) rfl hzB (s_move rfl) ?_
    refine e_take 9 rfl (by kernel_rfl) (by kernel_rfl) (by kernel_rfl) (by kernel_rfl) (fun _ fr => by rw [wanted_of fr rfl rfl rfl]; rfl) rfl hzB (s_idx rfl rfl hst (by omega)) ?_
    refine e_take 10 rfl (by kernel_rfl) (by kernel_rfl) (by kernel_rfl) (by kernel_rfl) (fun _ fr => by rw [wanted_of fr rfl rfl rfl]; rfl) rfl hzB (s_ld rfl ((RdK.old hw.d2 hw.a2).ld p 0 hb rfl (by decide) (by omega))) ?_
    refine e_one 11 rfl (by kernel_rfl) ?_
    refine o_yes rfl rfl ?_
    refine o_callP (has_fn x.set b.toNat b.toNat_lt) rfl rfl rfl (fun _ _ => trivial) (fun v30 hv30 => ?_)
    subst hv30
    refine o_nil ?_
    refine x_oneS hzB ?_
    refine e_take 12 rfl (by kernel_rfl) (by kernel_rfl) (by kernel_rfl) (by kernel_rfl) (fun _ _ => rfl) rfl hzB (s_pick_t rfl rfl) ?_
    refine e_take 13 rfl (by kernel_rfl) (by kernel_rfl) (by kernel_rfl) (by kernel_rfl) (fun _ _ => rfl) rfl hzB (s_assign rfl) ?_
    refine e_done (by kernel_rfl) ?_
    refine x_then (hK6 _ _ ?_)
    refine c_ret ?_
    refine x_block_ret (x_then_ret (?_))
    refine x_sub (Sub.refl _) (H' := [(K.bM, mpO es c)]) hzB ?_
    exact x_ret rfl (.tmp rfl (.nil)) (⟨es, c, congrArg Value.bool (dQ_b (by rw [der1_1 o1]; exact ⟨fun h => ⟨by omega, b, hb, h⟩, fun ⟨_, b2, hb2, h⟩ => by rw [hb] at hb2; cases hb2; exact h⟩)).symm, rfl, hes⟩)
   ·
    refine e_take 3 rfl (by kernel_rfl) (by kernel_rfl) (by kernel_rfl) (by kernel_rfl) (fun _ _ => rfl) rfl hzB (step_cast (v' := .bool false) (s_eql rfl rfl) (by rw [decide_eq_false (by omega)])) ?_
    refine e_take 4 rfl (by kernel_rfl) (by kernel_rfl) (by kernel_rfl) (by kernel_rfl) (fun _ _ => rfl) rfl hzB (s_move rfl) ?_
    refine e_skip 5 rfl (by kernel_rfl) (by kernel_rfl) (by kernel_rfl) rfl rfl rfl rfl ?_
    refine e_skip 6 rfl (by kernel_rfl) (by kernel_rfl) (by kernel_rfl) rfl rfl rfl rfl ?_
    refine e_skip 7 rfl (by kernel_rfl) (by kernel_rfl) (by kernel_rfl) rfl rfl rfl rfl ?_
    refine e_skip 8 rfl (by kernel_rfl) (by kernel_rfl) (by kernel_rfl) rfl rfl rfl rfl ?_
    refine e_skip 9 rfl (by kernel_rfl) (by kernel_rfl) (by kernel_rfl) rfl rfl rfl rfl ?_
    refine e_skip 10 rfl (by kernel_rfl) (by kernel_rfl) (by kernel_rfl) rfl rfl rfl rfl ?_
    refine e_one 11 rfl (by kernel_rfl) ?_
    refine o_no rfl rfl rfl rfl ?_
    refine o_nil ?_
    refine x_oneS hzB ?_
    refine e_take 12 rfl (by kernel_rfl) (by kernel_rfl) (by kernel_rfl) (by kernel_rfl) (fun _ _ => rfl) rfl hzB (s_pick_f rfl rfl) ?_
    refine e_take 13 rfl (by kernel_rfl) (by kernel_rfl) (by kernel_rfl) (by kernel_rfl) (fun _ _ => rfl) rfl hzB (s_assign rfl) ?_
    refine e_done (by kernel_rfl) ?_
    refine x_then (hK6 _ _ ?_)
    refine c_ret ?_
    refine x_block_ret (x_then_ret (?_))
    refine x_sub (Sub.refl _) (H' := [(K.bM, mpO es c)]) hzB ?_
    exact x_ret rfl (.tmp rfl (.nil)) (⟨es, c, congrArg Value.bool (dQ_b (by rw [der1_1 o1]; exact ⟨fun h => (by cases h), fun h => absurd h.1 (by omega)⟩)).symm, rfl, hes⟩)
  ·
   refine o_step rfl (step_cast (v' := .bool false) (s_eql rfl rfl) (by rw [decide_eq_false o1])) ?_
   refine o_step rfl (s_assign rfl) ?_
   refine o_nil ?_
   refine x_then (hK5 _ _ ?_)
   refine c_false rfl ?_
   refine c_seq fun _ hK7 => ?_
   refine c_region ?_
   by_cases o2 : x.op = 2
   ·
    refine o_step rfl (step_cast (v' := .bool true) (s_eql rfl rfl) (by rw [decide_eq_true o2])) ?_
    refine o_step rfl (s_assign rfl) ?_
    refine o_nil ?_
    refine x_then (hK7 _ _ ?_)
    refine c_true rfl ?_
    refine c_seq fun _ hK8 => ?_
    refine c_region ?_
    refine o_step rfl (s_move rfl) ?_
    by_cases hp0 : (p : Int) = 0
    ·
     refine o_step rfl (step_cast (v' := .bool true) (s_eql rfl rfl) (by rw [decide_eq_true (by omega)])) ?_
     refine o_step rfl (s_move rfl) ?_
     refine o_yes rfl rfl ?_
     refine o_step rfl (s_move rfl) ?_
     refine o_yes rfl rfl ?_
     by_cases hq0 : (q : Int) = 0
     ·
      refine o_step rfl (step_cast (v' := .bool true) (s_eql rfl rfl) (by rw [decide_eq_true (by omega)])) ?_
      refine o_step rfl (s_pick_t rfl rfl) ?_
      refine o_step rfl (s_assign rfl) ?_
      refine o_nil ?_
      refine x_then (hK8 _ _ ?_)
      refine c_ret ?_
      refine x_block_ret (x_then_ret (?_))
      refine x_sub (Sub.refl _) (H' := [(K.bM, mpO es c)]) hzB ?_
      exact x_ret rfl (.tmp rfl (.nil)) (⟨es, c, congrArg Value.bool (dQ_b (by rw [der1_2 o2]; exact ⟨fun _ => by omega, fun _ => rfl⟩)).symm, rfl, hes⟩)
     ·
      refine o_step rfl (step_cast (v' := .bool false) (s_eql rfl rfl) (by rw [decide_eq_false (by omega)])) ?_
      refine o_step rfl (s_pick_t rfl rfl) ?_
      refine o_step rfl (s_assign rfl) ?_
      refine o_nil ?_
      refine x_then (hK8 _ _ ?_)
      refine c_ret ?_
      refine x_block_ret (x_then_ret (?_))
      refine x_sub (Sub.refl _) (H' := [(K.bM, mpO es c)]) hzB ?_
      exact x_ret rfl (.tmp rfl (.nil)) (⟨es, c, congrArg Value.bool (dQ_b (by rw [der1_2 o2]; exact ⟨fun h => (by cases h), fun h => absurd h (by omega)⟩)).symm, rfl, hes⟩)
    ·
     refine o_step rfl (step_cast (v' := .bool false) (s_eql rfl rfl) (by rw [decide_eq_false (by omega)])) ?_
     refine o_step rfl (s_move rfl) ?_
     refine o_no rfl rfl rfl rfl ?_
     refine o_no rfl rfl rfl rfl ?_
     refine o_step rfl (s_pick_f rfl rfl) ?_
     refine o_step rfl (s_assign rfl) ?_
     refine o_nil ?_
     refine x_then (hK8 _ _ ?_)
     refine c_ret ?_
     refine x_block_ret (x_then_ret (?_))
     refine x_sub (Sub.refl _) (H' := [(K.bM, mpO es c)]) hzB ?_
     exact x_ret rfl (.tmp rfl (.nil)) (⟨es, c, congrArg Value.bool (dQ_b (by rw [der1_2 o2]; exact ⟨fun h => (by cases h), fun h => absurd h (by omega)⟩)).symm, rfl, hes⟩)
   ·
    refine o_step rfl (step_cast (v' := .bool false) (s_eql rfl rfl) (by rw [decide_eq_false o2])) ?_
    refine o_step rfl (s_assign rfl) ?_
    refine o_nil ?_
    refine x_then (hK7 _ _ ?_)
    refine c_false rfl ?_
    refine c_seq fun _ hK9 => ?_
    refine c_region ?_
    by_cases o3 : x.op = 3
    ·
     refine o_step rfl (step_cast (v' := .bool true) (s_eql rfl rfl) (by rw [decide_eq_true o3])) ?_
     refine o_step rfl (s_assign rfl) ?_
     refine o_nil ?_
     refine x_then (hK9 _ _ ?_)
     refine c_true rfl ?_
     refine c_seq fun _ hK10 => ?_
     refine c_region ?_
     refine o_step rfl (s_move rfl) ?_
     refine o_step rfl (s_ld rfl ((RdPK.old hw.p2 hw.n2).cel (j := 0) rfl rfl)) ?_
     refine o_step rfl (s_len rfl) ?_
     by_cases hpl : (p : Int) = K.tx.length
     ·
      refine o_step rfl (step_cast (v' := .bool true) (s_eql rfl rfl) (by rw [decide_eq_true (by omega)])) ?_
      refine o_step rfl (s_move rfl) ?_
      refine o_yes rfl rfl ?_
      refine o_step rfl (s_move rfl) ?_
      refine o_yes rfl rfl ?_
      refine o_step rfl (s_move rfl) ?_
      refine o_yes rfl rfl ?_
      by_cases hqp : (q : Int) = p
      ·
       refine o_step rfl (step_cast (v' := .bool true) (s_eql rfl rfl) (by rw [decide_eq_true (by omega)])) ?_
       refine o_step rfl (s_pick_t rfl rfl) ?_
       refine o_step rfl (s_assign rfl) ?_
       refine o_nil ?_
       refine x_then (hK10 _ _ ?_)
       refine c_ret ?_
       refine x_block_ret (x_then_ret (?_))
       refine x_sub (Sub.refl _) (H' := [(K.bM, mpO es c)]) hzB ?_
       exact x_ret rfl (.tmp rfl (.nil)) (⟨es, c, congrArg Value.bool (dQ_b (by rw [der1_3 o3]; exact ⟨fun _ => by omega, fun _ => rfl⟩)).symm, rfl, hes⟩)
      ·
       refine o_step rfl (step_cast (v' := .bool false) (s_eql rfl rfl) (by rw [decide_eq_false (by omega)])) ?_
       refine o_step rfl (s_pick_t rfl rfl) ?_
       refine o_step rfl (s_assign rfl) ?_
       refine o_nil ?_
       refine x_then (hK10 _ _ ?_)
       refine c_ret ?_
       refine x_block_ret (x_then_ret (?_))
       refine x_sub (Sub.refl _) (H' := [(K.bM, mpO es c)]) hzB ?_
       exact x_ret rfl (.tmp rfl (.nil)) (⟨es, c, congrArg Value.bool (dQ_b (by rw [der1_3 o3]; exact ⟨fun h => (by cases h), fun h => absurd h (by omega)⟩)).symm, rfl, hes⟩)
     ·
      refine o_step rfl (step_cast (v' := .bool false) (s_eql rfl rfl) (by rw [decide_eq_false (by omega)])) ?_
      refine o_step rfl (s_move rfl) ?_
      refine o_no rfl rfl rfl rfl ?_
      refine o_no rfl rfl rfl rfl ?_
      refine o_no rfl rfl rfl rfl ?_
      refine o_step rfl (s_pick_f rfl rfl) ?_
      refine o_step rfl (s_assign rfl) ?_
      refine o_nil ?_
      refine x_then (hK10 _ _ ?_)
      refine c_ret ?_
      refine x_block_ret (x_then_ret (?_))
      refine x_sub (Sub.refl _) (H' := [(K.bM, mpO es c)]) hzB ?_
      exact x_ret rfl (.tmp rfl (.nil)) (⟨es, c, congrArg Value.bool (dQ_b (by rw [der1_3 o3]; exact ⟨fun h => (by cases h), fun h => absurd h (by omega)⟩)).symm, rfl, hes⟩)
    ·
     refine o_step rfl (step_cast (v' := .bool false) (s_eql rfl rfl) (by rw [decide_eq_false o3])) ?_
     refine o_step rfl (s_assign rfl) ?_
     refine o_nil ?_
     refine x_then (hK9 _ _ ?_)
     refine c_false rfl ?_
     refine c_seq fun _ hK11 => ?_
     refine c_region ?_
     by_cases o7 : x.op = 7
     ·
      refine o_step rfl (step_cast (v' := .bool true) (s_eql rfl rfl) (by rw [decide_eq_true o7])) ?_
      refine o_step rfl (s_assign rfl) ?_
      refine o_nil ?_
      refine x_then (hK11 _ _ ?_)
      refine c_true rfl ?_
      refine c_seq fun _ hK12 => ?_
      refine c_region ?_
      refine o_step rfl (s_ld rfl ((RdPK.old hw.p3 hw.n3).cel (j := 0) rfl rfl)) ?_
      refine o_step rfl (s_nil rfl) ?_
      refine o_step rfl (s_field rfl rfl (by decide)) ?_
      refine o_step rfl (s_ld rfl ((RdPK.old hw.p4 hw.n4).cel (j := 4) rfl rfl)) ?_
      refine o_step rfl (s_move rfl) ?_
      refine o_step rfl (s_add rfl rfl (by omega)) ?_
      refine o_step rfl (s_move rfl) ?_
      refine o_step rfl (s_move rfl) ?_
      obtain ⟨y, js, rfl⟩ := one_kid hp.wf (.inr o7)
      refine o_callC (us := []) (vs := [_, _, _]) (cs := [pt K.bRe, pt K.bTx, pt K.bA]) (ihN o7 y js rfl (i + 1) _ p q es c hpk hpq hq hes) rfl rfl rfl pkA (fun w st => hw.out st (fun _ h => h)) (fun v61 S61 ⟨es61, c61, hv61, hS61, hm61⟩ => ?_)
      subst hv61
      subst hS61
      refine o_step rfl (s_assign rfl) ?_
      refine o_nil ?_
      refine x_then (hK12 _ _ ?_)
      refine c_ret ?_
      refine x_block_ret (x_then_ret (?_))
      refine x_sub (Sub.refl _) (H' := [(K.bM, mpO es61 c61)]) hzB ?_
      exact x_ret rfl (.tmp rfl (.nil)) (⟨es61, c61, congrArg Value.bool (dQ_congr (der_one.symm.trans (der1_4 (.inr o7)).symm)), rfl, hm61⟩)
     ·
      refine o_step rfl (step_cast (v' := .bool false) (s_eql rfl rfl) (by rw [decide_eq_false o7])) ?_
      refine o_step rfl (s_assign rfl) ?_
      refine o_nil ?_
      refine x_then (hK11 _ _ ?_)
      refine c_false rfl ?_
      refine c_seq fun _ hK13 => ?_
      refine c_region ?_
      by_cases o4 : x.op = 4
      ·
       refine o_step rfl (step_cast (v' := .bool true) (s_eql rfl rfl) (by rw [decide_eq_true o4])) ?_
       refine o_step rfl (s_assign rfl) ?_
       refine o_nil ?_
       refine x_then (hK13 _ _ ?_)
       refine c_true rfl ?_
       refine c_seq fun _ hK14 => ?_
       refine c_region ?_
       refine o_step rfl (s_ld rfl ((RdPK.old hw.p3 hw.n3).cel (j := 0) rfl rfl)) ?_
       refine o_step rfl (s_nil rfl) ?_
       refine o_step rfl (s_field rfl rfl (by decide)) ?_
       refine o_step rfl (s_ld rfl ((RdPK.old hw.p4 hw.n4).cel (j := 5) rfl rfl)) ?_
       refine o_step rfl (s_move rfl) ?_
       refine o_step rfl (s_move rfl) ?_
       refine o_step rfl (s_add rfl rfl (by omega)) ?_
       refine o_step rfl (s_move rfl) ?_
       refine o_step rfl (s_move rfl) ?_
       refine o_step rfl (s_build (cs := [_, _, _, _]) (vs := [_, _, _, _]) rfl rfl (.cons rfl rfl rfl rfl rfl (.cons rfl rfl rfl rfl rfl (.cons rfl rfl rfl rfl rfl (.cons rfl rfl rfl rfl rfl (.nil)))))) ?_
       refine o_callC (us := []) (vs := [_]) (cs := [pt K.bA]) (h4 o4 es c hes) rfl rfl rfl pkA (fun w st => hw.out st (fun _ h => h)) (fun v74 S74 ⟨es74, c74, hv74, hS74, hm74⟩ => ?_)
       subst hv74
       subst hS74
       refine o_step rfl (s_assign rfl) ?_
       refine o_nil ?_
       refine x_then (hK14 _ _ ?_)
       refine c_ret ?_
       refine x_block_ret (x_then_ret (?_))
       refine x_sub (Sub.refl _) (H' := [(K.bM, mpO es74 c74)]) hzB ?_
       exact x_ret rfl (.tmp rfl (.nil)) (⟨es74, c74, congrArg Value.bool (dQ_congr ((Qry_cat hp o4 hpk).trans (der1_4 (.inl o4)).symm)), rfl, hm74⟩)
      ·
       refine o_step rfl (step_cast (v' := .bool false) (s_eql rfl rfl) (by rw [decide_eq_false o4])) ?_
       refine o_step rfl (s_assign rfl) ?_
       refine o_nil ?_
       refine x_then (hK13 _ _ ?_)
       refine c_false rfl ?_
       refine c_seq fun _ hK15 => ?_
       refine c_region ?_
       by_cases o5 : x.op = 5
       ·
        refine o_step rfl (step_cast (v' := .bool true) (s_eql rfl rfl) (by rw [decide_eq_true o5])) ?_
        refine o_step rfl (s_assign rfl) ?_
        refine o_nil ?_
        refine x_then (hK15 _ _ ?_)
        refine c_true rfl ?_
        refine c_seq fun _ hK16 => ?_
        refine c_region ?_
        refine o_step rfl (s_ld rfl ((RdPK.old hw.p3 hw.n3).cel (j := 0) rfl rfl)) ?_
        refine o_step rfl (s_nil rfl) ?_
        refine o_step rfl (s_field rfl rfl (by decide)) ?_
        refine o_step rfl (s_ld rfl ((RdPK.old hw.p4 hw.n4).cel (j := 5) rfl rfl)) ?_
        refine o_step rfl (s_move rfl) ?_
        refine o_step rfl (s_move rfl) ?_
        refine o_step rfl (s_move rfl) ?_
        refine o_step rfl (s_build (cs := [_, _, _, _]) (vs := [_, _, _, _]) rfl rfl (.cons rfl rfl rfl rfl rfl (.cons rfl rfl rfl rfl rfl (.cons rfl rfl rfl rfl rfl (.cons rfl rfl rfl rfl rfl (.nil)))))) ?_
        refine o_callC (us := []) (vs := [_]) (cs := [pt K.bA]) (h5 o5 es c hes) rfl rfl rfl pkA (fun w st => hw.out st (fun _ h => h)) (fun v85 S85 ⟨es85, c85, hv85, hS85, hm85⟩ => ?_)
        subst hv85
        subst hS85
        refine o_step rfl (s_assign rfl) ?_
        refine o_nil ?_
        refine x_then (hK16 _ _ ?_)
        refine c_ret ?_
        refine x_block_ret (x_then_ret (?_))
        refine x_sub (Sub.refl _) (H' := [(K.bM, mpO es85 c85)]) hzB ?_
        exact x_ret rfl (.tmp rfl (.nil)) (⟨es85, c85, congrArg Value.bool (dQ_congr ((Qry_alt hp o5).trans (der1_5 o5).symm)), rfl, hm85⟩)
       ·
        refine o_step rfl (step_cast (v' := .bool false) (s_eql rfl rfl) (by rw [decide_eq_false o5])) ?_
        refine o_step rfl (s_assign rfl) ?_
        refine o_nil ?_
        refine x_then (hK15 _ _ ?_)
        refine c_false rfl ?_
        refine c_skip ?_
        refine x_block ?_
        refine x_then (hK2 _ _ ?_)
        refine c_seq fun _ hK17 => ?_
        refine c_region ?_
        refine o_step rfl (s_ld rfl ((RdPK.old hw.p3 hw.n3).cel (j := 0) rfl rfl)) ?_
        refine o_step rfl (s_nil rfl) ?_
        refine o_step rfl (s_field rfl rfl (by decide)) ?_
        refine o_step rfl (s_ld rfl ((RdPK.old hw.p4 hw.n4).cel (j := 5) rfl rfl)) ?_
        refine o_step rfl (s_move rfl) ?_
        refine o_step rfl (s_move rfl) ?_
        refine o_step rfl (s_move rfl) ?_
        refine o_step rfl (s_build (cs := [_, _, _, _]) (vs := [_, _, _, _]) rfl rfl (.cons rfl rfl rfl rfl rfl (.cons rfl rfl rfl rfl rfl (.cons rfl rfl rfl rfl rfl (.cons rfl rfl rfl rfl rfl (.nil)))))) ?_
        have o6 : x.op = 6 := by omega
        refine o_callC (us := []) (vs := [_]) (cs := [pt K.bA]) (h6 o6 es c hes) rfl rfl rfl pkA (fun w st => hw.out st (fun _ h => h)) (fun v94 S94 ⟨es94, c94, hv94, hS94, hm94⟩ => ?_)
        subst hv94
        subst hS94
        refine o_step rfl (s_assign rfl) ?_
        refine o_nil ?_
        refine x_then (hK17 _ _ ?_)
        refine c_ret ?_
        refine ?_
        refine x_sub (Sub.refl _) (H' := [(K.bM, mpO es94 c94)]) hzB ?_
        exact x_ret rfl (.tmp rfl (.nil)) (⟨es94, c94, congrArg Value.bool (dQ_congr ((Qry_rep hp o6).trans (der1_6 o6).symm)), rfl, hm94⟩)
end Go.Proofs.Ytiggliigookieaa
