/- Mathematics of captures: the questions, what is known. Conditions: none. -/
import Derived.Test.YtopmnmigpbdddaaDoorMT9Z
import Derived.Test.YtopmnmigpbdddaaDoorHlB
import Derived.Test.YtopmnmigpbdddaaDoorHRZ
import Derived.Test.YtopmnmigpbdddaaDoorM1Z
import Derived.Scope
namespace Go.HL.Kl.Mc
open Go Go.HL Go.HL.Kl
theorem Part.uniqF {re : List Nd} : ∀ (f g : F) (i e : Nat), Part re f i e → Part re g i e → f = g
  | .nil, .nil, _, _, _, _ => rfl
  | .nil, .nd y js s, i, e, h, h' => by have h1 := h.len; have h2 := h'.len; simp only [F.size] at h1 h2; omega
  | .nd x ks r, .nil, i, e, h, h' => by have h1 := h.len; have h2 := h'.len; simp only [F.size] at h1 h2; omega
  | .nd x ks r, .nd y js s, i, e, h, h' => by
    have hk := h.uniq h'
    subst hk
    obtain ⟨h0, _, hr⟩ := h.head
    obtain ⟨h0', _, hr'⟩ := h'.head
    obtain rfl : x = y := by rw [h0] at h0'; exact Option.some.inj h0'
    rw [Part.uniqF r s _ _ hr hr']
theorem Part.uniq1 {re : List Nd} {x y : Nd} {ks js : F} {i e e' : Nat} (h : Part re (.nd x ks .nil) i e) (h' : Part re (.nd y js .nil) i e') : x = y ∧ ks = js ∧ e = e' := by
  have hk := h.uniq h'
  subst hk
  obtain ⟨h0, _, _⟩ := h.head
  obtain ⟨h0', _, _⟩ := h'.head
  have hl := h.len
  have hl' := h'.len
  exact ⟨by rw [h0] at h0'; exact Option.some.inj h0', rfl, by simp only [F.size] at hl hl'; omega⟩
/-- rounds, when there were r -/
def RR (x : Nd) (D : Nat → Nat → Prop) (r p q : Nat) : Prop := ∃ k : Nat, x.mn ≤ ((r + k : Nat) : Int) ∧ (x.mx = -1 ∨ ((r + k : Nat) : Int) ≤ x.mx) ∧ pow D k p q
/-- the end of the next round can be m -/
def RQ (x : Nd) (D : Nat → Nat → Prop) (r p q m : Nat) : Prop := (x.mx = -1 ∨ (r : Int) < x.mx) ∧ (m ≠ p ∨ (r : Int) < x.mn ∨ r = 0) ∧ D p m ∧ RR x D (r + 1) m q
theorem rounds_RR {x : Nd} {D : Nat → Nat → Prop} {p q : Nat} : rounds x D p q ↔ RR x D 0 p q := by simp [rounds, RR]
theorem RR_cap {x : Nd} {D : Nat → Nat → Prop} {r s p q : Nat} (h1 : x.mx = -1) (h2 : x.mn ≤ (r : Int)) (h3 : x.mn ≤ (s : Int)) : RR x D r p q ↔ RR x D s p q :=
  ⟨fun ⟨k, _, _, hk⟩ => ⟨k, by omega, .inl h1, hk⟩, fun ⟨k, _, _, hk⟩ => ⟨k, by omega, .inl h1, hk⟩⟩
theorem RR_step {x : Nd} {D : Nat → Nat → Prop} {r q : Nat} : ∀ {p : Nat}, RR x D r p q ↔ (p = q ∧ x.mn ≤ (r : Int) ∧ (x.mx = -1 ∨ (r : Int) ≤ x.mx)) ∨ ∃ m, RQ x D r p q m := by
  have hf : ∀ k p, x.mn ≤ ((r + k : Nat) : Int) → (x.mx = -1 ∨ ((r + k : Nat) : Int) ≤ x.mx) → pow D k p q → (p = q ∧ x.mn ≤ (r : Int) ∧ (x.mx = -1 ∨ (r : Int) ≤ x.mx)) ∨ ∃ m, RQ x D r p q m := by
    intro k
    induction k with
    | zero => intro p h1 h2 h; exact .inl ⟨h, by simpa using h1, by simpa using h2⟩
    | succ k ih =>
      intro p h1 h2 ⟨m, hm, hk⟩
      by_cases hc : m ≠ p ∨ (r : Int) < x.mn ∨ r = 0
      · exact .inr ⟨m, by omega, hc, hm, k, by rw [show r + 1 + k = r + (k + 1) by omega]; exact h1, by rw [show r + 1 + k = r + (k + 1) by omega]; exact h2, hk⟩
      · obtain ⟨rfl, h3⟩ : m = p ∧ ¬ (r : Int) < x.mn := by
          refine ⟨?_, fun h => hc (.inr (.inl h))⟩
          exact Classical.byContradiction fun h => hc (.inl h)
        exact ih m (by omega) (by omega) hk
  intro p
  constructor
  · rintro ⟨k, h1, h2, h⟩; exact hf k p h1 h2 h
  · rintro (⟨rfl, h1, h2⟩ | ⟨m, h1, h2, h3, k, h4, h5, h6⟩)
    · exact ⟨0, by simpa using h1, by simpa using h2, rfl⟩
    · exact ⟨k + 1, by rw [show r + (k + 1) = r + 1 + k by omega]; exact h4, by rw [show r + (k + 1) = r + 1 + k by omega]; exact h5, m, h3, h6⟩
/-- the questions that are answered yes -/
inductive Qry (w : List UInt8) (re : List Nd) : Ky → Prop
  | alt {x : Nd} {ks : F} {i i1 p q : Nat} (hp : Part re (.nd x ks .nil) i i1) (h5 : x.op = 5) (h : der w ks true p q) : Qry w re ⟨i, -1, p, q⟩
  | cat {x : Nd} {ks g : F} {i i1 m p q : Nat} (hp : Part re (.nd x ks .nil) i i1) (h4 : x.op = 4) (hg : Part re g m i1) (h : der w g false p q) : Qry w re ⟨i, m, p, q⟩
  | rep {x : Nd} {ks : F} {i i1 r p q : Nat} (hp : Part re (.nd x ks .nil) i i1) (h6 : x.op = 6) (h : RR x (der w ks false) r p q) : Qry w re ⟨i, r, p, q⟩
theorem Qry_alt {w : List UInt8} {re : List Nd} {x : Nd} {ks : F} {i i1 p q : Nat} (hp : Part re (.nd x ks .nil) i i1) (h5 : x.op = 5) : Qry w re ⟨i, -1, p, q⟩ ↔ der w ks true p q := by
  refine ⟨fun h => ?_, fun h => .alt hp h5 h⟩
  generalize hk : (⟨i, -1, p, q⟩ : Ky) = k at h
  cases h <;> simp only [Ky.mk.injEq] at hk
  case alt x' ks' i' i1' p' q' hp' h5' h' =>
    obtain ⟨h1, _, h2, h3⟩ := hk
    obtain rfl : i = i' := by omega
    obtain rfl : p = p' := by omega
    obtain rfl : q = q' := by omega
    obtain ⟨rfl, rfl, rfl⟩ := hp.uniq1 hp'
    exact h'
  all_goals omega
theorem Qry_cat {w : List UInt8} {re : List Nd} {x : Nd} {ks g : F} {i i1 m p q : Nat} (hp : Part re (.nd x ks .nil) i i1) (h4 : x.op = 4) (hg : Part re g m i1) : Qry w re ⟨i, m, p, q⟩ ↔ der w g false p q := by
  refine ⟨fun h => ?_, fun h => .cat hp h4 hg h⟩
  generalize hk : (⟨i, m, p, q⟩ : Ky) = k at h
  cases h <;> simp only [Ky.mk.injEq] at hk
  case cat x' ks' g' i' i1' m' p' q' hp' h4' hg' h' =>
    obtain ⟨h1, h0, h2, h3⟩ := hk
    obtain rfl : i = i' := by omega
    obtain rfl : p = p' := by omega
    obtain rfl : q = q' := by omega
    obtain rfl : m = m' := by omega
    obtain ⟨rfl, rfl, rfl⟩ := hp.uniq1 hp'
    rw [Part.uniqF g g' _ _ hg hg']; exact h'
  case alt => omega
  case rep x' ks' i' i1' r' p' q' hp' h6' h' =>
    obtain ⟨h1, h0, h2, h3⟩ := hk
    obtain rfl : i = i' := by omega
    obtain ⟨rfl, rfl, rfl⟩ := hp.uniq1 hp'
    omega
theorem Qry_rep {w : List UInt8} {re : List Nd} {x : Nd} {ks : F} {i i1 r p q : Nat} (hp : Part re (.nd x ks .nil) i i1) (h6 : x.op = 6) : Qry w re ⟨i, r, p, q⟩ ↔ RR x (der w ks false) r p q := by
  refine ⟨fun h => ?_, fun h => .rep hp h6 h⟩
  generalize hk : (⟨i, r, p, q⟩ : Ky) = k at h
  cases h <;> simp only [Ky.mk.injEq] at hk
  case rep x' ks' i' i1' r' p' q' hp' h6' h' =>
    obtain ⟨h1, h0, h2, h3⟩ := hk
    obtain rfl : i = i' := by omega
    obtain rfl : p = p' := by omega
    obtain rfl : q = q' := by omega
    obtain rfl : r = r' := by omega
    obtain ⟨rfl, rfl, rfl⟩ := hp.uniq1 hp'
    exact h'
  case alt => omega
  case cat x' ks' g' i' i1' m' p' q' hp' h4' hg' h' =>
    obtain ⟨h1, h0, h2, h3⟩ := hk
    obtain rfl : i = i' := by omega
    obtain ⟨rfl, rfl, rfl⟩ := hp.uniq1 hp'
    omega
/-- what is known is true -/
def MapOk (w : List UInt8) (re : List Nd) (es : List Me) : Prop := ∀ k, getK es k = 0 ∨ (getK es k = 1 ∧ Qry w re k) ∨ (getK es k = -1 ∧ ¬ Qry w re k)
theorem MapOk.nil {w : List UInt8} {re : List Nd} : MapOk w re [] := fun _ => .inl rfl
theorem MapOk.no {w : List UInt8} {re : List Nd} {es es' : List Me} {k : Ky} (h : MapOk w re es) (hk : ¬ Qry w re k) (hg : ∀ j, getK es' j = if j = k then -1 else getK es j) : MapOk w re es' := fun j => by
  rw [hg j]
  by_cases e : j = k
  · subst e; rw [if_pos rfl]; exact .inr (.inr ⟨rfl, hk⟩)
  · rw [if_neg e]; exact h j
theorem MapOk.yes {w : List UInt8} {re : List Nd} {es es' es2 : List Me} {k : Ky} (h : MapOk w re es) (hk : Qry w re k) (hg : ∀ j, getK es' j = if j = k then -1 else getK es j) (hg2 : ∀ j, getK es2 j = if j = k then 1 else getK es' j) : MapOk w re es2 := fun j => by
  rw [hg2 j]
  by_cases e : j = k
  · subst e; rw [if_pos rfl]; exact .inr (.inl ⟨rfl, hk⟩)
  · rw [if_neg e, hg j, if_neg e]; exact h j
open Classical in
noncomputable def dQ (Q : Prop) : Bool := decide Q
theorem dQ_t {Q : Prop} (h : Q) : dQ Q = true := by simp [dQ, h]
theorem dQ_f {Q : Prop} (h : ¬ Q) : dQ Q = false := by simp [dQ, h]
theorem dQ_iff {Q : Prop} : dQ Q = true ↔ Q := by simp [dQ]
theorem dQ_congr {Q R : Prop} (h : Q ↔ R) : dQ Q = dQ R := by simp [dQ, h]
theorem dQ_b {Q : Prop} {b : Bool} (h : b = true ↔ Q) : dQ Q = b := by
  cases b
  · exact dQ_f fun q => by have := h.2 q; cases this
  · exact dQ_t (h.1 rfl)
attribute [irreducible] dQ
/-- an asker and what it holds -/
structure AskE where
  (bRe bTx bA bS bE bM nF rF : Nat)
  (ra : Option Addr) (rc : Nat) (re : List Nd) (ta : Option Addr) (tc : Nat) (tx : List UInt8) (l : List Nat)
namespace AskE
abbrev vre (K : AskE) : Value := .slice K.ra K.re.length K.rc
abbrev vtx (K : AskE) : Value := .slice K.ta K.tx.length K.tc
abbrev ven (K : AskE) : Value := .slice (some ⟨K.bE, 0, none⟩) K.re.length K.re.length
abbrev pt (b : Nat) : Value := .pointer (some ⟨b, 0, none⟩)
abbrev cells (K : AskE) : List Value := [K.vre, K.ven, K.vtx, .map (some K.bM), .func (.func K.nF) [].toArray [pt K.bRe, pt K.bTx, pt K.bA].toArray, .func (.func K.rF) [].toArray [pt K.bA].toArray]
end AskE
open AskE
structure Env (w : World) (K : AskE) (M : List Nat) : Prop where
  p1 : RdP w K.bRe 0 [K.vre]
  p2 : RdP w K.bTx 0 [K.vtx]
  p3 : RdP w K.bA 0 [pt K.bS]
  p4 : RdP w K.bS 0 K.cells
  d1 : Rd En w K.vre K.re
  d2 : Rd Eb w K.vtx K.tx
  d3 : Rd Eix w K.ven K.l
  n1 : K.bRe ∉ M
  n2 : K.bTx ∉ M
  n3 : K.bA ∉ M
  n4 : K.bS ∉ M
  a1 : Apart M K.vre
  a2 : Apart M K.vtx
  a3 : Apart M K.ven
/-- what the asker holds is sound -/
structure AskE.ok (K : AskE) : Prop where
  rng : ∀ x ∈ K.re, -128 ≤ x.op ∧ x.op < 128
  no8 : ∀ x ∈ K.re, ¬ x.op = 8
  len : K.re.length ≤ 1000000
  tx : K.tx.length ≤ 1000000
  ends : EndsOk K.re 0 K.l
def AnsK (K : AskE) (Q : Prop) (v : Value) (S' : Hp) : Prop := ∃ es c, v = .bool (dQ Q) ∧ S' = [(K.bM, mpO es c)] ∧ MapOk K.tx K.re es
def NodeK (P : Program) (K : AskE) (x : Nd) (ks : F) : Prop := ∀ (i i1 p q : Nat) (es : List Me) (c : Nat), Part K.re (.nd x ks .nil) i i1 → p ≤ q → q ≤ K.tx.length → MapOk K.tx K.re es →
  Fn P K.nF [.int .i64 i, .int .i64 p, .int .i64 q, pt K.bRe, pt K.bTx, pt K.bA] (fun W => Env W K [K.bM]) [(K.bM, mpO es c)] (AnsK K (der1 K.tx x ks p q))
def RestK (P : Program) (K : AskE) (k : Ky) : Prop := ∀ (es : List Me) (c : Nat), MapOk K.tx K.re es →
  Fn P K.rF [.agg (Ek k).toArray, pt K.bA] (fun W => Env W K [K.bM]) [(K.bM, mpO es c)] (AnsK K (Qry K.tx K.re k))
def FindK (P : Program) (K : AskE) (fn : Nat) (k : Ky) : Prop := ∀ (es : List Me) (c : Nat), MapOk K.tx K.re es →
  Fn P fn [pt K.bS, .agg (Ek k).toArray] (fun W => Env W K [K.bM]) [(K.bM, mpO es c)] (AnsK K (Qry K.tx K.re k))
/-- the greatest -/
def Grt (Q : Nat → Prop) (p q m : Nat) : Prop := p ≤ m ∧ m ≤ q ∧ Q m ∧ ∀ n, m < n → n ≤ q → ¬ Q n
def KidP (K : AskE) (Q : Nat → Prop) (p q : Nat) (v : Value) (S' : Hp) : Prop := ∃ es c, S' = [(K.bM, mpO es c)] ∧ MapOk K.tx K.re es ∧
  ((∃ m, Grt Q p q m ∧ v = .tuple #[.int .i64 m, .bool true]) ∨ ((∀ m, p ≤ m → m ≤ q → ¬ Q m) ∧ v = .tuple #[.int .i64 0, .bool false]))
def KidK (P : Program) (K : AskE) (fn : Nat) (k : Ky) (Q : Nat → Prop) (p q : Nat) : Prop := ∀ (es : List Me) (c : Nat), MapOk K.tx K.re es →
  Fn P fn [pt K.bS, .agg (Ek k).toArray] (fun W => Env W K [K.bM]) [(K.bM, mpO es c)] (KidP K Q p q)
theorem Env.out {w0 w : World} {K : AskE} {M M' : List Nat} {H : Hp} (h : Env w0 K M) (st : St w0 w M H) (hs : ∀ b ∈ M', b ∈ M) : Env w K M' := by
  have am : ∀ {v : Value}, Apart M v → Apart M' v := fun ha a n c e hz hb => ha a n c e hz (hs _ hb)
  exact ⟨(RdPK.old (κ := ⟨0, [], w0, M⟩) (H := H) h.p1 h.n1).out w st, (RdPK.old (κ := ⟨0, [], w0, M⟩) (H := H) h.p2 h.n2).out w st, (RdPK.old (κ := ⟨0, [], w0, M⟩) (H := H) h.p3 h.n3).out w st, (RdPK.old (κ := ⟨0, [], w0, M⟩) (H := H) h.p4 h.n4).out w st,
    (RdK.old (κ := ⟨0, [], w0, M⟩) (H := H) h.d1 h.a1).out w st, (RdK.old (κ := ⟨0, [], w0, M⟩) (H := H) h.d2 h.a2).out w st, (RdK.old (κ := ⟨0, [], w0, M⟩) (H := H) h.d3 h.a3).out w st,
    fun hb => h.n1 (hs _ hb), fun hb => h.n2 (hs _ hb), fun hb => h.n3 (hs _ hb), fun hb => h.n4 (hs _ hb), am h.a1, am h.a2, am h.a3⟩
end Go.HL.Kl.Mc

/- Mathematics of captures: one tree's derivations by its kind. Conditions: none. -/
namespace Go.HL.Kl.Mc
open Go Go.HL Go.HL.Kl
theorem der1_1 {w : List UInt8} {x : Nd} {ks : F} {p q : Nat} (h : x.op = 1) : der1 w x ks p q ↔ q = p + 1 ∧ ∃ b, w[p]? = some b ∧ x.set.getLsbD b.toNat = true := by rw [der1_def, if_pos h]
theorem der1_2 {w : List UInt8} {x : Nd} {ks : F} {p q : Nat} (h : x.op = 2) : der1 w x ks p q ↔ p = 0 ∧ q = 0 := by rw [der1_def, if_neg (by omega), if_pos h]
theorem der1_3 {w : List UInt8} {x : Nd} {ks : F} {p q : Nat} (h : x.op = 3) : der1 w x ks p q ↔ p = w.length ∧ q = p := by rw [der1_def, if_neg (by omega), if_neg (by omega), if_pos h]
theorem der1_4 {w : List UInt8} {x : Nd} {ks : F} {p q : Nat} (h : x.op = 4 ∨ x.op = 7) : der1 w x ks p q ↔ der w ks false p q := by rw [der1_def, if_neg (by omega), if_neg (by omega), if_neg (by omega), if_neg (by omega), if_neg (by omega)]
theorem der1_5 {w : List UInt8} {x : Nd} {ks : F} {p q : Nat} (h : x.op = 5) : der1 w x ks p q ↔ der w ks true p q := by rw [der1_def, if_neg (by omega), if_neg (by omega), if_neg (by omega), if_pos h]
theorem der1_6 {w : List UInt8} {x : Nd} {ks : F} {p q : Nat} (h : x.op = 6) : der1 w x ks p q ↔ RR x (der w ks false) 0 p q := by rw [der1_def, if_neg (by omega), if_neg (by omega), if_neg (by omega), if_neg (by omega), if_pos h, rounds_RR]
theorem der_one {w : List UInt8} {y : Nd} {js : F} {p q : Nat} : der w (.nd y js .nil) false p q ↔ der1 w y js p q := by
  rw [der_cat]
  exact ⟨fun ⟨t, h1, h2⟩ => by rw [der_nil] at h2; exact h2 ▸ h1, fun h => ⟨q, h, der_nil.2 rfl⟩⟩
theorem MapOk.ans {w : List UInt8} {re : List Nd} {es : List Me} {k : Ky} (h : MapOk w re es) (h0 : getK es k ≠ 0) : decide (getK es k > 0) = dQ (Qry w re k) := by
  rcases h k with h | ⟨h, hq⟩ | ⟨h, hq⟩
  · exact absurd h h0
  · rw [dQ_t hq, h]; rfl
  · rw [dQ_f hq, h]; rfl
theorem one_kid {x : Nd} {ks : F} (hw : (F.nd x ks .nil).wf) (h : x.op = 6 ∨ x.op = 7) : ∃ y js, ks = .nd y js .nil := by
  have hok : ndOk x = true := hw.1
  have hk : (ks.num : Int) = x.kids := hw.2.1
  have h1 : x.kids = 1 := by
    simp only [ndOk, Bool.and_eq_true] at hok
    have := hok.2
    simp only [kidsOk] at this
    rcases h with h | h <;> simp [h] at this <;> omega
  cases ks with
  | nil => simp [F.num] at hk; omega
  | nd y js r =>
    cases r with
    | nil => exact ⟨y, js, rfl⟩
    | nd z a b => simp [F.num] at hk; omega
/-- derivations go on -/
def Up (D : Nat → Nat → Prop) : Prop := ∀ p q, D p q → p ≤ q
theorem pow_up {D : Nat → Nat → Prop} (h : Up D) : ∀ k, Up (pow D k)
  | 0, p, q, e => Nat.le_of_eq e
  | k + 1, p, q, ⟨t, h1, h2⟩ => Nat.le_trans (h p t h1) (pow_up h k t q h2)
theorem RR_up {x : Nd} {D : Nat → Nat → Prop} {r : Nat} (h : Up D) : Up (RR x D r) := fun p q ⟨k, _, _, hk⟩ => pow_up h k p q hk
theorem der_up {w : List UInt8} : ∀ (f : F) (md : Bool), Up (der w f md)
  | .nil, md, p, q, h => by
    obtain ⟨_, rfl⟩ : md = false ∧ p = q := by simpa [der] using h
    exact Nat.le_refl _
  | .nd x ks r, md, p, q, h => by
    have h1 : Up (der1 w x ks) := by
      intro p q h
      rw [der1_def] at h
      split at h
      · omega
      split at h
      · omega
      split at h
      · omega
      split at h
      · exact der_up ks true p q h
      split at h
      · rw [rounds_RR] at h; exact RR_up (der_up ks false) p q h
      · exact der_up ks false p q h
    cases md with
    | false =>
      obtain ⟨t, h2, h3⟩ := der_cat.1 h
      exact Nat.le_trans (h1 p t h2) (der_up r false t q h3)
    | true =>
      rcases der_alt.1 h with h2 | h2
      · exact h1 p q h2
      · exact der_up r true p q h2
theorem der1_up {w : List UInt8} {x : Nd} {ks : F} : Up (der1 w x ks) := der_up _ _
/-- how many rounds count -/
def nxtR (x : Nd) (r : Nat) : Nat := if x.mx < 0 then min (r + 1) (max x.mn.toNat 1) else r + 1
theorem RR_nxt {x : Nd} {D : Nat → Nat → Prop} {r p q : Nat} (h : x.mx = -1 ∨ 0 ≤ x.mx) : RR x D (nxtR x r) p q ↔ RR x D (r + 1) p q := by
  unfold nxtR
  split
  · rcases Nat.le_total (r + 1) (max x.mn.toNat 1) with h1 | h1
    · rw [Nat.min_eq_left h1]
    · rw [Nat.min_eq_right h1]
      exact RR_cap (by omega) (by omega) (by omega)
  · exact Iff.rfl
theorem rep_rng {x : Nd} (hok : ndOk x = true) (h6 : x.op = 6) : 0 ≤ x.mn ∧ x.mn ≤ 255 ∧ (x.mx = -1 ∨ x.mn ≤ x.mx ∧ x.mx ≤ 255) := by
  simp only [ndOk, flds, Bool.and_eq_true] at hok
  have h := hok.1.2
  rw [if_pos h6] at h
  simpa using h
theorem kid_cat {w : List UInt8} {y : Nd} {js r : F} {p q : Nat} (h : ∀ m, p ≤ m → m ≤ q → ¬ (der1 w y js p m ∧ der w r false m q)) : ¬ der w (.nd y js r) false p q := fun hd => by
  obtain ⟨t, h1, h2⟩ := der_cat.1 hd
  exact h t (der1_up _ _ h1) (der_up _ _ _ _ h2) ⟨h1, h2⟩
theorem kid_rep {x : Nd} {D : Nat → Nat → Prop} {r p q : Nat} (hu : Up D) (hn : ¬ (p = q ∧ x.mn ≤ (r : Int))) (h : ∀ m, p ≤ m → m ≤ q → ¬ RQ x D r p q m) : ¬ RR x D r p q := fun hd => by
  rcases RR_step.1 hd with ⟨h1, h2, _⟩ | ⟨m, hm⟩
  · exact hn ⟨h1, h2⟩
  · exact h m (hu _ _ hm.2.2.1) (RR_up hu _ _ hm.2.2.2) hm
end Go.HL.Kl.Mc

/- Mathematics of captures: spans, what groups take, the best derivation. Conditions: none. -/
namespace Go.HL.Kl.Mc
open Go Go.HL Go.HL.Kl
structure Sp where
  fr : Int
  to : Int
  deriving DecidableEq
def Esp (s : Sp) : List Value := [.int .i64 s.fr, .int .i64 s.to]
instance : Enc Esp 2 := ⟨fun _ => rfl, fun x v hv => by
  simp only [Esp, List.mem_cons, List.not_mem_nil, or_false] at hv
  rcases hv with rfl | rfl <;> rfl⟩
def noS : Sp := ⟨-1, -1⟩
def fg1 (cs : List Sp) (x : Nd) : List Sp := if x.op = 7 then cs.set x.n.toNat noS else cs
def fgt (l : List Nd) (cs : List Sp) : List Sp := l.foldl fg1 cs
theorem fg1_len (cs : List Sp) (x : Nd) : (fg1 cs x).length = cs.length := by unfold fg1; split <;> simp
theorem fgt_len : ∀ (l : List Nd) (cs : List Sp), (fgt l cs).length = cs.length
  | [], cs => rfl
  | x :: l, cs => by
    show (fgt l (fg1 cs x)).length = _
    rw [fgt_len l, fg1_len]
/-- likewise, of the places from a up to j -/
def fgtTo (re : List Nd) (a j : Nat) (cs : List Sp) : List Sp := fgt ((re.drop a).take (j - a)) cs
theorem fgtTo_start {re : List Nd} {a : Nat} {cs : List Sp} : fgtTo re a a cs = cs := by simp [fgtTo, fgt]
theorem fgtTo_len {re : List Nd} {a j : Nat} {cs : List Sp} : (fgtTo re a j cs).length = cs.length := fgt_len _ _
theorem fgtTo_step {re : List Nd} {a j : Nat} {cs : List Sp} {x : Nd} (h : re[j]? = some x) (ha : a ≤ j) : fgtTo re a (j + 1) cs = fg1 (fgtTo re a j cs) x := by
  unfold fgtTo
  have e : (re.drop a).take (j + 1 - a) = (re.drop a).take (j - a) ++ [x] := by
    rw [show j + 1 - a = (j - a) + 1 by omega, List.take_add_one, List.getElem?_drop, show a + (j - a) = j by omega, h]; rfl
  rw [e]; simp [fgt, List.foldl_append]
theorem fgtTo_part {re : List Nd} {f : F} {a e : Nat} {cs : List Sp} (h : Part re f a e) : fgtTo re a e cs = fgt f.flat cs := by
  unfold fgtTo
  rw [h.flat, show e - a = f.flat.length by have := h.len; rw [F.flat_size]; omega, List.take_left' rfl]
open Classical in
noncomputable def grt (Q : Nat → Prop) (p q : Nat) : Nat := if h : ∃ m, Grt Q p q m then h.choose else 0
theorem Grt.uniq {Q : Nat → Prop} {p q m n : Nat} (h : Grt Q p q m) (h' : Grt Q p q n) : m = n := by
  rcases Nat.lt_trichotomy m n with e | e | e
  · exact absurd h'.2.2.1 (h.2.2.2 n e h'.2.1)
  · exact e
  · exact absurd h.2.2.1 (h'.2.2.2 m e h.2.1)
theorem grt_eq {Q : Nat → Prop} {p q m : Nat} (h : Grt Q p q m) : grt Q p q = m := by
  unfold grt
  have hx : ∃ m, Grt Q p q m := ⟨m, h⟩
  rw [dif_pos hx]
  exact hx.choose_spec.uniq h
attribute [irreducible] grt
noncomputable def reps (x : Nd) (D : Nat → Nat → Prop) (B : Nat → Nat → List Sp → List Sp) (q : Nat) : Nat → Nat → Nat → List Sp → List Sp
  | 0, _, _, cs => cs
  | f + 1, r, p, cs => if dQ (∃ m, Grt (RQ x D r p q) p q m) = true then reps x D B q f (nxtR x r) (grt (RQ x D r p q) p q) (B p (grt (RQ x D r p q) p q) cs) else cs
theorem reps_go {x : Nd} {D : Nat → Nat → Prop} {B : Nat → Nat → List Sp → List Sp} {q f r p m : Nat} {cs : List Sp} (h : Grt (RQ x D r p q) p q m) : reps x D B q (f + 1) r p cs = reps x D B q f (nxtR x r) m (B p m cs) := by
  rw [reps, if_pos (dQ_t ⟨m, h⟩), grt_eq h]
theorem reps_end {x : Nd} {D : Nat → Nat → Prop} {B : Nat → Nat → List Sp → List Sp} {q f r p : Nat} {cs : List Sp} (h : ∀ m, p ≤ m → m ≤ q → ¬ RQ x D r p q m) : reps x D B q f r p cs = cs := by
  cases f with
  | zero => rfl
  | succ f => rw [reps, if_neg]; rw [dQ_f (fun ⟨m, hm⟩ => h m hm.1 hm.2.1 hm.2.2.1)]; simp
noncomputable def bst (w : List UInt8) : F → Bool → Nat → Nat → List Sp → List Sp
  | .nil, _, _, _, cs => cs
  | .nd x ks r, m, p, q, cs =>
    let one : Nat → Nat → List Sp → List Sp := fun p q cs =>
      if x.op = 7 then (bst w ks false p q (fgt ks.flat cs)).set x.n.toNat ⟨p, q⟩
      else if x.op = 5 then bst w ks true p q cs
      else if x.op = 4 then bst w ks false p q cs
      else if x.op = 6 then reps x (der w ks false) (fun p q cs => bst w ks false p q (fgt ks.flat cs)) q ((q - p) + max x.mn.toNat 1 + 1) 0 p cs
      else cs
    if m = true then (if dQ (der1 w x ks p q) = true then one p q cs else bst w r true p q cs)
    else bst w r false (grt (fun n => der1 w x ks p n ∧ der w r false n q) p q) q (one p (grt (fun n => der1 w x ks p n ∧ der w r false n q) p q) cs)
noncomputable def bst1 (w : List UInt8) (x : Nd) (ks : F) (p q : Nat) (cs : List Sp) : List Sp :=
  if x.op = 7 then (bst w ks false p q (fgt ks.flat cs)).set x.n.toNat ⟨p, q⟩
  else if x.op = 5 then bst w ks true p q cs
  else if x.op = 4 then bst w ks false p q cs
  else if x.op = 6 then reps x (der w ks false) (fun p q cs => bst w ks false p q (fgt ks.flat cs)) q ((q - p) + max x.mn.toNat 1 + 1) 0 p cs
  else cs
theorem bst_alt {w : List UInt8} {x : Nd} {ks r : F} {p q : Nat} {cs : List Sp} : bst w (.nd x ks r) true p q cs = if dQ (der1 w x ks p q) = true then bst1 w x ks p q cs else bst w r true p q cs := by
  conv => lhs; rw [bst]
  rfl
theorem bst_cat {w : List UInt8} {x : Nd} {ks r : F} {p q n : Nat} {cs : List Sp} (h : Grt (fun n => der1 w x ks p n ∧ der w r false n q) p q n) : bst w (.nd x ks r) false p q cs = bst w r false n q (bst1 w x ks p n cs) := by
  conv => lhs; rw [bst]
  rw [← grt_eq h]
  rfl
theorem bst_nil {w : List UInt8} {m : Bool} {p q : Nat} {cs : List Sp} : bst w .nil m p q cs = cs := by rw [bst]
theorem bst_one {w : List UInt8} {x : Nd} {ks : F} {p q : Nat} {cs : List Sp} (h : der1 w x ks p q) : bst w (.nd x ks .nil) false p q cs = bst1 w x ks p q cs := by
  have hg : Grt (fun n => der1 w x ks p n ∧ der w .nil false n q) p q q := ⟨der1_up _ _ h, Nat.le_refl _, ⟨h, der_nil.2 rfl⟩, fun n a b => by omega⟩
  rw [bst_cat hg, bst_nil]
theorem bst1_7 {w : List UInt8} {x : Nd} {ks : F} {p q : Nat} {cs : List Sp} (h : x.op = 7) : bst1 w x ks p q cs = (bst w ks false p q (fgt ks.flat cs)).set x.n.toNat ⟨p, q⟩ := by rw [bst1, if_pos h]
theorem bst1_5 {w : List UInt8} {x : Nd} {ks : F} {p q : Nat} {cs : List Sp} (h : x.op = 5) : bst1 w x ks p q cs = bst w ks true p q cs := by rw [bst1, if_neg (by omega), if_pos h]
theorem bst1_4 {w : List UInt8} {x : Nd} {ks : F} {p q : Nat} {cs : List Sp} (h : x.op = 4) : bst1 w x ks p q cs = bst w ks false p q cs := by rw [bst1, if_neg (by omega), if_neg (by omega), if_pos h]
theorem bst1_6 {w : List UInt8} {x : Nd} {ks : F} {p q : Nat} {cs : List Sp} (h : x.op = 6) : bst1 w x ks p q cs = reps x (der w ks false) (fun p q cs => bst w ks false p q (fgt ks.flat cs)) q ((q - p) + max x.mn.toNat 1 + 1) 0 p cs := by rw [bst1, if_neg (by omega), if_neg (by omega), if_neg (by omega), if_pos h]
theorem bst1_0 {w : List UInt8} {x : Nd} {ks : F} {p q : Nat} {cs : List Sp} (h : x.op ≤ 3) : bst1 w x ks p q cs = cs := by rw [bst1, if_neg (by omega), if_neg (by omega), if_neg (by omega), if_neg (by omega)]
theorem reps_len {x : Nd} {D : Nat → Nat → Prop} {B : Nat → Nat → List Sp → List Sp} {q : Nat} (hB : ∀ p q cs, (B p q cs).length = cs.length) : ∀ f r p cs, (reps x D B q f r p cs).length = cs.length
  | 0, r, p, cs => rfl
  | f + 1, r, p, cs => by
    rw [reps]; split
    · rw [reps_len hB f, hB]
    · rfl
theorem bst_len {w : List UInt8} : ∀ (f : F) (m : Bool) (p q : Nat) (cs : List Sp), (bst w f m p q cs).length = cs.length
  | .nil, m, p, q, cs => by rw [bst_nil]
  | .nd x ks r, m, p, q, cs => by
    have h1 : ∀ p q cs, (bst1 w x ks p q cs).length = cs.length := by
      intro p q cs
      unfold bst1
      split
      · rw [List.length_set, bst_len ks, fgt_len]
      split
      · rw [bst_len ks]
      split
      · rw [bst_len ks]
      split
      · rw [reps_len fun p q cs => by rw [bst_len ks, fgt_len]]
      · rfl
    cases m with
    | true =>
      rw [bst_alt]; split
      · exact h1 _ _ _
      · exact bst_len r _ _ _ _
    | false =>
      conv => lhs; rw [bst]
      show (bst w r false _ q (bst1 w x ks p _ cs)).length = _
      rw [bst_len r, h1]
theorem bst1_len {w : List UInt8} {x : Nd} {ks : F} {p q : Nat} {cs : List Sp} : (bst1 w x ks p q cs).length = cs.length := by
  have := bst_len (w := w) (.nd x ks .nil) true p q cs
  unfold bst1
  split
  · rw [List.length_set, bst_len ks, fgt_len]
  split
  · rw [bst_len ks]
  split
  · rw [bst_len ks]
  split
  · rw [reps_len fun p q cs => by rw [bst_len ks, fgt_len]]
  · rfl
/-- how many groups -/
def gcn (l : List Nd) : Nat := l.countP (fun x => decide (x.op = 7))
theorem gcn_take {re : List Nd} {j : Nat} {x : Nd} (h : re[j]? = some x) : gcn (re.take (j + 1)) = gcn (re.take j) + (if x.op = 7 then 1 else 0) := by
  rw [List.take_add_one, h]
  simp [gcn, List.countP_append, List.countP_cons]
theorem gcn_mono {re : List Nd} {i j : Nat} (h : i ≤ j) : gcn (re.take i) ≤ gcn (re.take j) := by
  unfold gcn
  exact List.Sublist.countP_le (List.take_sublist_take_left h)
def Numd (re : List Nd) (b i i' b' : Nat) : Prop := b' + gcn (re.take i) = b + gcn (re.take i') ∧ ∀ j x, i ≤ j → j < i' → re[j]? = some x → x.op = 7 → x.n + (gcn (re.take i) : Nat) = (b : Int) + (gcn (re.take j) : Nat) + 1
theorem kidsN_num {re : List Nd} {step : Nat → List Bool → Option (Nat × List Bool)} (hs : ∀ i en i' en', step i en = some (i', en') → i ≤ i' ∧ Numd re en.length i i' en'.length) :
    ∀ k i en i' en', kidsN step k i en = some (i', en') → i ≤ i' ∧ Numd re en.length i i' en'.length := by
  intro k
  induction k with
  | zero =>
    intro i en i' en' h
    simp only [kidsN, Option.some.injEq, Prod.mk.injEq] at h
    obtain ⟨rfl, rfl⟩ := h
    exact ⟨Nat.le_refl _, rfl, fun j x h1 h2 => by omega⟩
  | succ k ih =>
    intro i en i' en' h
    simp only [kidsN] at h
    split at h
    · cases h
    · rename_i j en1 hst
      obtain ⟨h1, h2, h3⟩ := hs _ _ _ _ hst
      obtain ⟨h4, h5, h6⟩ := ih _ _ _ _ h
      refine ⟨by omega, by omega, fun t x ht1 ht2 hx h7 => ?_⟩
      rcases Nat.lt_or_ge t j with e | e
      · exact h3 t x ht1 e hx h7
      · have := h6 t x e ht2 hx h7; omega
theorem shN_num {re : List Nd} : ∀ f i en g i' en', shN re f i en g = some (i', en') → i ≤ i' ∧ Numd re en.length i i' en'.length := by
  intro f
  induction f with
  | zero => intro i en g i' en' h; cases h
  | succ f ih =>
    intro i en g i' en' h
    simp only [shN] at h
    split at h
    · cases h
    · rename_i x hx
      split at h
      · split at h
        · cases h
        · rename_i en1 g1 hg
          split at h
          · cases h
          · rename_i i2 en2 hk
            simp only [Option.some.injEq, Prod.mk.injEq] at h
            obtain ⟨rfl, rfl⟩ := h
            obtain ⟨h1, h2, h3⟩ := kidsN_num (fun i en i' en' h => ih i en g1 i' en' h) _ _ _ _ _ hk
            have ht := gcn_take hx
            have he : en1.length = en.length + (if x.op = 7 then 1 else 0) ∧ (x.op = 7 → x.n = en.length + 1) := by
              unfold gate at hg
              split at hg
              · split at hg
                · cases hg; rename_i h8 _; exact ⟨by rw [if_neg (by omega)]; rfl, fun h => by omega⟩
                · cases hg
              split at hg
              · split at hg
                · cases hg; rename_i _ h7 hc; exact ⟨by rw [if_pos h7]; simp, fun _ => hc.1⟩
                · cases hg
              · cases hg; rename_i _ h7; exact ⟨by rw [if_neg h7]; rfl, fun h => absurd h h7⟩
            have hl : (if x.op = 7 then en2.set (x.n.toNat - 1) true else en2).length = en2.length := by split <;> simp
            refine ⟨by omega, by rw [hl]; omega, fun j y hj1 hj2 hy h7 => ?_⟩
            by_cases e : j = i
            · subst e
              rw [hx] at hy; cases hy
              have := he.2 h7; omega
            · have := h3 j y (by omega) hj2 hy h7
              omega
      · cases h
theorem grp_n {re : List Nd} (h : shapedB re = true) {j : Nat} {x : Nd} (hx : re[j]? = some x) (h7 : x.op = 7) : x.n = (gcn (re.take j) : Nat) + 1 ∧ x.n ≤ gcn re := by
  obtain ⟨⟨en, hsh⟩, _⟩ := shapedB_iff.1 h
  obtain ⟨_, h1, h2⟩ := shN_num _ _ _ _ _ _ hsh
  have hlt := (List.getElem?_eq_some_iff.1 hx).1
  have h3 := h2 j x (Nat.zero_le _) hlt hx h7
  have h4 := gcn_take hx
  have h5 : gcn (re.take (j + 1)) ≤ gcn re := by
    have := gcn_mono (re := re) (i := j + 1) (j := re.length) hlt
    rwa [List.take_length] at this
  simp [gcn] at h3
  rw [if_pos h7] at h4
  refine ⟨by simp only [gcn]; omega, ?_⟩
  simp only [gcn] at h4 h5 ⊢
  omega
end Go.HL.Kl.Mc

/- Contracts of the functions that tell what groups take. Conditions: none. -/
namespace Go.HL
open Go
theorem RdP.lt {w : World} {b off : Nat} {cs : List Value} (h : RdP w b off cs) (hc : cs ≠ []) : b < w.heap.size := by
  obtain ⟨u, hu⟩ : ∃ u, cs[0]? = some u := by
    cases cs with
    | nil => exact absurd rfl hc
    | cons a l => exact ⟨a, rfl⟩
  have h2 := h.get 0 u hu
  rcases Nat.lt_or_ge b w.heap.size with h' | h'
  · exact h'
  · simp [World.cell?, oblk, Array.getElem?_eq_none h'] at h2
theorem St.notin {w0 w : World} {M : List Nat} {H S : Hp} {b off : Nat} {cs : List Value} (st : St w0 w M H) (hin : HIn S H) (hr : RdP w0 b off cs) (hc : cs ≠ []) (hM : b ∉ M) : b ∉ keys S := by
  intro hm
  obtain ⟨⟨b', o⟩, hmS, hb⟩ := List.mem_map.1 hm
  have hb : b' = b := hb
  subst hb
  have := hr.lt hc
  rcases st.own _ _ (hin _ hmS) with h1 | h1
  · exact hM h1
  · omega
theorem hin_cons {b : Nat} {o : Obj} {S H : Hp} (h : (b, o) ∈ H) (hs : HIn S H) : HIn ((b, o) :: S) H := fun p hp => by
  rcases List.mem_cons.1 hp with rfl | hp
  · exact h
  · exact hs p hp
theorem hin_nil {H : Hp} : HIn [] H := fun _ h => by cases h
end Go.HL
namespace Go.HL.Kl.Mc
open Go Go.HL Go.HL.Kl AskE
theorem Env.sub {w0 w : World} {K : AskE} {M : List Nat} {H S : Hp} (h : Env w0 K M) (st : St w0 w M H) (hin : HIn S H) : Env w K (keys S) :=
  ⟨(RdPK.old (κ := ⟨0, [], w0, M⟩) (H := H) h.p1 h.n1).out w st, (RdPK.old (κ := ⟨0, [], w0, M⟩) (H := H) h.p2 h.n2).out w st, (RdPK.old (κ := ⟨0, [], w0, M⟩) (H := H) h.p3 h.n3).out w st, (RdPK.old (κ := ⟨0, [], w0, M⟩) (H := H) h.p4 h.n4).out w st,
    (RdK.old (κ := ⟨0, [], w0, M⟩) (H := H) h.d1 h.a1).out w st, (RdK.old (κ := ⟨0, [], w0, M⟩) (H := H) h.d2 h.a2).out w st, (RdK.old (κ := ⟨0, [], w0, M⟩) (H := H) h.d3 h.a3).out w st,
    st.notin hin h.p1 (by simp) h.n1, st.notin hin h.p2 (by simp) h.n2, st.notin hin h.p3 (by simp) h.n3, st.notin hin h.p4 (by simp) h.n4, st.apart_M hin h.d1 h.a1 (by decide), st.apart_M hin h.d2 h.a2 (by decide), by
      have e : K.ven = .slice (some ⟨K.bE, 0, none⟩) K.l.length K.re.length := by
        obtain ⟨a, c, e, _⟩ := h.d3.sl.out
        simp only [ven, Value.slice.injEq] at e ⊢
        exact ⟨trivial, e.2.1, trivial⟩
      have hd := h.d3
      have ha := h.a3
      rw [e] at hd ha ⊢
      exact st.apart_M hin hd ha (by decide)⟩
theorem St.ne {w0 w : World} {M : List Nat} {H S R : Hp} {b : Nat} {o : Obj} (st : St w0 w M H) (hpk : Pick H S R) (hm : (b, o) ∈ R) : b ∉ keys S := by
  intro h
  obtain ⟨⟨b', o'⟩, hmS, hb⟩ := List.mem_map.1 h
  exact (List.pairwise_append.1 (st.perm hpk.perm).nd).2.2 _ hmS _ hm hb
theorem Env.make {w0 w : World} {K : AskE} {H S R Se : Hp} {t1 t2 t3 t4 t5 : Nat} (st : St w0 w [] H) (hpk : Pick H S R) (h1 : Rd En w0 K.vre K.re) (h2 : Rd Eb w0 K.vtx K.tx) (hO : OwnS Eix 1 t5 K.ven K.l Se) (he : HIn Se R)
    (m1 : (K.bRe, .cells [K.vre].toArray t1 (0, 0)) ∈ R) (m2 : (K.bTx, .cells [K.vtx].toArray t2 (0, 0)) ∈ R) (m3 : (K.bA, .cells [pt K.bS].toArray t3 (0, 0)) ∈ R) (m4 : (K.bS, .cells K.cells.toArray t4 (0, 0)) ∈ R) : Env w K (keys S) := by
  have st' := st.perm hpk.perm
  have hi : ∀ {p}, p ∈ R → p ∈ S ++ R := fun h => List.mem_append.2 (.inr h)
  have hs : HIn S H := fun p h => hpk.perm.mem_iff.2 (List.mem_append.2 (.inl h))
  exact ⟨(RdPK.own (κ := ⟨0, [], w0, []⟩) (hi m1)).out w st', (RdPK.own (κ := ⟨0, [], w0, []⟩) (hi m2)).out w st', (RdPK.own (κ := ⟨0, [], w0, []⟩) (hi m3)).out w st', (RdPK.own (κ := ⟨0, [], w0, []⟩) (hi m4)).out w st',
    (RdK.old (κ := ⟨0, [], w0, []⟩) (H := H) h1 .nil).out w st, (RdK.old (κ := ⟨0, [], w0, []⟩) (H := H) h2 .nil).out w st, hO.rd fun b o h => st'.has _ _ (hi (he _ h)),
    St.ne st hpk m1, St.ne st hpk m2, St.ne st hpk m3, St.ne st hpk m4, st.apart_old hs h1 (by decide), st.apart_old hs h2 (by decide), st.apart hpk hO he⟩
structure AskG (T n : Nat) where
  (bE bM bA bS : Nat) (S : Hp)
  (h : OwnS Eix 1 T (.slice (some ⟨bE, 0, none⟩) n n) (List.replicate n 0) S)
/-- the captures of the best derivation -/
noncomputable def capsV (w : List UInt8) (re : List Nd) (x : Nd) (ks : F) (p q : Nat) : List Sp := (bst1 w x ks p q (List.replicate (gcn re + 1) noS)).set 0 ⟨p, q⟩
theorem capsV_len {w : List UInt8} {re : List Nd} {x : Nd} {ks : F} {p q : Nat} : (capsV w re x ks p q).length = gcn re + 1 := by rw [capsV, List.length_set, bst1_len, List.length_replicate]
theorem fill_rep {n j : Nat} {l : List Sp} (h : Tab.Fill (fun _ => noS) n j l) (hj : n ≤ j) : l = List.replicate n noS := by
  have := h.done hj
  rw [this]
  apply List.ext_getElem? 
  intro i
  by_cases hi : i < n
  · simp [List.getElem?_range hi, hi]
  · simp [hi]
/-- the groups' numbers have their places -/
def Slots (re : List Nd) (n : Nat) : Prop := ∀ y ∈ re, y.op = 7 → 0 ≤ y.n ∧ y.n.toNat < n
def TakeP (K : AskE) (T : Nat) (ca : Option Addr) (cc N : Nat) (cs : List Sp) (S' : Hp) : Prop := ∃ es c Sc, S' = (K.bM, mpO es c) :: Sc ∧ MapOk K.tx K.re es ∧ OwnS Esp 2 T (.slice ca N cc) cs Sc
def TakeK (P : Program) (K : AskE) (fn T : Nat) (x : Nd) (ks : F) : Prop := ∀ (i i1 p q : Nat) (es : List Me) (c : Nat) (ca : Option Addr) (cc N : Nat) (cs : List Sp) (Sc : Hp), Part K.re (.nd x ks .nil) i i1 → p ≤ q → q ≤ K.tx.length → der1 K.tx x ks p q → MapOk K.tx K.re es → cs.length = N → Slots K.re N → OwnS Esp 2 T (.slice ca N cc) cs Sc →
  Fn P fn [pt K.bS, .int .i64 i, .int .i64 p, .int .i64 q, .slice ca N cc] (fun W => Env W K (keys ((K.bM, mpO es c) :: Sc))) ((K.bM, mpO es c) :: Sc) (fun _ S' => TakeP K T ca cc N (bst1 K.tx x ks p q cs) S')
theorem slots_of {re : List Nd} (h : shapedB re = true) : Slots re (gcn re + 1) := fun y hy h7 => by
  obtain ⟨j, hj, rfl⟩ := List.getElem_of_mem hy
  have := grp_n h (List.getElem?_eq_getElem hj) h7
  omega
def CapsP (K : AskE) (T : Nat) (cs : List Sp) (v : Value) (S' : Hp) : Prop := ∃ es c a cc Sc, v = .slice a cs.length cc ∧ S' = (K.bM, mpO es c) :: Sc ∧ OwnS Esp 2 T (.slice a cs.length cc) cs Sc
end Go.HL.Kl.Mc

/- Part of the proofs over this seat: see the text that holds the theorem. Conditions: each theorem bears its own. -/
namespace Go.Proofs.YtopmnmigpbdddaaDoor
open Go Go.HL Go.Proofs Go.HL.Kl Go.HL.Kl.Mc Go.HL.Kl.Mc.AskE Go.Tab
theorem s_bone {κ : Cx} {L : HL.Loc} {H : Hp} {ty : TypeId} {x : Operand} (c : Cl) (hx : ev L x = some (.agg (Ec c).toArray)) : Step Tryd.prog κ (.build 51 #[(0, .const (.int .i8 1)), (1, x)]) ty L H (.agg (En ⟨1, c, 0, 0, 0, 0⟩).toArray) := by
  refine s_build (zl := En zN) (vs := [.int .i8 1, .agg (Ec c).toArray]) (by rw [En_zero]; rfl) (by simp only [List.map_cons, List.map_nil, hx]; rfl) ?_
  refine .cons (cs := [.int .i8 1]) (l' := En ⟨1, 0, 0, 0, 0, 0⟩) rfl rfl rfl (by rw [En_zero]; rfl) (by rw [En_zero]; simp [splice, En, Ec_zero]) ?_
  exact .cons (cs := Ec c) (l' := En ⟨1, c, 0, 0, 0, 0⟩) rfl rfl rfl (by simp [En, Ec]) (by simp [splice, En, Ec]) .nil
set_option maxHeartbeats 2000000 in
theorem sees_fn (bR : Nat) (er : Bool) (la : Option Addr) (lc : Nat) (l : List Mk) (at_ : Nat) (hat : at_ ≤ l.length) (hll : l.length ≤ 1000000) (rest : List Value) (s : ByteArray) (hs : s.data.toList.length ≤ 100) : HL.Fn Tryd.prog 60 [pt bR, .string s] (fun W => RdP W bR 0 (.bool er :: .slice la l.length lc :: .int .i64 (at_ : Nat) :: rest) ∧ Rd Em W (.slice la l.length lc) l) [] (fun v _ => v = .bool (seesB l at_ s.data.toList)) := by
  refine fn_of Tryd.func60 rfl rfl rfl fun w0 hw => ?_
  have hsl := hw.2.sl
  have hbl := hsl.le
  have hsz : s.size = s.data.toList.length := by simp
  refine c_seq fun _ hK1 => ?_
  refine c_region ?_
  refine o_step rfl (s_assign rfl) ?_
  refine o_nil ?_
  refine x_then (hK1 _ _ ?_)
  refine c_seq fun _ hK2 => ?_
  refine c_seq fun _ hK3 => ?_
  refine c_drawE ([]) (fun i => false) ?_
  refine e_take 0 rfl (by kernel_rfl) (by kernel_rfl) (by kernel_rfl) (by kernel_rfl) (fun _ _ => rfl) rfl (by exact HSub.nil) (s_move rfl) ?_
  refine e_take 1 rfl (by kernel_rfl) (by kernel_rfl) (by kernel_rfl) (by kernel_rfl) (fun _ _ => rfl) rfl (by exact HSub.nil) (s_nil rfl) ?_
  refine e_take 2 rfl (by kernel_rfl) (by kernel_rfl) (by kernel_rfl) (by kernel_rfl) (fun _ _ => rfl) rfl (by exact HSub.nil) (s_field rfl rfl (by decide)) ?_
  refine e_take 3 rfl (by kernel_rfl) (by kernel_rfl) (by kernel_rfl) (by kernel_rfl) (fun _ _ => rfl) rfl (by exact HSub.nil) (s_ld rfl ((RdPK.old0 hw.1).cel (j := 2) rfl rfl)) ?_
  refine e_take 4 rfl (by kernel_rfl) (by kernel_rfl) (by kernel_rfl) (by kernel_rfl) (fun _ _ => rfl) rfl (by exact HSub.nil) (s_move rfl) ?_
  refine e_take 5 rfl (by kernel_rfl) (by kernel_rfl) (by kernel_rfl) (by kernel_rfl) (fun _ _ => rfl) rfl (by exact HSub.nil) (s_lenstr rfl) ?_
  refine e_take 6 rfl (by kernel_rfl) (by kernel_rfl) (by kernel_rfl) (by kernel_rfl) (fun _ _ => rfl) rfl (by exact HSub.nil) (s_add rfl rfl (by omega)) ?_
  refine e_take 7 rfl (by kernel_rfl) (by kernel_rfl) (by kernel_rfl) (by kernel_rfl) (fun _ _ => rfl) rfl (by exact HSub.nil) (s_move rfl) ?_
  refine e_take 8 rfl (by kernel_rfl) (by kernel_rfl) (by kernel_rfl) (by kernel_rfl) (fun _ _ => rfl) rfl (by exact HSub.nil) (s_nil rfl) ?_
  refine e_take 9 rfl (by kernel_rfl) (by kernel_rfl) (by kernel_rfl) (by kernel_rfl) (fun _ _ => rfl) rfl (by exact HSub.nil) (s_field rfl rfl (by decide)) ?_
  refine e_take 10 rfl (by kernel_rfl) (by kernel_rfl) (by kernel_rfl) (by kernel_rfl) (fun _ _ => rfl) rfl (by exact HSub.nil) (s_ld rfl ((RdPK.old0 hw.1).cel (j := 1) rfl rfl)) ?_
  refine e_take 11 rfl (by kernel_rfl) (by kernel_rfl) (by kernel_rfl) (by kernel_rfl) (fun _ _ => rfl) rfl (by exact HSub.nil) (s_len rfl) ?_
  by_cases hgt : (at_ : Int) + s.size > l.length
  ·
   refine e_take 12 rfl (by kernel_rfl) (by kernel_rfl) (by kernel_rfl) (by kernel_rfl) (fun _ _ => rfl) rfl (by exact HSub.nil) (step_cast (v' := .bool true) (s_gtr rfl rfl) (by rw [decide_eq_true (by omega)])) ?_
   refine e_done (by kernel_rfl) ?_
   refine x_then (hK3 _ _ ?_)
   refine c_true rfl ?_
   refine c_seq fun _ hK4 => ?_
   refine c_region ?_
   refine o_step rfl (s_assign rfl) ?_
   refine o_nil ?_
   refine x_then (hK4 _ _ ?_)
   refine c_ret ?_
   refine x_then_ret (?_)
   exact x_ret rfl (.tmp rfl (.nil)) (by rw [seesB_f (fun h => by have := h.1; omega)]; rfl)
  ·
   refine e_take 12 rfl (by kernel_rfl) (by kernel_rfl) (by kernel_rfl) (by kernel_rfl) (fun _ _ => rfl) rfl (by exact HSub.nil) (step_cast (v' := .bool false) (s_gtr rfl rfl) (by rw [decide_eq_false (by omega)])) ?_
   refine e_done (by kernel_rfl) ?_
   refine x_then (hK3 _ _ ?_)
   refine c_false rfl ?_
   refine c_skip ?_
   refine x_then (hK2 _ _ ?_)
   refine c_seq fun _ hK5 => ?_
   refine c_seq fun _ hK6 => ?_
   refine c_region ?_
   refine o_step rfl (s_move rfl) ?_
   refine o_step rfl (s_lenstr rfl) ?_
   refine o_step rfl (s_move rfl) ?_
   refine o_nil ?_
   refine x_then (hK6 _ _ ?_)
   refine c_block ?_
   -- not carried: 4
   refine c_loopB (fun (i : Nat) => i ≤ s.data.toList.length ∧ ∀ j, j < i → seesAt l at_ s.data.toList j) (fun (i : Nat) => [(22, .int .i64 i)]) [(0, _), (1, _), (21, _)] (fun (i : Nat) => []) (fun (i : Nat) => s.data.toList.length - i) 0 ⟨Nat.zero_le _, fun j hj => by omega⟩ sbA sbA hzB ?_
   rintro i ⟨hi, hsa⟩
   refine c_seq fun _ hK7 => ?_
   refine c_region ?_
   by_cases hil : (i : Int) < s.size
   ·
    obtain ⟨m, hm⟩ : ∃ m, l[at_ + i]? = some m := ⟨_, List.getElem?_eq_getElem (by omega)⟩
    have hil2 : i < s.data.toList.length := by omega
    refine o_step rfl (step_cast (v' := .bool true) (s_lss rfl rfl) (by rw [decide_eq_true (by omega)])) ?_
    refine o_nil ?_
    refine x_then (hK7 _ _ ?_)
    refine c_seq fun _ hK8 => ?_
    refine c_true rfl ?_
    refine c_skip ?_
    refine x_then (hK8 _ _ ?_)
    refine c_seq fun _ hK9 => ?_
    refine c_block ?_
    refine c_seq fun _ hK10 => ?_
    refine c_region ?_
    refine o_step rfl (s_move rfl) ?_
    refine o_step rfl (s_assign rfl) ?_
    refine o_nil ?_
    refine x_then (hK10 _ _ ?_)
    refine c_seq fun _ hK11 => ?_
    refine c_drawE ([]) (fun i => false) ?_
    refine e_take 0 rfl (by kernel_rfl) (by kernel_rfl) (by kernel_rfl) (by kernel_rfl) (fun _ _ => rfl) rfl (by exact HSub.nil) (s_move rfl) ?_
    refine e_take 1 rfl (by kernel_rfl) (by kernel_rfl) (by kernel_rfl) (by kernel_rfl) (fun _ _ => rfl) rfl (by exact HSub.nil) (s_nil rfl) ?_
    refine e_take 2 rfl (by kernel_rfl) (by kernel_rfl) (by kernel_rfl) (by kernel_rfl) (fun _ _ => rfl) rfl (by exact HSub.nil) (s_field rfl rfl (by decide)) ?_
    refine e_take 3 rfl (by kernel_rfl) (by kernel_rfl) (by kernel_rfl) (by kernel_rfl) (fun _ _ => rfl) rfl (by exact HSub.nil) (s_ld rfl ((RdPK.old0 hw.1).cel (j := 1) rfl rfl)) ?_
    refine e_take 4 rfl (by kernel_rfl) (by kernel_rfl) (by kernel_rfl) (by kernel_rfl) (fun _ _ => rfl) rfl (by exact HSub.nil) (s_move rfl) ?_
    refine e_take 5 rfl (by kernel_rfl) (by kernel_rfl) (by kernel_rfl) (by kernel_rfl) (fun _ _ => rfl) rfl (by exact HSub.nil) (s_nil rfl) ?_
    refine e_take 6 rfl (by kernel_rfl) (by kernel_rfl) (by kernel_rfl) (by kernel_rfl) (fun _ _ => rfl) rfl (by exact HSub.nil) (s_field rfl rfl (by decide)) ?_
    refine e_take 7 rfl (by kernel_rfl) (by kernel_rfl) (by kernel_rfl) (by kernel_rfl) (fun _ _ => rfl) rfl (by exact HSub.nil) (s_ld rfl ((RdPK.old0 hw.1).cel (j := 2) rfl rfl)) ?_
    refine e_take 8 rfl (by kernel_rfl) (by kernel_rfl) (by kernel_rfl) (by kernel_rfl) (fun _ _ => rfl) rfl (by exact HSub.nil) (s_move rfl) ?_
    refine e_take 9 rfl (by kernel_rfl) (by kernel_rfl) (by kernel_rfl) (by kernel_rfl) (fun _ _ => rfl) rfl (by exact HSub.nil) (s_add rfl rfl (by omega)) ?_
    refine e_take 10 rfl (by kernel_rfl) (by kernel_rfl) (by kernel_rfl) (by kernel_rfl) (fun _ _ => rfl) rfl (by exact HSub.nil) (s_idx rfl rfl hsl (by omega)) ?_
    refine e_take 11 rfl (by kernel_rfl) (by kernel_rfl) (by kernel_rfl) (by kernel_rfl) (fun _ _ => rfl) rfl (by exact HSub.nil) (s_ldB rfl ((RdK.old0 hw.2).cels hm) lnA) ?_
    refine e_one 12 rfl (by kernel_rfl) ?_
    refine o_alloc (l := Em ⟨0, false⟩) rfl rfl fun b6 => ?_
    refine o_nil ?_
    refine x_oneS (by exact HSub.nil) ?_
    refine e_one 13 rfl (by kernel_rfl) ?_
    refine o_stW rfl rfl upA lnA lnA onA ?_
    refine o_nil ?_
    refine x_oneS (by exact HSub.nil) ?_
    refine e_done (by kernel_rfl) ?_
    refine x_then (hK11 _ _ ?_)
    refine c_seq fun _ hK12 => ?_
    refine c_drawE ([(b6, .cells (Em m).toArray 60 (0, 0))]) (fun i => false) ?_
    refine e_take 0 rfl (by kernel_rfl) (by kernel_rfl) (by kernel_rfl) (by kernel_rfl) (fun _ _ => rfl) rfl hzB (s_field rfl rfl (by decide)) ?_
    by_cases hp : m.p = true
    ·
     refine e_take 1 rfl (by kernel_rfl) (by kernel_rfl) (by kernel_rfl) (by kernel_rfl) (fun _ _ => rfl) rfl hzB (step_cast (v' := .bool true) (s_ld rfl (.own meA rfl)) (by rw [hp])) ?_
     refine e_take 2 rfl (by kernel_rfl) (by kernel_rfl) (by kernel_rfl) (by kernel_rfl) (fun _ _ => rfl) rfl hzB (s_move rfl) ?_
     refine e_skip 3 rfl (by kernel_rfl) (by kernel_rfl) (by kernel_rfl) rfl rfl rfl rfl ?_
     refine e_skip 4 rfl (by kernel_rfl) (by kernel_rfl) (by kernel_rfl) rfl rfl rfl rfl ?_
     refine e_skip 5 rfl (by kernel_rfl) (by kernel_rfl) (by kernel_rfl) rfl rfl rfl rfl ?_
     refine e_skip 6 rfl (by kernel_rfl) (by kernel_rfl) (by kernel_rfl) rfl rfl rfl rfl ?_
     refine e_skip 7 rfl (by kernel_rfl) (by kernel_rfl) (by kernel_rfl) rfl rfl rfl rfl ?_
     refine e_skip 8 rfl (by kernel_rfl) (by kernel_rfl) (by kernel_rfl) rfl rfl rfl rfl ?_
     refine e_take 9 rfl (by kernel_rfl) (by kernel_rfl) (by kernel_rfl) (by kernel_rfl) (fun _ _ => rfl) rfl hzB (s_pick_t rfl rfl) ?_
     refine e_done (by kernel_rfl) ?_
     refine x_then (hK12 _ _ ?_)
     refine c_true rfl ?_
     refine c_seq fun _ hK13 => ?_
     refine c_region ?_
     refine o_step rfl (s_assign rfl) ?_
     refine o_nil ?_
     refine x_then (hK13 _ _ ?_)
     refine c_ret ?_
     refine x_block_ret (x_then_ret (x_then_ret (x_block_ret (x_then_ret (?_)))))
     exact x_ret rfl (.tmp rfl (.nil)) (by rw [sees_no hil2 hm (.inl hp)]; rfl)
    ·
     refine e_take 1 rfl (by kernel_rfl) (by kernel_rfl) (by kernel_rfl) (by kernel_rfl) (fun _ _ => rfl) rfl hzB (step_cast (v' := .bool false) (s_ld rfl (.own meA rfl)) (by rw [Bool.eq_false_iff.2 hp])) ?_
     refine e_take 2 rfl (by kernel_rfl) (by kernel_rfl) (by kernel_rfl) (by kernel_rfl) (fun _ _ => rfl) rfl hzB (s_move rfl) ?_
     refine e_take 3 rfl (by kernel_rfl) (by kernel_rfl) (by kernel_rfl) (by kernel_rfl) (fun _ fr => by rw [wanted_of fr rfl rfl rfl]; rfl) rfl hzB (s_field rfl rfl (by decide)) ?_
     refine e_take 4 rfl (by kernel_rfl) (by kernel_rfl) (by kernel_rfl) (by kernel_rfl) (fun _ fr => by rw [wanted_of fr rfl rfl rfl]; rfl) rfl hzB (s_ld rfl (.own meA rfl)) ?_
     refine e_take 5 rfl (by kernel_rfl) (by kernel_rfl) (by kernel_rfl) (by kernel_rfl) (fun _ fr => by rw [wanted_of fr rfl rfl rfl]; rfl) rfl hzB (s_move rfl) ?_
     refine e_take 6 rfl (by kernel_rfl) (by kernel_rfl) (by kernel_rfl) (by kernel_rfl) (fun _ fr => by rw [wanted_of fr rfl rfl rfl]; rfl) rfl hzB (s_move rfl) ?_
     refine e_take 7 rfl (by kernel_rfl) (by kernel_rfl) (by kernel_rfl) (by kernel_rfl) (fun _ fr => by rw [wanted_of fr rfl rfl rfl]; rfl) rfl hzB (s_indexStr hil2 rfl rfl) ?_
     by_cases hb : (m.b.toNat : Int) ≠ ((s.data.toList[i]).toNat : Int)
     ·
      refine e_take 8 rfl (by kernel_rfl) (by kernel_rfl) (by kernel_rfl) (by kernel_rfl) (fun _ fr => by rw [wanted_of fr rfl rfl rfl]; rfl) rfl hzB (step_cast (v' := .bool true) (s_neq rfl rfl) (by rw [decide_eq_true hb])) ?_
      refine e_take 9 rfl (by kernel_rfl) (by kernel_rfl) (by kernel_rfl) (by kernel_rfl) (fun _ _ => rfl) rfl hzB (s_pick_f rfl rfl) ?_
      refine e_done (by kernel_rfl) ?_
      refine x_then (hK12 _ _ ?_)
      refine c_true rfl ?_
      refine c_seq fun _ hK14 => ?_
      refine c_region ?_
      refine o_step rfl (s_assign rfl) ?_
      refine o_nil ?_
      refine x_then (hK14 _ _ ?_)
      refine c_ret ?_
      refine x_block_ret (x_then_ret (x_then_ret (x_block_ret (x_then_ret (?_)))))
      exact x_ret rfl (.tmp rfl (.nil)) (by rw [sees_no hil2 hm (.inr ⟨_, List.getElem?_eq_getElem hil2, fun e => hb (by rw [e])⟩)]; rfl)
     ·
      refine e_take 8 rfl (by kernel_rfl) (by kernel_rfl) (by kernel_rfl) (by kernel_rfl) (fun _ fr => by rw [wanted_of fr rfl rfl rfl]; rfl) rfl hzB (step_cast (v' := .bool false) (s_neq rfl rfl) (by rw [decide_eq_false hb])) ?_
      refine e_take 9 rfl (by kernel_rfl) (by kernel_rfl) (by kernel_rfl) (by kernel_rfl) (fun _ _ => rfl) rfl hzB (s_pick_f rfl rfl) ?_
      refine e_done (by kernel_rfl) ?_
      refine x_then (hK12 _ _ ?_)
      refine c_false rfl ?_
      refine c_skip ?_
      refine x_block ?_
      refine x_then (hK9 _ _ ?_)
      refine c_region ?_
      refine o_step rfl (s_add rfl rfl (by omega)) ?_
      refine o_step rfl (s_move rfl) ?_
      refine o_nil ?_
      exact x_then (x_inv (i + 1) ⟨by omega, fun j hj => (Nat.lt_or_ge j i).elim (hsa j) fun h => (show i = j by omega) ▸ ⟨m, hm, Bool.eq_false_iff.2 hp, by rw [List.getElem?_eq_getElem hil2]; exact congrArg some (UInt8.toNat_inj.1 (by omega))⟩⟩ (by first | omega | (dsimp only; omega)) sbA hzB)
   ·
    refine o_step rfl (step_cast (v' := .bool false) (s_lss rfl rfl) (by rw [decide_eq_false (by omega)])) ?_
    refine o_nil ?_
    refine x_then (hK7 _ _ ?_)
    refine c_seq fun _ hK15 => ?_
    refine c_false rfl ?_
    refine c_exit ?_
    refine x_then_exit ?_
    refine x_then_exit ?_
    refine x_block_exit ?_
    refine x_then (hK5 _ _ ?_)
    refine c_seq fun _ hK16 => ?_
    refine c_region ?_
    refine o_step rfl (s_assign rfl) ?_
    refine o_nil ?_
    refine x_then (hK16 _ _ ?_)
    refine c_ret ?_
    refine ?_
    exact x_ret rfl (.tmp rfl (.nil)) (by rw [seesB_t ⟨by omega, fun j hj => hsa j (by omega)⟩]; rfl)

theorem sign_fn (bR : Nat) (la : Option Addr) (lc : Nat) (l : List Mk) (at_ : Nat) (hat : at_ ≤ l.length) (hll : l.length ≤ 1000000) (rest : List Value) (s : ByteArray) (hs : s.size ≤ 100) : HL.Fn Tryd.prog 78 [pt bR, .string s] (fun W => RdP W bR 0 (.bool false :: .slice la l.length lc :: .int .i64 (at_ : Nat) :: rest) ∧ Rd Em W (.slice la l.length lc) l) [] (fun v _ => v = .string (⟨#[92]⟩ ++ s)) := by
  refine fn_of Tryd.func78 rfl rfl rfl fun w0 hw => ?_
  refine c_seq fun _ hK1 => ?_
  refine c_region ?_
  refine o_step rfl (s_assign rfl) ?_
  refine o_nil ?_
  refine x_then (hK1 _ _ ?_)
  refine c_seq fun _ hK2 => ?_
  refine c_seq fun _ hK3 => ?_
  refine c_region ?_
  refine o_step rfl (s_move rfl) ?_
  refine o_step rfl (s_nil rfl) ?_
  refine o_step rfl (s_field rfl rfl (by decide)) ?_
  refine o_step rfl (s_ld rfl ((RdPK.old0 hw.1).cel (j := 0) rfl rfl)) ?_
  refine o_nil ?_
  refine x_then (hK3 _ _ ?_)
  refine c_false rfl ?_
  refine c_skip ?_
  refine x_then (hK2 _ _ ?_)
  refine c_seq fun _ hK4 => ?_
  refine c_region ?_
  refine o_step rfl (s_move rfl) ?_
  refine o_step rfl (s_addstr rfl rfl (by show 1 + s.size ≤ _; omega)) ?_
  refine o_step rfl (s_assign rfl) ?_
  refine o_nil ?_
  refine x_then (hK4 _ _ ?_)
  refine c_ret ?_
  refine ?_
  exact x_ret rfl (.tmp rfl (.nil)) (rfl)

set_option maxHeartbeats 1000000 in
theorem one_fn (b : UInt8) : HL.Fn Tryd.prog 77 [.int .u8 b.toNat] (fun _ => True) [] (fun v _ => v = .agg (En ⟨1, ofL [b], 0, 0, 0, 0⟩).toArray) := by
  refine fn_of Tryd.func77 rfl rfl rfl fun w0 hw => ?_
  refine c_seq fun _ hK1 => ?_
  refine c_region ?_
  refine o_alloc (l := En zN) (by rw [En_zero]; rfl) rfl fun b2 => ?_
  refine o_nil ?_
  refine x_then (hK1 _ _ ?_)
  refine c_seq fun _ hK2 => ?_
  refine c_region ?_
  refine o_step rfl (s_move rfl) ?_
  refine o_bs (E := Eb) (xs := [b]) (vs := [_]) rfl rfl rfl rfl rfl (by decide) (by decide) fun b4 S4 hS4 => ?_
  refine o_callP (of_fn (some ⟨b4, 0, none⟩) _ [b]) rfl rfl rfl (fun _ st => (hS4.rdk hiA).out _ st) (fun v5 hv5 => ?_)
  subst hv5
  refine o_step rfl (s_bone _ rfl) ?_
  refine o_stW rfl rfl upA lnA lnA onA ?_
  refine o_nil ?_
  refine x_then (hK2 _ _ ?_)
  refine c_ret ?_
  refine ?_
  exact x_ret rfl (.agg inferInstance inferInstance rfl (RdPK.cels (.own meA)) lnA (.nil)) (rfl)
end Go.Proofs.YtopmnmigpbdddaaDoor

/- Part of the proofs over this seat: see the text that holds the theorem. Conditions: each theorem bears its own. -/
namespace Go.Proofs.YtopmnmigpbdddaaDoor
open Go Go.HL Go.Proofs Go.HL.Kl Go.HL.Kl.Mc Go.HL.Kl.Mc.AskE Go.Tab
/-- the reader of a basic regex -/
def mfR (f bR : Nat) : Value := .func (.func f) #[.pointer (some ⟨bR, 0, none⟩)] #[]
def begT (bR : Nat) : List Value := (((((List.replicate 256 Value.nilFunc).set 46 (mfR 53 bR)).set 91 (mfR 54 bR)).set 92 (mfR 55 bR)).set 94 (mfR 56 bR)).set 36 (mfR 57 bR)
def rdC (vl : Value) (at_ : Nat) (bR : Nat) : List Value := .bool false :: vl :: .int .i64 (at_ : Nat) :: (.slice none 0 0 :: .int .i64 0 :: begT bR)
theorem rdC_beg {vl : Value} {at_ bR j : Nat} (hj : j < 256) (h : j ≠ 46 ∧ j ≠ 91 ∧ j ≠ 92 ∧ j ≠ 94 ∧ j ≠ 36) : (rdC vl at_ bR)[5 + j]? = some .nilFunc := by
  have : (rdC vl at_ bR)[5 + j]? = (begT bR)[j]? := by
    rw [show 5 + j = j + 1 + 1 + 1 + 1 + 1 by omega]; rfl
  rw [this, begT, List.getElem?_set_ne (by omega), List.getElem?_set_ne (by omega), List.getElem?_set_ne (by omega), List.getElem?_set_ne (by omega), List.getElem?_set_ne (by omega), List.getElem?_replicate, if_pos hj]
/-- a mark that stands for itself -/
def Lit (m : Mk) : Prop := m.p = false ∧ m.b ≠ 46 ∧ m.b ≠ 91 ∧ m.b ≠ 92 ∧ m.b ≠ 94 ∧ m.b ≠ 36 ∧ m.b ≠ 42
theorem Lit.nat {m : Mk} (h : Lit m) : m.b.toNat ≠ 46 ∧ m.b.toNat ≠ 91 ∧ m.b.toNat ≠ 92 ∧ m.b.toNat ≠ 94 ∧ m.b.toNat ≠ 36 := by
  obtain ⟨_, h1, h2, h3, h4, h5, _⟩ := h
  exact ⟨fun e => h1 (UInt8.toNat_inj.1 e), fun e => h2 (UInt8.toNat_inj.1 e), fun e => h3 (UInt8.toNat_inj.1 e), fun e => h4 (UInt8.toNat_inj.1 e), fun e => h5 (UInt8.toNat_inj.1 e)⟩
theorem lit_42 {l : List Mk} (hl : ∀ m ∈ l, Lit m) (i : Nat) : seesB l i [42] = false := by
  refine seesB_f fun ⟨_, h⟩ => ?_
  obtain ⟨m, h1, _, h3⟩ := h 0 (by decide)
  have hm := hl m (List.mem_of_getElem? h1)
  exact hm.2.2.2.2.2.2 (by simpa using h3.symm)
theorem lit_92 {l : List Mk} (hl : ∀ m ∈ l, Lit m) (i : Nat) (c : UInt8) : seesB l i [92, c] = false := by
  refine seesB_f fun ⟨_, h⟩ => ?_
  obtain ⟨m, h1, _, h3⟩ := h 0 (by simp)
  have hm := hl m (List.mem_of_getElem? h1)
  exact hm.2.2.2.1 (by simpa using h3.symm)
def litN (m : Mk) : Nd := ⟨1, ofL [m.b], 0, 0, 0, 0⟩
set_option maxHeartbeats 1000000 in
theorem repeats_fn (bR : Nat) (la : Option Addr) (lc : Nat) (l : List Mk) (at_ : Nat) (hat : at_ ≤ l.length) (hll : l.length ≤ 1000000) (hlit : ∀ m ∈ l, Lit m)  : HL.Fn Tryd.prog 79 [pt bR] (fun W => RdP W bR 0 (rdC (.slice la l.length lc) at_ bR) ∧ Rd Em W (.slice la l.length lc) l) [] (fun v _ => v = .bool false) := by
  refine fn_of Tryd.func79 rfl rfl rfl fun w0 hw => ?_
  refine c_seq fun _ hK1 => ?_
  refine c_region ?_
  refine o_step rfl (s_assign rfl) ?_
  refine o_nil ?_
  refine x_then (hK1 _ _ ?_)
  refine c_seq fun _ hK2 => ?_
  refine c_region ?_
  refine o_step rfl (s_move rfl) ?_
  refine o_callP (sees_fn bR false la lc l at_ (hat) hll (.slice none 0 0 :: .int .i64 0 :: begT bR) ⟨#[42]⟩ (by decide)) rfl rfl rfl (fun _ st => ⟨(RdPK.old0 hw.1).out _ st, (RdK.old0 hw.2).out _ st⟩) (fun v4 hv4 => ?_)
  rw [show seesB l at_ [42] = false from lit_42 hlit _] at hv4
  subst hv4
  refine o_step rfl (s_move rfl) ?_
  refine o_yes rfl rfl ?_
  refine o_step rfl (s_move rfl) ?_
  refine o_yes rfl rfl ?_
  refine o_step rfl (s_nil rfl) ?_
  refine o_yes rfl rfl ?_
  refine o_step rfl (s_field rfl rfl (by decide)) ?_
  refine o_yes rfl rfl ?_
  refine o_step rfl (s_ld rfl ((RdPK.old0 hw.1).cel (j := 0) rfl rfl)) ?_
  refine o_yes rfl rfl ?_
  refine o_step rfl (s_move rfl) ?_
  refine o_no rfl rfl rfl rfl ?_
  refine o_no rfl rfl rfl rfl ?_
  refine o_no rfl rfl rfl rfl ?_
  refine o_noU rfl rfl rfl ?_
  refine o_noU rfl rfl rfl ?_
  refine o_no rfl rfl rfl rfl ?_
  refine o_yes rfl rfl ?_
  refine o_step rfl (s_pick_f rfl rfl) ?_
  refine o_step rfl (s_pick_f rfl rfl) ?_
  refine o_step rfl (s_move rfl) ?_
  refine o_yes rfl rfl ?_
  refine o_step rfl (s_move rfl) ?_
  refine o_yes rfl rfl ?_
  refine o_step rfl (s_move rfl) ?_
  refine o_yes rfl rfl ?_
  refine o_callP (sign_fn bR la lc l at_ (hat) hll (.slice none 0 0 :: .int .i64 0 :: begT bR) ⟨#[123]⟩ (by decide)) rfl rfl rfl (fun _ st => ⟨(RdPK.old0 hw.1).out _ st, (RdK.old0 hw.2).out _ st⟩) (fun v22 hv22 => ?_)
  subst hv22
  refine o_yes rfl rfl ?_
  refine o_callP (sees_fn bR false la lc l at_ (hat) hll (.slice none 0 0 :: .int .i64 0 :: begT bR) (⟨#[92]⟩ ++ ⟨#[123]⟩) (by decide)) rfl rfl rfl (fun _ st => ⟨(RdPK.old0 hw.1).out _ st, (RdK.old0 hw.2).out _ st⟩) (fun v23 hv23 => ?_)
  rw [show seesB l at_ (⟨#[92]⟩ ++ ⟨#[123]⟩ : ByteArray).data.toList = false from lit_92 hlit _ _] at hv23
  subst hv23
  refine o_step rfl (s_pick_f rfl rfl) ?_
  refine o_step rfl (s_assign rfl) ?_
  refine o_nil ?_
  refine x_then (hK2 _ _ ?_)
  refine c_ret ?_
  refine ?_
  exact x_ret rfl (.tmp rfl (.nil)) (rfl)
end Go.Proofs.YtopmnmigpbdddaaDoor

/- Rules for a scope that holds labels nobody jumps to. Conditions: none. -/
namespace Go.HL
open Go
section
variable {F : Fence} {n : Nat} {P : Program} {Q : Exit → Act → World → Prop} {b : Frame} {a : Act} {k : List Item} {cs : List Frame} {w : World}
theorem stepR_scope {c : Code} : step P (lone (b.atR a (.code (.scope c) :: k)) cs w) = .next (lone (b.atR a (.code c :: .inScope c :: k)) cs w) :=
  step_lone_go (by simp [stepG, stepG.exec, Frame.atR])
theorem stepR_inScope {c : Code} : step P (lone (b.atR a (.inScope c :: k)) cs w) = .next (lone (b.atR a k) cs w) :=
  step_lone_go (by simp [stepG, stepG.exec, Frame.atR])
theorem wpIn_scope {c : Code} (h : c.wpIn F n P (Exit.noGoto Q) a w) : (Code.scope c).wpIn F n P Q a w := by
  intro b k cs hro hb hr
  have h0 : (lone (b.atR a (.code (.scope c) :: k)) cs w).fenced P F := fenced_calm hb hr rfl
  obtain ⟨e, a₁, w₁, hq, harr⟩ := h b (.inScope c :: k) cs hro hb hr
  cases e with
  | normal => exact ⟨.normal, a₁, w₁, hq, .head h0 stepR_scope (StepsIn.trans harr (.one (fenced_calm hb hr rfl) stepR_inScope))⟩
  | exit id =>
    have hx : exitTo id (.inScope c :: k) = exitTo id k := by simp [exitTo]
    exact ⟨.exit id, a₁, w₁, hq, fun k' hk => .head h0 stepR_scope (harr.1 k' (by rw [hx]; exact hk)),
      fun hr' hk => let ⟨k₁, h1, h2⟩ := harr.2 hr' (by rw [hx]; exact hk); ⟨k₁, h1, .head h0 stepR_scope h2⟩⟩
  | goto l => exact hq.elim
  | ret => exact ⟨_, a₁, w₁, hq, .of_steps (.one h0 stepR_scope) harr⟩
  | panic ch => exact ⟨_, a₁, w₁, hq, .of_steps (.one h0 stepR_scope) harr⟩
  | outgrown => exact ⟨_, a₁, w₁, hq, .of_steps (.one h0 stepR_scope) harr⟩
end
section
variable {P : Program} {κ : Cx} {Q : Pst} {L : Loc} {H : Hp}
theorem c_scope {c : Code} (h : C P κ (Exit.noGoto Q) c L H) : C P κ Q (.scope c) L H := ⟨fun ro a w hr ok => wpIn_scope (h.out ro a w (hr.imp id fun h => by simpa [noDefC] using h) ok)⟩
theorem x_scope_ret (h : X κ (Q .ret) L H) : X κ (Exit.noGoto Q .ret) L H := h
end
end Go.HL
