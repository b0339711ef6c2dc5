/- Mathematics of captures: derivations as trees, which of two is the better one, the best one. Conditions: none. -/
import Derived.Test.YtiggliigookieaaKW10Z
namespace Go.HL.Kl.Mc
open Go Go.HL Go.HL.Kl
/-- trees, one behind the other: the first one's node, its span, its kids, the others -/
inductive TF
  | nil
  | nd (a p q : Nat) (ks r : TF)
/-- which of two is the better one -/
def bt : TF → TF → Int
  | .nil, .nil => 0
  | .nd _ _ _ _ _, .nil => 1
  | .nil, .nd _ _ _ _ _ => -1
  | .nd a p q ks r, .nd a' p' q' ks' r' =>
    if a < a' then 1 else if a' < a then -1 else if (q : Int) - p > (q' : Int) - p' then 1 else if (q : Int) - p < (q' : Int) - p' then -1 else if bt ks ks' = 0 then bt r r' else bt ks ks'
theorem bt_self : ∀ T : TF, bt T T = 0
  | .nil => rfl
  | .nd a p q ks r => by simp [bt, bt_self ks, bt_self r]
theorem bt_kid {a p q : Nat} {ks ks' r r' : TF} (h : bt ks ks' ≠ 0) : bt (.nd a p q ks r) (.nd a p q ks' r') = bt ks ks' := by simp [bt, h]
theorem bt_more {a p q : Nat} {ks r r' : TF} : bt (.nd a p q ks r) (.nd a p q ks r') = bt r r' := by simp [bt, bt_self]
theorem bt_lt {a b p q p' q' : Nat} {ks r ks' r' : TF} (h : a < b) : bt (.nd a p q ks r) (.nd b p' q' ks' r') = 1 ∧ bt (.nd b p' q' ks' r') (.nd a p q ks r) = -1 := by
  constructor
  · rw [bt, if_pos h]
  · rw [bt, if_neg (by omega), if_pos h]
theorem bt_long {a p q q' : Nat} {ks r ks' r' : TF} (h : q' < q) : bt (.nd a p q ks r) (.nd a p q' ks' r') = 1 ∧ bt (.nd a p q' ks' r') (.nd a p q ks r) = -1 := by
  constructor
  · rw [bt, if_neg (by omega), if_neg (by omega), if_pos (by omega)]
  · rw [bt, if_neg (by omega), if_neg (by omega), if_neg (by omega), if_pos (by omega)]
/-- the same, or better -/
def Top (D : TF → Prop) (T : TF) : Prop := D T ∧ ∀ T', D T' → T' = T ∨ (bt T T' = 1 ∧ bt T' T = -1)
/-- the rounds that there are, behind r others -/
def RT (x : Nd) (D : Nat → Nat → TF → Prop) : TF → Nat → Nat → Nat → Prop
  | .nil, r, p, q => p = q ∧ x.mn ≤ (r : Int)
  | .nd a p' m ks t, r, p, q => (x.mx = -1 ∨ (r : Int) < x.mx) ∧ p' = p ∧ p ≤ m ∧ (m ≠ p ∨ (r : Int) < x.mn ∨ r = 0) ∧ D p m (.nd a p m ks .nil) ∧ RT x D t (r + 1) m q
/-- the derivations of a forest that stands at a place -/
def dT (w : List UInt8) : F → Bool → Nat → Nat → Nat → TF → Prop
  | .nil, md, _, p, q, T => md = false ∧ p = q ∧ T = .nil
  | .nd x ks r, md, i, p, q, T =>
    let one : Nat → Nat → TF → Prop := fun p q K =>
      if x.op = 1 then K = .nil ∧ q = p + 1 ∧ ∃ b, w[p]? = some b ∧ x.set.getLsbD b.toNat = true
      else if x.op = 2 then K = .nil ∧ p = 0 ∧ q = 0
      else if x.op = 3 then K = .nil ∧ p = w.length ∧ q = p
      else if x.op = 5 then dT w ks true (i + 1) p q K
      else if x.op = 6 then RT x (fun p q K => dT w ks false (i + 1) p q K) K 0 p q
      else dT w ks false (i + 1) p q K
    if md = true then (∃ K, T = .nd i p q K .nil ∧ one p q K) ∨ dT w r true (i + 1 + ks.size) p q T
    else ∃ m K R, T = .nd i p m K R ∧ one p m K ∧ dT w r false (i + 1 + ks.size) m q R
/-- those of one node's kids -/
def d1T (w : List UInt8) (x : Nd) (ks : F) (i p q : Nat) (K : TF) : Prop :=
  if x.op = 1 then K = .nil ∧ q = p + 1 ∧ ∃ b, w[p]? = some b ∧ x.set.getLsbD b.toNat = true
  else if x.op = 2 then K = .nil ∧ p = 0 ∧ q = 0
  else if x.op = 3 then K = .nil ∧ p = w.length ∧ q = p
  else if x.op = 5 then dT w ks true (i + 1) p q K
  else if x.op = 6 then RT x (fun p q K => dT w ks false (i + 1) p q K) K 0 p q
  else dT w ks false (i + 1) p q K
theorem dT_nil {w : List UInt8} {md : Bool} {i p q : Nat} {T : TF} : dT w .nil md i p q T ↔ md = false ∧ p = q ∧ T = .nil := by rw [dT]
theorem dT_alt {w : List UInt8} {x : Nd} {ks r : F} {i p q : Nat} {T : TF} : dT w (.nd x ks r) true i p q T ↔ (∃ K, T = .nd i p q K .nil ∧ d1T w x ks i p q K) ∨ dT w r true (i + 1 + ks.size) p q T := by
  conv => lhs; rw [dT]
  simp only [if_true]; rfl
theorem dT_cat {w : List UInt8} {x : Nd} {ks r : F} {i p q : Nat} {T : TF} : dT w (.nd x ks r) false i p q T ↔ ∃ m K R, T = .nd i p m K R ∧ d1T w x ks i p m K ∧ dT w r false (i + 1 + ks.size) m q R := by
  conv => lhs; rw [dT]
  simp only [Bool.false_eq_true, if_false]; rfl
theorem dT_one {w : List UInt8} {x : Nd} {ks : F} {i p q : Nat} {T : TF} : dT w (.nd x ks .nil) false i p q T ↔ ∃ K, T = .nd i p q K .nil ∧ d1T w x ks i p q K := by
  rw [dT_cat]
  constructor
  · rintro ⟨m, K, R, rfl, h1, h2⟩
    obtain ⟨_, rfl, rfl⟩ := dT_nil.1 h2
    exact ⟨K, rfl, h1⟩
  · rintro ⟨K, rfl, h⟩
    exact ⟨q, K, .nil, rfl, h, dT_nil.2 ⟨rfl, rfl, rfl⟩⟩
theorem RT_RR {x : Nd} {D : Nat → Nat → TF → Prop} {Dd : Nat → Nat → Prop} (h : ∀ p q T, D p q T → Dd p q) (hx : ∀ r : Nat, x.mx = -1 ∨ (r : Int) < x.mx → x.mx = -1 ∨ ((r + 1 : Nat) : Int) ≤ x.mx) : ∀ (K : TF) (r p q : Nat), (x.mx = -1 ∨ (r : Int) ≤ x.mx) → RT x D K r p q → RR x Dd r p q
  | .nil, r, p, q, hr, ⟨h1, h2⟩ => RR_step.2 (.inl ⟨h1, h2, hr⟩)
  | .nd a p' m ks t, r, p, q, hr, ⟨h1, h2, h3, h4, h5, h6⟩ => RR_step.2 (.inr ⟨m, h1, h4, h _ _ _ h5, RT_RR h hx t (r + 1) m q (hx r h1) h6⟩)
theorem dT_der {w : List UInt8} : ∀ (f : F) (md : Bool) (i p q : Nat) (T : TF), f.wf → dT w f md i p q T → der w f md p q
  | .nil, md, i, p, q, T, _, h => by
    obtain ⟨rfl, rfl, _⟩ := dT_nil.1 h
    exact der_nil.2 rfl
  | .nd x ks r, md, i, p, q, T, hw, h => by
    have h1 : ∀ p q K, d1T w x ks i p q K → der1 w x ks p q := by
      intro p q K h
      unfold d1T at h
      split at h
      · rename_i e; exact (der1_1 e).2 h.2
      split at h
      · rename_i e; exact (der1_2 e).2 h.2
      split at h
      · rename_i e; exact (der1_3 e).2 h.2
      split at h
      · rename_i e; exact (der1_5 e).2 (dT_der ks true _ _ _ _ hw.2.2.1 h)
      split at h
      · rename_i e
        have hr := rep_rng hw.1 e
        exact (der1_6 e).2 (RT_RR (Dd := der w ks false) (fun p q T => dT_der ks false _ _ _ _ hw.2.2.1) (fun r (h : x.mx = -1 ∨ (r : Int) < x.mx) => by omega) K 0 p q (by omega) h)
      · rw [der1_def, if_neg (by assumption), if_neg (by assumption), if_neg (by assumption), if_neg (by assumption), if_neg (by assumption)]
        exact dT_der ks false _ _ _ _ hw.2.2.1 h
    cases md with
    | false =>
      obtain ⟨m, K, R, rfl, h2, h3⟩ := dT_cat.1 h
      exact der_cat.2 ⟨m, h1 _ _ _ h2, dT_der r false _ _ _ _ hw.2.2.2 h3⟩
    | true =>
      rcases dT_alt.1 h with ⟨K, rfl, h2⟩ | h2
      · exact der_alt.2 (.inl (h1 _ _ _ h2))
      · exact der_alt.2 (.inr (dT_der r true _ _ _ _ hw.2.2.2 h2))
theorem d1T_der {w : List UInt8} {x : Nd} {ks : F} {i p q : Nat} {K : TF} (hw : (F.nd x ks .nil).wf) (h : d1T w x ks i p q K) : der1 w x ks p q := der_one.1 (dT_der (.nd x ks .nil) false i p q (.nd i p q K .nil) hw (dT_one.2 ⟨K, rfl, h⟩))
theorem dT_at {w : List UInt8} : ∀ (f : F) (i p q : Nat) (T : TF), dT w f true i p q T → ∃ a K, T = .nd a p q K .nil ∧ i ≤ a
  | .nil, i, p, q, T, h => by have := (dT_nil.1 h).1; cases this
  | .nd x ks r, i, p, q, T, h => by
    rcases dT_alt.1 h with ⟨K, rfl, _⟩ | h2
    · exact ⟨i, K, rfl, Nat.le_refl _⟩
    · obtain ⟨a, K, rfl, ha⟩ := dT_at r _ _ _ _ h2
      exact ⟨a, K, rfl, by omega⟩
/-- what groups have taken behind trees, that there was ahead of them; of rounds, ahead of each tree what is in it is forgotten -/
def TldT (re : List Nd) : TF → Option Nat → List Sp → List Sp → Prop
  | .nil, _, cs, cs' => cs' = cs
  | .nd a p q ks r, g, cs, cs' => ∃ x js e cs1, Part re (.nd x js .nil) a e ∧ (∀ b, g = some b → a = b) ∧
      TldT re ks (if x.op = 6 then some (a + 1) else none) (if x.op = 7 then fgt js.flat (if g.isSome = true then fgt (x :: js.flat) cs else cs) else (if g.isSome = true then fgt (x :: js.flat) cs else cs)) cs1 ∧
      TldT re r g (if x.op = 7 then cs1.set x.n.toNat ⟨p, q⟩ else cs1) cs'
theorem TldT_len {re : List Nd} : ∀ (T : TF) (g : Option Nat) (cs cs' : List Sp), TldT re T g cs cs' → cs'.length = cs.length
  | .nil, g, cs, cs', h => by rw [show cs' = cs from h]
  | .nd a p q ks r, g, cs, cs', ⟨x, js, e, cs1, _, _, h1, h2⟩ => by
    have h3 := TldT_len ks _ _ _ h1
    have h4 := TldT_len r _ _ _ h2
    rw [h4]
    have e1 : ∀ c : List Sp, (if g.isSome = true then fgt (x :: js.flat) c else c).length = c.length := fun c => by split <;> simp [fgt_len]
    have e2 : cs1.length = cs.length := by rw [h3]; split <;> simp only [fgt_len, e1]
    split <;> simp [e2]
theorem best_rt {re : List Nd} {w : List UInt8} {x y : Nd} {js : F} {i : Nat} (hok : ndOk x = true) (h6 : x.op = 6) {e : Nat} (hpy : Part re (.nd y js .nil) (i + 1) e)
    (ih : ∀ p q, der w (.nd y js .nil) false p q → ∃ T, Top (dT w (.nd y js .nil) false (i + 1) p q) T ∧ ∀ cs, TldT re T none cs (bst w (.nd y js .nil) false p q cs)) :
    ∀ n r s p q f, (q - p) + (max x.mn.toNat 1 - r) ≤ n → CapR x r s → ((x.mx = -1 ∧ s ≤ max x.mn.toNat 1) ∨ (0 ≤ x.mx ∧ (s : Int) ≤ x.mx)) → (q - p) + (max x.mn.toNat 1 - r) < f → RR x (der w (.nd y js .nil) false) r p q →
    ∃ K, Top (fun K => RT x (fun p q K => dT w (.nd y js .nil) false (i + 1) p q K) K r p q) K ∧ ∀ cs, TldT re K (some (i + 1)) cs (reps x (der w (.nd y js .nil) false) (fun p q cs => bst w (.nd y js .nil) false p q (fgt (F.nd y js .nil).flat cs)) q f s p cs) := by
  have hr := rep_rng hok h6
  have hu : Up (der w (.nd y js .nil) false) := der_up _ _
  have hwf := hpy.wf
  intro n
  induction n with
  | zero =>
    intro r s p q f hn hc hs hf hd
    have hno : ∀ m, p ≤ m → m ≤ q → ¬ RQ x (der w (.nd y js .nil) false) r p q m := fun m h1 h2 hm => by
      rcases hm.2.1 with h | h | h <;> omega
    have hpq := RR_up hu _ _ hd
    obtain ⟨h1, h2, h3⟩ : p = q ∧ x.mn ≤ (r : Int) ∧ (x.mx = -1 ∨ (r : Int) ≤ x.mx) := by
      rcases RR_step.1 hd with h | ⟨m, hm⟩
      · exact h
      · exact absurd hm (hno m (hu _ _ hm.2.2.1) (RR_up hu _ _ hm.2.2.2))
    refine ⟨.nil, ⟨⟨h1, h2⟩, fun K' hK' => ?_⟩, fun cs => ?_⟩
    · cases K' with
      | nil => exact .inl rfl
      | nd a p' m ks t =>
        obtain ⟨a1, a2, a3, a4, a5, a6⟩ := hK'
        have hrr := RT_RR (Dd := der w (.nd y js .nil) false) (fun p q T => dT_der _ false _ _ _ _ hwf) (fun r h => by omega) t (r + 1) m q (by omega) a6
        exact absurd ⟨a1, a4, dT_der _ false _ _ _ _ hwf a5, hrr⟩ (hno m a3 (RR_up hu _ _ hrr))
    · rw [reps_end fun m h1 h2 hm => hno m h1 h2 ((hc.rq).2 hm)]; rfl
  | succ n ihn =>
    intro r s p q f hn hc hs hf hd
    have hout : ∀ K', RT x (fun p q K => dT w (.nd y js .nil) false (i + 1) p q K) K' r p q → K' = .nil ∨ ∃ m ks t, K' = .nd (i + 1) p m ks t ∧ d1T w y js (i + 1) p m ks ∧ RQ x (der w (.nd y js .nil) false) r p q m ∧ p ≤ m ∧ m ≤ q ∧ RT x (fun p q K => dT w (.nd y js .nil) false (i + 1) p q K) t (r + 1) m q := by
      intro K' hK'
      cases K' with
      | nil => exact .inl rfl
      | nd a p' m ks t =>
        obtain ⟨a1, a2, a3, a4, a5, a6⟩ := hK'
        have hrr := RT_RR (Dd := der w (.nd y js .nil) false) (fun p q T => dT_der _ false _ _ _ _ hwf) (fun r h => by omega) t (r + 1) m q (by omega) a6
        obtain ⟨K, e1, e2⟩ := dT_one.1 a5
        cases e1
        exact .inr ⟨m, ks, t, by rw [a2], e2, ⟨a1, a4, dT_der _ false _ _ _ _ hwf a5, hrr⟩, a3, RR_up hu _ _ hrr, a6⟩
    by_cases hex : ∃ m, p ≤ m ∧ m ≤ q ∧ RQ x (der w (.nd y js .nil) false) r p q m
    · obtain ⟨m0, h1, h2, h3⟩ := hex
      obtain ⟨m, hg⟩ := grt_ex h1 h2 h3
      obtain ⟨g1, g2, g3, g4⟩ := hg
      obtain ⟨T1, ⟨hT1, hu1⟩, ht1⟩ := ih p m g3.2.2.1
      obtain ⟨K1, rfl, hK1⟩ := dT_one.1 hT1
      have hg' : Grt (RQ x (der w (.nd y js .nil) false) s p q) p q m := ⟨g1, g2, hc.rq.1 g3, fun n a b h => g4 n a b (hc.rq.2 h)⟩
      have hstep : (q - m) + (max x.mn.toNat 1 - (r + 1)) < (q - p) + (max x.mn.toNat 1 - r) := by
        rcases g3.2.1 with h | h | h <;> omega
      have hs' : (x.mx = -1 ∧ nxtR x s ≤ max x.mn.toNat 1) ∨ (0 ≤ x.mx ∧ ((nxtR x s : Nat) : Int) ≤ x.mx) := by
        unfold nxtR
        split
        · exact .inl ⟨by omega, Nat.min_le_right _ _⟩
        · have := (hc.rq.1 g3).1
          exact .inr ⟨by omega, by omega⟩
      obtain ⟨f, rfl⟩ : ∃ f', f = f' + 1 := ⟨f - 1, by omega⟩
      obtain ⟨K2, ⟨hK2, hu2⟩, ht2⟩ := ihn (r + 1) (nxtR x s) m q f (by omega) (hc.next hs) hs' (by omega) g3.2.2.2
      refine ⟨.nd (i + 1) p m K1 K2, ⟨⟨g3.1, rfl, g1, g3.2.1, hT1, hK2⟩, fun K' hK' => ?_⟩, fun cs => ?_⟩
      · rcases hout K' hK' with rfl | ⟨m', ks, t, rfl, b1, b2, b3, b4, b5⟩
        · exact .inr ⟨rfl, rfl⟩
        · rcases Nat.lt_trichotomy m' m with e | e | e
          · exact .inr (bt_long e)
          · subst e
            rcases hu1 (.nd (i + 1) p m' ks .nil) (dT_one.2 ⟨ks, rfl, b1⟩) with h | ⟨h, h'⟩
            · cases h
              rcases hu2 t b5 with rfl | h
              · exact .inl rfl
              · rw [bt_more, bt_more]; exact .inr h
            · have e1 : bt K1 ks = 1 := by
                by_cases hz : bt K1 ks = 0
                · simp [bt, hz] at h
                · rwa [bt_kid hz] at h
              have e2 : bt ks K1 = -1 := by
                by_cases hz : bt ks K1 = 0
                · simp [bt, hz] at h'
                · rwa [bt_kid hz] at h'
              rw [bt_kid (by rw [e1]; decide), bt_kid (by rw [e2]; decide)]
              exact .inr ⟨e1, e2⟩
          · exact absurd b2 (g4 m' e b4)
      · rw [reps_go hg']
        obtain ⟨x', js', e', cs1, c1, _, c2, c3⟩ := ht1 (fgt (F.nd y js .nil).flat cs)
        obtain ⟨rfl, rfl, rfl⟩ := hpy.uniq1 c1
        refine ⟨y, js, _, cs1, hpy, fun b hb => by cases hb; rfl, ?_, ?_⟩
        · simpa [F.flat] using c2
        · simp only [TldT] at c3
          rw [← c3]; exact ht2 _
    · have hno : ∀ m, p ≤ m → m ≤ q → ¬ RQ x (der w (.nd y js .nil) false) r p q m := fun m h1 h2 hm => hex ⟨m, h1, h2, hm⟩
      obtain ⟨h1, h2, h3⟩ : p = q ∧ x.mn ≤ (r : Int) ∧ (x.mx = -1 ∨ (r : Int) ≤ x.mx) := by
        rcases RR_step.1 hd with h | ⟨m, hm⟩
        · exact h
        · exact absurd hm (hno m (hu _ _ hm.2.2.1) (RR_up hu _ _ hm.2.2.2))
      refine ⟨.nil, ⟨⟨h1, h2⟩, fun K' hK' => ?_⟩, fun cs => ?_⟩
      · rcases hout K' hK' with rfl | ⟨m', ks, t, rfl, b1, b2, b3, b4, b5⟩
        · exact .inl rfl
        · exact absurd b2 (hno m' b3 b4)
      · rw [reps_end fun m h1 h2 hm => hno m h1 h2 ((hc.rq).2 hm)]; rfl
theorem best_ex {re : List Nd} {w : List UInt8} : ∀ (f : F) (md : Bool) (i e p q : Nat), Part re f i e → der w f md p q → ∃ T, Top (dT w f md i p q) T ∧ ∀ cs, TldT re T none cs (bst w f md p q cs)
  | .nil, md, i, e, p, q, _, h => by
    have hm : md = false ∧ p = q := by simpa [der] using h
    obtain ⟨rfl, rfl⟩ := hm
    exact ⟨.nil, ⟨dT_nil.2 ⟨rfl, rfl, rfl⟩, fun T' h' => .inl (dT_nil.1 h').2.2⟩, fun cs => by rw [bst_nil]; rfl⟩
  | .nd x ks r, md, i, e, p, q, hp, h => by
    obtain ⟨hx, hpk, hpr⟩ := hp.head
    have hone := hp.one
    have hwf1 := hone.wf
    have hop : 1 ≤ x.op ∧ x.op ≤ 8 := (flds_iff.1 (by have h := hp.wf.1; simp only [ndOk, Bool.and_eq_true] at h; exact h.1)).1
    have h1 : ∀ p q, der1 w x ks p q → ∃ K, Top (d1T w x ks i p q) K ∧ ∀ cs, ∃ cs1, TldT re K (if x.op = 6 then some (i + 1) else none) (if x.op = 7 then fgt ks.flat cs else cs) cs1 ∧ (if x.op = 7 then cs1.set x.n.toNat ⟨p, q⟩ else cs1) = bst1 w x ks p q cs := by
      intro p q h
      by_cases o3 : x.op ≤ 3
      · refine ⟨.nil, ⟨?_, fun T' h' => .inl ?_⟩, fun cs => ⟨cs, ?_, ?_⟩⟩
        · unfold d1T
          split
          · rename_i e; exact ⟨rfl, (der1_1 e).1 h⟩
          split
          · rename_i e; exact ⟨rfl, (der1_2 e).1 h⟩
          · rw [if_pos (by omega)]; exact ⟨rfl, (der1_3 (by omega)).1 h⟩
        · unfold d1T at h'
          split at h'
          · exact h'.1
          split at h'
          · exact h'.1
          · rw [if_pos (by omega)] at h'; exact h'.1
        · rw [if_neg (show ¬ x.op = 7 by omega)]; rfl
        · rw [if_neg (by omega), bst1_0 o3]
      have hd1 : ∀ K, d1T w x ks i p q K = (if x.op = 5 then dT w ks true (i + 1) p q K else if x.op = 6 then RT x (fun p q K => dT w ks false (i + 1) p q K) K 0 p q else dT w ks false (i + 1) p q K) := fun K => by
        unfold d1T; rw [if_neg (by omega), if_neg (by omega), if_neg (by omega)]
      by_cases o5 : x.op = 5
      · obtain ⟨T, ⟨hT, hu⟩, ht⟩ := best_ex ks true (i + 1) _ p q hpk ((der1_5 o5).1 h)
        refine ⟨T, ⟨by rw [hd1, if_pos o5]; exact hT, fun T' h' => hu T' (by rw [hd1, if_pos o5] at h'; exact h')⟩, fun cs => ⟨bst w ks true p q cs, ?_, ?_⟩⟩
        · rw [if_neg (show ¬ x.op = 7 by omega), if_neg (show ¬ x.op = 6 by omega)]; exact ht cs
        · rw [if_neg (by omega), bst1_5 o5]
      by_cases o6 : x.op = 6
      · obtain ⟨y, js, rfl⟩ := one_kid hwf1 (.inl o6)
        have hr := rep_rng hp.wf.1 o6
        obtain ⟨K, ⟨hK, hu⟩, ht⟩ := best_rt (w := w) hp.wf.1 o6 hpk (fun p q h => best_ex (.nd y js .nil) false (i + 1) _ p q hpk h) _ 0 0 p q ((q - p) + max x.mn.toNat 1 + 1) (Nat.le_refl _) (.inl rfl) (by omega) (by omega) ((der1_6 o6).1 h)
        refine ⟨K, ⟨by rw [hd1, if_neg o5, if_pos o6]; exact hK, fun T' h' => hu T' (by rw [hd1, if_neg o5, if_pos o6] at h'; exact h')⟩, fun cs => ⟨bst1 w x (.nd y js .nil) p q cs, ?_, ?_⟩⟩
        · rw [if_neg (show ¬ x.op = 7 by omega), if_pos o6, bst1_6 o6]; exact ht cs
        · rw [if_neg (by omega)]
      have hdk : der w ks false p q := by
        rw [der1_def, if_neg (by omega), if_neg (by omega), if_neg (by omega), if_neg o5, if_neg o6] at h; exact h
      obtain ⟨T, ⟨hT, hu⟩, ht⟩ := best_ex ks false (i + 1) _ p q hpk hdk
      refine ⟨T, ⟨by rw [hd1, if_neg o5, if_neg o6]; exact hT, fun T' h' => hu T' (by rw [hd1, if_neg o5, if_neg o6] at h'; exact h')⟩, fun cs => ?_⟩
      rw [if_neg o6]
      by_cases o7 : x.op = 7
      · refine ⟨_, by rw [if_pos o7]; exact ht _, ?_⟩
        rw [if_pos o7, bst1_7 o7]
      · refine ⟨_, by rw [if_neg o7]; exact ht _, ?_⟩
        rw [if_neg o7]
        unfold bst1
        by_cases o4 : x.op = 4
        · rw [if_neg o7, if_neg o5, if_pos o4]
        · rw [if_neg o7, if_neg o5, if_neg o4, if_neg o6]
          obtain rfl : ks = .nil := by
            have := hp.wf.1
            simp only [ndOk, kidsOk, Bool.and_eq_true] at this
            have h2 := this.2
            rw [if_neg (by omega), if_neg o4, if_neg o5] at h2
            have hk := hp.wf.2.1
            simp only [decide_eq_true_eq] at h2
            exact F.num_nil (by omega)
          rw [bst_nil]
    cases md with
    | false =>
      obtain ⟨t, h2, h3⟩ := der_cat.1 h
      obtain ⟨m, hg⟩ := grt_ex (Q := fun n => der1 w x ks p n ∧ der w r false n q) (der1_up _ _ h2) (der_up _ _ _ _ h3) ⟨h2, h3⟩
      obtain ⟨K, ⟨hK, hu⟩, ht⟩ := h1 p m hg.2.2.1.1
      obtain ⟨R, ⟨hR, hur⟩, htr⟩ := best_ex r false (i + 1 + ks.size) e m q hpr hg.2.2.1.2
      refine ⟨.nd i p m K R, ⟨dT_cat.2 ⟨m, K, R, rfl, hK, hR⟩, fun T' hT' => ?_⟩, fun cs => ?_⟩
      · obtain ⟨m', K', R', rfl, a1, a2⟩ := dT_cat.1 hT'
        have d1 := d1T_der hwf1 a1
        have d2 := dT_der r false _ _ _ _ hp.wf.2.2.2 a2
        rcases Nat.lt_trichotomy m' m with e' | e' | e'
        · exact .inr (bt_long e')
        · subst e'
          rcases hu K' a1 with rfl | ⟨b1, b2⟩
          · rcases hur R' a2 with rfl | b
            · exact .inl rfl
            · rw [bt_more, bt_more]; exact .inr b
          · rw [bt_kid (by rw [b1]; decide), bt_kid (by rw [b2]; decide)]; exact .inr ⟨b1, b2⟩
        · exact absurd ⟨d1, d2⟩ (hg.2.2.2 m' e' (der_up _ _ _ _ d2))
      · rw [bst_cat hg]
        obtain ⟨cs1, c1, c2⟩ := ht cs
        exact ⟨x, ks, _, cs1, hone, fun b hb => (by cases hb), by simpa using c1, by rw [c2]; exact htr _⟩
    | true =>
      by_cases hd : der1 w x ks p q
      · obtain ⟨K, ⟨hK, hu⟩, ht⟩ := h1 p q hd
        refine ⟨.nd i p q K .nil, ⟨dT_alt.2 (.inl ⟨K, rfl, hK⟩), fun T' hT' => ?_⟩, fun cs => ?_⟩
        · rcases dT_alt.1 hT' with ⟨K', rfl, a1⟩ | a1
          · rcases hu K' a1 with rfl | ⟨b1, b2⟩
            · exact .inl rfl
            · rw [bt_kid (by rw [b1]; decide), bt_kid (by rw [b2]; decide)]; exact .inr ⟨b1, b2⟩
          · obtain ⟨a, K', rfl, ha⟩ := dT_at _ _ _ _ _ a1
            exact .inr (bt_lt (by omega))
        · rw [bst_alt, if_pos (dQ_t hd)]
          obtain ⟨cs1, c1, c2⟩ := ht cs
          exact ⟨x, ks, _, cs1, hone, fun b hb => (by cases hb), by simpa using c1, by rw [c2]; rfl⟩
      · obtain ⟨T, ⟨hT, hu⟩, ht⟩ := best_ex r true (i + 1 + ks.size) e p q hpr ((der_alt.1 h).resolve_left hd)
        refine ⟨T, ⟨dT_alt.2 (.inr hT), fun T' hT' => ?_⟩, fun cs => ?_⟩
        · rcases dT_alt.1 hT' with ⟨K', rfl, a1⟩ | a1
          · exact absurd (d1T_der hwf1 a1) hd
          · exact hu T' a1
        · rw [bst_alt, if_neg (by rw [dQ_f hd]; decide)]; exact ht cs
end Go.HL.Kl.Mc

/- Mathematics of captures: trees in memory; what a listing of derivations gives. Conditions: none. -/
namespace Go.HL.Kl.Mc
open Go Go.HL Go.HL.Kl
def TF.app : TF → TF → TF
  | .nil, t => t
  | .nd a p q ks r, t => .nd a p q ks (r.app t)
def TF.num : TF → Nat
  | .nil => 0
  | .nd _ _ _ _ r => r.num + 1
theorem TF.app_nil : ∀ t : TF, t.app .nil = t
  | .nil => rfl
  | .nd a p q ks r => by rw [app, app_nil r]
theorem TF.app_assoc : ∀ t u v : TF, (t.app u).app v = t.app (u.app v)
  | .nil, _, _ => rfl
  | .nd a p q ks r, u, v => by rw [app, app, app, app_assoc r]
/-- a tree's row -/
structure Rw where
  (a p q : Nat) (ka : Option Addr) (kn kc : Nat)
namespace Rw
abbrev kv (x : Rw) : Value := .slice x.ka x.kn x.kc
end Rw
def Erw (x : Rw) : List Value := [.int .i64 x.a, .int .i64 x.p, .int .i64 x.q, x.kv]
instance : Enc Erw 4 := ⟨fun _ => rfl, fun x v hv => by
  simp only [Erw, List.mem_cons, List.not_mem_nil, or_false] at hv
  rcases hv with rfl | rfl | rfl | rfl <;> rfl⟩
def Bears (S : Hp) (W : World) : Prop := ∀ b o, (b, o) ∈ S → W.heap[b]? = some o
theorem Bears.nil {W : World} : Bears [] W := fun _ _ h => by cases h
theorem Bears.app {S T : Hp} {W : World} : Bears (S ++ T) W ↔ Bears S W ∧ Bears T W :=
  ⟨fun h => ⟨fun b o hm => h b o (List.mem_append_left _ hm), fun b o hm => h b o (List.mem_append_right _ hm)⟩, fun ⟨h, h'⟩ b o hm => (List.mem_append.1 hm).elim (h b o) (h' b o)⟩
theorem Bears.mono {S T : Hp} {W : World} (h : Bears T W) (hs : HIn S T) : Bears S W := fun b o hm => h b o (hs _ hm)
theorem Bears.of {w0 w : World} {M : List Nat} {H S : Hp} (st : St w0 w M H) (hs : HIn S H) : Bears S w := fun b o hm => st.has b o (hs _ hm)
/-- rows that read as trees -/
def Tie (W : World) : TF → List Rw → Prop
  | .nil, xs => xs = []
  | .nd a p q ks r, xs => ∃ x xs', xs = x :: xs' ∧ x.a = a ∧ x.p = p ∧ x.q = q ∧ (∃ ys, x.kn = ys.length ∧ Rd Erw W x.kv ys ∧ Tie W ks ys) ∧ Tie W r xs'
def KidT (W : World) (x : Rw) (ks : TF) : Prop := ∃ ys, x.kn = ys.length ∧ Rd Erw W x.kv ys ∧ Tie W ks ys
def Row (W : World) (x : Rw) (T : TF) : Prop := ∃ ks, T = .nd x.a x.p x.q ks .nil ∧ KidT W x ks
structure Rows (W : World) (xs : List Rw) (ts : List TF) : Prop where
  len : xs.length = ts.length
  get : ∀ (i : Nat) x T, xs[i]? = some x → ts[i]? = some T → Row W x T
theorem Tie.num {W : World} : ∀ {T : TF} {xs : List Rw}, Tie W T xs → xs.length = T.num
  | .nil, xs, h => by rw [show xs = [] from h]; rfl
  | .nd a p q ks r, xs, ⟨x, xs', e, _, _, _, _, h⟩ => by rw [e, List.length_cons, Tie.num h, TF.num]
theorem Tie.one {W : World} {x : Rw} {T : TF} (h : Row W x T) : Tie W T [x] := by
  obtain ⟨ks, rfl, hk⟩ := h
  exact ⟨x, [], rfl, rfl, rfl, rfl, hk, rfl⟩
theorem Tie.app {W : World} : ∀ {T U : TF} {xs ys : List Rw}, Tie W T xs → Tie W U ys → Tie W (T.app U) (xs ++ ys)
  | .nil, U, xs, ys, h, h' => by rw [show xs = [] from h]; exact h'
  | .nd a p q ks r, U, xs, ys, ⟨x, xs', e, h1, h2, h3, h4, h⟩, h' => ⟨x, xs' ++ ys, by rw [e]; rfl, h1, h2, h3, h4, Tie.app h h'⟩
theorem Tie.out {w0 w : World} {M : List Nat} {H : Hp} (st : St w0 w M H) (hM : M = []) : ∀ {T : TF} {xs : List Rw}, Tie w0 T xs → Tie w T xs
  | .nil, xs, h => h
  | .nd a p q ks r, xs, ⟨x, xs', e, h1, h2, h3, ⟨ys, hn, hr, hk⟩, h⟩ => ⟨x, xs', e, h1, h2, h3, ⟨ys, hn, (RdK.old (κ := ⟨0, [], w0, M⟩) (H := H) hr (by subst hM; exact .nil)).out w st, Tie.out st hM hk⟩, Tie.out st hM h⟩
theorem KidT.out {w0 w : World} {H : Hp} (st : St w0 w [] H) {x : Rw} {T : TF} (h : KidT w0 x T) : KidT w x T := by
  obtain ⟨ys, hn, hr, hk⟩ := h
  exact ⟨ys, hn, (RdK.old (κ := ⟨0, [], w0, []⟩) (H := H) hr .nil).out w st, Tie.out st rfl hk⟩
theorem Rows.nil {W : World} : Rows W [] [] := ⟨rfl, fun _ _ _ h => by simp at h⟩
theorem Rows.app {W : World} {xs ys : List Rw} {ts us : List TF} (h : Rows W xs ts) (h' : Rows W ys us) : Rows W (xs ++ ys) (ts ++ us) := by
  refine ⟨by rw [List.length_append, List.length_append, h.len, h'.len], fun i x T hx hT => ?_⟩
  by_cases e : i < xs.length
  · rw [List.getElem?_append_left e] at hx
    rw [List.getElem?_append_left (by rw [← h.len]; exact e)] at hT
    exact h.get i x T hx hT
  · rw [List.getElem?_append_right (by omega)] at hx
    rw [List.getElem?_append_right (by rw [← h.len]; omega)] at hT
    rw [← h.len] at hT
    exact h'.get _ x T hx hT
theorem Rows.one {W : World} {x : Rw} {T : TF} (h : Row W x T) : Rows W [x] [T] := ⟨rfl, fun i y U hy hU => by
  cases i with
  | zero => cases hy; cases hU; exact h
  | succ i => simp at hy⟩
/-- a listing's count of looks, a regex, a text -/
structure CntE where
  (bC : Nat) (ra : Option Addr) (rc : Nat) (re : List Nd) (ta : Option Addr) (tc : Nat) (tx : List UInt8)
namespace CntE
abbrev vre (K : CntE) : Value := .slice K.ra K.re.length K.rc
abbrev vtx (K : CntE) : Value := .slice K.ta K.tx.length K.tc
end CntE
structure CntE.ok (K : CntE) : Prop where
  rng : ∀ x ∈ K.re, -128 ≤ x.op ∧ x.op < 128
  no8 : ∀ x ∈ K.re, ¬ x.op = 8
  len : K.re.length ≤ 200
  tx : K.tx.length ≤ 40
structure PreC (K : CntE) (Sk : Hp) (W : World) : Prop where
  d1 : Rd En W K.vre K.re
  d2 : Rd Eb W K.vtx K.tx
  a1 : Apart [K.bC] K.vre
  a2 : Apart [K.bC] K.vtx
  sk : Bears Sk W
  nk : K.bC ∉ keys Sk
theorem Bears.old {w0 w : World} {b : Nat} {H S : Hp} (st : St w0 w [b] H) (h : Bears S w0) (hn : b ∉ keys S) : Bears S w := fun c o hm => by
  have h0 := h c o hm
  rw [st.old c (lt_of_heap h0) (fun hc => hn (by rw [List.mem_singleton] at hc; subst hc; exact List.mem_map.2 ⟨_, hm, rfl⟩))]
  exact h0
theorem PreC.next {w0 w : World} {K : CntE} {Sk Sn H R : Hp} {o : Obj} (h : PreC K Sk w0) (st : St w0 w [K.bC] H) (hpk : Pick H [(K.bC, o)] R) (hin : HIn Sn R) : PreC K (Sn ++ Sk) w := by
  have st' := st.perm hpk.perm
  refine ⟨(RdK.old (κ := ⟨0, [], w0, [K.bC]⟩) (H := H) h.d1 h.a1).out w st, (RdK.old (κ := ⟨0, [], w0, [K.bC]⟩) (H := H) h.d2 h.a2).out w st, h.a1, h.a2, Bears.app.2 ⟨Bears.of st' fun p hp => List.mem_append_right _ (hin p hp), Bears.old st h.sk h.nk⟩, fun hb => ?_⟩
  simp only [keys, List.map_append, List.mem_append] at hb
  rcases hb with hb | hb
  · obtain ⟨p, hp, e⟩ := List.mem_map.1 hb
    have := hin p hp
    have hnd := st'.nd
    rw [List.singleton_append] at hnd
    exact (List.pairwise_cons.1 hnd).1 p this e.symm
  · exact h.nk hb
theorem PreC.none {w0 w : World} {K : CntE} {Sk H : Hp} (h : PreC K Sk w0) (st : St w0 w [K.bC] H) : PreC K [] w :=
  ⟨(RdK.old (κ := ⟨0, [], w0, [K.bC]⟩) (H := H) h.d1 h.a1).out w st, (RdK.old (κ := ⟨0, [], w0, [K.bC]⟩) (H := H) h.d2 h.a2).out w st, h.a1, h.a2, Bears.nil, by simp [keys]⟩
theorem PreC.out {w0 w : World} {K : CntE} {Sk H : Hp} (h : PreC K Sk w0) (st : St w0 w [K.bC] H) : Bears Sk w := Bears.old st h.sk h.nk
/-- what was found so far: the rows' trees; which they are, if there were looks enough -/
structure Acc (Sk : Hp) (xs : List Rw) (ts : List TF) (G : Hp) (Q : TF → Prop) (L : Int) : Prop where
  rows : ∀ W, Bears G W → Bears Sk W → Rows W xs ts
  mem : 0 ≤ L → ∀ T, T ∈ ts ↔ Q T
theorem Acc.nil {Sk G : Hp} {L : Int} {Q : TF → Prop} (h : ∀ T, ¬ Q T) : Acc Sk [] [] G Q L := ⟨fun _ _ _ => .nil, fun _ T => ⟨fun h => by simp at h, fun hq => absurd hq (h T)⟩⟩
theorem Acc.low {Sk G : Hp} {L : Int} {Q Q' : TF → Prop} {xs : List Rw} {ts : List TF} (h : Acc Sk xs ts G Q L) {L' : Int} (hl : L' ≤ L) (hq : 0 ≤ L' → ∀ T, Q T ↔ Q' T) : Acc Sk xs ts G Q' L' := ⟨h.rows, fun h0 T => (h.mem (by omega) T).trans (hq h0 T)⟩
theorem Acc.more {Sk Sn G G' Ga : Hp} {L L' : Int} {Q Q' : TF → Prop} {xs ys : List Rw} {ts us : List TF} (h : Acc Sk xs ts G Q L) (h' : Acc (Sn ++ Sk) ys us G' Q' L') (hl : L' ≤ L) (h1 : HIn G Ga) (h2 : HIn G' Ga) (h3 : HIn Sn Ga) : Acc Sk (xs ++ ys) (ts ++ us) Ga (fun T => Q T ∨ Q' T) L' :=
  ⟨fun W a b => (h.rows W (a.mono h1) b).app (h'.rows W (a.mono h2) (Bears.app.2 ⟨a.mono h3, b⟩)), fun h0 T => by rw [List.mem_append, h.mem (by omega), h'.mem h0]⟩
theorem Acc.one {Sk G : Hp} {L : Int} {x : Rw} {T : TF} {Q : TF → Prop} (h : ∀ W, Bears G W → Bears Sk W → Row W x T) (hq : ∀ U, Q U ↔ U = T) : Acc Sk [x] [T] G Q L := ⟨fun W a b => .one (h W a b), fun _ U => by rw [List.mem_singleton, hq]⟩
/-- what a listing answers: e more than the looks that were left -/
def AllP (T : Nat) (K : CntE) (L lo : Int) (e : Nat) (Sk : Hp) (Q : TF → Prop) (v : Value) (S' : Hp) : Prop :=
  ∃ (L' : Int) (a : Option Addr) (c : Nat) (xs : List Rw) (ts : List TF) (So : Hp), v = .slice a xs.length c ∧ S' = (K.bC, .cells [.int .i64 L'].toArray T (0, 0)) :: So ∧ RdS Erw (.slice a xs.length c) xs So ∧ Acc Sk xs ts So Q L' ∧
    L' ≤ L ∧ lo ≤ L' ∧ (xs.length : Int) + max L' 0 ≤ max L 0 + e
def loA (L : Int) : Int := if 0 ≤ L then -1000000 * (L + 1) else L - 1
def loR (L : Int) : Int := if 0 ≤ L then -1000000 * (L + 1) - 820041 else L - 41
theorem Acc.grow {Sk G G' : Hp} {xs : List Rw} {ts : List TF} {Q : TF → Prop} {L : Int} (h : Acc Sk xs ts G Q L) (hg : HIn G G') : Acc Sk xs ts G' Q L := ⟨fun W a b => h.rows W (a.mono hg) b, h.mem⟩
/-- behind the first i ones -/
def QI (Q : TF → Prop) (us : List TF) (C : TF → TF → Prop) (i : Nat) (T : TF) : Prop := Q T ∨ ∃ j U, j < i ∧ us[j]? = some U ∧ C U T
theorem QI_zero {Q : TF → Prop} {us : List TF} {C : TF → TF → Prop} {T : TF} : QI Q us C 0 T ↔ Q T := ⟨fun h => h.elim id fun ⟨j, _, h, _⟩ => by omega, .inl⟩
theorem QI_succ {Q : TF → Prop} {us : List TF} {C : TF → TF → Prop} {i : Nat} {T U : TF} (h : us[i]? = some U) : (QI Q us C i T ∨ C U T) ↔ QI Q us C (i + 1) T := by
  constructor
  · rintro ((h1 | ⟨j, V, h1, h2, h3⟩) | h1)
    · exact .inl h1
    · exact .inr ⟨j, V, by omega, h2, h3⟩
    · exact .inr ⟨i, U, by omega, h, h1⟩
  · rintro (h1 | ⟨j, V, h1, h2, h3⟩)
    · exact .inl (.inl h1)
    · by_cases e : j = i
      · subst e; rw [h] at h2; cases h2; exact .inr h3
      · exact .inl (.inr ⟨j, V, by omega, h2, h3⟩)
theorem QI_all {Q D : TF → Prop} {us : List TF} {C : TF → TF → Prop} {n : Nat} {T : TF} (hn : us.length ≤ n) (hd : ∀ U, U ∈ us ↔ D U) : QI Q us C n T ↔ Q T ∨ ∃ U, D U ∧ C U T := by
  constructor
  · rintro (h | ⟨j, U, _, h2, h3⟩)
    · exact .inl h
    · exact .inr ⟨U, (hd U).1 (List.mem_of_getElem? h2), h3⟩
  · rintro (h | ⟨U, h2, h3⟩)
    · exact .inl h
    · obtain ⟨j, hj⟩ := List.mem_iff_getElem?.1 ((hd U).2 h2)
      exact .inr ⟨j, U, Nat.lt_of_lt_of_le (List.getElem?_eq_some_iff.1 hj).1 hn, hj, h3⟩
/-- likewise, of ends from p up to m -/
def QO (Q : TF → Prop) (p : Nat) (D : Nat → TF → Prop) (C : Nat → TF → TF → Prop) (m : Nat) (T : TF) : Prop := Q T ∨ ∃ n, p ≤ n ∧ n < m ∧ ∃ U, D n U ∧ C n U T
theorem QO_zero {Q : TF → Prop} {p : Nat} {D : Nat → TF → Prop} {C : Nat → TF → TF → Prop} {T : TF} : QO Q p D C p T ↔ Q T := ⟨fun h => h.elim id fun ⟨n, _, _, _⟩ => by omega, .inl⟩
theorem QO_succ {Q : TF → Prop} {p m : Nat} {D : Nat → TF → Prop} {C : Nat → TF → TF → Prop} {T : TF} (h : p ≤ m) : (QO Q p D C m T ∨ ∃ U, D m U ∧ C m U T) ↔ QO Q p D C (m + 1) T := by
  constructor
  · rintro ((h1 | ⟨n, h1, h2, h3⟩) | h1)
    · exact .inl h1
    · exact .inr ⟨n, h1, by omega, h3⟩
    · exact .inr ⟨m, h, by omega, h1⟩
  · rintro (h1 | ⟨n, h1, h2, h3⟩)
    · exact .inl (.inl h1)
    · by_cases e : n = m
      · subst e; exact .inr h3
      · exact .inl (.inr ⟨n, h1, by omega, h3⟩)
theorem QO_skip {Q : TF → Prop} {p m : Nat} {D : Nat → TF → Prop} {C : Nat → TF → TF → Prop} {T : TF} (hn : ∀ U, ¬ D m U) : QO Q p D C m T ↔ QO Q p D C (m + 1) T := by
  constructor
  · rintro (h1 | ⟨n, h1, h2, h3⟩)
    · exact .inl h1
    · exact .inr ⟨n, h1, by omega, h3⟩
  · rintro (h1 | ⟨n, h1, h2, U, h3, h4⟩)
    · exact .inl h1
    · by_cases e : n = m
      · subst e; exact absurd h3 (hn U)
      · exact .inr ⟨n, h1, by omega, U, h3, h4⟩
/-- a tree with some kids, those that follow, and others -/
def Goes (so : Rw) (ks : TF) (P : TF → Prop) (T : TF) : Prop := ∃ R, P R ∧ T = .nd so.a so.p so.q (ks.app R) .nil
theorem rows_nil {w : List UInt8} {k p q : Nat} {so : Rw} {ks T : TF} : Goes so ks (dT w .nil false k p q) T ↔ p = q ∧ T = .nd so.a so.p so.q ks .nil := by
  constructor
  · rintro ⟨R, h, rfl⟩
    obtain ⟨_, h1, rfl⟩ := dT_nil.1 h
    exact ⟨h1, by rw [TF.app_nil]⟩
  · rintro ⟨h, rfl⟩
    exact ⟨.nil, dT_nil.2 ⟨rfl, h, rfl⟩, by rw [TF.app_nil]⟩
theorem rows_fin {w : List UInt8} {y : Nd} {js r2 : F} {k p q : Nat} {so : Rw} {ks T : TF} (hw : (F.nd y js r2).wf) :
    QO (fun _ => False) p (fun m U => dT w (.nd y js .nil) false k p m U) (fun m U T => Goes so (ks.app U) (dT w r2 false (k + 1 + js.size) m q) T) (q + 1) T ↔ Goes so ks (dT w (.nd y js r2) false k p q) T := by
  constructor
  · rintro (h | ⟨n, h1, h2, U, h3, R, h4, rfl⟩)
    · exact h.elim
    · obtain ⟨K, rfl, hK⟩ := dT_one.1 h3
      exact ⟨.nd k p n K R, dT_cat.2 ⟨n, K, R, rfl, hK, h4⟩, by rw [TF.app_assoc]; rfl⟩
  · rintro ⟨R0, h, rfl⟩
    obtain ⟨m, K, R, rfl, hK, hR⟩ := dT_cat.1 h
    exact .inr ⟨m, der1_up _ _ (d1T_der ⟨hw.1, hw.2.1, hw.2.2.1, trivial⟩ hK), Nat.lt_succ_of_le (der_up _ _ _ _ (dT_der r2 false _ _ _ _ hw.2.2.2 hR)), .nd k p m K .nil, dT_one.2 ⟨K, rfl, hK⟩, R, hR, by rw [TF.app_assoc]; rfl⟩
theorem rounds_end {x : Nd} {D : Nat → Nat → TF → Prop} {r p q : Nat} {so : Rw} {ks T : TF} (hx : ¬ (x.mx = -1 ∨ (r : Int) < x.mx)) : (p = q ∧ x.mn ≤ (r : Int) ∧ T = .nd so.a so.p so.q ks .nil) ↔ Goes so ks (fun K => RT x D K r p q) T := by
  constructor
  · rintro ⟨h1, h2, rfl⟩; exact ⟨.nil, ⟨h1, h2⟩, by rw [TF.app_nil]⟩
  · rintro ⟨R, h, rfl⟩
    cases R with
    | nil => exact ⟨h.1, h.2, by rw [TF.app_nil]⟩
    | nd a p' m K R => exact absurd h.1 hx
theorem rounds_fin {w : List UInt8} {x y : Nd} {js : F} {i r p q : Nat} {so : Rw} {ks T : TF} (hw : (F.nd y js .nil).wf) (hx : x.mx = -1 ∨ (r : Int) < x.mx) (hok : ∀ r : Nat, x.mx = -1 ∨ (r : Int) < x.mx → x.mx = -1 ∨ ((r + 1 : Nat) : Int) ≤ x.mx) :
    QO (fun T => p = q ∧ x.mn ≤ (r : Int) ∧ T = .nd so.a so.p so.q ks .nil) p (fun m U => (m ≠ p ∨ (r : Int) < x.mn ∨ r = 0) ∧ dT w (.nd y js .nil) false i p m U) (fun m U T => Goes so (ks.app U) (fun K => RT x (fun p q K => dT w (.nd y js .nil) false i p q K) K (r + 1) m q) T) (q + 1) T ↔
    Goes so ks (fun K => RT x (fun p q K => dT w (.nd y js .nil) false i p q K) K r p q) T := by
  constructor
  · rintro (⟨h1, h2, rfl⟩ | ⟨n, h1, h2, U, ⟨h3, h3'⟩, R, h4, rfl⟩)
    · exact ⟨.nil, ⟨h1, h2⟩, by rw [TF.app_nil]⟩
    · obtain ⟨K, rfl, hK⟩ := dT_one.1 h3'
      exact ⟨.nd i p n K R, ⟨hx, rfl, h1, h3, h3', h4⟩, by rw [TF.app_assoc]; rfl⟩
  · rintro ⟨R0, h, rfl⟩
    cases R0 with
    | nil => exact .inl ⟨h.1, h.2, by rw [TF.app_nil]⟩
    | nd a p' m K R =>
      obtain ⟨a1, a2, a3, a4, a5, a6⟩ := h
      obtain ⟨K', e1, hK⟩ := dT_one.1 a5
      cases e1
      subst a2
      have hrr := RT_RR (Dd := der w (.nd y js .nil) false) (fun p q T => dT_der _ false _ _ _ _ hw) hok R (r + 1) m q (hok r a1) a6
      exact .inr ⟨m, a3, Nat.lt_succ_of_le (RR_up (der_up _ _) _ _ hrr), .nd i p' m K .nil, ⟨a4, a5⟩, R, a6, by rw [TF.app_assoc]; rfl⟩
theorem d1T_1 {w : List UInt8} {x : Nd} {ks : F} {i p q : Nat} {K : TF} (h : x.op = 1) : d1T w x ks i p q K ↔ K = .nil ∧ q = p + 1 ∧ ∃ b, w[p]? = some b ∧ x.set.getLsbD b.toNat = true := by rw [d1T, if_pos h]
theorem d1T_2 {w : List UInt8} {x : Nd} {ks : F} {i p q : Nat} {K : TF} (h : x.op = 2) : d1T w x ks i p q K ↔ K = .nil ∧ p = 0 ∧ q = 0 := by rw [d1T, if_neg (by omega), if_pos h]
theorem d1T_3 {w : List UInt8} {x : Nd} {ks : F} {i p q : Nat} {K : TF} (h : x.op = 3) : d1T w x ks i p q K ↔ K = .nil ∧ p = w.length ∧ q = p := by rw [d1T, if_neg (by omega), if_neg (by omega), if_pos h]
theorem d1T_4 {w : List UInt8} {x : Nd} {ks : F} {i p q : Nat} {K : TF} (h : x.op = 4 ∨ x.op = 7) : d1T w x ks i p q K ↔ dT w ks false (i + 1) p q K := by rw [d1T, if_neg (by omega), if_neg (by omega), if_neg (by omega), if_neg (by omega), if_neg (by omega)]
theorem d1T_5 {w : List UInt8} {x : Nd} {ks : F} {i p q : Nat} {K : TF} (h : x.op = 5) : d1T w x ks i p q K ↔ dT w ks true (i + 1) p q K := by rw [d1T, if_neg (by omega), if_neg (by omega), if_neg (by omega), if_pos h]
theorem d1T_6 {w : List UInt8} {x : Nd} {ks : F} {i p q : Nat} {K : TF} (h : x.op = 6) : d1T w x ks i p q K ↔ RT x (fun p q K => dT w ks false (i + 1) p q K) K 0 p q := by rw [d1T, if_neg (by omega), if_neg (by omega), if_neg (by omega), if_neg (by omega), if_pos h]
theorem leafY {w : List UInt8} {x : Nd} {ks : F} {i p q : Nat} (h : ∀ K, d1T w x ks i p q K ↔ K = .nil) (U : TF) : dT w (.nd x ks .nil) false i p q U ↔ U = .nd i p q .nil .nil := by
  rw [dT_one]
  exact ⟨fun ⟨K, e, hk⟩ => by rw [e, (h K).1 hk], fun e => ⟨.nil, e, (h .nil).2 rfl⟩⟩
theorem leafN {w : List UInt8} {x : Nd} {ks : F} {i p q : Nat} (h : ∀ K, ¬ d1T w x ks i p q K) (U : TF) : ¬ dT w (.nd x ks .nil) false i p q U := fun hd => by
  obtain ⟨K, _, hk⟩ := dT_one.1 hd
  exact h K hk
theorem kids0 {W : World} {a p q : Nat} : KidT W ⟨a, p, q, none, 0, 0⟩ .nil := ⟨[], rfl, Rd.nil Erw W, rfl⟩
/-- a tree around another one -/
def Ups (i p q : Nat) (D : TF → Prop) (T : TF) : Prop := ∃ K, D K ∧ T = .nd i p q K .nil
theorem goes_ups {i p q : Nat} {D E : TF → Prop} {T : TF} {a : Option Addr} {n c : Nat} (h : ∀ K, D K ↔ E K) : Goes ⟨i, p, q, a, n, c⟩ .nil D T ↔ Ups i p q E T := ⟨fun ⟨R, h1, h2⟩ => ⟨R, (h R).1 h1, h2⟩, fun ⟨R, h1, h2⟩ => ⟨R, (h R).2 h1, h2⟩⟩
theorem ups_one {w : List UInt8} {x : Nd} {ks : F} {i p q : Nat} {T : TF} : dT w (.nd x ks .nil) false i p q T ↔ Ups i p q (d1T w x ks i p q) T := dT_one.trans ⟨fun ⟨K, h1, h2⟩ => ⟨K, h2, h1⟩, fun ⟨K, h1, h2⟩ => ⟨K, h2, h1⟩⟩
theorem ups_alt {w : List UInt8} {y : Nd} {js r : F} {i m p q : Nat} {T : TF} : Ups i p q (dT w (.nd y js r) true m p q) T ↔ (∃ U, dT w (.nd y js .nil) false m p q U ∧ T = .nd i p q U .nil) ∨ Ups i p q (dT w r true (m + 1 + js.size) p q) T := by
  constructor
  · rintro ⟨K, h1, h2⟩
    rcases dT_alt.1 h1 with h3 | h3
    · exact .inl ⟨K, dT_one.2 h3, h2⟩
    · exact .inr ⟨K, h3, h2⟩
  · rintro (⟨K, h1, h2⟩ | ⟨K, h1, h2⟩)
    · exact ⟨K, dT_alt.2 (.inl (dT_one.1 h1)), h2⟩
    · exact ⟨K, dT_alt.2 (.inr h1), h2⟩
def loB (L : Int) : Int := if 0 ≤ L then -1000000 * (L + 1) - 820000 else L
end Go.HL.Kl.Mc

/- Part of the proofs over this seat: see the text that holds the theorem. Conditions: each theorem bears its own. -/
namespace Go.Proofs.Ytiggliigookieaa
open Go Go.HL Go.Proofs Go.HL.Kl Go.HL.Kl.Mc Go.HL.Kl.Mc.AskE
theorem behind10_fn (ra : Option Addr) (rc : Nat) (re : List Nd) (x : Nd) (ks : F) (i i1 : Nat) (hp : Part re (.nd x ks .nil) i i1) : HL.Fn Try.prog 35 [.slice ra re.length rc, .int .i64 i] (fun w => Rd En w (.slice ra re.length rc) re) [] (fun v _ => v = .int .i64 i1) := by
  refine fn_of Try.func35 rfl rfl rfl fun w0 hw => ?_
  have hsl := hw.sl
  have hbl := hsl.le
  refine c_seq fun _ hK1 => ?_
  refine c_region ?_
  refine o_step rfl (s_assign rfl) ?_
  refine o_nil ?_
  refine x_then (hK1 _ _ ?_)
  refine c_seq fun _ hK2 => ?_
  refine c_region ?_
  refine o_step rfl (s_assign rfl) ?_
  refine o_nil ?_
  refine x_then (hK2 _ _ ?_)
  refine c_seq fun _ hK3 => ?_
  refine c_block ?_
  refine c_loop2 (fun (g : F) (p : Nat) => Part re g p i1) (fun (g : F) (p : Nat) => [(5, .int .i64 g.num), (1, .int .i64 p)]) [(0, _), (4, _)] (fun (g : F) (p : Nat) => _) (fun (g : F) (p : Nat) => i1 - p) (.nd x ks .nil) i hp (by exact Sub.cons' rfl (by rw [F.num, F.num]; rfl) sbA) sbA hzB ?_
  rintro g p hpg
  have hgl := hpg.len
  have hgle := hpg.le
  have hgn := F.num_le g
  refine c_seq fun _ hK4 => ?_
  refine c_seq fun _ hK5 => ?_
  refine c_region ?_
  refine o_step rfl (s_move rfl) ?_
  by_cases hg : (g.num : Int) > 0
  ·
   obtain ⟨y, js, r, rfl⟩ : ∃ y js r, g = F.nd y js r := by cases g with | nil => simp [F.num] at hg | nd y a b => exact ⟨y, a, b, rfl⟩
   have hy := hpg.head.1
   have hyl := (List.getElem?_eq_some_iff.1 hy).1
   have hkn : (js.num : Int) = y.kids := hpg.wf.2.1
   have hjn := F.num_le js
   simp only [F.num] at hg hgn ⊢
   simp only [F.size] at hgl hgn
   refine o_step rfl (step_cast (v' := .bool true) (s_gtr rfl rfl) (by rw [decide_eq_true (by omega)])) ?_
   refine o_nil ?_
   refine x_then (hK5 _ _ ?_)
   refine c_true rfl ?_
   refine c_skip ?_
   refine x_then (hK4 _ _ ?_)
   refine c_block ?_
   refine c_seq fun _ hK6 => ?_
   refine c_region ?_
   refine o_step rfl (s_move rfl) ?_
   refine o_step rfl (s_sub rfl rfl (by omega)) ?_
   refine o_step rfl (s_move rfl) ?_
   refine o_step rfl (s_move rfl) ?_
   refine o_step rfl (s_idx rfl rfl hsl (by omega)) ?_
   refine o_step rfl (s_field rfl rfl (by decide)) ?_
   refine o_step rfl (s_ld rfl ((RdK.old0 hw).ld p 8 hy rfl (by decide) (by omega))) ?_
   refine o_step rfl (s_add rfl rfl (by omega)) ?_
   refine o_step rfl (s_assign rfl) ?_
   refine o_nil ?_
   refine x_then (hK6 _ _ ?_)
   refine c_region ?_
   refine o_step rfl (s_move rfl) ?_
   refine o_step rfl (s_add rfl rfl (by omega)) ?_
   refine o_step rfl (s_assign rfl) ?_
   refine o_nil ?_
   refine x_block ?_
   exact x_then (x_inv ((js.app r), p + 1) hpg.down (by dsimp only; omega) (by exact Sub.cons' rfl (by rw [F.num_app, ← hkn]; congr 1; omega) sbA) hzB)
  ·
   obtain rfl : g = F.nil := F.num_nil (by omega)
   simp only [F.size] at hgl
   refine o_step rfl (step_cast (v' := .bool false) (s_gtr rfl rfl) (by rw [decide_eq_false (by omega)])) ?_
   refine o_nil ?_
   refine x_then (hK5 _ _ ?_)
   refine c_false rfl ?_
   refine c_exit ?_
   refine x_then_exit ?_
   refine x_then_exit ?_
   refine x_block_exit ?_
   refine x_then (hK3 _ _ ?_)
   refine c_seq fun _ hK7 => ?_
   refine c_region ?_
   refine o_step rfl (s_move rfl) ?_
   refine o_step rfl (s_assign rfl) ?_
   refine o_nil ?_
   refine x_then (hK7 _ _ ?_)
   refine c_ret ?_
   refine ?_
   exact x_ret rfl (.tmp rfl (.nil)) ((congrArg (Value.int .i64) (by omega)))

set_option maxHeartbeats 1000000 in
theorem forget10_fn (K : WalkE) (hK : K.ok) (y : Nd) (js : F) (a i1 : Nat) (hpa : Part K.re (.nd y js .nil) a i1) (cs : List Sp) (Sc : Hp) (hcl : cs.length = K.N) (hsl8 : Slots K.re K.N) (hO : OwnS Esp 2 25 K.vca cs Sc) : HL.Fn Try.prog 45 [pt K.bW, .int .i64 a] (fun W => EnvW W K (keys Sc)) Sc (fun _ S' => OwnS Esp 2 25 K.vca (fgt (F.nd y js .nil).flat cs) S') := by
  refine fn_of Try.func45 rfl rfl rfl fun w0 hw => ?_
  have hsl := hw.d1.sl
  have hrl := hK.len
  have hal := hpa.le
  have hpl := hpa.len
  simp only [F.size] at hpl
  refine c_seq fun _ hK1 => ?_
  refine c_region ?_
  refine o_step rfl (s_move rfl) ?_
  refine o_step rfl (s_nil rfl) ?_
  refine o_step rfl (s_field rfl rfl (by decide)) ?_
  refine o_step rfl (s_ld rfl ((RdPK.old hw.p1 hw.n1).cel (j := 0) rfl rfl)) ?_
  refine o_step rfl (s_move rfl) ?_
  refine o_callP (behind10_fn K.ra K.rc K.re y js a _ hpa) rfl rfl rfl (fun w2 st => (RdK.old hw.d1 hw.a1).out w2 st) (fun v11 hv11 => ?_)
  subst hv11
  refine o_step rfl (s_assign rfl) ?_
  refine o_nil ?_
  refine x_then (hK1 _ _ ?_)
  refine c_seq fun _ hK2 => ?_
  refine c_region ?_
  refine o_step rfl (s_move rfl) ?_
  refine o_step rfl (s_assign rfl) ?_
  refine o_nil ?_
  refine x_then (hK2 _ _ ?_)
  refine c_block ?_
  refine c_loop3 (fun (j : Nat) (l : List Sp) (S : Hp) => a ≤ j ∧ j ≤ i1 ∧ l = fgtTo K.re a j cs ∧ OwnS Esp 2 25 K.vca l S) (fun (j : Nat) (l : List Sp) (S : Hp) => [(5, .int .i64 j)]) [(0, _), (4, _)] (fun (j : Nat) (l : List Sp) (S : Hp) => S) (fun (j : Nat) (l : List Sp) (S : Hp) => i1 - j) a cs Sc ⟨Nat.le_refl _, by omega, fgtTo_start.symm, hO⟩ sbA sbA hzB ?_
  rintro j l S ⟨hj1, hj2, hl, hS⟩
  have hll : l.length = K.N := by rw [hl, fgtTo_len, hcl]
  have hls := hS.sl
  rw [hll] at hls
  refine c_seq fun _ hK3 => ?_
  refine c_seq fun _ hK4 => ?_
  refine c_region ?_
  refine o_step rfl (s_move rfl) ?_
  refine o_step rfl (s_move rfl) ?_
  by_cases hjl : (j : Int) < i1
  ·
   obtain ⟨x, hxj⟩ : ∃ x, K.re[j]? = some x := ⟨_, List.getElem?_eq_getElem (by omega)⟩
   have hxm := List.mem_of_getElem? hxj
   have hxo := hK.rng x hxm
   refine o_step rfl (step_cast (v' := .bool true) (s_lss rfl rfl) (by rw [decide_eq_true (by omega)])) ?_
   refine o_nil ?_
   refine x_then (hK4 _ _ ?_)
   refine c_true rfl ?_
   refine c_skip ?_
   refine x_then (hK3 _ _ ?_)
   refine c_seq fun _ hK5 => ?_
   refine c_block ?_
   refine c_seq fun _ hK6 => ?_
   refine c_region ?_
   refine o_step rfl (s_move rfl) ?_
   refine o_step rfl (s_nil rfl) ?_
   refine o_step rfl (s_field rfl rfl (by decide)) ?_
   refine o_step rfl (s_ld rfl ((RdPK.old hw.p1 hw.n1).cel (j := 0) rfl rfl)) ?_
   refine o_step rfl (s_move rfl) ?_
   refine o_step rfl (s_idx rfl rfl hsl (by omega)) ?_
   refine o_step rfl (s_field rfl rfl (by decide)) ?_
   refine o_step rfl (s_ld rfl ((RdK.old hw.d1 hw.a1).ld j 0 hxj rfl (by decide) (by omega))) ?_
   refine o_step rfl (s_convI rfl (by omega)) ?_
   by_cases h7 : x.op = 7
   ·
    have hx7 := hsl8 x hxm h7
    refine o_step rfl (step_cast (v' := .bool true) (s_eql rfl rfl) (by rw [decide_eq_true h7])) ?_
    refine o_nil ?_
    refine x_then (hK6 _ _ ?_)
    refine c_true rfl ?_
    refine c_drawE ([]) (fun i => false) ?_
    refine e_take 0 rfl (by kernel_rfl) (by kernel_rfl) (by kernel_rfl) (by kernel_rfl) (fun _ _ => rfl) rfl (by exact HSub.nil) (s_move rfl) ?_
    refine e_take 1 rfl (by kernel_rfl) (by kernel_rfl) (by kernel_rfl) (by kernel_rfl) (fun _ _ => rfl) rfl (by exact HSub.nil) (s_nil rfl) ?_
    refine e_take 2 rfl (by kernel_rfl) (by kernel_rfl) (by kernel_rfl) (by kernel_rfl) (fun _ _ => rfl) rfl (by exact HSub.nil) (s_field rfl rfl (by decide)) ?_
    refine e_take 3 rfl (by kernel_rfl) (by kernel_rfl) (by kernel_rfl) (by kernel_rfl) (fun _ _ => rfl) rfl (by exact HSub.nil) (s_ld rfl ((RdPK.old hw.p1 hw.n1).cel (j := 2) rfl rfl)) ?_
    refine e_take 4 rfl (by kernel_rfl) (by kernel_rfl) (by kernel_rfl) (by kernel_rfl) (fun _ _ => rfl) rfl (by exact HSub.nil) (s_move rfl) ?_
    refine e_take 5 rfl (by kernel_rfl) (by kernel_rfl) (by kernel_rfl) (by kernel_rfl) (fun _ _ => rfl) rfl (by exact HSub.nil) (s_nil rfl) ?_
    refine e_take 6 rfl (by kernel_rfl) (by kernel_rfl) (by kernel_rfl) (by kernel_rfl) (fun _ _ => rfl) rfl (by exact HSub.nil) (s_field rfl rfl (by decide)) ?_
    refine e_take 7 rfl (by kernel_rfl) (by kernel_rfl) (by kernel_rfl) (by kernel_rfl) (fun _ _ => rfl) rfl (by exact HSub.nil) (s_ld rfl ((RdPK.old hw.p1 hw.n1).cel (j := 0) rfl rfl)) ?_
    refine e_take 8 rfl (by kernel_rfl) (by kernel_rfl) (by kernel_rfl) (by kernel_rfl) (fun _ _ => rfl) rfl (by exact HSub.nil) (s_move rfl) ?_
    refine e_take 9 rfl (by kernel_rfl) (by kernel_rfl) (by kernel_rfl) (by kernel_rfl) (fun _ _ => rfl) rfl (by exact HSub.nil) (s_idx rfl rfl hsl (by omega)) ?_
    refine e_take 10 rfl (by kernel_rfl) (by kernel_rfl) (by kernel_rfl) (by kernel_rfl) (fun _ _ => rfl) rfl (by exact HSub.nil) (s_field rfl rfl (by decide)) ?_
    refine e_take 11 rfl (by kernel_rfl) (by kernel_rfl) (by kernel_rfl) (by kernel_rfl) (fun _ _ => rfl) rfl (by exact HSub.nil) (s_ld rfl ((RdK.old hw.d1 hw.a1).ld j 5 hxj rfl (by decide) (by omega))) ?_
    refine e_take 12 rfl (by kernel_rfl) (by kernel_rfl) (by kernel_rfl) (by kernel_rfl) (fun _ _ => rfl) rfl (by exact HSub.nil) (step_cast (v' := .agg (Esp noS).toArray) (s_build (cs := [_, _]) (vs := [_, _]) rfl rfl (.cons rfl rfl rfl rfl rfl (.cons rfl rfl rfl rfl rfl (.nil)))) rfl) ?_
    refine e_take 13 rfl (by kernel_rfl) (by kernel_rfl) (by kernel_rfl) (by kernel_rfl) (fun _ _ => rfl) rfl (by exact HSub.nil) (s_idx rfl rfl hls (by omega)) ?_
    refine e_one 14 rfl (by kernel_rfl) ?_
    refine o_stSE x.n.toNat noS hS pkA rfl rfl (by omega) (by rfl) fun S' hS' => ?_
    rw [List.append_nil]
    refine o_nil ?_
    refine x_oneS (by exact HSub.nil) ?_
    refine e_done (by kernel_rfl) ?_
    refine x_block ?_
    refine x_then (hK5 _ _ ?_)
    refine c_region ?_
    refine o_step rfl (s_move rfl) ?_
    refine o_step rfl (s_add rfl rfl (by omega)) ?_
    refine o_step rfl (s_assign rfl) ?_
    refine o_nil ?_
    exact x_then (x_inv (j + 1, _, _) ⟨by omega, by omega, by dsimp only; rw [fgtTo_step hxj hj1, ← hl, fg1, if_pos h7], hS'⟩ (by first | omega | (dsimp only; omega)) sbA hzB)
   ·
    refine o_step rfl (step_cast (v' := .bool false) (s_eql rfl rfl) (by rw [decide_eq_false h7])) ?_
    refine o_nil ?_
    refine x_then (hK6 _ _ ?_)
    refine c_false rfl ?_
    refine c_skip ?_
    refine x_block ?_
    refine x_then (hK5 _ _ ?_)
    refine c_region ?_
    refine o_step rfl (s_move rfl) ?_
    refine o_step rfl (s_add rfl rfl (by omega)) ?_
    refine o_step rfl (s_assign rfl) ?_
    refine o_nil ?_
    exact x_then (x_inv (j + 1, _, _) ⟨by omega, by omega, by dsimp only; rw [fgtTo_step hxj hj1, ← hl, fg1, if_neg h7], hS⟩ (by first | omega | (dsimp only; omega)) sbA hzB)
  ·
   obtain rfl : j = i1 := by omega
   refine o_step rfl (step_cast (v' := .bool false) (s_lss rfl rfl) (by rw [decide_eq_false (by omega)])) ?_
   refine o_nil ?_
   refine x_then (hK4 _ _ ?_)
   refine c_false rfl ?_
   refine c_exit ?_
   refine x_then_exit ?_
   refine x_then_exit ?_
   refine x_block_exit ?_
   refine x_sub (Sub.refl _) (H' := S) hzB ?_
   exact x_end rfl (.nil) ((by rw [hl, fgtTo_part hpa] at hS; exact hS))
set_option maxHeartbeats 1000000 in
theorem none10_fn (ra : Option Addr) (rc : Nat) (re : List Nd) (hre : ∀ x ∈ re, -128 ≤ x.op ∧ x.op < 128) (hsb : shapedB re = true) (hrl : re.length ≤ 1000000) : HL.Fn Try.prog 27 [.slice ra re.length rc] (fun w => Rd En w (.slice ra re.length rc) re) [] (fun v S' => ∃ a c, v = .slice a (gcn re + 1) c ∧ OwnS Esp 2 25 (.slice a (gcn re + 1) c) (List.replicate (gcn re + 1) noS) S') := by
  refine fn_of Try.func27 rfl rfl rfl fun w0 hw => ?_
  have hgl : gcn re ≤ re.length := List.countP_le_length
  refine c_seq fun _ hK1 => ?_
  refine c_region ?_
  refine o_step rfl (s_assign rfl) ?_
  refine o_nil ?_
  refine x_then (hK1 _ _ ?_)
  refine c_seq fun _ hK2 => ?_
  refine c_region ?_
  refine o_step rfl (s_assign rfl) ?_
  refine o_nil ?_
  refine x_then (hK2 _ _ ?_)
  refine c_seq fun _ hK3 => ?_
  refine c_seq fun _ hK4 => ?_
  refine c_region ?_
  refine o_step rfl (s_assign rfl) ?_
  refine o_nil ?_
  refine x_then (hK4 _ _ ?_)
  refine c_block ?_
  refine c_loop3 (fun (j : Nat) (q : Sl Sp) (S : Hp) => j ≤ gcn re + 1 ∧ q.xs = List.replicate j noS ∧ OwnS Esp 2 25 (.slice q.a q.xs.length q.c) q.xs S) (fun (j : Nat) (q : Sl Sp) (S : Hp) => [(4, .int .i64 j), (3, .slice q.a q.xs.length q.c)]) [(0, _), (2, _)] (fun (j : Nat) (q : Sl Sp) (S : Hp) => S) (fun (j : Nat) (q : Sl Sp) (S : Hp) => gcn re + 1 - j) 0 ⟨none, 0, []⟩ [] ⟨by omega, rfl, .nil⟩ sbA sbA hzB ?_
  rintro j q S ⟨hj, hq, hS⟩
  have hql : q.xs.length = j := by rw [hq, List.length_replicate]
  refine c_seq fun _ hK5 => ?_
  refine c_seq fun _ hK6 => ?_
  refine c_region ?_
  refine o_step rfl (s_move rfl) ?_
  refine o_step rfl (s_move rfl) ?_
  refine o_callP (rGroups_fn ra rc re hre) rfl rfl rfl (fun w st => (RdK.old0 hw).out w st) (fun v7 hv7 => ?_)
  rw [hsb, if_pos rfl] at hv7
  subst hv7
  by_cases hjl : (j : Int) ≤ gcn re
  ·
   refine o_step rfl (step_cast (v' := .bool true) (s_leq rfl rfl) (by rw [decide_eq_true (by omega)])) ?_
   refine o_nil ?_
   refine x_then (hK6 _ _ ?_)
   refine c_true rfl ?_
   refine c_skip ?_
   refine x_then (hK5 _ _ ?_)
   refine c_seq fun _ hK7 => ?_
   refine c_block ?_
   refine c_region ?_
   refine o_step rfl (s_move rfl) ?_
   refine o_step rfl (step_cast (v' := .agg (Esp noS).toArray) (s_build (cs := [_, _]) (vs := [_, _]) rfl rfl (.cons rfl rfl rfl rfl rfl (.cons rfl rfl rfl rfl rfl (.nil)))) rfl) ?_
   refine o_bs (E := Esp) (xs := [noS]) (vs := [_]) rfl rfl rfl rfl rfl (by decide) (by decide) fun b13 S13 hS13 => ?_
   refine o_app hS (hS13.rdk hiA) rfl rfl rfl rfl (by simp; omega) (by simp; omega) rfl pkA fun a14 c14 S14 hS14 => ?_
   refine o_step rfl (s_assign rfl) ?_
   refine o_nil ?_
   refine x_block ?_
   refine x_then (hK7 _ _ ?_)
   refine c_region ?_
   refine o_step rfl (s_move rfl) ?_
   refine o_step rfl (s_add rfl rfl (by omega)) ?_
   refine o_step rfl (s_assign rfl) ?_
   refine o_nil ?_
   exact x_then (x_inv (j + 1, ⟨a14, c14, q.xs ++ [noS]⟩, S14) ⟨by omega, by dsimp only; rw [hq, List.replicate_succ'], hS14⟩ (by first | omega | (dsimp only; omega)) sbA hzB)
  ·
   obtain rfl : j = gcn re + 1 := by omega
   refine o_step rfl (step_cast (v' := .bool false) (s_leq rfl rfl) (by rw [decide_eq_false (by omega)])) ?_
   refine o_nil ?_
   refine x_then (hK6 _ _ ?_)
   refine c_false rfl ?_
   refine c_exit ?_
   refine x_then_exit ?_
   refine x_then_exit ?_
   refine x_block_exit ?_
   refine x_then (hK3 _ _ ?_)
   refine c_seq fun _ hK8 => ?_
   refine c_region ?_
   refine o_step rfl (s_move rfl) ?_
   refine o_step rfl (s_assign rfl) ?_
   refine o_nil ?_
   refine x_then (hK8 _ _ ?_)
   refine c_ret ?_
   refine ?_
   refine x_sub (Sub.refl _) (H' := S) hzB ?_
   rw [hql, hq] at hS
   exact x_ret rfl (.tmp rfl (.nil)) (⟨q.a, q.c, by rw [hql]; rfl, hS⟩)

end Go.Proofs.Ytiggliigookieaa
