/- Mathematics of captures: one tree's derivations by its kind. Conditions: none. -/
import Derived.Test.YtloepfcndglmmaaDoorHM2Z
import Derived.Test.YtloepfcndglmmaaDoorVZN4Z
import Derived.Test.YtloepfcndglmmaaDoorHlB
import Derived.Test.YtloepfcndglmmaaDoorHTZ
import Derived.Test.YtloepfcndglmmaaDoorMT3Z
namespace Go.HL.Kl.Mc
open Go Go.HL Go.HL.Kl
theorem der1_1 {w : List UInt8} {x : Nd} {ks : F} {p q : Nat} (h : x.op = 1) : der1 w x ks p q ↔ q = p + 1 ∧ ∃ b, w[p]? = some b ∧ x.set.getLsbD b.toNat = true := by rw [der1_def, if_pos h]
theorem der1_2 {w : List UInt8} {x : Nd} {ks : F} {p q : Nat} (h : x.op = 2) : der1 w x ks p q ↔ p = 0 ∧ q = 0 := by rw [der1_def, if_neg (by omega), if_pos h]
theorem der1_3 {w : List UInt8} {x : Nd} {ks : F} {p q : Nat} (h : x.op = 3) : der1 w x ks p q ↔ p = w.length ∧ q = p := by rw [der1_def, if_neg (by omega), if_neg (by omega), if_pos h]
theorem der1_4 {w : List UInt8} {x : Nd} {ks : F} {p q : Nat} (h : x.op = 4 ∨ x.op = 7) : der1 w x ks p q ↔ der w ks false p q := by rw [der1_def, if_neg (by omega), if_neg (by omega), if_neg (by omega), if_neg (by omega), if_neg (by omega)]
theorem der1_5 {w : List UInt8} {x : Nd} {ks : F} {p q : Nat} (h : x.op = 5) : der1 w x ks p q ↔ der w ks true p q := by rw [der1_def, if_neg (by omega), if_neg (by omega), if_neg (by omega), if_pos h]
theorem der1_6 {w : List UInt8} {x : Nd} {ks : F} {p q : Nat} (h : x.op = 6) : der1 w x ks p q ↔ RR x (der w ks false) 0 p q := by rw [der1_def, if_neg (by omega), if_neg (by omega), if_neg (by omega), if_neg (by omega), if_pos h, rounds_RR]
theorem one_kid {x : Nd} {ks : F} (hw : (F.nd x ks .nil).wf) (h : x.op = 6 ∨ x.op = 7) : ∃ y js, ks = .nd y js .nil := by
  have hok : ndOk x = true := hw.1
  have hk : (ks.num : Int) = x.kids := hw.2.1
  have h1 : x.kids = 1 := by
    simp only [ndOk, Bool.and_eq_true] at hok
    have := hok.2
    simp only [kidsOk] at this
    rcases h with h | h <;> simp [h] at this <;> omega
  cases ks with
  | nil => simp [F.num] at hk; omega
  | nd y js r =>
    cases r with
    | nil => exact ⟨y, js, rfl⟩
    | nd z a b => simp [F.num] at hk; omega
def Up (D : Nat → Nat → Prop) : Prop := ∀ p q, D p q → p ≤ q
theorem pow_up {D : Nat → Nat → Prop} (h : Up D) : ∀ k, Up (pow D k)
  | 0, p, q, e => Nat.le_of_eq e
  | k + 1, p, q, ⟨t, h1, h2⟩ => Nat.le_trans (h p t h1) (pow_up h k t q h2)
theorem RR_up {x : Nd} {D : Nat → Nat → Prop} {r : Nat} (h : Up D) : Up (RR x D r) := fun p q ⟨k, _, _, hk⟩ => pow_up h k p q hk
theorem der_up {w : List UInt8} : ∀ (f : F) (md : Bool), Up (der w f md)
  | .nil, md, p, q, h => by
    obtain ⟨_, rfl⟩ : md = false ∧ p = q := by simpa [der] using h
    exact Nat.le_refl _
  | .nd x ks r, md, p, q, h => by
    have h1 : Up (der1 w x ks) := by
      intro p q h
      rw [der1_def] at h
      split at h
      · omega
      split at h
      · omega
      split at h
      · omega
      split at h
      · exact der_up ks true p q h
      split at h
      · rw [rounds_RR] at h; exact RR_up (der_up ks false) p q h
      · exact der_up ks false p q h
    cases md with
    | false =>
      obtain ⟨t, h2, h3⟩ := der_cat.1 h
      exact Nat.le_trans (h1 p t h2) (der_up r false t q h3)
    | true =>
      rcases der_alt.1 h with h2 | h2
      · exact h1 p q h2
      · exact der_up r true p q h2
theorem der1_up {w : List UInt8} {x : Nd} {ks : F} : Up (der1 w x ks) := der_up _ _
def nxtR (x : Nd) (r : Nat) : Nat := if x.mx < 0 then min (r + 1) (max x.mn.toNat 1) else r + 1
theorem RR_nxt {x : Nd} {D : Nat → Nat → Prop} {r p q : Nat} (h : x.mx = -1 ∨ 0 ≤ x.mx) : RR x D (nxtR x r) p q ↔ RR x D (r + 1) p q := by
  unfold nxtR
  split
  · rcases Nat.le_total (r + 1) (max x.mn.toNat 1) with h1 | h1
    · rw [Nat.min_eq_left h1]
    · rw [Nat.min_eq_right h1]
      exact RR_cap (by omega) (by omega) (by omega)
  · exact Iff.rfl
structure Sp where
  fr : Int
  to : Int
  deriving DecidableEq
def Esp (s : Sp) : List Value := [.int .i64 s.fr, .int .i64 s.to]
instance : Enc Esp 2 := ⟨fun _ => rfl, fun x v hv => by
  simp only [Esp, List.mem_cons, List.not_mem_nil, or_false] at hv
  rcases hv with rfl | rfl <;> rfl⟩
def noS : Sp := ⟨-1, -1⟩
def fg1 (cs : List Sp) (x : Nd) : List Sp := if x.op = 7 then cs.set x.n.toNat noS else cs
def fgt (l : List Nd) (cs : List Sp) : List Sp := l.foldl fg1 cs
theorem fg1_len (cs : List Sp) (x : Nd) : (fg1 cs x).length = cs.length := by unfold fg1; split <;> simp
theorem fgt_len : ∀ (l : List Nd) (cs : List Sp), (fgt l cs).length = cs.length
  | [], cs => rfl
  | x :: l, cs => by
    show (fgt l (fg1 cs x)).length = _
    rw [fgt_len l, fg1_len]
def fgtTo (re : List Nd) (a j : Nat) (cs : List Sp) : List Sp := fgt ((re.drop a).take (j - a)) cs
open Classical in
noncomputable def grt (Q : Nat → Prop) (p q : Nat) : Nat := if h : ∃ m, Grt Q p q m then h.choose else 0
theorem Grt.uniq {Q : Nat → Prop} {p q m n : Nat} (h : Grt Q p q m) (h' : Grt Q p q n) : m = n := by
  rcases Nat.lt_trichotomy m n with e | e | e
  · exact absurd h'.2.2.1 (h.2.2.2 n e h'.2.1)
  · exact e
  · exact absurd h.2.2.1 (h'.2.2.2 m e h.2.1)
theorem grt_eq {Q : Nat → Prop} {p q m : Nat} (h : Grt Q p q m) : grt Q p q = m := by
  unfold grt
  have hx : ∃ m, Grt Q p q m := ⟨m, h⟩
  rw [dif_pos hx]
  exact hx.choose_spec.uniq h
theorem grt_ex {Q : Nat → Prop} {p q m : Nat} (h1 : p ≤ m) (h2 : m ≤ q) (h : Q m) : ∃ n, Grt Q p q n := by
  have key : ∀ k, k ≤ q - m → (∀ n, q - k < n → n ≤ q → ¬ Q n) → ∃ n, Grt Q p q n := by
    intro k hk
    induction hj : (q - m - k) generalizing k with
    | zero => intro hn; exact ⟨m, h1, h2, h, fun n a b => hn n (by omega) b⟩
    | succ j ih =>
      intro hn
      by_cases hq : Q (q - k)
      · exact ⟨q - k, by omega, by omega, hq, hn⟩
      · refine ih (k + 1) (by omega) (by omega) fun n a b => ?_
        by_cases e : n = q - k
        · subst e; exact hq
        · exact hn n (by omega) b
  exact key 0 (by omega) fun n a b => by omega
attribute [irreducible] grt
noncomputable def reps (x : Nd) (D : Nat → Nat → Prop) (B : Nat → Nat → List Sp → List Sp) (q : Nat) : Nat → Nat → Nat → List Sp → List Sp
  | 0, _, _, cs => cs
  | f + 1, r, p, cs => if dQ (∃ m, Grt (RQ x D r p q) p q m) = true then reps x D B q f (nxtR x r) (grt (RQ x D r p q) p q) (B p (grt (RQ x D r p q) p q) cs) else cs
theorem reps_go {x : Nd} {D : Nat → Nat → Prop} {B : Nat → Nat → List Sp → List Sp} {q f r p m : Nat} {cs : List Sp} (h : Grt (RQ x D r p q) p q m) : reps x D B q (f + 1) r p cs = reps x D B q f (nxtR x r) m (B p m cs) := by
  rw [reps, if_pos (dQ_t ⟨m, h⟩), grt_eq h]
theorem reps_end {x : Nd} {D : Nat → Nat → Prop} {B : Nat → Nat → List Sp → List Sp} {q f r p : Nat} {cs : List Sp} (h : ∀ m, p ≤ m → m ≤ q → ¬ RQ x D r p q m) : reps x D B q f r p cs = cs := by
  cases f with
  | zero => rfl
  | succ f => rw [reps, if_neg]; rw [dQ_f (fun ⟨m, hm⟩ => h m hm.1 hm.2.1 hm.2.2.1)]; simp
noncomputable def bst (w : List UInt8) : F → Bool → Nat → Nat → List Sp → List Sp
  | .nil, _, _, _, cs => cs
  | .nd x ks r, m, p, q, cs =>
    let one : Nat → Nat → List Sp → List Sp := fun p q cs =>
      if x.op = 7 then (bst w ks false p q (fgt ks.flat cs)).set x.n.toNat ⟨p, q⟩
      else if x.op = 5 then bst w ks true p q cs
      else if x.op = 4 then bst w ks false p q cs
      else if x.op = 6 then reps x (der w ks false) (fun p q cs => bst w ks false p q (fgt ks.flat cs)) q ((q - p) + max x.mn.toNat 1 + 1) 0 p cs
      else cs
    if m = true then (if dQ (der1 w x ks p q) = true then one p q cs else bst w r true p q cs)
    else bst w r false (grt (fun n => der1 w x ks p n ∧ der w r false n q) p q) q (one p (grt (fun n => der1 w x ks p n ∧ der w r false n q) p q) cs)
noncomputable def bst1 (w : List UInt8) (x : Nd) (ks : F) (p q : Nat) (cs : List Sp) : List Sp :=
  if x.op = 7 then (bst w ks false p q (fgt ks.flat cs)).set x.n.toNat ⟨p, q⟩
  else if x.op = 5 then bst w ks true p q cs
  else if x.op = 4 then bst w ks false p q cs
  else if x.op = 6 then reps x (der w ks false) (fun p q cs => bst w ks false p q (fgt ks.flat cs)) q ((q - p) + max x.mn.toNat 1 + 1) 0 p cs
  else cs
theorem bst_alt {w : List UInt8} {x : Nd} {ks r : F} {p q : Nat} {cs : List Sp} : bst w (.nd x ks r) true p q cs = if dQ (der1 w x ks p q) = true then bst1 w x ks p q cs else bst w r true p q cs := by
  conv => lhs; rw [bst]
  rfl
theorem bst_cat {w : List UInt8} {x : Nd} {ks r : F} {p q n : Nat} {cs : List Sp} (h : Grt (fun n => der1 w x ks p n ∧ der w r false n q) p q n) : bst w (.nd x ks r) false p q cs = bst w r false n q (bst1 w x ks p n cs) := by
  conv => lhs; rw [bst]
  rw [← grt_eq h]
  rfl
theorem bst_nil {w : List UInt8} {m : Bool} {p q : Nat} {cs : List Sp} : bst w .nil m p q cs = cs := by rw [bst]
theorem bst1_7 {w : List UInt8} {x : Nd} {ks : F} {p q : Nat} {cs : List Sp} (h : x.op = 7) : bst1 w x ks p q cs = (bst w ks false p q (fgt ks.flat cs)).set x.n.toNat ⟨p, q⟩ := by rw [bst1, if_pos h]
theorem bst1_5 {w : List UInt8} {x : Nd} {ks : F} {p q : Nat} {cs : List Sp} (h : x.op = 5) : bst1 w x ks p q cs = bst w ks true p q cs := by rw [bst1, if_neg (by omega), if_pos h]
theorem bst1_4 {w : List UInt8} {x : Nd} {ks : F} {p q : Nat} {cs : List Sp} (h : x.op = 4) : bst1 w x ks p q cs = bst w ks false p q cs := by rw [bst1, if_neg (by omega), if_neg (by omega), if_pos h]
theorem bst1_6 {w : List UInt8} {x : Nd} {ks : F} {p q : Nat} {cs : List Sp} (h : x.op = 6) : bst1 w x ks p q cs = reps x (der w ks false) (fun p q cs => bst w ks false p q (fgt ks.flat cs)) q ((q - p) + max x.mn.toNat 1 + 1) 0 p cs := by rw [bst1, if_neg (by omega), if_neg (by omega), if_neg (by omega), if_pos h]
theorem bst1_0 {w : List UInt8} {x : Nd} {ks : F} {p q : Nat} {cs : List Sp} (h : x.op ≤ 3) : bst1 w x ks p q cs = cs := by rw [bst1, if_neg (by omega), if_neg (by omega), if_neg (by omega), if_neg (by omega)]
def gcn (l : List Nd) : Nat := l.countP (fun x => decide (x.op = 7))
theorem gcn_take {re : List Nd} {j : Nat} {x : Nd} (h : re[j]? = some x) : gcn (re.take (j + 1)) = gcn (re.take j) + (if x.op = 7 then 1 else 0) := by
  rw [List.take_add_one, h]
  simp [gcn, List.countP_append, List.countP_cons]
theorem gcn_mono {re : List Nd} {i j : Nat} (h : i ≤ j) : gcn (re.take i) ≤ gcn (re.take j) := by
  unfold gcn
  exact List.Sublist.countP_le (List.take_sublist_take_left h)
def Numd (re : List Nd) (b i i' b' : Nat) : Prop := b' + gcn (re.take i) = b + gcn (re.take i') ∧ ∀ j x, i ≤ j → j < i' → re[j]? = some x → x.op = 7 → x.n + (gcn (re.take i) : Nat) = (b : Int) + (gcn (re.take j) : Nat) + 1
theorem kidsN_num {re : List Nd} {step : Nat → List Bool → Option (Nat × List Bool)} (hs : ∀ i en i' en', step i en = some (i', en') → i ≤ i' ∧ Numd re en.length i i' en'.length) :
    ∀ k i en i' en', kidsN step k i en = some (i', en') → i ≤ i' ∧ Numd re en.length i i' en'.length := by
  intro k
  induction k with
  | zero =>
    intro i en i' en' h
    simp only [kidsN, Option.some.injEq, Prod.mk.injEq] at h
    obtain ⟨rfl, rfl⟩ := h
    exact ⟨Nat.le_refl _, rfl, fun j x h1 h2 => by omega⟩
  | succ k ih =>
    intro i en i' en' h
    simp only [kidsN] at h
    split at h
    · cases h
    · rename_i j en1 hst
      obtain ⟨h1, h2, h3⟩ := hs _ _ _ _ hst
      obtain ⟨h4, h5, h6⟩ := ih _ _ _ _ h
      refine ⟨by omega, by omega, fun t x ht1 ht2 hx h7 => ?_⟩
      rcases Nat.lt_or_ge t j with e | e
      · exact h3 t x ht1 e hx h7
      · have := h6 t x e ht2 hx h7; omega
theorem shN_num {re : List Nd} : ∀ f i en g i' en', shN re f i en g = some (i', en') → i ≤ i' ∧ Numd re en.length i i' en'.length := by
  intro f
  induction f with
  | zero => intro i en g i' en' h; cases h
  | succ f ih =>
    intro i en g i' en' h
    simp only [shN] at h
    split at h
    · cases h
    · rename_i x hx
      split at h
      · split at h
        · cases h
        · rename_i en1 g1 hg
          split at h
          · cases h
          · rename_i i2 en2 hk
            simp only [Option.some.injEq, Prod.mk.injEq] at h
            obtain ⟨rfl, rfl⟩ := h
            obtain ⟨h1, h2, h3⟩ := kidsN_num (fun i en i' en' h => ih i en g1 i' en' h) _ _ _ _ _ hk
            have ht := gcn_take hx
            have he : en1.length = en.length + (if x.op = 7 then 1 else 0) ∧ (x.op = 7 → x.n = en.length + 1) := by
              unfold gate at hg
              split at hg
              · split at hg
                · cases hg; rename_i h8 _; exact ⟨by rw [if_neg (by omega)]; rfl, fun h => by omega⟩
                · cases hg
              split at hg
              · split at hg
                · cases hg; rename_i _ h7 hc; exact ⟨by rw [if_pos h7]; simp, fun _ => hc.1⟩
                · cases hg
              · cases hg; rename_i _ h7; exact ⟨by rw [if_neg h7]; rfl, fun h => absurd h h7⟩
            have hl : (if x.op = 7 then en2.set (x.n.toNat - 1) true else en2).length = en2.length := by split <;> simp
            refine ⟨by omega, by rw [hl]; omega, fun j y hj1 hj2 hy h7 => ?_⟩
            by_cases e : j = i
            · subst e
              rw [hx] at hy; cases hy
              have := he.2 h7; omega
            · have := h3 j y (by omega) hj2 hy h7
              omega
      · cases h
theorem grp_n {re : List Nd} (h : shapedB re = true) {j : Nat} {x : Nd} (hx : re[j]? = some x) (h7 : x.op = 7) : x.n = (gcn (re.take j) : Nat) + 1 ∧ x.n ≤ gcn re := by
  obtain ⟨⟨en, hsh⟩, _⟩ := shapedB_iff.1 h
  obtain ⟨_, h1, h2⟩ := shN_num _ _ _ _ _ _ hsh
  have hlt := (List.getElem?_eq_some_iff.1 hx).1
  have h3 := h2 j x (Nat.zero_le _) hlt hx h7
  have h4 := gcn_take hx
  have h5 : gcn (re.take (j + 1)) ≤ gcn re := by
    have := gcn_mono (re := re) (i := j + 1) (j := re.length) hlt
    rwa [List.take_length] at this
  simp [gcn] at h3
  rw [if_pos h7] at h4
  refine ⟨by simp only [gcn]; omega, ?_⟩
  simp only [gcn] at h4 h5 ⊢
  omega
end Go.HL.Kl.Mc
namespace Go.HL
open Go
theorem RdP.lt {w : World} {b off : Nat} {cs : List Value} (h : RdP w b off cs) (hc : cs ≠ []) : b < w.heap.size := by
  obtain ⟨u, hu⟩ : ∃ u, cs[0]? = some u := by
    cases cs with
    | nil => exact absurd rfl hc
    | cons a l => exact ⟨a, rfl⟩
  have h2 := h.get 0 u hu
  rcases Nat.lt_or_ge b w.heap.size with h' | h'
  · exact h'
  · simp [World.cell?, oblk, Array.getElem?_eq_none h'] at h2
theorem St.notin {w0 w : World} {M : List Nat} {H S : Hp} {b off : Nat} {cs : List Value} (st : St w0 w M H) (hin : HIn S H) (hr : RdP w0 b off cs) (hc : cs ≠ []) (hM : b ∉ M) : b ∉ keys S := by
  intro hm
  obtain ⟨⟨b', o⟩, hmS, hb⟩ := List.mem_map.1 hm
  have hb : b' = b := hb
  subst hb
  have := hr.lt hc
  rcases st.own _ _ (hin _ hmS) with h1 | h1
  · exact hM h1
  · omega
theorem hin_cons {b : Nat} {o : Obj} {S H : Hp} (h : (b, o) ∈ H) (hs : HIn S H) : HIn ((b, o) :: S) H := fun p hp => by
  rcases List.mem_cons.1 hp with rfl | hp
  · exact h
  · exact hs p hp
end Go.HL
namespace Go.HL.Kl.Mc
open Go Go.HL Go.HL.Kl AskE
structure AskG (T n : Nat) where
  (bE bM bA bS : Nat) (S : Hp)
  (h : OwnS Eix 1 T (.slice (some ⟨bE, 0, none⟩) n n) (List.replicate n 0) S)
noncomputable def capsV (w : List UInt8) (re : List Nd) (x : Nd) (ks : F) (p q : Nat) : List Sp := (bst1 w x ks p q (List.replicate (gcn re + 1) noS)).set 0 ⟨p, q⟩
def Slots (re : List Nd) (n : Nat) : Prop := ∀ y ∈ re, y.op = 7 → 0 ≤ y.n ∧ y.n.toNat < n
def TakeP (K : AskE) (T : Nat) (ca : Option Addr) (cc N : Nat) (cs : List Sp) (S' : Hp) : Prop := ∃ es c Sc, S' = (K.bM, mpO es c) :: Sc ∧ MapOk K.tx K.re es ∧ OwnS Esp 2 T (.slice ca N cc) cs Sc
def TakeK (P : Program) (K : AskE) (fn T : Nat) (x : Nd) (ks : F) : Prop := ∀ (i i1 p q : Nat) (es : List Me) (c : Nat) (ca : Option Addr) (cc N : Nat) (cs : List Sp) (Sc : Hp), Part K.re (.nd x ks .nil) i i1 → p ≤ q → q ≤ K.tx.length → der1 K.tx x ks p q → MapOk K.tx K.re es → cs.length = N → Slots K.re N → OwnS Esp 2 T (.slice ca N cc) cs Sc →
  Fn P fn [pt K.bS, .int .i64 i, .int .i64 p, .int .i64 q, .slice ca N cc] (fun W => Env W K (keys ((K.bM, mpO es c) :: Sc))) ((K.bM, mpO es c) :: Sc) (fun _ S' => TakeP K T ca cc N (bst1 K.tx x ks p q cs) S')
def CapsP (K : AskE) (T : Nat) (cs : List Sp) (v : Value) (S' : Hp) : Prop := ∃ es c a cc Sc, v = .slice a cs.length cc ∧ S' = (K.bM, mpO es c) :: Sc ∧ OwnS Esp 2 T (.slice a cs.length cc) cs Sc
end Go.HL.Kl.Mc
namespace Go.HL
open Go
def noIf : TypeDesc → Bool
  | .interface _ => false
  | _ => true
section
variable {P : Program} {κ : Cx} {L : Loc} {H : Hp} {ty : TypeId} {v : Value} {x : Operand}
end
end Go.HL
namespace Go.Proofs.YtloepfcndglmmaaDoor
open Go Go.HL Go.Proofs Go.HL.Kl Go.HL.Kl.Mc Go.HL.Kl.Mc.AskE
theorem copyNodes_fn (a : Option Addr) (c : Nat) (xs : List Nd) (hn : xs.length ≤ 3000000000) : HL.Fn Tryd.prog 17 [.slice a xs.length c] (fun w => Rd En w (.slice a xs.length c) xs) [] (fun v S' => ∃ a' c', v = .slice a' xs.length c' ∧ OwnS En 9 80 (.slice a' xs.length c') xs S') := by
  refine fn_of Tryd.func17 rfl rfl rfl fun w0 hw => ?_; refine cR fun _ hK1 => ?_; refine oA (oZ hK1 (cR fun _ hK2 => ?_)); refine oA (oZ hK2 (cR fun _ hK3 => ?_)); refine oM (oM ?_); refine o_app (OwnS.nil : OwnS En 9 80 (.slice none 0 0) [] []) (RdK.old0 hw) rfl rfl rfl rfl (by simp; omega) (by simp; omega) rfl pkA fun a6 c6 S6 hS6 => ?_
  rw [List.nil_append] at hS6
  rw [List.nil_append]
  refine oA (oZ hK3 (c_ret ?_)); refine ?_; refine x_sub (Sub.refl _) (H' := S6) hzB ?_; exact xR rfl rfl (⟨_, _, rfl, hS6⟩)
theorem copyBytes_fn (a : Option Addr) (c : Nat) (xs : List UInt8) (hn : xs.length ≤ 3000000000) : HL.Fn Tryd.prog 18 [.slice a xs.length c] (fun w => Rd Eb w (.slice a xs.length c) xs) [] (fun v S' => ∃ a' c', v = .slice a' xs.length c' ∧ OwnS Eb 1 5 (.slice a' xs.length c') xs S') := by
  refine fn_of Tryd.func18 rfl rfl rfl fun w0 hw => ?_; refine cR fun _ hK1 => ?_; refine oA (oZ hK1 (cR fun _ hK2 => ?_)); refine oA (oZ hK2 (cR fun _ hK3 => ?_)); refine oM (oM ?_); refine o_app (OwnS.nil : OwnS Eb 1 5 (.slice none 0 0) [] []) (RdK.old0 hw) rfl rfl rfl rfl (by simp; omega) (by simp; omega) rfl pkA fun a6 c6 S6 hS6 => ?_
  rw [List.nil_append] at hS6
  rw [List.nil_append]
  refine oA (oZ hK3 (c_ret ?_)); refine ?_; refine x_sub (Sub.refl _) (H' := S6) hzB ?_; exact xR rfl rfl (⟨_, _, rfl, hS6⟩)
def keI_dummy : Unit := ()
instance keI : KE Tryd.prog 3 EkI := KE.int
def DepC (x : Nd) (ks : F) : Prop := ∀ (ra : Option Addr) (rc : Nat) (re : List Nd) (i i1 : Nat), Part re (.nd x ks .nil) i i1 → HL.Fn Tryd.prog 40 [.slice ra re.length rc, .int .i64 i] (fun W => Rd En W (.slice ra re.length rc) re) [] (fun v _ => v = .tuple #[.int .i64 ((ks.depth + 1 : Nat) : Int), .int .i64 i1])
set_option maxHeartbeats 1000000 in
theorem depth_step (x : Nd) (ks : F) (ih : ∀ y js, js.size < ks.size → DepC y js) (ra : Option Addr) (rc : Nat) (re : List Nd) (i i1 : Nat) (hp : Part re (.nd x ks .nil) i i1) : HL.Fn Tryd.prog 40 [.slice ra re.length rc, .int .i64 i] (fun W => Rd En W (.slice ra re.length rc) re) [] (fun v _ => v = .tuple #[.int .i64 ((ks.depth + 1 : Nat) : Int), .int .i64 i1]) := by
  refine fn_of Tryd.func40 rfl rfl rfl fun w0 hw => ?_
  have hsl := hw.sl
  have hbl := hsl.le
  have hx := hp.head.1
  have hel := hp.le
  have he := hp.len
  simp only [F.size, Nat.add_zero] at he
  have hkn := hp.wf.2.1
  have hksn := ks.num_le
  have hlt := (List.getElem?_eq_some_iff.1 hx).1
  have hdp := F.depth_le ks
  refine cR fun _ hK1 => ?_; refine oA (oA (oZ hK1 (cR fun _ hK2 => ?_))); refine oM ?_; refine oS sD (oA (oA (oZ hK2 (c_seq fun _ hK3 => ?_)))); refine cR fun _ hK4 => ?_; refine oM (oM ?_); refine oS (s_idx rfl rfl hsl (by omega)) ?_; refine oS sF ?_; refine oS (s_ld rfl ((RdK.old0 hw).ld i 8 hx rfl (by decide) (by omega))) ?_; refine oM (oZ hK4 (c_block ?_)); refine c_loop4 (fun (m : Nat) (kid : Nat) (g : F) (d : Nat) => Part re g kid i1 ∧ (m : Int) + g.num = x.kids ∧ g.size ≤ ks.size ∧ max d g.depth = ks.depth) (fun (m : Nat) (kid : Nat) (g : F) (d : Nat) => [(17, .int .i64 m), (7, .int .i64 kid), (6, .int .i64 d)]) [(0, _), (4, _), (5, _), (16, _)] (fun (m : Nat) (kid : Nat) (g : F) (d : Nat) => []) (fun (m : Nat) (kid : Nat) (g : F) (d : Nat) => g.num) 0 (i + 1) ks 0 ⟨by have := hp.head.2.1; rw [show i + 1 + ks.size = i1 by omega] at this; exact this, by omega, Nat.le_refl _, by omega⟩ sbA sbA (by exact HSub.nil) ?_
  rintro m kid g d ⟨hpg, hmg, hgs, hd⟩
  have hgn := g.num_le
  have hgl := hpg.len
  have hgd := F.depth_le g
  refine cR fun _ hK5 => ?_
  by_cases hmk : (m : Int) < x.kids
  ·obtain ⟨y, js, r, rfl⟩ : ∃ y js r, g = F.nd y js r := by cases g with | nil => simp only [F.num] at hmg; omega | nd y a c => exact ⟨y, a, c, rfl⟩
   simp only [F.num] at hmg
   simp only [F.size] at hgs hgl
   refine oS lsT (oZ hK5 (c_seq fun _ hK6 => ?_)); refine cTZ hK6 (c_seq fun _ hK7 => ?_); refine c_block (cR fun _ hK8 => ?_); refine oM (oM ?_); refine o_callP (ih y js (by omega) ra rc re kid (kid + 1 + js.size) hpg.one) rfl rfl rfl (fun _ st => (RdK.old0 hw).out _ st) (fun v22 hv22 => ?_); subst hv22
   refine oM ?_; refine oS sE ?_; refine oS sE (oA (oA (oZ hK8 (c_region (oM (oM ?_)))))); refine oS (step_cast (v' := .int .i64 ((max d (js.depth + 1) : Nat) : Int)) (s_max rfl rfl) (congrArg _ (by omega))) ?_; refine oM (oA (oA (o_nil (x_block (xZ hK7 (c_region ?_)))))); refine oS sD (oM (o_nil ?_)); exact x_then (x_inv (m + 1, kid + 1 + js.size, r, max d (js.depth + 1)) ⟨hpg.head.2.2, by dsimp only; omega, by dsimp only; omega, by dsimp only; simp only [F.depth] at hd; omega⟩ (by simp only [F.num]; omega) sbA (by exact HSub.nil))
  ·obtain rfl : g = F.nil := F.num_nil (by omega)
   obtain rfl : kid = i1 := by simp only [F.size] at hgl; omega
   simp only [F.depth] at hd
   refine oS lsF (oZ hK5 (c_seq fun _ hK9 => ?_)); refine cF ?_; refine c_exit ?_; refine x_then_exit (x_then_exit (x_block_exit (xZ hK3 (cR fun _ hK10 => ?_)))); refine oM ?_; refine oS (step_cast (v' := .int .i64 ((ks.depth + 1 : Nat) : Int)) (s_add rfl rfl (by omega)) (congrArg _ (by omega))) ?_; refine oM (oA (oA (oZ hK10 (c_ret ?_)))); refine ?_; exact x_ret rfl (.tmp rfl (.tmp rfl (.nil))) (rfl)
theorem dep_all : ∀ (n : Nat) (x : Nd) (ks : F), ks.size < n → DepC x ks
  | 0 => fun _ _ h => absurd h (Nat.not_lt_zero _)
  | n + 1 => fun x ks hn ra rc re i i1 hp => depth_step x ks (fun y js h => dep_all n y js (by omega)) ra rc re i i1 hp
theorem weight_fn (ra : Option Addr) (rc : Nat) (re : List Nd) (hre : ∀ x ∈ re, -128 ≤ x.op ∧ x.op < 128) (x : Nd) (ks : F) (hS : Shp re x ks) (hsb : shapedB re = true) : HL.Fn Tryd.prog 41 [.slice ra re.length rc] (fun W => Rd En W (.slice ra re.length rc) re) [] (fun v _ => v = .int .i64 (((F.nd x ks .nil).weight : Nat) : Int)) := by
  refine fn_of Tryd.func41 rfl rfl rfl fun w0 hw => ?_; refine cR fun _ hK1 => ?_; refine oA (oZ hK1 (c_seq fun _ hK2 => ?_)); refine cR fun _ hK3 => ?_; refine oM ?_; refine o_callP (shaped_fn ra rc re hre) rfl rfl rfl (fun _ st => (RdK.old0 hw).out _ st) (fun v6 hv6 => ?_)
  rw [hsb] at hv6
  subst hv6; refine oS (s_not rfl) ?_; refine oZ hK3 ?_; refine cFZ hK2 (cR fun _ hK4 => ?_); refine oM ?_; refine o_callP (weigh_fn (ks.size + 1) x ks (Nat.lt_succ_self _) ra rc re 0 re.length hre hS.part) rfl rfl rfl (fun _ st => (RdK.old0 hw).out _ st) (fun v10 hv10 => ?_)
  have hcw : cut (F.nd x ks .nil).weight = (F.nd x ks .nil).weight := by have := hS.weight; unfold cut; omega
  rw [hcw] at hv10
  subst hv10; refine oM ?_; refine oS sE ?_; refine oS sE (oA (oA (oZ hK4 (cR fun _ hK5 => ?_)))); refine oM (oA (oZ hK5 (c_ret ?_))); refine ?_; exact xR rfl rfl (rfl)
set_option maxHeartbeats 1000000 in
theorem enough_fn (ra : Option Addr) (rc : Nat) (re : List Nd) (hre : ∀ x ∈ re, -128 ≤ x.op ∧ x.op < 128) (n : Int) (hn : n ≤ 9223372036854775807) : HL.Fn Tryd.prog 10 [.slice ra re.length rc, .int .i64 n] (fun W => Rd En W (.slice ra re.length rc) re) [] (fun v _ => (¬ (shapedB re = true ∧ 0 ≤ n) ∧ v = .int .i64 0) ∨ ∃ x ks, Shp re x ks ∧ shapedB re = true ∧ 0 ≤ n ∧ v = .int .i64 ((enN ks ((F.nd x ks .nil).weight) re n.toNat : Nat) : Int)) := by
  refine fn_of Tryd.func10 rfl rfl rfl fun w0 hw => ?_
  have hsl := hw.sl
  have hbl := hsl.le
  refine cR fun _ hK1 => ?_; refine oA (oZ hK1 (c_seq fun _ hK2 => ?_)); refine cR fun _ hK3 => ?_; refine oM ?_; refine o_callP (shaped_fn ra rc re hre) rfl rfl rfl (fun _ st => (RdK.old0 hw).out _ st) (fun v13 hv13 => ?_); subst hv13
  cases hsb : shapedB re
  ·refine oS (s_not rfl) ?_; refine oM ?_; refine oN ?_; refine oN ?_; refine oS sT (oZ hK3 ?_); refine cT (cR fun _ hK4 => ?_); refine oA (oZ hK4 (c_ret ?_)); refine x_then_ret (?_); exact xR rfl rfl (.inl ⟨fun h => (by rw [hsb] at h; cases h.1), rfl⟩)
  ·obtain ⟨_, x, ks, hS⟩ := shapedB_iff.1 hsb
   have hlen := hS.len
   have hdep := hS.dep
   have hwt := hS.weight
   have hrl := refsI_le (re := re) re.length (Nat.le_refl _)
   rw [List.take_length] at hrl
   refine oS (s_not rfl) ?_; refine oM ?_; refine oY (oM ?_); refine oY ?_
   by_cases hn0 : n < 0
   ·refine oS lsT ?_; refine oS sP (oZ hK3 ?_); refine cT (cR fun _ hK5 => ?_); refine oA (oZ hK5 (c_ret ?_)); refine x_then_ret (?_); exact xR rfl rfl (.inl ⟨fun h => (by omega), rfl⟩)
   ·obtain ⟨n, rfl⟩ : ∃ m : Nat, n = m := ⟨n.toNat, by omega⟩
    refine oS lsF ?_; refine oS sP (oZ hK3 ?_); refine cFZ hK2 (cR fun _ hK6 => ?_); refine o_mmap2 (Ek := EkI) rfl fun b19 => ?_; refine oA (oZ hK6 (c_seq fun _ hK7 => ?_)); refine cR fun _ hK8 => ?_; refine oM ?_; refine oS sC (oM (oZ hK8 (c_block ?_))); refine c_loop3 (fun (q : Nat) (es : List (Mx Int)) (c : Nat) => q ≤ re.length ∧ CntI es (refsI (re.take q)) q) (fun (q : Nat) (es : List (Mx Int)) (c : Nat) => [(22, .int .i64 q)]) [(0, _), (1, _), (4, _), (5, _), (20, _), (21, _)] (fun (q : Nat) (es : List (Mx Int)) (c : Nat) => [(b19, mxO EkI es c)]) (fun (q : Nat) (es : List (Mx Int)) (c : Nat) => re.length - q) 0 [] 0 ⟨Nat.zero_le _, CntI.nil⟩ sbA sbA hzB ?_
    rintro q es c ⟨hql, hC⟩
    refine cR fun _ hK9 => ?_
    by_cases hq : (q : Int) < re.length
    ·obtain ⟨y, hy⟩ : ∃ y, re[q]? = some y := gE
     have hyr := hre y (List.mem_of_getElem? hy)
     refine oS lsT (oZ hK9 (c_seq fun _ hK10 => ?_)); refine cTZ hK10 (c_seq fun _ hK11 => ?_); refine c_block (cR fun _ hK12 => ?_); refine oS (s_idx rfl rfl hsl (by omega)) ?_; refine oS (s_ldB rfl ((RdK.old0 hw).lds q hy rfl) (by rfl)) ?_; refine o_alloc (l := En zN) (by rw [En_zero]; rfl) rfl fun b7 => ?_; refine o_stW rfl rfl upA lnA lnA onA ?_; refine oZ hK12 (cR fun _ hK13 => ?_); refine oS sF ?_; refine oS sL ?_
     by_cases h8 : y.op = 8
     ·obtain ⟨cn, hcn, hcq⟩ := hC.get y.n
      refine oS (eqT (h := h8)) ?_; refine oZ hK13 ?_; refine cT (c_region (oM ?_)); refine oS sF ?_; refine oS sL ?_; refine oS (step_cast (v' := .int .i64 (cn : Nat)) (s_look2 (Ek := EkI) (k := y.n) rfl rfl meA) hcn) ?_; refine oS (step_cast (v' := .int .i64 ((cn + 1 : Nat) : Int)) (s_add rfl rfl (by omega)) (congrArg _ (by omega))) ?_; refine o_mset2 (Ek := EkI) (k := y.n) rfl rfl rfl pkA fun es' c' hset hel => ?_; refine o_nil (x_block (xZ hK11 (c_region ?_))); refine oS sD (oM (o_nil ?_)); exact xI (q + 1, es', c') ⟨by dsimp only; omega, by dsimp only; rw [refsI_take hy, ref1, if_pos h8]; exact hC.set hcq hset hel⟩
     ·refine oS (eqF (h := h8)) ?_; refine oZ hK13 ?_; refine cF (c_skip (x_block (xZ hK11 (c_region ?_)))); refine oS sD (oM (o_nil ?_)); exact xI (q + 1, es, c) ⟨by dsimp only; omega, by dsimp only; rw [refsI_take hy, ref1, if_neg h8]; exact hC.up⟩
    ·obtain rfl : q = re.length := by omega
     rw [List.take_length] at hC
     refine oS lsF (oZ hK9 (c_seq fun _ hK14 => ?_)); refine cF ?_; refine c_exit ?_; refine x_then_exit (x_then_exit (x_block_exit (xZ hK7 (cR fun _ hK15 => ?_)))); refine oM ?_; refine o_callP (dep_all (ks.size + 1) x ks (Nat.lt_succ_self _) ra rc re 0 re.length hS.part) rfl rfl rfl (fun _ st => (RdK.old0 hw).out _ st) (fun v37 hv37 => ?_); subst hv37
     refine oM ?_; refine oS sE ?_; refine oS sE (oA (oA (oZ hK15 (cR fun _ hK16 => ?_)))); refine oM ?_; refine o_callP (weight_fn ra rc re hre x ks hS hsb) rfl rfl rfl (fun _ st => (RdK.old0 hw).out _ st) (fun v41 hv41 => ?_); subst hv41
     refine oS (step_cast (v' := .int .u64 (((F.nd x ks .nil).weight) : Nat)) (s_conv rfl) (congrArg _ (wrap_u64n (by omega)))) ?_; refine oM ?_; refine oS (step_cast (v' := .int .u64 (n : Nat)) (s_conv rfl) (congrArg _ (wrap_u64n (by omega)))) ?_; refine oS (step_cast (v' := .int .u64 ((n + 2 : Nat) : Int)) (s_addw rfl rfl) (congrArg _ (wrap_u64n (x := n + 2) (by omega)))) ?_; refine oA (oA (oZ hK16 (c_seq fun _ hK17 => ?_))); refine cR fun _ hK18 => ?_; refine oM ?_; refine oS (s_mul rfl rfl (by omega)) ?_; refine oM ?_; refine oS (step_cast (v' := .int .i64 ((refsI re).length : Nat)) (s_lenmap (Ek := EkI) rfl meA) (by rw [hC.len])) ?_; refine oS (s_mul rfl rfl (by omega)) ?_; refine oS sD ?_; refine oS (step_cast (v' := .int .i64 (((2 * (ks.depth + 1) + 2 * (refsI re).length + 4) : Nat) : Int)) (s_add rfl rfl (by omega)) (congrArg _ (by omega))) ?_; refine oM (oZ hK18 (c_block ?_))
     -- not carried: 4
     refine c_loop2 (fun (k : Nat) (out : Nat) => k ≤ (2 * (ks.depth + 1) + 2 * (refsI re).length + 4) ∧ out ≤ 4611686018427387904 ∧ enL (n + 2) ((2 * (ks.depth + 1) + 2 * (refsI re).length + 4) - k) out = enN ks ((F.nd x ks .nil).weight) re n) (fun (k : Nat) (out : Nat) => [(53, .int .i64 k), (10, .int .u64 out)]) [(11, _), (52, _)] (fun (k : Nat) (out : Nat) => [(b19, mxO EkI es c)]) (fun (k : Nat) (out : Nat) => (2 * (ks.depth + 1) + 2 * (refsI re).length + 4) - k) 0 ((F.nd x ks .nil).weight) ⟨Nat.zero_le _, by omega, rfl⟩ sbA sbA hzB ?_
     rintro k out ⟨hk, hou, hen⟩
     refine cR fun _ hK19 => ?_
     by_cases hkit : (k : Int) < (2 * (ks.depth + 1) + 2 * (refsI re).length + 4)
     ·refine oS lsT (oZ hK19 (c_seq fun _ hK20 => ?_)); refine cTZ hK20 (c_seq fun _ hK21 => ?_); refine c_block (c_seq fun _ hK22 => ?_); refine cR fun _ hK23 => ?_; refine oM (oM ?_); refine oS (step_cast (v' := .int .u64 ((4611686018427387904 / (n + 2) : Nat) : Int)) (s_quo rfl rfl (by omega)) (congrArg _ (by rw [show (4611686018427387904 : Int) = ((4611686018427387904 : Nat) : Int) from rfl, tdiv_nat]; exact wrap_u64n (by have := Nat.div_le_self 4611686018427387904 (n + 2); omega)))) ?_
      by_cases hbig : 4611686018427387904 / (n + 2) < out
      ·rw [show (2 * (ks.depth + 1) + 2 * (refsI re).length + 4) - k = ((2 * (ks.depth + 1) + 2 * (refsI re).length + 4) - (k + 1)) + 1 by omega, enL_yes hbig] at hen
       refine oS gtT (oZ hK23 ?_); refine cT (cR fun _ hK24 => ?_); refine oA (oZ hK24 (c_ret ?_)); refine x_then_ret (x_block_ret (x_then_ret (x_then_ret (x_block_ret (x_then_ret (?_))))))
       exact xR rfl rfl (.inr ⟨x, ks, hS, hsb, by omega, by rw [Int.toNat_natCast, ← hen]; rfl⟩)
      ·rw [show (2 * (ks.depth + 1) + 2 * (refsI re).length + 4) - k = ((2 * (ks.depth + 1) + 2 * (refsI re).length + 4) - (k + 1)) + 1 by omega, enL_no hbig] at hen
       have hmu := en_mul (b := n + 2) (by omega) hbig
       refine oS gtF (oZ hK23 ?_); refine cFZ hK22 (c_region (oM (oM ?_))); refine oS (step_cast (v' := .int .u64 ((out * (n + 2) : Nat) : Int)) (s_mulw rfl rfl) (congrArg _ (by rw [← Int.natCast_mul]; exact wrap_u64n (by omega)))) ?_; refine oA (o_nil (x_block (xZ hK21 (c_region ?_)))); refine oS sD (oM (o_nil ?_)); exact xI (k + 1, out * (n + 2)) ⟨by dsimp only; omega, hmu, hen⟩
     ·obtain rfl : k = (2 * (ks.depth + 1) + 2 * (refsI re).length + 4) := by omega
      rw [Nat.sub_self] at hen
      refine oS lsF (oZ hK19 (c_seq fun _ hK25 => ?_)); refine cF ?_; refine c_exit ?_; refine x_then_exit (x_then_exit (x_block_exit (xZ hK17 (cR fun _ hK26 => ?_)))); refine oM ?_; refine oS (step_cast (v' := .int .i64 (out : Nat)) (s_conv rfl) (congrArg _ (wrap_i64n (by omega)))) ?_; refine oA (oZ hK26 (c_ret ?_)); refine ?_; exact xR rfl rfl (.inr ⟨x, ks, hS, hsb, by omega, by rw [Int.toNat_natCast, ← hen]; rfl⟩)
end Go.Proofs.YtloepfcndglmmaaDoor
namespace Go.Proofs.YtloepfcndglmmaaDoor
open Go Go.HL Go.Proofs Go.HL.Kl
theorem has_fn (c : Cl) (x : Nat) (hx : x < 256) : HL.Fn Tryd.prog 83 [.agg (Ec c).toArray, .int .u8 x] (fun _ => True) [] (fun v _ => v = .bool (c.getLsbD x)) := by
  refine fn_of Tryd.func83 rfl rfl rfl fun w0 hw => ?_; refine cR fun _ hK1 => ?_; refine o_box rfl rfl rfl fun b2 => ?_; refine oA (oZ hK1 (cR fun _ hK2 => ?_)); refine oM ?_; refine oS (step_cast (v' := .int .u8 ((x / 64 : Nat) : Int)) (s_shr rfl rfl (by decide)) (congrArg _ (shr6_u8 hx))) ?_; refine oS (s_idx1 rfl rfl (by omega)) ?_; refine oS (s_ld rfl ((RdPK.own meA).cel (j := x / 64) (Ec_get _ (by omega)) (by omega))) ?_; refine oM ?_; refine oS (step_cast (v' := .int .u8 ((x % 64 : Nat) : Int)) (s_and rfl rfl) (congrArg _ (v_and63 hx))) ?_; refine oS (s_shr rfl rfl (by omega)) ?_; refine oS (s_and rfl rfl) ?_; refine oS (step_cast (v' := .bool (c.getLsbD x)) (s_eql rfl rfl) (congrArg Value.bool (hasB c hx))) ?_; refine oA (oZ hK2 (c_ret ?_)); refine ?_; exact xR rfl rfl (rfl)
end Go.Proofs.YtloepfcndglmmaaDoor
namespace Go.HL
open Go
def VI (agg : Bool) (xs : List Int) : Value := if agg then .agg (intsV .i64 xs).toArray else .int .i64 (xs.headD 0)
class QK (P : Program) (t : TypeId) (agg : outParam Bool) (d s : outParam Nat) : Prop where
  eq : ∀ (w : World) (n : Nat) (xs ys : List Int), d ≤ n → xs.length = s → ys.length = s → (Op.equalIn n t (VI agg xs) (VI agg ys)).run P w = .ok (decide (xs = ys)) w
  chk : ∀ (w : World) (n : Nat) (b : Bool) (xs : List Int), d ≤ n → xs.length = s → (Instr.checkKey b n t (VI agg xs)).run P w = .ok () w
  prt : ∀ (w : World) (cs : List Int) (o : Nat), o + s ≤ cs.length → (part t (intsV .i64 cs).toArray o).run P w = .ok (VI agg ((cs.drop o).take s)) w
section
variable {P : Program} {t e : TypeId}
instance QK.int [TU P t (.int .i64)] [TG P t true] : QK P t false 1 1 where
  eq := fun w n xs ys hn hx hy => by
    obtain ⟨m, rfl⟩ : ∃ m, n = m + 1 := ⟨n - 1, by omega⟩
    match xs, ys, hx, hy with
    | [a], [b], _, _ =>
      show (Op.equalIn (m + 1) t (.int .i64 a) (.int .i64 b)).run P w = _
      rw [re_int w m]
      congr 1
      by_cases h : a = b <;> simp [h]
  chk := fun w n b xs hn hx => by
    obtain ⟨m, rfl⟩ : ∃ m, n = m + 1 := ⟨n - 1, by omega⟩
    exact checkInt w
  prt := fun w cs o ho => by
    have hlt : o < cs.length := by omega
    have h : (intsV .i64 cs).toArray[o]? = some (.int .i64 cs[o]) := by simp [intsV, hlt]
    rw [part_plain h]
    have h2 : (cs.drop o).take 1 = [cs[o]] := by rw [List.drop_eq_getElem_cons hlt]; rfl
    rw [h2]; rfl
theorem agg_part {s b : Nat} [TG P t false] [TI P t s b] (w : World) (cs : List Int) (o : Nat) (_ho : o + s ≤ cs.length) : (part t (intsV .i64 cs).toArray o).run P w = .ok (VI true ((cs.drop o).take s)) w := by
  refine (part_agg (ys := (intsV .i64 ((cs.drop o).take s)).toArray) ?_).trans rfl
  apply Array.ext'
  rw [Array.toList_extract]
  simp [intsV, List.map_take, List.map_drop, List.extract_eq_take_drop]
inductive QF (P : Program) (d : Nat) : List (Nat × Nat) → Nat → Nat → Prop
  | nil {s : Nat} : QF P d [] s s
  | cons {e o s de se : Nat} {l : List (Nat × Nat)} {agg : Bool} (q : QK P e agg de se) (hd : de ≤ d) (h : QF P d l (o + se) s) : QF P d ((e, o) :: l) o s
theorem QF.le {d : Nat} {l : List (Nat × Nat)} {o s : Nat} (h : QF P d l o s) : o ≤ s := by
  induction h with
  | nil => exact Nat.le_refl _
  | cons q hd h ih => omega
theorem QF.fq {d : Nat} {l : List (Nat × Nat)} {o s : Nat} (h : QF P d l o s) {n : Nat} (hn : d ≤ n + 1) {xs ys : List Int} (hx : xs.length = s) (hy : ys.length = s) (w : World) : FQ P w n (intsV .i64 xs).toArray (intsV .i64 ys).toArray l (decide (xs.drop o = ys.drop o)) := by
  induction h with
  | @nil s =>
    have : decide (xs.drop s = ys.drop s) = true := by rw [decide_eq_true_eq, List.drop_of_length_le (by omega), List.drop_of_length_le (by omega)]
    rw [this]; exact .nil
  | @cons e o s de se l agg q hd h ih =>
    have hle := h.le
    have e1 : decide (xs.drop o = ys.drop o) = (decide ((xs.drop o).take se = (ys.drop o).take se) && decide (xs.drop (o + se) = ys.drop (o + se))) := by
      rw [Bool.eq_iff_iff, Bool.and_eq_true, decide_eq_true_eq, decide_eq_true_eq, decide_eq_true_eq]
      constructor
      · intro h
        exact ⟨by rw [h], by rw [← List.drop_drop, ← List.drop_drop, h]⟩
      · rintro ⟨h1, h2⟩
        rw [← List.take_append_drop se (xs.drop o), ← List.take_append_drop se (ys.drop o), h1, List.drop_drop, List.drop_drop, h2]
    rw [e1]
    exact .cons (q.prt w xs o (by omega)) (q.prt w ys o (by omega)) (q.eq w (n + 1) _ _ (by omega) (by rw [List.length_take, List.length_drop]; omega) (by rw [List.length_take, List.length_drop]; omega)) (ih hx hy)
theorem QF.mem {d : Nat} {l : List (Nat × Nat)} {o s : Nat} (h : QF P d l o s) : ∀ p ∈ l, ∃ agg de se, QK P p.1 agg de se ∧ de ≤ d ∧ p.2 + se ≤ s := by
  induction h with
  | nil => intro p hp; cases hp
  | cons q hd h ih =>
    intro p hp
    rcases List.mem_cons.1 hp with rfl | hp
    · exact ⟨_, _, _, q, hd, h.le⟩
    · exact ih p hp
theorem QK.struct {d s b : Nat} {l : List (Nat × Nat)} [Go.HL.TQ P t l] [TG P t false] [TI P t s b] (hd : 1 ≤ d) (hf : QF P d l 0 s) : QK P t true (d + 1) s where
  eq := fun w n xs ys hn hx hy => by
    obtain ⟨m, rfl⟩ : ∃ m, n = m + 2 := ⟨n - 2, by omega⟩
    have := re_struct (P := P) (t := t) (hf.fq (n := m) (by omega) hx hy w)
    simpa [VI] using this
  chk := fun w n b xs hn hx => by
    obtain ⟨m, rfl⟩ : ∃ m, n = m + 1 := ⟨n - 1, by omega⟩
    obtain ⟨fs, hu, hl⟩ := ky_struct (P := P) (t := t) (l := l)
    show (Instr.checkKey b (m + 1) t (.agg (intsV .i64 xs).toArray)).run P w = .ok () w
    unfold Instr.checkKey
    rw [Sem.run_bind, run_underlying hu, Result.andThen_ok]
    simp only []
    rw [← Array.forIn_toList, Sem.run_bind]
    refine (congrArg (fun r => Result.andThen r _) (forIn_ok fun f hfm => ?_)).trans (by simp)
    have hm : (f.type, f.offset) ∈ l := by rw [← hl]; exact List.mem_map.2 ⟨f, hfm, rfl⟩
    obtain ⟨agg, de, se, q, hde, hle⟩ := hf.mem _ hm
    have hpp := q.prt w xs f.offset (by simp only at hle; omega)
    split
    · simp only [Sem.run_bind, hpp, Result.andThen_ok]
      rw [q.chk w m b _ (by omega) (by rw [List.length_take, List.length_drop]; simp only at hle; omega), Result.andThen_ok, Sem.run_pure]
    · simp
  prt := fun w cs o ho => agg_part w cs o ho
theorem QK.arr {m e d se b b' : Nat} {agg : Bool} [TU P t (.array m e)] [TG P t false] [TI P t (m * se) b] [TI P e se b'] (q : QK P e agg d se) : QK P t true (d + 1) (m * se) where
  eq := fun w n xs ys hn hx hy => by
    obtain ⟨n, rfl⟩ : ∃ k, n = k + 1 := ⟨n - 1, by omega⟩
    have hmul : ∀ i, i < m → i * se + se ≤ m * se := fun i hi => by rw [← Nat.succ_mul]; exact Nat.mul_le_mul_right _ hi
    show (Op.equalIn (n + 1) t (.agg (intsV .i64 xs).toArray) (.agg (intsV .i64 ys).toArray)).run P w = _
    unfold Op.equalIn
    simp only [Sem.run_bind, run_u, Result.andThen_ok, run_size]
    rw [Std.Legacy.Range.forIn_eq_forIn_range']
    have := run_forIn (P := P) (f := fun i _ => do
            let a ← part e (intsV .i64 xs).toArray (i * se)
            let b ← part e (intsV .i64 ys).toArray (i * se)
            let c ← Op.equalIn n e a b
            if (!c) = true then pure (ForInStep.done (some false, ())) else pure (ForInStep.yield (none, ()))) (fun i => decide ((xs.drop (i * se)).take se = (ys.drop (i * se)).take se)) w (List.range' 0 m) (by
      intro i hi
      have him : i < m := by simpa using hi
      have h3 := hmul i him
      rw [Sem.run_bind, q.prt w xs (i * se) (by omega), Result.andThen_ok, Sem.run_bind, q.prt w ys (i * se) (by omega), Result.andThen_ok, Sem.run_bind, q.eq w n _ _ (by omega) (by rw [List.length_take, List.length_drop]; omega) (by rw [List.length_take, List.length_drop]; omega), Result.andThen_ok]
      by_cases hq : (xs.drop (i * se)).take se = (ys.drop (i * se)).take se <;> simp [hq])
    have hsz : ([:m] : Std.Legacy.Range).size = m := by simp [Std.Legacy.Range.size]
    simp only [hsz]
    simp only [this, Result.andThen_ok]
    have hall : (List.range' 0 m).all (fun i => decide ((xs.drop (i * se)).take se = (ys.drop (i * se)).take se)) = decide (xs = ys) := by
      rw [Bool.eq_iff_iff, List.all_eq_true, decide_eq_true_eq]
      constructor
      · intro h
        have key : ∀ k, k ≤ m → xs.take (k * se) = ys.take (k * se) := by
          intro k
          induction k with
          | zero => intro _; simp
          | succ k ih =>
            intro hk
            have h1 := h k (by simp; omega)
            rw [decide_eq_true_eq] at h1
            rw [Nat.succ_mul, List.take_add, List.take_add, ih (by omega), h1]
        have h2 := key m (Nat.le_refl _)
        rwa [List.take_of_length_le (by omega), List.take_of_length_le (by omega)] at h2
      · intro h i _; simp [h]
    rw [hall]
    by_cases h : xs = ys <;> simp [h]
  chk := fun w n b xs hn hx => by
    obtain ⟨n, rfl⟩ : ∃ k, n = k + 1 := ⟨n - 1, by omega⟩
    have hmul : ∀ i, i < m → i * se + se ≤ m * se := fun i hi => by rw [← Nat.succ_mul]; exact Nat.mul_le_mul_right _ hi
    show (Instr.checkKey b (n + 1) t (.agg (intsV .i64 xs).toArray)).run P w = .ok () w
    unfold Instr.checkKey
    rw [Sem.run_bind, run_u, Result.andThen_ok]
    simp only []
    rw [Sem.run_bind, Std.Legacy.Range.forIn_eq_forIn_range']
    refine (congrArg (fun r => Result.andThen r _) (forIn_ok fun i hi => ?_)).trans (by simp)
    have hsz : ([:m] : Std.Legacy.Range).size = m := by simp [Std.Legacy.Range.size]
    have him : i < m := by rw [hsz] at hi; simpa using hi
    have h3 := hmul i him
    simp only [Sem.run_bind, run_size, Result.andThen_ok, q.prt w xs (i * se) (by omega)]
    rw [q.chk w n b _ (by omega) (by rw [List.length_take, List.length_drop]; omega), Result.andThen_ok, Sem.run_pure]
  prt := fun w cs o ho => agg_part w cs o ho
theorem KE.of {κ : Type} [DecidableEq κ] {Ei : κ → List Int} {s d : Nat} [q : QK P t true d s] (hs : ∀ k, (Ei k).length = s) (hi : ∀ a b, Ei a = Ei b → a = b) (hd : d ≤ 10000) (hst : ∃ fs, P.underlying t = some (.struct fs)) : KE P t (fun k : κ => .agg (intsV .i64 (Ei k)).toArray) where
  eq := fun w a b => by
    have h := q.eq w 10000 (Ei a) (Ei b) hd (hs a) (hs b)
    have e : decide (Ei a = Ei b) = decide (a = b) := by
      rw [Bool.eq_iff_iff, decide_eq_true_eq, decide_eq_true_eq]
      exact ⟨hi a b, fun h => by rw [h]⟩
    rw [e] at h
    exact h
  check := fun w b k => q.chk w 10000 b (Ei k) hd (hs k)
  bits := fun k => by
    show Instr.sameBits (9999 + 1) _ _ = true
    simp only [Instr.sameBits, beq_self_eq_true, Bool.true_and, List.all_eq_true]
    intro p hp
    have h1 : ∀ (l : List Int) (p : Value × Value), p ∈ (intsV .i64 l).zip (intsV .i64 l) → ∃ a, p = (.int .i64 a, .int .i64 a) := by
      intro l
      induction l with
      | nil => intro p hp; simp [intsV] at hp
      | cons a l ih =>
        intro p hp
        have e : intsV .i64 (a :: l) = .int .i64 a :: intsV .i64 l := rfl
        rw [e, List.zip_cons_cons] at hp
        rcases List.mem_cons.1 hp with rfl | hp
        · exact ⟨a, rfl⟩
        · exact ih p hp
    obtain ⟨a, rfl⟩ := h1 _ p hp
    simp [Instr.sameBits]
  und := by
    obtain ⟨fs, hu⟩ := hst
    exact ⟨_, hu, .inl fun a b => rfl⟩
end
end Go.HL
namespace Go.HL.Kl.Mc
open Go Go.HL Go.HL.Kl
abbrev Caps := List Sp
def em1 (c : Caps) (x : Nd) : Caps := if x.op = 7 then c.set (x.n.toNat - 1) noS else c
def emp (l : List Nd) (c : Caps) : Caps := l.foldl em1 c
theorem em1_len (c : Caps) (x : Nd) : (em1 c x).length = c.length := by unfold em1; split <;> simp
theorem emp_len : ∀ (l : List Nd) (c : Caps), (emp l c).length = c.length
  | [], c => rfl
  | x :: l, c => by show (emp l (em1 c x)).length = _; rw [emp_len l, em1_len]
def sameAt (w : List UInt8) (x : Sp) (i j : Nat) : Bool := decide (0 ≤ x.fr ∧ x.to - x.fr = (j : Int) - i) && decide ((w.drop x.fr.toNat).take (j - i) = (w.drop i).take (j - i))
def down (p : Nat) : Nat → List Nat
  | 0 => []
  | k + 1 => (p + k) :: down p k
def ends (p q : Nat) : List Nat := down p (q + 1 - p)
theorem mem_down {p e : Nat} : ∀ {k : Nat}, e ∈ down p k ↔ p ≤ e ∧ e < p + k
  | 0 => by simp only [down, List.not_mem_nil, false_iff]; omega
  | k + 1 => by rw [down, List.mem_cons, mem_down]; omega
theorem mem_ends {p q e : Nat} : e ∈ ends p q ↔ p ≤ e ∧ e ≤ q := by rw [ends, mem_down]; omega
def RL (x : Nd) (B : Nat → Nat → Caps → List Caps) (q : Nat) : Nat → Nat → Nat → Caps → List Caps
  | 0, _, _, _ => []
  | f + 1, had, p, c =>
    (if x.mx = -1 ∨ (had : Int) < x.mx then (ends p q).flatMap (fun e => if e = p ∧ x.mn ≤ (had : Int) ∧ 0 < had then [] else (B p e c).flatMap (fun c1 => RL x B q f (had + 1) e c1)) else []) ++
    (if p = q ∧ x.mn ≤ (had : Int) then [c] else [])
def fuelR (x : Nd) (q had p : Nat) : Nat := (q - p) + (max x.mn.toNat 1 - had) + 1
def RLf (x : Nd) (B : Nat → Nat → Caps → List Caps) (q had p : Nat) (c : Caps) : List Caps := RL x B q (fuelR x q had p) had p c
theorem flatMap_congr' {α β : Type} {f g : α → List β} : ∀ {l : List α}, (∀ a ∈ l, f a = g a) → l.flatMap f = l.flatMap g
  | [], _ => rfl
  | a :: l, h => by rw [List.flatMap_cons, List.flatMap_cons, h a List.mem_cons_self, flatMap_congr' fun b hb => h b (List.mem_cons_of_mem _ hb)]
theorem RL_fuel {x : Nd} {B : Nat → Nat → Caps → List Caps} {q : Nat} : ∀ (f f' had p : Nat) (c : Caps), fuelR x q had p ≤ f → fuelR x q had p ≤ f' → RL x B q f had p c = RL x B q f' had p c
  | 0, _, had, p, c, h, _ => by unfold fuelR at h; omega
  | f + 1, 0, had, p, c, _, h => by unfold fuelR at h; omega
  | f + 1, f' + 1, had, p, c, h, h' => by
    rw [RL, RL]
    congr 1
    split
    · refine flatMap_congr' fun e he => ?_
      have he := mem_ends.1 he
      split
      · rfl
      · rename_i hn
        refine flatMap_congr' fun c1 _ => RL_fuel f f' (had + 1) e c1 ?_ ?_ <;> (unfold fuelR at h h' ⊢; omega)
    · rfl
theorem RLf_eq {x : Nd} {B : Nat → Nat → Caps → List Caps} {q had p : Nat} {c : Caps} : RLf x B q had p c =
    (if x.mx = -1 ∨ (had : Int) < x.mx then (ends p q).flatMap (fun e => if e = p ∧ x.mn ≤ (had : Int) ∧ 0 < had then [] else (B p e c).flatMap (fun c1 => RLf x B q (had + 1) e c1)) else []) ++
    (if p = q ∧ x.mn ≤ (had : Int) then [c] else []) := by
  have e0 : RLf x B q had p c = RL x B q (fuelR x q had p + 1) had p c := RL_fuel _ _ _ _ _ (Nat.le_refl _) (by omega)
  rw [e0, RL]
  congr 1
  split
  · refine flatMap_congr' fun e he => ?_
    have he := mem_ends.1 he
    split
    · rfl
    · exact flatMap_congr' fun c1 _ => RL_fuel _ _ _ _ _ (by unfold fuelR; omega) (Nat.le_refl _)
  · rfl
theorem RLf_cap {x : Nd} {B : Nat → Nat → Caps → List Caps} {q : Nat} (hx : x.mx = -1) : ∀ (n had had' p : Nat) (c : Caps), q + 1 - p ≤ n → max x.mn.toNat 1 ≤ had → max x.mn.toNat 1 ≤ had' → RLf x B q had p c = RLf x B q had' p c := by
  intro n
  induction n with
  | zero =>
    intro had had' p c hn h1 h2
    rw [RLf_eq, RLf_eq]
    have e0 : ends p q = [] := by rw [ends, show q + 1 - p = 0 by omega]; rfl
    rw [e0, if_neg (show ¬ (p = q ∧ x.mn ≤ (had : Int)) by omega), if_neg (show ¬ (p = q ∧ x.mn ≤ (had' : Int)) by omega)]
    simp
  | succ n ih =>
    intro had had' p c hn h1 h2
    rw [RLf_eq, RLf_eq, if_pos (show x.mx = -1 ∨ (had : Int) < x.mx from .inl hx), if_pos (show x.mx = -1 ∨ (had' : Int) < x.mx from .inl hx)]
    congr 1
    · refine flatMap_congr' fun e he => ?_
      have he := mem_ends.1 he
      by_cases ep : e = p
      · rw [if_pos (show e = p ∧ x.mn ≤ (had : Int) ∧ 0 < had from ⟨ep, by omega, by omega⟩), if_pos (show e = p ∧ x.mn ≤ (had' : Int) ∧ 0 < had' from ⟨ep, by omega, by omega⟩)]
      · rw [if_neg (fun h => ep h.1), if_neg (fun h => ep h.1)]
        exact flatMap_congr' fun c1 _ => ih _ _ e c1 (by omega) (by omega) (by omega)
    · have e1 : (p = q ∧ x.mn ≤ (had : Int)) = (p = q ∧ x.mn ≤ (had' : Int)) := propext ⟨fun h => ⟨h.1, by omega⟩, fun h => ⟨h.1, by omega⟩⟩
      simp only [e1]
def LF (w : List UInt8) : F → Bool → Nat → Nat → Caps → List Caps
  | .nil, md, i, j, c => if md = false ∧ i = j then [c] else []
  | .nd x ks r, md, i, j, c =>
    let one : Nat → Nat → Caps → List Caps := fun i j c =>
      if x.op = 1 then (if j = i + 1 ∧ (∃ b, w[i]? = some b ∧ x.set.getLsbD b.toNat = true) then [c] else [])
      else if x.op = 2 then (if i = 0 ∧ j = 0 then [c] else [])
      else if x.op = 3 then (if i = w.length ∧ j = w.length then [c] else [])
      else if x.op = 8 then (if sameAt w (c.getD (x.n.toNat - 1) noS) i j = true then [c] else [])
      else if x.op = 5 then LF w ks true i j c
      else if x.op = 6 then RLf x (fun p e c => LF w ks false p e (emp ks.flat c)) j 0 i c
      else if x.op = 7 then (LF w ks false i j (emp ks.flat c)).map (fun d => d.set (x.n.toNat - 1) ⟨i, j⟩)
      else LF w ks false i j c
    if md = true then one i j c ++ LF w r true i j c
    else (ends i j).flatMap (fun e => (one i e c).flatMap (fun c1 => LF w r false e j c1))
def moreC (l : List Caps) (c : Caps) : List Caps := if c ∈ l then l else l ++ [c]
def addC (l m : List Caps) : List Caps := m.foldl moreC l
def Sim (R : Nat → Prop) (c c' : Caps) : Prop := c.length = c'.length ∧ ∀ n, R n → c[n]? = c'[n]?
theorem Sim.set {R : Nat → Prop} {c c' : Caps} (h : Sim R c c') (n : Nat) (s : Sp) : Sim R (c.set n s) (c'.set n s) := by
  refine ⟨by simp [h.1], fun m hm => ?_⟩
  by_cases e : n = m
  · subst e
    by_cases hl : n < c.length
    · rw [List.getElem?_set_self hl, List.getElem?_set_self (by rw [← h.1]; exact hl)]
    · rw [List.getElem?_eq_none (by simp; omega), List.getElem?_eq_none (by simp [← h.1]; omega)]
  · rw [List.getElem?_set_ne e, List.getElem?_set_ne e, h.2 m hm]
theorem Sim.emp {R : Nat → Prop} : ∀ (l : List Nd) {c c' : Caps}, Sim R c c' → Sim R (emp l c) (emp l c')
  | [], c, c', h => h
  | x :: l, c, c', h => by
    show Sim R (Mc.emp l (em1 c x)) (Mc.emp l (em1 c' x))
    refine Sim.emp l ?_
    unfold em1
    split
    · exact h.set _ _
    · exact h
inductive SimL (R : Nat → Prop) : List Caps → List Caps → Prop
  | nil : SimL R [] []
  | cons {c c' : Caps} {l l' : List Caps} (h : Sim R c c') (t : SimL R l l') : SimL R (c :: l) (c' :: l')
theorem SimL.app {R : Nat → Prop} {l l' m m' : List Caps} (h : SimL R l l') (h' : SimL R m m') : SimL R (l ++ m) (l' ++ m') := by
  induction h with
  | nil => exact h'
  | cons a _ ih => exact .cons a ih
theorem SimL.flat {R : Nat → Prop} {f f' : Caps → List Caps} (hf : ∀ c c', Sim R c c' → SimL R (f c) (f' c')) {l l' : List Caps} (h : SimL R l l') : SimL R (l.flatMap f) (l'.flatMap f') := by
  induction h with
  | nil => exact .nil
  | cons a _ ih => rw [List.flatMap_cons, List.flatMap_cons]; exact (hf _ _ a).app ih
theorem SimL.flat1 {R : Nat → Prop} {α : Type} {f f' : α → List Caps} : ∀ (l : List α), (∀ a ∈ l, SimL R (f a) (f' a)) → SimL R (l.flatMap f) (l.flatMap f')
  | [], _ => .nil
  | a :: l, h => by rw [List.flatMap_cons, List.flatMap_cons]; exact (h a List.mem_cons_self).app (SimL.flat1 l fun b hb => h b (List.mem_cons_of_mem _ hb))
theorem SimL.map {R : Nat → Prop} {f : Caps → Caps} (hf : ∀ c c', Sim R c c' → Sim R (f c) (f c')) {l l' : List Caps} (h : SimL R l l') : SimL R (l.map f) (l'.map f) := by
  induction h with
  | nil => exact .nil
  | cons a _ ih => exact .cons (hf _ _ a) ih
theorem SimL.ite {R : Nat → Prop} {p : Prop} [Decidable p] {l l' : List Caps} (h : SimL R l l') : SimL R (if p then l else []) (if p then l' else []) := by
  split
  · exact h
  · exact .nil
theorem RLf_sim {R : Nat → Prop} {x : Nd} {B : Nat → Nat → Caps → List Caps} {q : Nat} (hB : ∀ p e c c', Sim R c c' → SimL R (B p e c) (B p e c')) : ∀ (f had p : Nat) (c c' : Caps), Sim R c c' → SimL R (RL x B q f had p c) (RL x B q f had p c')
  | 0, _, _, _, _, _ => .nil
  | f + 1, had, p, c, c', h => by
    rw [RL, RL]
    refine SimL.app (SimL.ite ?_) (SimL.ite (.cons h .nil))
    refine SimL.flat1 _ fun e _ => ?_
    split
    · exact .nil
    · exact (hB _ _ _ _ h).flat fun c1 c1' h1 => RLf_sim hB f _ _ _ _ h1
def refd (l : List Nd) (n : Nat) : Prop := ∃ x ∈ l, x.op = 8 ∧ x.n.toNat - 1 = n
theorem LF_sim {w : List UInt8} {R : Nat → Prop} : ∀ (f : F) (md : Bool) (i j : Nat) (c c' : Caps), (∀ n, refd f.flat n → R n) → Sim R c c' → SimL R (LF w f md i j c) (LF w f md i j c')
  | .nil, md, i, j, c, c', _, h => by rw [LF, LF]; exact SimL.ite (.cons h .nil)
  | .nd x ks r, md, i, j, c, c', hR, h => by
    have hks : ∀ n, refd ks.flat n → R n := fun n ⟨y, hy, h1, h2⟩ => hR n ⟨y, by simp [F.flat, hy], h1, h2⟩
    have hr : ∀ n, refd r.flat n → R n := fun n ⟨y, hy, h1, h2⟩ => hR n ⟨y, by simp [F.flat, hy], h1, h2⟩
    have hone : ∀ i j c c', Sim R c c' → SimL R
      (if x.op = 1 then (if j = i + 1 ∧ (∃ b, w[i]? = some b ∧ x.set.getLsbD b.toNat = true) then [c] else [])
      else if x.op = 2 then (if i = 0 ∧ j = 0 then [c] else [])
      else if x.op = 3 then (if i = w.length ∧ j = w.length then [c] else [])
      else if x.op = 8 then (if sameAt w (c.getD (x.n.toNat - 1) noS) i j = true then [c] else [])
      else if x.op = 5 then LF w ks true i j c
      else if x.op = 6 then RLf x (fun p e c => LF w ks false p e (emp ks.flat c)) j 0 i c
      else if x.op = 7 then (LF w ks false i j (emp ks.flat c)).map (fun d => d.set (x.n.toNat - 1) ⟨i, j⟩)
      else LF w ks false i j c)
      (if x.op = 1 then (if j = i + 1 ∧ (∃ b, w[i]? = some b ∧ x.set.getLsbD b.toNat = true) then [c'] else [])
      else if x.op = 2 then (if i = 0 ∧ j = 0 then [c'] else [])
      else if x.op = 3 then (if i = w.length ∧ j = w.length then [c'] else [])
      else if x.op = 8 then (if sameAt w (c'.getD (x.n.toNat - 1) noS) i j = true then [c'] else [])
      else if x.op = 5 then LF w ks true i j c'
      else if x.op = 6 then RLf x (fun p e c => LF w ks false p e (emp ks.flat c)) j 0 i c'
      else if x.op = 7 then (LF w ks false i j (emp ks.flat c')).map (fun d => d.set (x.n.toNat - 1) ⟨i, j⟩)
      else LF w ks false i j c') := by
      intro i j c c' h
      split
      · exact SimL.ite (.cons h .nil)
      split
      · exact SimL.ite (.cons h .nil)
      split
      · exact SimL.ite (.cons h .nil)
      split
      · rename_i h8
        have e : c.getD (x.n.toNat - 1) noS = c'.getD (x.n.toNat - 1) noS := by
          rw [List.getD_eq_getElem?_getD, List.getD_eq_getElem?_getD, h.2 _ (hR _ ⟨x, by simp [F.flat], h8, rfl⟩)]
        rw [e]; exact SimL.ite (.cons h .nil)
      split
      · exact LF_sim ks true i j c c' hks h
      split
      · exact RLf_sim (fun p e c c' h => LF_sim ks false p e _ _ hks (h.emp _)) _ _ _ _ _ h
      split
      · exact (LF_sim ks false i j _ _ hks (h.emp _)).map fun c c' h => h.set _ _
      · exact LF_sim ks false i j c c' hks h
    rw [LF, LF]
    cases md with
    | true =>
      simp only [if_true]
      exact (hone i j c c' h).app (LF_sim r true i j c c' hr h)
    | false =>
      simp only [Bool.false_eq_true, if_false]
      exact SimL.flat1 _ fun e _ => (hone i e c c' h).flat fun c1 c1' h1 => LF_sim r false e j _ _ hr h1
def CodeP (T n : Nat) (v : Value) (S' : Hp) : Prop := ∃ (a : Option Addr) (c : Nat) (m : List In), v = .slice a m.length c ∧ m.length = n ∧ OwnS Ein 7 T (.slice a m.length c) m S'
def CodeC (P : Program) (fn T : Nat) (x : Nd) (ks : F) : Prop := ∀ (ma : Option Addr) (mc : Nat) (m : List In) (Sm : Hp) (ra : Option Addr) (rc : Nat) (re : List Nd) (i i1 : Nat), (∀ x ∈ re, -128 ≤ x.op ∧ x.op < 128) → (∀ x ∈ re, ¬ x.op = 8) → re.length ≤ 1000000 → Part re (.nd x ks .nil) i i1 → OwnS Ein 7 T (.slice ma m.length mc) m Sm → m.length + lenT x ks ≤ 70000 →
  Fn P fn [.slice ma m.length mc, .slice ra re.length rc, .int .i64 i] (fun W => Rd En W (.slice ra re.length rc) re ∧ Apart (keys Sm) (.slice ra re.length rc)) Sm (CodeP T (m.length + lenT x ks))
end Go.HL.Kl.Mc
