/- Sets of places, made: of one node, of two sets. Conditions: none. -/
import Derived.Test.YtloepfcndglmmaaDoorMT9Z
import Derived.Test.YtloepfcndglmmaaDoorVZF1Z
import Derived.Test.YtloepfcndglmmaaDoorHlB
import Derived.Test.YtloepfcndglmmaaDoorVZN1Z
namespace Go.HL.Kl.Mc
open Go Go.HL Go.HL.Kl
/-! forests, one behind the other -/
def F.app : F → F → F
  | .nil, g => g
  | .nd x ks r, g => .nd x ks (r.app g)
theorem F.num_app : ∀ f g : F, (f.app g).num = f.num + g.num
  | .nil, g => by simp [F.app, F.num]
  | .nd x ks r, g => by simp only [F.app, F.num, F.num_app r g]; omega
theorem F.flat_app : ∀ f g : F, (f.app g).flat = f.flat ++ g.flat
  | .nil, g => by simp [F.app, F.flat]
  | .nd x ks r, g => by simp [F.app, F.flat, F.flat_app r g]
theorem F.size_app : ∀ f g : F, (f.app g).size = f.size + g.size
  | .nil, g => by simp [F.app, F.size]
  | .nd x ks r, g => by simp only [F.app, F.size, F.size_app r g]; omega
theorem F.wf_app : ∀ {f g : F}, f.wf → g.wf → (f.app g).wf
  | .nil, g, _, h => h
  | .nd x ks r, g, ⟨a, b, c, d⟩, h => ⟨a, b, c, F.wf_app d h⟩
theorem F.num_nil {f : F} (h : f.num = 0) : f = .nil := by
  cases f with
  | nil => rfl
  | nd x ks r => simp [F.num] at h
/-! lists of booleans -/
def bo0 (l : List Bool) (i : Nat) : Bool := l.getD i false
def orF (a b : List Bool) (i : Nat) : Bool := bo0 a i || bo0 b i
def orL (a b : List Bool) : List Bool := (List.range a.length).map (orF a b)
/-- is there one of b that is not of a, among the first k? -/
def moreTo (a b : List Bool) (k : Nat) : Bool := (List.range k).any fun i => bo0 b i && !bo0 a i
def moreB (a b : List Bool) : Bool := moreTo a b a.length
/-- how many are not in the set -/
def cf (l : List Bool) : Nat := (List.range l.length).countP fun i => !bo0 l i
structure SetP (w : List UInt8) (s : Cl) (fr : List Bool) (j : Nat) (out : List Bool) : Prop where
  len : out.length = w.length + 1
  get : ∀ q : Nat, out[q]? = some true ↔ ∃ p, p < j ∧ q = p + 1 ∧ fr[p]? = some true ∧ ∃ b, w[p]? = some b ∧ s.getLsbD b.toNat = true
def OutP (N : Nat) (S : Nat → Prop) (vf : Value) (fr : List Bool) (v : Value) (S' : Hp) : Prop :=
  ∃ (a : Option Addr) (c : Nat) (l : List Bool), v = .slice a l.length c ∧ IsS l N S ∧ ∀ W : World, (∀ b o, (b, o) ∈ S' → W.heap[b]? = some o) → Rd Ebo W vf fr → Rd Ebo W v l
/-- the contract of over and of rounds -/
def OverC (P : Program) (fn : Nat) (w : List UInt8) (x : Nd) (ks : F) : Prop := ∀ (ra : Option Addr) (rc : Nat) (re : List Nd) (ta : Option Addr) (tc i i' : Nat) (fa : Option Addr) (fc : Nat) (fr : List Bool) (S : Nat → Prop),
  (∀ x ∈ re, -128 ≤ x.op ∧ x.op < 128) → (∀ x ∈ re, ¬ x.op = 8) → w.length ≤ 1000000 → Part re (.nd x ks .nil) i i' → IsS fr w.length S → (∀ p, S p → p ≤ w.length) →
  Fn P fn [.slice ra re.length rc, .int .i64 i, .slice ta w.length tc, .slice fa fr.length fc] (fun W => Rd En W (.slice ra re.length rc) re ∧ Rd Eb W (.slice ta w.length tc) w ∧ Rd Ebo W (.slice fa fr.length fc) fr) [] (OutP w.length (img (der1 w x ks) S) (.slice fa fr.length fc) fr)
/-- read, given a part of the heap and what was handed in -/
def RdC (vf : Value) (fr : List Bool) (v : Value) (l : List Bool) (S : Hp) : Prop := ∀ W : World, (∀ b o, (b, o) ∈ S → W.heap[b]? = some o) → Rd Ebo W vf fr → Rd Ebo W v l
/-- rounds, when there were r -/
def RR (x : Nd) (D : Nat → Nat → Prop) (r p q : Nat) : Prop := ∃ k : Nat, x.mn ≤ ((r + k : Nat) : Int) ∧ (x.mx = -1 ∨ ((r + k : Nat) : Int) ≤ x.mx) ∧ pow D k p q
/-- the end of the next round can be m -/
def RQ (x : Nd) (D : Nat → Nat → Prop) (r p q m : Nat) : Prop := (x.mx = -1 ∨ (r : Int) < x.mx) ∧ (m ≠ p ∨ (r : Int) < x.mn ∨ r = 0) ∧ D p m ∧ RR x D (r + 1) m q
/-- the questions that are answered yes -/
inductive Qry (w : List UInt8) (re : List Nd) : Ky → Prop
  | alt {x : Nd} {ks : F} {i i1 p q : Nat} (hp : Part re (.nd x ks .nil) i i1) (h5 : x.op = 5) (h : der w ks true p q) : Qry w re ⟨i, -1, p, q⟩
  | cat {x : Nd} {ks g : F} {i i1 m p q : Nat} (hp : Part re (.nd x ks .nil) i i1) (h4 : x.op = 4) (hg : Part re g m i1) (h : der w g false p q) : Qry w re ⟨i, m, p, q⟩
  | rep {x : Nd} {ks : F} {i i1 r p q : Nat} (hp : Part re (.nd x ks .nil) i i1) (h6 : x.op = 6) (h : RR x (der w ks false) r p q) : Qry w re ⟨i, r, p, q⟩
/-- what is known is true -/
def MapOk (w : List UInt8) (re : List Nd) (es : List Me) : Prop := ∀ k, getK es k = 0 ∨ (getK es k = 1 ∧ Qry w re k) ∨ (getK es k = -1 ∧ ¬ Qry w re k)
open Classical in
noncomputable def dQ (Q : Prop) : Bool := decide Q
attribute [irreducible] dQ
/-- an asker and what it holds -/
structure AskE where
  (bRe bTx bA bS bE bM nF rF : Nat)
  (ra : Option Addr) (rc : Nat) (re : List Nd) (ta : Option Addr) (tc : Nat) (tx : List UInt8) (l : List Nat)
namespace AskE
abbrev vre (K : AskE) : Value := .slice K.ra K.re.length K.rc
abbrev vtx (K : AskE) : Value := .slice K.ta K.tx.length K.tc
abbrev ven (K : AskE) : Value := .slice (some ⟨K.bE, 0, none⟩) K.re.length K.re.length
abbrev pt (b : Nat) : Value := .pointer (some ⟨b, 0, none⟩)
abbrev cells (K : AskE) : List Value := [K.vre, K.ven, K.vtx, .map (some K.bM), .func (.func K.nF) [].toArray [pt K.bRe, pt K.bTx, pt K.bA].toArray, .func (.func K.rF) [].toArray [pt K.bA].toArray]
end AskE
open AskE
structure Env (w : World) (K : AskE) (M : List Nat) : Prop where
  p1 : RdP w K.bRe 0 [K.vre]
  p2 : RdP w K.bTx 0 [K.vtx]
  p3 : RdP w K.bA 0 [pt K.bS]
  p4 : RdP w K.bS 0 K.cells
  d1 : Rd En w K.vre K.re
  d2 : Rd Eb w K.vtx K.tx
  d3 : Rd Eix w K.ven K.l
  n1 : K.bRe ∉ M
  n2 : K.bTx ∉ M
  n3 : K.bA ∉ M
  n4 : K.bS ∉ M
  a1 : Apart M K.vre
  a2 : Apart M K.vtx
  a3 : Apart M K.ven
/-- what the asker holds is sound -/
structure AskE.ok (K : AskE) : Prop where
  rng : ∀ x ∈ K.re, -128 ≤ x.op ∧ x.op < 128
  no8 : ∀ x ∈ K.re, ¬ x.op = 8
  len : K.re.length ≤ 1000000
  tx : K.tx.length ≤ 1000000
  ends : EndsOk K.re 0 K.l
def AnsK (K : AskE) (Q : Prop) (v : Value) (S' : Hp) : Prop := ∃ es c, v = .bool (dQ Q) ∧ S' = [(K.bM, mpO es c)] ∧ MapOk K.tx K.re es
def NodeK (P : Program) (K : AskE) (x : Nd) (ks : F) : Prop := ∀ (i i1 p q : Nat) (es : List Me) (c : Nat), Part K.re (.nd x ks .nil) i i1 → p ≤ q → q ≤ K.tx.length → MapOk K.tx K.re es →
  Fn P K.nF [.int .i64 i, .int .i64 p, .int .i64 q, pt K.bRe, pt K.bTx, pt K.bA] (fun W => Env W K [K.bM]) [(K.bM, mpO es c)] (AnsK K (der1 K.tx x ks p q))
def RestK (P : Program) (K : AskE) (k : Ky) : Prop := ∀ (es : List Me) (c : Nat), MapOk K.tx K.re es →
  Fn P K.rF [.agg (Ek k).toArray, pt K.bA] (fun W => Env W K [K.bM]) [(K.bM, mpO es c)] (AnsK K (Qry K.tx K.re k))
def FindK (P : Program) (K : AskE) (fn : Nat) (k : Ky) : Prop := ∀ (es : List Me) (c : Nat), MapOk K.tx K.re es →
  Fn P fn [pt K.bS, .agg (Ek k).toArray] (fun W => Env W K [K.bM]) [(K.bM, mpO es c)] (AnsK K (Qry K.tx K.re k))
/-- the greatest -/
def Grt (Q : Nat → Prop) (p q m : Nat) : Prop := p ≤ m ∧ m ≤ q ∧ Q m ∧ ∀ n, m < n → n ≤ q → ¬ Q n
def KidP (K : AskE) (Q : Nat → Prop) (p q : Nat) (v : Value) (S' : Hp) : Prop := ∃ es c, S' = [(K.bM, mpO es c)] ∧ MapOk K.tx K.re es ∧
  ((∃ m, Grt Q p q m ∧ v = .tuple #[.int .i64 m, .bool true]) ∨ ((∀ m, p ≤ m → m ≤ q → ¬ Q m) ∧ v = .tuple #[.int .i64 0, .bool false]))
def KidK (P : Program) (K : AskE) (fn : Nat) (k : Ky) (Q : Nat → Prop) (p q : Nat) : Prop := ∀ (es : List Me) (c : Nat), MapOk K.tx K.re es →
  Fn P fn [pt K.bS, .agg (Ek k).toArray] (fun W => Env W K [K.bM]) [(K.bM, mpO es c)] (KidP K Q p q)
end Go.HL.Kl.Mc
namespace Go.HL.Kl.Mc
open Go Go.HL Go.HL.Kl
theorem one_kid {x : Nd} {ks : F} (hw : (F.nd x ks .nil).wf) (h : x.op = 6 ∨ x.op = 7) : ∃ y js, ks = .nd y js .nil := by
  have hok : ndOk x = true := hw.1
  have hk : (ks.num : Int) = x.kids := hw.2.1
  have h1 : x.kids = 1 := by
    simp only [ndOk, Bool.and_eq_true] at hok
    have := hok.2
    simp only [kidsOk] at this
    rcases h with h | h <;> simp [h] at this <;> omega
  cases ks with
  | nil => simp [F.num] at hk; omega
  | nd y js r =>
    cases r with
    | nil => exact ⟨y, js, rfl⟩
    | nd z a b => simp [F.num] at hk; omega
/-- derivations go on -/
def Up (D : Nat → Nat → Prop) : Prop := ∀ p q, D p q → p ≤ q
/-- how many rounds count -/
def nxtR (x : Nd) (r : Nat) : Nat := if x.mx < 0 then min (r + 1) (max x.mn.toNat 1) else r + 1
structure Sp where
  fr : Int
  to : Int
  deriving DecidableEq
def Esp (s : Sp) : List Value := [.int .i64 s.fr, .int .i64 s.to]
instance : Enc Esp 2 := ⟨fun _ => rfl, fun x v hv => by
  simp only [Esp, List.mem_cons, List.not_mem_nil, or_false] at hv
  rcases hv with rfl | rfl <;> rfl⟩
def noS : Sp := ⟨-1, -1⟩
def fg1 (cs : List Sp) (x : Nd) : List Sp := if x.op = 7 then cs.set x.n.toNat noS else cs
def fgt (l : List Nd) (cs : List Sp) : List Sp := l.foldl fg1 cs
theorem fg1_len (cs : List Sp) (x : Nd) : (fg1 cs x).length = cs.length := by unfold fg1; split <;> simp
theorem fgt_len : ∀ (l : List Nd) (cs : List Sp), (fgt l cs).length = cs.length
  | [], cs => rfl
  | x :: l, cs => by
    show (fgt l (fg1 cs x)).length = _
    rw [fgt_len l, fg1_len]
/-- likewise, of the places from a up to j -/
def fgtTo (re : List Nd) (a j : Nat) (cs : List Sp) : List Sp := fgt ((re.drop a).take (j - a)) cs
open Classical in
noncomputable def grt (Q : Nat → Prop) (p q : Nat) : Nat := if h : ∃ m, Grt Q p q m then h.choose else 0
attribute [irreducible] grt
noncomputable def reps (x : Nd) (D : Nat → Nat → Prop) (B : Nat → Nat → List Sp → List Sp) (q : Nat) : Nat → Nat → Nat → List Sp → List Sp
  | 0, _, _, cs => cs
  | f + 1, r, p, cs => if dQ (∃ m, Grt (RQ x D r p q) p q m) = true then reps x D B q f (nxtR x r) (grt (RQ x D r p q) p q) (B p (grt (RQ x D r p q) p q) cs) else cs
noncomputable def bst (w : List UInt8) : F → Bool → Nat → Nat → List Sp → List Sp
  | .nil, _, _, _, cs => cs
  | .nd x ks r, m, p, q, cs =>
    let one : Nat → Nat → List Sp → List Sp := fun p q cs =>
      if x.op = 7 then (bst w ks false p q (fgt ks.flat cs)).set x.n.toNat ⟨p, q⟩
      else if x.op = 5 then bst w ks true p q cs
      else if x.op = 4 then bst w ks false p q cs
      else if x.op = 6 then reps x (der w ks false) (fun p q cs => bst w ks false p q (fgt ks.flat cs)) q ((q - p) + max x.mn.toNat 1 + 1) 0 p cs
      else cs
    if m = true then (if dQ (der1 w x ks p q) = true then one p q cs else bst w r true p q cs)
    else bst w r false (grt (fun n => der1 w x ks p n ∧ der w r false n q) p q) q (one p (grt (fun n => der1 w x ks p n ∧ der w r false n q) p q) cs)
noncomputable def bst1 (w : List UInt8) (x : Nd) (ks : F) (p q : Nat) (cs : List Sp) : List Sp :=
  if x.op = 7 then (bst w ks false p q (fgt ks.flat cs)).set x.n.toNat ⟨p, q⟩
  else if x.op = 5 then bst w ks true p q cs
  else if x.op = 4 then bst w ks false p q cs
  else if x.op = 6 then reps x (der w ks false) (fun p q cs => bst w ks false p q (fgt ks.flat cs)) q ((q - p) + max x.mn.toNat 1 + 1) 0 p cs
  else cs
/-- how many groups -/
def gcn (l : List Nd) : Nat := l.countP (fun x => decide (x.op = 7))
theorem gcn_take {re : List Nd} {j : Nat} {x : Nd} (h : re[j]? = some x) : gcn (re.take (j + 1)) = gcn (re.take j) + (if x.op = 7 then 1 else 0) := by
  rw [List.take_add_one, h]
  simp [gcn, List.countP_append, List.countP_cons]
theorem gcn_mono {re : List Nd} {i j : Nat} (h : i ≤ j) : gcn (re.take i) ≤ gcn (re.take j) := by
  unfold gcn
  exact List.Sublist.countP_le (List.take_sublist_take_left h)
def Numd (re : List Nd) (b i i' b' : Nat) : Prop := b' + gcn (re.take i) = b + gcn (re.take i') ∧ ∀ j x, i ≤ j → j < i' → re[j]? = some x → x.op = 7 → x.n + (gcn (re.take i) : Nat) = (b : Int) + (gcn (re.take j) : Nat) + 1
theorem kidsN_num {re : List Nd} {step : Nat → List Bool → Option (Nat × List Bool)} (hs : ∀ i en i' en', step i en = some (i', en') → i ≤ i' ∧ Numd re en.length i i' en'.length) :
    ∀ k i en i' en', kidsN step k i en = some (i', en') → i ≤ i' ∧ Numd re en.length i i' en'.length := by
  intro k
  induction k with
  | zero =>
    intro i en i' en' h
    simp only [kidsN, Option.some.injEq, Prod.mk.injEq] at h
    obtain ⟨rfl, rfl⟩ := h
    exact ⟨Nat.le_refl _, rfl, fun j x h1 h2 => by omega⟩
  | succ k ih =>
    intro i en i' en' h
    simp only [kidsN] at h
    split at h
    · cases h
    · rename_i j en1 hst
      obtain ⟨h1, h2, h3⟩ := hs _ _ _ _ hst
      obtain ⟨h4, h5, h6⟩ := ih _ _ _ _ h
      refine ⟨by omega, by omega, fun t x ht1 ht2 hx h7 => ?_⟩
      rcases Nat.lt_or_ge t j with e | e
      · exact h3 t x ht1 e hx h7
      · have := h6 t x e ht2 hx h7; omega
theorem shN_num {re : List Nd} : ∀ f i en g i' en', shN re f i en g = some (i', en') → i ≤ i' ∧ Numd re en.length i i' en'.length := by
  intro f
  induction f with
  | zero => intro i en g i' en' h; cases h
  | succ f ih =>
    intro i en g i' en' h
    simp only [shN] at h
    split at h
    · cases h
    · rename_i x hx
      split at h
      · split at h
        · cases h
        · rename_i en1 g1 hg
          split at h
          · cases h
          · rename_i i2 en2 hk
            simp only [Option.some.injEq, Prod.mk.injEq] at h
            obtain ⟨rfl, rfl⟩ := h
            obtain ⟨h1, h2, h3⟩ := kidsN_num (fun i en i' en' h => ih i en g1 i' en' h) _ _ _ _ _ hk
            have ht := gcn_take hx
            have he : en1.length = en.length + (if x.op = 7 then 1 else 0) ∧ (x.op = 7 → x.n = en.length + 1) := by
              unfold gate at hg
              split at hg
              · split at hg
                · cases hg; rename_i h8 _; exact ⟨by rw [if_neg (by omega)]; rfl, fun h => by omega⟩
                · cases hg
              split at hg
              · split at hg
                · cases hg; rename_i _ h7 hc; exact ⟨by rw [if_pos h7]; simp, fun _ => hc.1⟩
                · cases hg
              · cases hg; rename_i _ h7; exact ⟨by rw [if_neg h7]; rfl, fun h => absurd h h7⟩
            have hl : (if x.op = 7 then en2.set (x.n.toNat - 1) true else en2).length = en2.length := by split <;> simp
            refine ⟨by omega, by rw [hl]; omega, fun j y hj1 hj2 hy h7 => ?_⟩
            by_cases e : j = i
            · subst e
              rw [hx] at hy; cases hy
              have := he.2 h7; omega
            · have := h3 j y (by omega) hj2 hy h7
              omega
      · cases h
theorem grp_n {re : List Nd} (h : shapedB re = true) {j : Nat} {x : Nd} (hx : re[j]? = some x) (h7 : x.op = 7) : x.n = (gcn (re.take j) : Nat) + 1 ∧ x.n ≤ gcn re := by
  obtain ⟨⟨en, hsh⟩, _⟩ := shapedB_iff.1 h
  obtain ⟨_, h1, h2⟩ := shN_num _ _ _ _ _ _ hsh
  have hlt := (List.getElem?_eq_some_iff.1 hx).1
  have h3 := h2 j x (Nat.zero_le _) hlt hx h7
  have h4 := gcn_take hx
  have h5 : gcn (re.take (j + 1)) ≤ gcn re := by
    have := gcn_mono (re := re) (i := j + 1) (j := re.length) hlt
    rwa [List.take_length] at this
  simp [gcn] at h3
  rw [if_pos h7] at h4
  refine ⟨by simp only [gcn]; omega, ?_⟩
  simp only [gcn] at h4 h5 ⊢
  omega
end Go.HL.Kl.Mc
namespace Go.HL
open Go
theorem RdP.lt {w : World} {b off : Nat} {cs : List Value} (h : RdP w b off cs) (hc : cs ≠ []) : b < w.heap.size := by
  obtain ⟨u, hu⟩ : ∃ u, cs[0]? = some u := by
    cases cs with
    | nil => exact absurd rfl hc
    | cons a l => exact ⟨a, rfl⟩
  have h2 := h.get 0 u hu
  rcases Nat.lt_or_ge b w.heap.size with h' | h'
  · exact h'
  · simp [World.cell?, oblk, Array.getElem?_eq_none h'] at h2
theorem St.notin {w0 w : World} {M : List Nat} {H S : Hp} {b off : Nat} {cs : List Value} (st : St w0 w M H) (hin : HIn S H) (hr : RdP w0 b off cs) (hc : cs ≠ []) (hM : b ∉ M) : b ∉ keys S := by
  intro hm
  obtain ⟨⟨b', o⟩, hmS, hb⟩ := List.mem_map.1 hm
  have hb : b' = b := hb
  subst hb
  have := hr.lt hc
  rcases st.own _ _ (hin _ hmS) with h1 | h1
  · exact hM h1
  · omega
theorem hin_cons {b : Nat} {o : Obj} {S H : Hp} (h : (b, o) ∈ H) (hs : HIn S H) : HIn ((b, o) :: S) H := fun p hp => by
  rcases List.mem_cons.1 hp with rfl | hp
  · exact h
  · exact hs p hp
end Go.HL
namespace Go.HL.Kl.Mc
open Go Go.HL Go.HL.Kl AskE
structure AskG (T n : Nat) where
  (bE bM bA bS : Nat) (S : Hp)
  (h : OwnS Eix 1 T (.slice (some ⟨bE, 0, none⟩) n n) (List.replicate n 0) S)
/-- the captures of the best derivation -/
noncomputable def capsV (w : List UInt8) (re : List Nd) (x : Nd) (ks : F) (p q : Nat) : List Sp := (bst1 w x ks p q (List.replicate (gcn re + 1) noS)).set 0 ⟨p, q⟩
/-- the groups' numbers have their places -/
def Slots (re : List Nd) (n : Nat) : Prop := ∀ y ∈ re, y.op = 7 → 0 ≤ y.n ∧ y.n.toNat < n
def TakeP (K : AskE) (T : Nat) (ca : Option Addr) (cc N : Nat) (cs : List Sp) (S' : Hp) : Prop := ∃ es c Sc, S' = (K.bM, mpO es c) :: Sc ∧ MapOk K.tx K.re es ∧ OwnS Esp 2 T (.slice ca N cc) cs Sc
def TakeK (P : Program) (K : AskE) (fn T : Nat) (x : Nd) (ks : F) : Prop := ∀ (i i1 p q : Nat) (es : List Me) (c : Nat) (ca : Option Addr) (cc N : Nat) (cs : List Sp) (Sc : Hp), Part K.re (.nd x ks .nil) i i1 → p ≤ q → q ≤ K.tx.length → der1 K.tx x ks p q → MapOk K.tx K.re es → cs.length = N → Slots K.re N → OwnS Esp 2 T (.slice ca N cc) cs Sc →
  Fn P fn [pt K.bS, .int .i64 i, .int .i64 p, .int .i64 q, .slice ca N cc] (fun W => Env W K (keys ((K.bM, mpO es c) :: Sc))) ((K.bM, mpO es c) :: Sc) (fun _ S' => TakeP K T ca cc N (bst1 K.tx x ks p q cs) S')
def CapsP (K : AskE) (T : Nat) (cs : List Sp) (v : Value) (S' : Hp) : Prop := ∃ es c a cc Sc, v = .slice a cs.length cc ∧ S' = (K.bM, mpO es c) :: Sc ∧ OwnS Esp 2 T (.slice a cs.length cc) cs Sc
end Go.HL.Kl.Mc
namespace Go.HL
open Go
def noIf : TypeDesc → Bool
  | .interface _ => false
  | _ => true
section
variable {P : Program} {κ : Cx} {L : Loc} {H : Hp} {ty : TypeId} {v : Value} {x : Operand}
end
end Go.HL
namespace Go.Proofs.YtloepfcndglmmaaDoor
open Go Go.HL Go.Proofs Go.HL.Kl Go.HL.Kl.Mc Go.HL.Kl.Mc.AskE
theorem copyNodes_fn (a : Option Addr) (c : Nat) (xs : List Nd) (hn : xs.length ≤ 2147483648) : HL.Fn Tryd.prog 17 [.slice a xs.length c] (fun w => Rd En w (.slice a xs.length c) xs) [] (fun v S' => ∃ a' c', v = .slice a' xs.length c' ∧ OwnS En 9 80 (.slice a' xs.length c') xs S') := by
  refine fn_of Tryd.func17 rfl rfl rfl fun w0 hw => ?_
  refine c_seq fun _ hK1 => ?_
  refine c_region ?_
  refine o_step rfl (s_assign rfl) ?_
  refine o_nil ?_
  refine x_then (hK1 _ _ ?_)
  refine c_seq fun _ hK2 => ?_
  refine c_region ?_
  refine o_step rfl (s_assign rfl) ?_
  refine o_nil ?_
  refine x_then (hK2 _ _ ?_)
  refine c_seq fun _ hK3 => ?_
  refine c_region ?_
  refine o_step rfl (s_move rfl) ?_
  refine o_step rfl (s_move rfl) ?_
  refine o_app (OwnS.nil : OwnS En 9 80 (.slice none 0 0) [] []) (RdK.old0 hw) rfl rfl rfl rfl (by simp; omega) (by simp; omega) rfl pkA fun a6 c6 S6 hS6 => ?_
  rw [List.nil_append] at hS6
  rw [List.nil_append]
  refine o_step rfl (s_assign rfl) ?_
  refine o_nil ?_
  refine x_then (hK3 _ _ ?_)
  refine c_ret ?_
  refine ?_
  refine x_sub (Sub.refl _) (H' := S6) hzB ?_
  exact x_ret rfl (.tmp rfl (.nil)) (⟨_, _, rfl, hS6⟩)
theorem copyBytes_fn (a : Option Addr) (c : Nat) (xs : List UInt8) (hn : xs.length ≤ 2147483648) : HL.Fn Tryd.prog 18 [.slice a xs.length c] (fun w => Rd Eb w (.slice a xs.length c) xs) [] (fun v S' => ∃ a' c', v = .slice a' xs.length c' ∧ OwnS Eb 1 5 (.slice a' xs.length c') xs S') := by
  refine fn_of Tryd.func18 rfl rfl rfl fun w0 hw => ?_
  refine c_seq fun _ hK1 => ?_
  refine c_region ?_
  refine o_step rfl (s_assign rfl) ?_
  refine o_nil ?_
  refine x_then (hK1 _ _ ?_)
  refine c_seq fun _ hK2 => ?_
  refine c_region ?_
  refine o_step rfl (s_assign rfl) ?_
  refine o_nil ?_
  refine x_then (hK2 _ _ ?_)
  refine c_seq fun _ hK3 => ?_
  refine c_region ?_
  refine o_step rfl (s_move rfl) ?_
  refine o_step rfl (s_move rfl) ?_
  refine o_app (OwnS.nil : OwnS Eb 1 5 (.slice none 0 0) [] []) (RdK.old0 hw) rfl rfl rfl rfl (by simp; omega) (by simp; omega) rfl pkA fun a6 c6 S6 hS6 => ?_
  rw [List.nil_append] at hS6
  rw [List.nil_append]
  refine o_step rfl (s_assign rfl) ?_
  refine o_nil ?_
  refine x_then (hK3 _ _ ?_)
  refine c_ret ?_
  refine ?_
  refine x_sub (Sub.refl _) (H' := S6) hzB ?_
  exact x_ret rfl (.tmp rfl (.nil)) (⟨_, _, rfl, hS6⟩)
def keI_dummy : Unit := ()
instance keI : KE Tryd.prog 3 EkI := KE.int
def DepC (x : Nd) (ks : F) : Prop := ∀ (ra : Option Addr) (rc : Nat) (re : List Nd) (i i1 : Nat), Part re (.nd x ks .nil) i i1 → HL.Fn Tryd.prog 40 [.slice ra re.length rc, .int .i64 i] (fun W => Rd En W (.slice ra re.length rc) re) [] (fun v _ => v = .tuple #[.int .i64 ((ks.depth + 1 : Nat) : Int), .int .i64 i1])
set_option maxHeartbeats 1000000 in
theorem depth_step (x : Nd) (ks : F) (ih : ∀ y js, js.size < ks.size → DepC y js) (ra : Option Addr) (rc : Nat) (re : List Nd) (i i1 : Nat) (hp : Part re (.nd x ks .nil) i i1) : HL.Fn Tryd.prog 40 [.slice ra re.length rc, .int .i64 i] (fun W => Rd En W (.slice ra re.length rc) re) [] (fun v _ => v = .tuple #[.int .i64 ((ks.depth + 1 : Nat) : Int), .int .i64 i1]) := by
  refine fn_of Tryd.func40 rfl rfl rfl fun w0 hw => ?_
  have hsl := hw.sl
  have hbl := hsl.le
  have hx := hp.head.1
  have hel := hp.le
  have he := hp.len
  simp only [F.size, Nat.add_zero] at he
  have hkn := hp.wf.2.1
  have hksn := ks.num_le
  have hlt := (List.getElem?_eq_some_iff.1 hx).1
  have hdp := F.depth_le ks
  refine c_seq fun _ hK1 => ?_
  refine c_region ?_
  refine o_step rfl (s_assign rfl) ?_
  refine o_step rfl (s_assign rfl) ?_
  refine o_nil ?_
  refine x_then (hK1 _ _ ?_)
  refine c_seq fun _ hK2 => ?_
  refine c_region ?_
  refine o_step rfl (s_move rfl) ?_
  refine o_step rfl (s_add rfl rfl (by omega)) ?_
  refine o_step rfl (s_assign rfl) ?_
  refine o_step rfl (s_assign rfl) ?_
  refine o_nil ?_
  refine x_then (hK2 _ _ ?_)
  refine c_seq fun _ hK3 => ?_
  refine c_seq fun _ hK4 => ?_
  refine c_region ?_
  refine o_step rfl (s_move rfl) ?_
  refine o_step rfl (s_move rfl) ?_
  refine o_step rfl (s_idx rfl rfl hsl (by omega)) ?_
  refine o_step rfl (s_field rfl rfl (by decide)) ?_
  refine o_step rfl (s_ld rfl ((RdK.old0 hw).ld i 8 hx rfl (by decide) (by omega))) ?_
  refine o_step rfl (s_move rfl) ?_
  refine o_nil ?_
  refine x_then (hK4 _ _ ?_)
  refine c_block ?_
  refine c_loop4 (fun (m : Nat) (kid : Nat) (g : F) (d : Nat) => Part re g kid i1 ∧ (m : Int) + g.num = x.kids ∧ g.size ≤ ks.size ∧ max d g.depth = ks.depth) (fun (m : Nat) (kid : Nat) (g : F) (d : Nat) => [(17, .int .i64 m), (7, .int .i64 kid), (6, .int .i64 d)]) [(0, _), (4, _), (5, _), (16, _)] (fun (m : Nat) (kid : Nat) (g : F) (d : Nat) => []) (fun (m : Nat) (kid : Nat) (g : F) (d : Nat) => g.num) 0 (i + 1) ks 0 ⟨by have := hp.head.2.1; rw [show i + 1 + ks.size = i1 by omega] at this; exact this, by omega, Nat.le_refl _, by omega⟩ sbA sbA (by exact HSub.nil) ?_
  rintro m kid g d ⟨hpg, hmg, hgs, hd⟩
  have hgn := g.num_le
  have hgl := hpg.len
  have hgd := F.depth_le g
  refine c_seq fun _ hK5 => ?_
  refine c_region ?_
  by_cases hmk : (m : Int) < x.kids
  ·
   obtain ⟨y, js, r, rfl⟩ : ∃ y js r, g = F.nd y js r := by cases g with | nil => simp only [F.num] at hmg; omega | nd y a c => exact ⟨y, a, c, rfl⟩
   simp only [F.num] at hmg
   simp only [F.size] at hgs hgl
   refine o_step rfl (step_cast (v' := .bool true) (s_lss rfl rfl) (by rw [decide_eq_true (by omega)])) ?_
   refine o_nil ?_
   refine x_then (hK5 _ _ ?_)
   refine c_seq fun _ hK6 => ?_
   refine c_true rfl ?_
   refine c_skip ?_
   refine x_then (hK6 _ _ ?_)
   refine c_seq fun _ hK7 => ?_
   refine c_block ?_
   refine c_seq fun _ hK8 => ?_
   refine c_region ?_
   refine o_step rfl (s_move rfl) ?_
   refine o_step rfl (s_move rfl) ?_
   refine o_callP (ih y js (by omega) ra rc re kid (kid + 1 + js.size) hpg.one) rfl rfl rfl (fun _ st => (RdK.old0 hw).out _ st) (fun v22 hv22 => ?_)
   subst hv22
   refine o_step rfl (s_move rfl) ?_
   refine o_step rfl (s_extract rfl rfl) ?_
   refine o_step rfl (s_extract rfl rfl) ?_
   refine o_step rfl (s_assign rfl) ?_
   refine o_step rfl (s_assign rfl) ?_
   refine o_nil ?_
   refine x_then (hK8 _ _ ?_)
   refine c_region ?_
   refine o_step rfl (s_move rfl) ?_
   refine o_step rfl (s_move rfl) ?_
   refine o_step rfl (step_cast (v' := .int .i64 ((max d (js.depth + 1) : Nat) : Int)) (s_max rfl rfl) (congrArg _ (by omega))) ?_
   refine o_step rfl (s_move rfl) ?_
   refine o_step rfl (s_assign rfl) ?_
   refine o_step rfl (s_assign rfl) ?_
   refine o_nil ?_
   refine x_block ?_
   refine x_then (hK7 _ _ ?_)
   refine c_region ?_
   refine o_step rfl (s_add rfl rfl (by omega)) ?_
   refine o_step rfl (s_move rfl) ?_
   refine o_nil ?_
   exact x_then (x_inv (m + 1, kid + 1 + js.size, r, max d (js.depth + 1)) ⟨hpg.head.2.2, by dsimp only; omega, by dsimp only; omega, by dsimp only; simp only [F.depth] at hd; omega⟩ (by simp only [F.num]; omega) sbA (by exact HSub.nil))
  ·
   obtain rfl : g = F.nil := F.num_nil (by omega)
   obtain rfl : kid = i1 := by simp only [F.size] at hgl; omega
   simp only [F.depth] at hd
   refine o_step rfl (step_cast (v' := .bool false) (s_lss rfl rfl) (by rw [decide_eq_false (by omega)])) ?_
   refine o_nil ?_
   refine x_then (hK5 _ _ ?_)
   refine c_seq fun _ hK9 => ?_
   refine c_false rfl ?_
   refine c_exit ?_
   refine x_then_exit ?_
   refine x_then_exit ?_
   refine x_block_exit ?_
   refine x_then (hK3 _ _ ?_)
   refine c_seq fun _ hK10 => ?_
   refine c_region ?_
   refine o_step rfl (s_move rfl) ?_
   refine o_step rfl (step_cast (v' := .int .i64 ((ks.depth + 1 : Nat) : Int)) (s_add rfl rfl (by omega)) (congrArg _ (by omega))) ?_
   refine o_step rfl (s_move rfl) ?_
   refine o_step rfl (s_assign rfl) ?_
   refine o_step rfl (s_assign rfl) ?_
   refine o_nil ?_
   refine x_then (hK10 _ _ ?_)
   refine c_ret ?_
   refine ?_
   exact x_ret rfl (.tmp rfl (.tmp rfl (.nil))) (rfl)
theorem dep_all : ∀ (n : Nat) (x : Nd) (ks : F), ks.size < n → DepC x ks
  | 0 => fun _ _ h => absurd h (Nat.not_lt_zero _)
  | n + 1 => fun x ks hn ra rc re i i1 hp => depth_step x ks (fun y js h => dep_all n y js (by omega)) ra rc re i i1 hp
theorem weight_fn (ra : Option Addr) (rc : Nat) (re : List Nd) (hre : ∀ x ∈ re, -128 ≤ x.op ∧ x.op < 128) (x : Nd) (ks : F) (hS : Shp re x ks) (hsb : shapedB re = true) : HL.Fn Tryd.prog 41 [.slice ra re.length rc] (fun W => Rd En W (.slice ra re.length rc) re) [] (fun v _ => v = .int .i64 (((F.nd x ks .nil).weight : Nat) : Int)) := by
  refine fn_of Tryd.func41 rfl rfl rfl fun w0 hw => ?_
  refine c_seq fun _ hK1 => ?_
  refine c_region ?_
  refine o_step rfl (s_assign rfl) ?_
  refine o_nil ?_
  refine x_then (hK1 _ _ ?_)
  refine c_seq fun _ hK2 => ?_
  refine c_seq fun _ hK3 => ?_
  refine c_region ?_
  refine o_step rfl (s_move rfl) ?_
  refine o_callP (shaped_fn ra rc re hre) rfl rfl rfl (fun _ st => (RdK.old0 hw).out _ st) (fun v6 hv6 => ?_)
  rw [hsb] at hv6
  subst hv6
  refine o_step rfl (s_not rfl) ?_
  refine o_nil ?_
  refine x_then (hK3 _ _ ?_)
  refine c_false rfl ?_
  refine c_skip ?_
  refine x_then (hK2 _ _ ?_)
  refine c_seq fun _ hK4 => ?_
  refine c_region ?_
  refine o_step rfl (s_move rfl) ?_
  refine o_callP (weigh_fn (ks.size + 1) x ks (Nat.lt_succ_self _) ra rc re 0 re.length hre hS.part) rfl rfl rfl (fun _ st => (RdK.old0 hw).out _ st) (fun v10 hv10 => ?_)
  have hcw : cut (F.nd x ks .nil).weight = (F.nd x ks .nil).weight := by have := hS.weight; unfold cut; omega
  rw [hcw] at hv10
  subst hv10
  refine o_step rfl (s_move rfl) ?_
  refine o_step rfl (s_extract rfl rfl) ?_
  refine o_step rfl (s_extract rfl rfl) ?_
  refine o_step rfl (s_assign rfl) ?_
  refine o_step rfl (s_assign rfl) ?_
  refine o_nil ?_
  refine x_then (hK4 _ _ ?_)
  refine c_seq fun _ hK5 => ?_
  refine c_region ?_
  refine o_step rfl (s_move rfl) ?_
  refine o_step rfl (s_assign rfl) ?_
  refine o_nil ?_
  refine x_then (hK5 _ _ ?_)
  refine c_ret ?_
  refine ?_
  exact x_ret rfl (.tmp rfl (.nil)) (rfl)
set_option maxHeartbeats 1000000 in
theorem enough_fn (ra : Option Addr) (rc : Nat) (re : List Nd) (hre : ∀ x ∈ re, -128 ≤ x.op ∧ x.op < 128) (n : Int) (hn : n ≤ 9223372036854775807) : HL.Fn Tryd.prog 10 [.slice ra re.length rc, .int .i64 n] (fun W => Rd En W (.slice ra re.length rc) re) [] (fun v _ => (¬ (shapedB re = true ∧ 0 ≤ n) ∧ v = .int .i64 0) ∨ ∃ x ks, Shp re x ks ∧ shapedB re = true ∧ 0 ≤ n ∧ v = .int .i64 ((enN ks ((F.nd x ks .nil).weight) re n.toNat : Nat) : Int)) := by
  refine fn_of Tryd.func10 rfl rfl rfl fun w0 hw => ?_
  have hsl := hw.sl
  have hbl := hsl.le
  refine c_seq fun _ hK1 => ?_
  refine c_region ?_
  refine o_step rfl (s_assign rfl) ?_
  refine o_nil ?_
  refine x_then (hK1 _ _ ?_)
  refine c_seq fun _ hK2 => ?_
  refine c_seq fun _ hK3 => ?_
  refine c_region ?_
  refine o_step rfl (s_move rfl) ?_
  refine o_callP (shaped_fn ra rc re hre) rfl rfl rfl (fun _ st => (RdK.old0 hw).out _ st) (fun v13 hv13 => ?_)
  subst hv13
  cases hsb : shapedB re
  ·
   refine o_step rfl (s_not rfl) ?_
   refine o_step rfl (s_move rfl) ?_
   refine o_no rfl rfl rfl rfl ?_
   refine o_no rfl rfl rfl rfl ?_
   refine o_step rfl (s_pick_t rfl rfl) ?_
   refine o_nil ?_
   refine x_then (hK3 _ _ ?_)
   refine c_true rfl ?_
   refine c_seq fun _ hK4 => ?_
   refine c_region ?_
   refine o_step rfl (s_assign rfl) ?_
   refine o_nil ?_
   refine x_then (hK4 _ _ ?_)
   refine c_ret ?_
   refine x_then_ret (?_)
   exact x_ret rfl (.tmp rfl (.nil)) (.inl ⟨fun h => (by rw [hsb] at h; cases h.1), rfl⟩)
  ·
   obtain ⟨_, x, ks, hS⟩ := shapedB_iff.1 hsb
   have hlen := hS.len
   have hdep := hS.dep
   have hwt := hS.weight
   have hrl := refsI_le (re := re) re.length (Nat.le_refl _)
   rw [List.take_length] at hrl
   refine o_step rfl (s_not rfl) ?_
   refine o_step rfl (s_move rfl) ?_
   refine o_yes rfl rfl ?_
   refine o_step rfl (s_move rfl) ?_
   refine o_yes rfl rfl ?_
   by_cases hn0 : n < 0
   ·
    refine o_step rfl (step_cast (v' := .bool true) (s_lss rfl rfl) (by rw [decide_eq_true (by omega)])) ?_
    refine o_step rfl (s_pick_f rfl rfl) ?_
    refine o_nil ?_
    refine x_then (hK3 _ _ ?_)
    refine c_true rfl ?_
    refine c_seq fun _ hK5 => ?_
    refine c_region ?_
    refine o_step rfl (s_assign rfl) ?_
    refine o_nil ?_
    refine x_then (hK5 _ _ ?_)
    refine c_ret ?_
    refine x_then_ret (?_)
    exact x_ret rfl (.tmp rfl (.nil)) (.inl ⟨fun h => (by omega), rfl⟩)
   ·
    obtain ⟨n, rfl⟩ : ∃ m : Nat, n = m := ⟨n.toNat, by omega⟩
    refine o_step rfl (step_cast (v' := .bool false) (s_lss rfl rfl) (by rw [decide_eq_false (by omega)])) ?_
    refine o_step rfl (s_pick_f rfl rfl) ?_
    refine o_nil ?_
    refine x_then (hK3 _ _ ?_)
    refine c_false rfl ?_
    refine c_skip ?_
    refine x_then (hK2 _ _ ?_)
    refine c_seq fun _ hK6 => ?_
    refine c_region ?_
    refine o_mmap2 (Ek := EkI) rfl fun b19 => ?_
    refine o_step rfl (s_assign rfl) ?_
    refine o_nil ?_
    refine x_then (hK6 _ _ ?_)
    refine c_seq fun _ hK7 => ?_
    refine c_seq fun _ hK8 => ?_
    refine c_region ?_
    refine o_step rfl (s_move rfl) ?_
    refine o_step rfl (s_len rfl) ?_
    refine o_step rfl (s_move rfl) ?_
    refine o_nil ?_
    refine x_then (hK8 _ _ ?_)
    refine c_block ?_
    refine c_loop3 (fun (q : Nat) (es : List (Mx Int)) (c : Nat) => q ≤ re.length ∧ CntI es (refsI (re.take q)) q) (fun (q : Nat) (es : List (Mx Int)) (c : Nat) => [(22, .int .i64 q)]) [(0, _), (1, _), (4, _), (5, _), (20, _), (21, _)] (fun (q : Nat) (es : List (Mx Int)) (c : Nat) => [(b19, mxO EkI es c)]) (fun (q : Nat) (es : List (Mx Int)) (c : Nat) => re.length - q) 0 [] 0 ⟨Nat.zero_le _, CntI.nil⟩ sbA sbA hzB ?_
    rintro q es c ⟨hql, hC⟩
    refine c_seq fun _ hK9 => ?_
    refine c_region ?_
    by_cases hq : (q : Int) < re.length
    ·
     obtain ⟨y, hy⟩ : ∃ y, re[q]? = some y := ⟨_, List.getElem?_eq_getElem (by omega)⟩
     have hyr := hre y (List.mem_of_getElem? hy)
     refine o_step rfl (step_cast (v' := .bool true) (s_lss rfl rfl) (by rw [decide_eq_true (by omega)])) ?_
     refine o_nil ?_
     refine x_then (hK9 _ _ ?_)
     refine c_seq fun _ hK10 => ?_
     refine c_true rfl ?_
     refine c_skip ?_
     refine x_then (hK10 _ _ ?_)
     refine c_seq fun _ hK11 => ?_
     refine c_block ?_
     refine c_seq fun _ hK12 => ?_
     refine c_region ?_
     refine o_step rfl (s_idx rfl rfl hsl (by omega)) ?_
     refine o_step rfl (s_ldB rfl ((RdK.old0 hw).lds q hy rfl) (by rfl)) ?_
     refine o_alloc (l := En zN) (by rw [En_zero]; rfl) rfl fun b7 => ?_
     refine o_stW rfl rfl upA lnA lnA onA ?_
     refine o_nil ?_
     refine x_then (hK12 _ _ ?_)
     refine c_seq fun _ hK13 => ?_
     refine c_region ?_
     refine o_step rfl (s_field rfl rfl (by decide)) ?_
     refine o_step rfl (s_ld rfl (.own meA rfl)) ?_
     by_cases h8 : y.op = 8
     ·
      obtain ⟨cn, hcn, hcq⟩ := hC.get y.n
      refine o_step rfl (step_cast (v' := .bool true) (s_eql rfl rfl) (by rw [decide_eq_true h8])) ?_
      refine o_nil ?_
      refine x_then (hK13 _ _ ?_)
      refine c_true rfl ?_
      refine c_region ?_
      refine o_step rfl (s_move rfl) ?_
      refine o_step rfl (s_field rfl rfl (by decide)) ?_
      refine o_step rfl (s_ld rfl (.own meA rfl)) ?_
      refine o_step rfl (step_cast (v' := .int .i64 (cn : Nat)) (s_look2 (Ek := EkI) (k := y.n) rfl rfl meA) hcn) ?_
      refine o_step rfl (step_cast (v' := .int .i64 ((cn + 1 : Nat) : Int)) (s_add rfl rfl (by omega)) (congrArg _ (by omega))) ?_
      refine o_mset2 (Ek := EkI) (k := y.n) rfl rfl rfl pkA fun es' c' hset hel => ?_
      refine o_nil ?_
      refine x_block ?_
      refine x_then (hK11 _ _ ?_)
      refine c_region ?_
      refine o_step rfl (s_add rfl rfl (by omega)) ?_
      refine o_step rfl (s_move rfl) ?_
      refine o_nil ?_
      exact x_then (x_inv (q + 1, es', c') ⟨by dsimp only; omega, by dsimp only; rw [refsI_take hy, ref1, if_pos h8]; exact hC.set hcq hset hel⟩ (by first | omega | (dsimp only; omega)) sbA hzB)
     ·
      refine o_step rfl (step_cast (v' := .bool false) (s_eql rfl rfl) (by rw [decide_eq_false h8])) ?_
      refine o_nil ?_
      refine x_then (hK13 _ _ ?_)
      refine c_false rfl ?_
      refine c_skip ?_
      refine x_block ?_
      refine x_then (hK11 _ _ ?_)
      refine c_region ?_
      refine o_step rfl (s_add rfl rfl (by omega)) ?_
      refine o_step rfl (s_move rfl) ?_
      refine o_nil ?_
      exact x_then (x_inv (q + 1, es, c) ⟨by dsimp only; omega, by dsimp only; rw [refsI_take hy, ref1, if_neg h8]; exact hC.up⟩ (by first | omega | (dsimp only; omega)) sbA hzB)
    ·
     obtain rfl : q = re.length := by omega
     rw [List.take_length] at hC
     refine o_step rfl (step_cast (v' := .bool false) (s_lss rfl rfl) (by rw [decide_eq_false (by omega)])) ?_
     refine o_nil ?_
     refine x_then (hK9 _ _ ?_)
     refine c_seq fun _ hK14 => ?_
     refine c_false rfl ?_
     refine c_exit ?_
     refine x_then_exit ?_
     refine x_then_exit ?_
     refine x_block_exit ?_
     refine x_then (hK7 _ _ ?_)
     refine c_seq fun _ hK15 => ?_
     refine c_region ?_
     refine o_step rfl (s_move rfl) ?_
     refine o_callP (dep_all (ks.size + 1) x ks (Nat.lt_succ_self _) ra rc re 0 re.length hS.part) rfl rfl rfl (fun _ st => (RdK.old0 hw).out _ st) (fun v37 hv37 => ?_)
     subst hv37
     refine o_step rfl (s_move rfl) ?_
     refine o_step rfl (s_extract rfl rfl) ?_
     refine o_step rfl (s_extract rfl rfl) ?_
     refine o_step rfl (s_assign rfl) ?_
     refine o_step rfl (s_assign rfl) ?_
     refine o_nil ?_
     refine x_then (hK15 _ _ ?_)
     refine c_seq fun _ hK16 => ?_
     refine c_region ?_
     refine o_step rfl (s_move rfl) ?_
     refine o_callP (weight_fn ra rc re hre x ks hS hsb) rfl rfl rfl (fun _ st => (RdK.old0 hw).out _ st) (fun v41 hv41 => ?_)
     subst hv41
     refine o_step rfl (step_cast (v' := .int .u64 (((F.nd x ks .nil).weight) : Nat)) (s_conv rfl) (congrArg _ (wrap_u64n (by omega)))) ?_
     refine o_step rfl (s_move rfl) ?_
     refine o_step rfl (step_cast (v' := .int .u64 (n : Nat)) (s_conv rfl) (congrArg _ (wrap_u64n (by omega)))) ?_
     refine o_step rfl (step_cast (v' := .int .u64 ((n + 2 : Nat) : Int)) (s_addw rfl rfl) (congrArg _ (wrap_u64n (x := n + 2) (by omega)))) ?_
     refine o_step rfl (s_assign rfl) ?_
     refine o_step rfl (s_assign rfl) ?_
     refine o_nil ?_
     refine x_then (hK16 _ _ ?_)
     refine c_seq fun _ hK17 => ?_
     refine c_seq fun _ hK18 => ?_
     refine c_region ?_
     refine o_step rfl (s_move rfl) ?_
     refine o_step rfl (s_mul rfl rfl (by omega)) ?_
     refine o_step rfl (s_move rfl) ?_
     refine o_step rfl (step_cast (v' := .int .i64 ((refsI re).length : Nat)) (s_lenmap (Ek := EkI) rfl meA) (by rw [hC.len])) ?_
     refine o_step rfl (s_mul rfl rfl (by omega)) ?_
     refine o_step rfl (s_add rfl rfl (by omega)) ?_
     refine o_step rfl (step_cast (v' := .int .i64 (((2 * (ks.depth + 1) + 2 * (refsI re).length + 4) : Nat) : Int)) (s_add rfl rfl (by omega)) (congrArg _ (by omega))) ?_
     refine o_step rfl (s_move rfl) ?_
     refine o_nil ?_
     refine x_then (hK18 _ _ ?_)
     refine c_block ?_
     -- not carried: 4
     refine c_loop2 (fun (k : Nat) (out : Nat) => k ≤ (2 * (ks.depth + 1) + 2 * (refsI re).length + 4) ∧ out ≤ 4611686018427387904 ∧ enL (n + 2) ((2 * (ks.depth + 1) + 2 * (refsI re).length + 4) - k) out = enN ks ((F.nd x ks .nil).weight) re n) (fun (k : Nat) (out : Nat) => [(53, .int .i64 k), (10, .int .u64 out)]) [(11, _), (52, _)] (fun (k : Nat) (out : Nat) => [(b19, mxO EkI es c)]) (fun (k : Nat) (out : Nat) => (2 * (ks.depth + 1) + 2 * (refsI re).length + 4) - k) 0 ((F.nd x ks .nil).weight) ⟨Nat.zero_le _, by omega, rfl⟩ sbA sbA hzB ?_
     rintro k out ⟨hk, hou, hen⟩
     refine c_seq fun _ hK19 => ?_
     refine c_region ?_
     by_cases hkit : (k : Int) < (2 * (ks.depth + 1) + 2 * (refsI re).length + 4)
     ·
      refine o_step rfl (step_cast (v' := .bool true) (s_lss rfl rfl) (by rw [decide_eq_true (by omega)])) ?_
      refine o_nil ?_
      refine x_then (hK19 _ _ ?_)
      refine c_seq fun _ hK20 => ?_
      refine c_true rfl ?_
      refine c_skip ?_
      refine x_then (hK20 _ _ ?_)
      refine c_seq fun _ hK21 => ?_
      refine c_block ?_
      refine c_seq fun _ hK22 => ?_
      refine c_seq fun _ hK23 => ?_
      refine c_region ?_
      refine o_step rfl (s_move rfl) ?_
      refine o_step rfl (s_move rfl) ?_
      refine o_step rfl (step_cast (v' := .int .u64 ((4611686018427387904 / (n + 2) : Nat) : Int)) (s_quo rfl rfl (by omega)) (congrArg _ (by rw [show (4611686018427387904 : Int) = ((4611686018427387904 : Nat) : Int) from rfl, tdiv_nat]; exact wrap_u64n (by have := Nat.div_le_self 4611686018427387904 (n + 2); omega)))) ?_
      by_cases hbig : 4611686018427387904 / (n + 2) < out
      ·
       rw [show (2 * (ks.depth + 1) + 2 * (refsI re).length + 4) - k = ((2 * (ks.depth + 1) + 2 * (refsI re).length + 4) - (k + 1)) + 1 by omega, enL_yes hbig] at hen
       refine o_step rfl (step_cast (v' := .bool true) (s_gtr rfl rfl) (by rw [decide_eq_true (by omega)])) ?_
       refine o_nil ?_
       refine x_then (hK23 _ _ ?_)
       refine c_true rfl ?_
       refine c_seq fun _ hK24 => ?_
       refine c_region ?_
       refine o_step rfl (s_assign rfl) ?_
       refine o_nil ?_
       refine x_then (hK24 _ _ ?_)
       refine c_ret ?_
       refine x_then_ret (x_block_ret (x_then_ret (x_then_ret (x_block_ret (x_then_ret (?_))))))
       exact x_ret rfl (.tmp rfl (.nil)) (.inr ⟨x, ks, hS, hsb, by omega, by rw [Int.toNat_natCast, ← hen]; rfl⟩)
      ·
       rw [show (2 * (ks.depth + 1) + 2 * (refsI re).length + 4) - k = ((2 * (ks.depth + 1) + 2 * (refsI re).length + 4) - (k + 1)) + 1 by omega, enL_no hbig] at hen
       have hmu := en_mul (b := n + 2) (by omega) hbig
       refine o_step rfl (step_cast (v' := .bool false) (s_gtr rfl rfl) (by rw [decide_eq_false (by omega)])) ?_
       refine o_nil ?_
       refine x_then (hK23 _ _ ?_)
       refine c_false rfl ?_
       refine c_skip ?_
       refine x_then (hK22 _ _ ?_)
       refine c_region ?_
       refine o_step rfl (s_move rfl) ?_
       refine o_step rfl (s_move rfl) ?_
       refine o_step rfl (step_cast (v' := .int .u64 ((out * (n + 2) : Nat) : Int)) (s_mulw rfl rfl) (congrArg _ (by rw [← Int.natCast_mul]; exact wrap_u64n (by omega)))) ?_
       refine o_step rfl (s_assign rfl) ?_
       refine o_nil ?_
       refine x_block ?_
       refine x_then (hK21 _ _ ?_)
       refine c_region ?_
       refine o_step rfl (s_add rfl rfl (by omega)) ?_
       refine o_step rfl (s_move rfl) ?_
       refine o_nil ?_
       exact x_then (x_inv (k + 1, out * (n + 2)) ⟨by dsimp only; omega, hmu, hen⟩ (by first | omega | (dsimp only; omega)) sbA hzB)
     ·
      obtain rfl : k = (2 * (ks.depth + 1) + 2 * (refsI re).length + 4) := by omega
      rw [Nat.sub_self] at hen
      refine o_step rfl (step_cast (v' := .bool false) (s_lss rfl rfl) (by rw [decide_eq_false (by omega)])) ?_
      refine o_nil ?_
      refine x_then (hK19 _ _ ?_)
      refine c_seq fun _ hK25 => ?_
      refine c_false rfl ?_
      refine c_exit ?_
      refine x_then_exit ?_
      refine x_then_exit ?_
      refine x_block_exit ?_
      refine x_then (hK17 _ _ ?_)
      refine c_seq fun _ hK26 => ?_
      refine c_region ?_
      refine o_step rfl (s_move rfl) ?_
      refine o_step rfl (step_cast (v' := .int .i64 (out : Nat)) (s_conv rfl) (congrArg _ (wrap_i64n (by omega)))) ?_
      refine o_step rfl (s_assign rfl) ?_
      refine o_nil ?_
      refine x_then (hK26 _ _ ?_)
      refine c_ret ?_
      refine ?_
      exact x_ret rfl (.tmp rfl (.nil)) (.inr ⟨x, ks, hS, hsb, by omega, by rw [Int.toNat_natCast, ← hen]; rfl⟩)
end Go.Proofs.YtloepfcndglmmaaDoor
namespace Go.Proofs.YtloepfcndglmmaaDoor
open Go Go.HL Go.Proofs Go.HL.Kl
theorem has_fn (c : Cl) (x : Nat) (hx : x < 256) : HL.Fn Tryd.prog 83 [.agg (Ec c).toArray, .int .u8 x] (fun _ => True) [] (fun v _ => v = .bool (c.getLsbD x)) := by
  refine fn_of Tryd.func83 rfl rfl rfl fun w0 hw => ?_
  refine c_seq fun _ hK1 => ?_
  refine c_region ?_
  refine o_box rfl rfl rfl fun b2 => ?_
  refine o_step rfl (s_assign rfl) ?_
  refine o_nil ?_
  refine x_then (hK1 _ _ ?_)
  refine c_seq fun _ hK2 => ?_
  refine c_region ?_
  refine o_step rfl (s_move rfl) ?_
  refine o_step rfl (step_cast (v' := .int .u8 ((x / 64 : Nat) : Int)) (s_shr rfl rfl (by decide)) (congrArg _ (shr6_u8 hx))) ?_
  refine o_step rfl (s_idx1 rfl rfl (by omega)) ?_
  refine o_step rfl (s_ld rfl ((RdPK.own meA).cel (j := x / 64) (Ec_get _ (by omega)) (by omega))) ?_
  refine o_step rfl (s_move rfl) ?_
  refine o_step rfl (step_cast (v' := .int .u8 ((x % 64 : Nat) : Int)) (s_and rfl rfl) (congrArg _ (v_and63 hx))) ?_
  refine o_step rfl (s_shr rfl rfl (by omega)) ?_
  refine o_step rfl (s_and rfl rfl) ?_
  refine o_step rfl (step_cast (v' := .bool (c.getLsbD x)) (s_eql rfl rfl) (congrArg Value.bool (hasB c hx))) ?_
  refine o_step rfl (s_assign rfl) ?_
  refine o_nil ?_
  refine x_then (hK2 _ _ ?_)
  refine c_ret ?_
  refine ?_
  exact x_ret rfl (.tmp rfl (.nil)) (rfl)
end Go.Proofs.YtloepfcndglmmaaDoor
namespace Go.HL
open Go
def VI (agg : Bool) (xs : List Int) : Value := if agg then .agg (intsV .i64 xs).toArray else .int .i64 (xs.headD 0)
class QK (P : Program) (t : TypeId) (agg : outParam Bool) (d s : outParam Nat) : Prop where
  eq : ∀ (w : World) (n : Nat) (xs ys : List Int), d ≤ n → xs.length = s → ys.length = s → (Op.equalIn n t (VI agg xs) (VI agg ys)).run P w = .ok (decide (xs = ys)) w
  chk : ∀ (w : World) (n : Nat) (b : Bool) (xs : List Int), d ≤ n → xs.length = s → (Instr.checkKey b n t (VI agg xs)).run P w = .ok () w
  prt : ∀ (w : World) (cs : List Int) (o : Nat), o + s ≤ cs.length → (part t (intsV .i64 cs).toArray o).run P w = .ok (VI agg ((cs.drop o).take s)) w
section
variable {P : Program} {t e : TypeId}
instance QK.int [TU P t (.int .i64)] [TG P t true] : QK P t false 1 1 where
  eq := fun w n xs ys hn hx hy => by
    obtain ⟨m, rfl⟩ : ∃ m, n = m + 1 := ⟨n - 1, by omega⟩
    match xs, ys, hx, hy with
    | [a], [b], _, _ =>
      show (Op.equalIn (m + 1) t (.int .i64 a) (.int .i64 b)).run P w = _
      rw [re_int w m]
      congr 1
      by_cases h : a = b <;> simp [h]
  chk := fun w n b xs hn hx => by
    obtain ⟨m, rfl⟩ : ∃ m, n = m + 1 := ⟨n - 1, by omega⟩
    exact checkInt w
  prt := fun w cs o ho => by
    have hlt : o < cs.length := by omega
    have h : (intsV .i64 cs).toArray[o]? = some (.int .i64 cs[o]) := by simp [intsV, hlt]
    rw [part_plain h]
    have h2 : (cs.drop o).take 1 = [cs[o]] := by rw [List.drop_eq_getElem_cons hlt]; rfl
    rw [h2]; rfl
theorem agg_part {s b : Nat} [TG P t false] [TI P t s b] (w : World) (cs : List Int) (o : Nat) (_ho : o + s ≤ cs.length) : (part t (intsV .i64 cs).toArray o).run P w = .ok (VI true ((cs.drop o).take s)) w := by
  refine (part_agg (ys := (intsV .i64 ((cs.drop o).take s)).toArray) ?_).trans rfl
  apply Array.ext'
  rw [Array.toList_extract]
  simp [intsV, List.map_take, List.map_drop, List.extract_eq_take_drop]
/-- the fields, one behind the other -/
inductive QF (P : Program) (d : Nat) : List (Nat × Nat) → Nat → Nat → Prop
  | nil {s : Nat} : QF P d [] s s
  | cons {e o s de se : Nat} {l : List (Nat × Nat)} {agg : Bool} (q : QK P e agg de se) (hd : de ≤ d) (h : QF P d l (o + se) s) : QF P d ((e, o) :: l) o s
theorem QF.le {d : Nat} {l : List (Nat × Nat)} {o s : Nat} (h : QF P d l o s) : o ≤ s := by
  induction h with
  | nil => exact Nat.le_refl _
  | cons q hd h ih => omega
theorem QF.fq {d : Nat} {l : List (Nat × Nat)} {o s : Nat} (h : QF P d l o s) {n : Nat} (hn : d ≤ n + 1) {xs ys : List Int} (hx : xs.length = s) (hy : ys.length = s) (w : World) : FQ P w n (intsV .i64 xs).toArray (intsV .i64 ys).toArray l (decide (xs.drop o = ys.drop o)) := by
  induction h with
  | @nil s =>
    have : decide (xs.drop s = ys.drop s) = true := by rw [decide_eq_true_eq, List.drop_of_length_le (by omega), List.drop_of_length_le (by omega)]
    rw [this]; exact .nil
  | @cons e o s de se l agg q hd h ih =>
    have hle := h.le
    have e1 : decide (xs.drop o = ys.drop o) = (decide ((xs.drop o).take se = (ys.drop o).take se) && decide (xs.drop (o + se) = ys.drop (o + se))) := by
      rw [Bool.eq_iff_iff, Bool.and_eq_true, decide_eq_true_eq, decide_eq_true_eq, decide_eq_true_eq]
      constructor
      · intro h
        exact ⟨by rw [h], by rw [← List.drop_drop, ← List.drop_drop, h]⟩
      · rintro ⟨h1, h2⟩
        rw [← List.take_append_drop se (xs.drop o), ← List.take_append_drop se (ys.drop o), h1, List.drop_drop, List.drop_drop, h2]
    rw [e1]
    exact .cons (q.prt w xs o (by omega)) (q.prt w ys o (by omega)) (q.eq w (n + 1) _ _ (by omega) (by rw [List.length_take, List.length_drop]; omega) (by rw [List.length_take, List.length_drop]; omega)) (ih hx hy)
theorem QF.mem {d : Nat} {l : List (Nat × Nat)} {o s : Nat} (h : QF P d l o s) : ∀ p ∈ l, ∃ agg de se, QK P p.1 agg de se ∧ de ≤ d ∧ p.2 + se ≤ s := by
  induction h with
  | nil => intro p hp; cases hp
  | cons q hd h ih =>
    intro p hp
    rcases List.mem_cons.1 hp with rfl | hp
    · exact ⟨_, _, _, q, hd, h.le⟩
    · exact ih p hp
theorem QK.struct {d s b : Nat} {l : List (Nat × Nat)} [Go.HL.TQ P t l] [TG P t false] [TI P t s b] (hd : 1 ≤ d) (hf : QF P d l 0 s) : QK P t true (d + 1) s where
  eq := fun w n xs ys hn hx hy => by
    obtain ⟨m, rfl⟩ : ∃ m, n = m + 2 := ⟨n - 2, by omega⟩
    have := re_struct (P := P) (t := t) (hf.fq (n := m) (by omega) hx hy w)
    simpa [VI] using this
  chk := fun w n b xs hn hx => by
    obtain ⟨m, rfl⟩ : ∃ m, n = m + 1 := ⟨n - 1, by omega⟩
    obtain ⟨fs, hu, hl⟩ := ky_struct (P := P) (t := t) (l := l)
    show (Instr.checkKey b (m + 1) t (.agg (intsV .i64 xs).toArray)).run P w = .ok () w
    unfold Instr.checkKey
    rw [Sem.run_bind, run_underlying hu, Result.andThen_ok]
    simp only []
    rw [← Array.forIn_toList, Sem.run_bind]
    refine (congrArg (fun r => Result.andThen r _) (forIn_ok fun f hfm => ?_)).trans (by simp)
    have hm : (f.type, f.offset) ∈ l := by rw [← hl]; exact List.mem_map.2 ⟨f, hfm, rfl⟩
    obtain ⟨agg, de, se, q, hde, hle⟩ := hf.mem _ hm
    have hpp := q.prt w xs f.offset (by simp only at hle; omega)
    split
    · simp only [Sem.run_bind, hpp, Result.andThen_ok]
      rw [q.chk w m b _ (by omega) (by rw [List.length_take, List.length_drop]; simp only at hle; omega), Result.andThen_ok, Sem.run_pure]
    · simp
  prt := fun w cs o ho => agg_part w cs o ho
theorem QK.arr {m e d se b b' : Nat} {agg : Bool} [TU P t (.array m e)] [TG P t false] [TI P t (m * se) b] [TI P e se b'] (q : QK P e agg d se) : QK P t true (d + 1) (m * se) where
  eq := fun w n xs ys hn hx hy => by
    obtain ⟨n, rfl⟩ : ∃ k, n = k + 1 := ⟨n - 1, by omega⟩
    have hmul : ∀ i, i < m → i * se + se ≤ m * se := fun i hi => by rw [← Nat.succ_mul]; exact Nat.mul_le_mul_right _ hi
    show (Op.equalIn (n + 1) t (.agg (intsV .i64 xs).toArray) (.agg (intsV .i64 ys).toArray)).run P w = _
    unfold Op.equalIn
    simp only [Sem.run_bind, run_u, Result.andThen_ok, run_size]
    rw [Std.Legacy.Range.forIn_eq_forIn_range']
    have := run_forIn (P := P) (f := fun i _ => do
            let a ← part e (intsV .i64 xs).toArray (i * se)
            let b ← part e (intsV .i64 ys).toArray (i * se)
            let c ← Op.equalIn n e a b
            if (!c) = true then pure (ForInStep.done (some false, ())) else pure (ForInStep.yield (none, ()))) (fun i => decide ((xs.drop (i * se)).take se = (ys.drop (i * se)).take se)) w (List.range' 0 m) (by
      intro i hi
      have him : i < m := by simpa using hi
      have h3 := hmul i him
      rw [Sem.run_bind, q.prt w xs (i * se) (by omega), Result.andThen_ok, Sem.run_bind, q.prt w ys (i * se) (by omega), Result.andThen_ok, Sem.run_bind, q.eq w n _ _ (by omega) (by rw [List.length_take, List.length_drop]; omega) (by rw [List.length_take, List.length_drop]; omega), Result.andThen_ok]
      by_cases hq : (xs.drop (i * se)).take se = (ys.drop (i * se)).take se <;> simp [hq])
    have hsz : ([:m] : Std.Legacy.Range).size = m := by simp [Std.Legacy.Range.size]
    simp only [hsz]
    simp only [this, Result.andThen_ok]
    have hall : (List.range' 0 m).all (fun i => decide ((xs.drop (i * se)).take se = (ys.drop (i * se)).take se)) = decide (xs = ys) := by
      rw [Bool.eq_iff_iff, List.all_eq_true, decide_eq_true_eq]
      constructor
      · intro h
        have key : ∀ k, k ≤ m → xs.take (k * se) = ys.take (k * se) := by
          intro k
          induction k with
          | zero => intro _; simp
          | succ k ih =>
            intro hk
            have h1 := h k (by simp; omega)
            rw [decide_eq_true_eq] at h1
            rw [Nat.succ_mul, List.take_add, List.take_add, ih (by omega), h1]
        have h2 := key m (Nat.le_refl _)
        rwa [List.take_of_length_le (by omega), List.take_of_length_le (by omega)] at h2
      · intro h i _; simp [h]
    rw [hall]
    by_cases h : xs = ys <;> simp [h]
  chk := fun w n b xs hn hx => by
    obtain ⟨n, rfl⟩ : ∃ k, n = k + 1 := ⟨n - 1, by omega⟩
    have hmul : ∀ i, i < m → i * se + se ≤ m * se := fun i hi => by rw [← Nat.succ_mul]; exact Nat.mul_le_mul_right _ hi
    show (Instr.checkKey b (n + 1) t (.agg (intsV .i64 xs).toArray)).run P w = .ok () w
    unfold Instr.checkKey
    rw [Sem.run_bind, run_u, Result.andThen_ok]
    simp only []
    rw [Sem.run_bind, Std.Legacy.Range.forIn_eq_forIn_range']
    refine (congrArg (fun r => Result.andThen r _) (forIn_ok fun i hi => ?_)).trans (by simp)
    have hsz : ([:m] : Std.Legacy.Range).size = m := by simp [Std.Legacy.Range.size]
    have him : i < m := by rw [hsz] at hi; simpa using hi
    have h3 := hmul i him
    simp only [Sem.run_bind, run_size, Result.andThen_ok, q.prt w xs (i * se) (by omega)]
    rw [q.chk w n b _ (by omega) (by rw [List.length_take, List.length_drop]; omega), Result.andThen_ok, Sem.run_pure]
  prt := fun w cs o ho => agg_part w cs o ho
/-- keys by their numbers -/
theorem KE.of {κ : Type} [DecidableEq κ] {Ei : κ → List Int} {s d : Nat} [q : QK P t true d s] (hs : ∀ k, (Ei k).length = s) (hi : ∀ a b, Ei a = Ei b → a = b) (hd : d ≤ 10000) (hst : ∃ fs, P.underlying t = some (.struct fs)) : KE P t (fun k : κ => .agg (intsV .i64 (Ei k)).toArray) where
  eq := fun w a b => by
    have h := q.eq w 10000 (Ei a) (Ei b) hd (hs a) (hs b)
    have e : decide (Ei a = Ei b) = decide (a = b) := by
      rw [Bool.eq_iff_iff, decide_eq_true_eq, decide_eq_true_eq]
      exact ⟨hi a b, fun h => by rw [h]⟩
    rw [e] at h
    exact h
  check := fun w b k => q.chk w 10000 b (Ei k) hd (hs k)
  bits := fun k => by
    show Instr.sameBits (9999 + 1) _ _ = true
    simp only [Instr.sameBits, beq_self_eq_true, Bool.true_and, List.all_eq_true]
    intro p hp
    have h1 : ∀ (l : List Int) (p : Value × Value), p ∈ (intsV .i64 l).zip (intsV .i64 l) → ∃ a, p = (.int .i64 a, .int .i64 a) := by
      intro l
      induction l with
      | nil => intro p hp; simp [intsV] at hp
      | cons a l ih =>
        intro p hp
        have e : intsV .i64 (a :: l) = .int .i64 a :: intsV .i64 l := rfl
        rw [e, List.zip_cons_cons] at hp
        rcases List.mem_cons.1 hp with rfl | hp
        · exact ⟨a, rfl⟩
        · exact ih p hp
    obtain ⟨a, rfl⟩ := h1 _ p hp
    simp [Instr.sameBits]
  und := by
    obtain ⟨fs, hu⟩ := hst
    exact ⟨_, hu, .inl fun a b => rfl⟩
end
end Go.HL
