/- Mathematics of captures: the questions, what is known. Conditions: none. -/
import Derived.Test.YtmompllplidphaaDoorSW14Z
import Derived.Test.YtmompllplidphaaDoorMT20Z
import Derived.Test.YtmompllplidphaaDoorHlB
import Derived.Test.YtmompllplidphaaDoorMT3Z
import Derived.Test.YtmompllplidphaaDoorKQ8Z
import Derived.Test.YtmompllplidphaaDoorSW1Z
import Derived.Test.YtmompllplidphaaDoorHTZ
import Derived.Test.YtmompllplidphaaDoorMC9Z
namespace Go.HL.Kl.Mc
open Go Go.HL Go.HL.Kl
def RR (x : Nd) (D : Nat → Nat → Prop) (r p q : Nat) : Prop := ∃ k : Nat, x.mn ≤ ((r + k : Nat) : Int) ∧ (x.mx = -1 ∨ ((r + k : Nat) : Int) ≤ x.mx) ∧ pow D k p q
def RQ (x : Nd) (D : Nat → Nat → Prop) (r p q m : Nat) : Prop := (x.mx = -1 ∨ (r : Int) < x.mx) ∧ (m ≠ p ∨ (r : Int) < x.mn ∨ r = 0) ∧ D p m ∧ RR x D (r + 1) m q
theorem rounds_RR {x : Nd} {D : Nat → Nat → Prop} {p q : Nat} : rounds x D p q ↔ RR x D 0 p q := by simp [rounds, RR]
inductive Qry (w : List UInt8) (re : List Nd) : Ky → Prop
  | alt {x : Nd} {ks : F} {i i1 p q : Nat} (hp : Part re (.nd x ks .nil) i i1) (h5 : x.op = 5) (h : der w ks true p q) : Qry w re ⟨i, -1, p, q⟩
  | cat {x : Nd} {ks g : F} {i i1 m p q : Nat} (hp : Part re (.nd x ks .nil) i i1) (h4 : x.op = 4) (hg : Part re g m i1) (h : der w g false p q) : Qry w re ⟨i, m, p, q⟩
  | rep {x : Nd} {ks : F} {i i1 r p q : Nat} (hp : Part re (.nd x ks .nil) i i1) (h6 : x.op = 6) (h : RR x (der w ks false) r p q) : Qry w re ⟨i, r, p, q⟩
def MapOk (w : List UInt8) (re : List Nd) (es : List Me) : Prop := ∀ k, getK es k = 0 ∨ (getK es k = 1 ∧ Qry w re k) ∨ (getK es k = -1 ∧ ¬ Qry w re k)
open Classical in
noncomputable def dQ (Q : Prop) : Bool := decide Q
attribute [irreducible] dQ
structure AskE where
  (bRe bTx bA bS bE bM nF rF : Nat)
  (ra : Option Addr) (rc : Nat) (re : List Nd) (ta : Option Addr) (tc : Nat) (tx : List UInt8) (l : List Nat)
namespace AskE
abbrev vre (K : AskE) : Value := .slice K.ra K.re.length K.rc
abbrev vtx (K : AskE) : Value := .slice K.ta K.tx.length K.tc
abbrev ven (K : AskE) : Value := .slice (some ⟨K.bE, 0, none⟩) K.re.length K.re.length
abbrev pt (b : Nat) : Value := .pointer (some ⟨b, 0, none⟩)
abbrev cells (K : AskE) : List Value := [K.vre, K.ven, K.vtx, .map (some K.bM), .func (.func K.nF) [].toArray [pt K.bRe, pt K.bTx, pt K.bA].toArray, .func (.func K.rF) [].toArray [pt K.bA].toArray]
end AskE
open AskE
structure Env (w : World) (K : AskE) (M : List Nat) : Prop where
  p1 : RdP w K.bRe 0 [K.vre]
  p2 : RdP w K.bTx 0 [K.vtx]
  p3 : RdP w K.bA 0 [pt K.bS]
  p4 : RdP w K.bS 0 K.cells
  d1 : Rd En w K.vre K.re
  d2 : Rd Eb w K.vtx K.tx
  d3 : Rd Eix w K.ven K.l
  n1 : K.bRe ∉ M
  n2 : K.bTx ∉ M
  n3 : K.bA ∉ M
  n4 : K.bS ∉ M
  a1 : Apart M K.vre
  a2 : Apart M K.vtx
  a3 : Apart M K.ven
structure AskE.ok (K : AskE) : Prop where
  rng : ∀ x ∈ K.re, -128 ≤ x.op ∧ x.op < 128
  no8 : ∀ x ∈ K.re, ¬ x.op = 8
  len : K.re.length ≤ 1000000
  tx : K.tx.length ≤ 1000000
  ends : EndsOk K.re 0 K.l
def AnsK (K : AskE) (Q : Prop) (v : Value) (S' : Hp) : Prop := ∃ es c, v = .bool (dQ Q) ∧ S' = [(K.bM, mpO es c)] ∧ MapOk K.tx K.re es
def NodeK (P : Program) (K : AskE) (x : Nd) (ks : F) : Prop := ∀ (i i1 p q : Nat) (es : List Me) (c : Nat), Part K.re (.nd x ks .nil) i i1 → p ≤ q → q ≤ K.tx.length → MapOk K.tx K.re es →
  Fn P K.nF [.int .i64 i, .int .i64 p, .int .i64 q, pt K.bRe, pt K.bTx, pt K.bA] (fun W => Env W K [K.bM]) [(K.bM, mpO es c)] (AnsK K (der1 K.tx x ks p q))
def RestK (P : Program) (K : AskE) (k : Ky) : Prop := ∀ (es : List Me) (c : Nat), MapOk K.tx K.re es →
  Fn P K.rF [.agg (Ek k).toArray, pt K.bA] (fun W => Env W K [K.bM]) [(K.bM, mpO es c)] (AnsK K (Qry K.tx K.re k))
def FindK (P : Program) (K : AskE) (fn : Nat) (k : Ky) : Prop := ∀ (es : List Me) (c : Nat), MapOk K.tx K.re es →
  Fn P fn [pt K.bS, .agg (Ek k).toArray] (fun W => Env W K [K.bM]) [(K.bM, mpO es c)] (AnsK K (Qry K.tx K.re k))
def Grt (Q : Nat → Prop) (p q m : Nat) : Prop := p ≤ m ∧ m ≤ q ∧ Q m ∧ ∀ n, m < n → n ≤ q → ¬ Q n
def KidP (K : AskE) (Q : Nat → Prop) (p q : Nat) (v : Value) (S' : Hp) : Prop := ∃ es c, S' = [(K.bM, mpO es c)] ∧ MapOk K.tx K.re es ∧
  ((∃ m, Grt Q p q m ∧ v = .tuple #[.int .i64 m, .bool true]) ∨ ((∀ m, p ≤ m → m ≤ q → ¬ Q m) ∧ v = .tuple #[.int .i64 0, .bool false]))
def KidK (P : Program) (K : AskE) (fn : Nat) (k : Ky) (Q : Nat → Prop) (p q : Nat) : Prop := ∀ (es : List Me) (c : Nat), MapOk K.tx K.re es →
  Fn P fn [pt K.bS, .agg (Ek k).toArray] (fun W => Env W K [K.bM]) [(K.bM, mpO es c)] (KidP K Q p q)
end Go.HL.Kl.Mc
namespace Go.HL.Kl.Mc
open Go Go.HL Go.HL.Kl
theorem der1_1 {w : List UInt8} {x : Nd} {ks : F} {p q : Nat} (h : x.op = 1) : der1 w x ks p q ↔ q = p + 1 ∧ ∃ b, w[p]? = some b ∧ x.set.getLsbD b.toNat = true := by rw [der1_def, if_pos h]
theorem der1_2 {w : List UInt8} {x : Nd} {ks : F} {p q : Nat} (h : x.op = 2) : der1 w x ks p q ↔ p = 0 ∧ q = 0 := by rw [der1_def, if_neg (by omega), if_pos h]
theorem der1_3 {w : List UInt8} {x : Nd} {ks : F} {p q : Nat} (h : x.op = 3) : der1 w x ks p q ↔ p = w.length ∧ q = p := by rw [der1_def, if_neg (by omega), if_neg (by omega), if_pos h]
theorem der1_4 {w : List UInt8} {x : Nd} {ks : F} {p q : Nat} (h : x.op = 4 ∨ x.op = 7) : der1 w x ks p q ↔ der w ks false p q := by rw [der1_def, if_neg (by omega), if_neg (by omega), if_neg (by omega), if_neg (by omega), if_neg (by omega)]
theorem der1_5 {w : List UInt8} {x : Nd} {ks : F} {p q : Nat} (h : x.op = 5) : der1 w x ks p q ↔ der w ks true p q := by rw [der1_def, if_neg (by omega), if_neg (by omega), if_neg (by omega), if_pos h]
theorem der_one {w : List UInt8} {y : Nd} {js : F} {p q : Nat} : der w (.nd y js .nil) false p q ↔ der1 w y js p q := by
  rw [der_cat]
  exact ⟨fun ⟨t, h1, h2⟩ => by rw [der_nil] at h2; exact h2 ▸ h1, fun h => ⟨q, h, der_nil.2 rfl⟩⟩
theorem der_fone {w : List UInt8} {y : Nd} {js : F} : der w (.nd y js .nil) false = der1 w y js := by funext p q; exact propext der_one
def Up (D : Nat → Nat → Prop) : Prop := ∀ p q, D p q → p ≤ q
theorem pow_up {D : Nat → Nat → Prop} (h : Up D) : ∀ k, Up (pow D k)
  | 0, p, q, e => Nat.le_of_eq e
  | k + 1, p, q, ⟨t, h1, h2⟩ => Nat.le_trans (h p t h1) (pow_up h k t q h2)
theorem RR_up {x : Nd} {D : Nat → Nat → Prop} {r : Nat} (h : Up D) : Up (RR x D r) := fun p q ⟨k, _, _, hk⟩ => pow_up h k p q hk
theorem der_up {w : List UInt8} : ∀ (f : F) (md : Bool), Up (der w f md)
  | .nil, md, p, q, h => by
    obtain ⟨_, rfl⟩ : md = false ∧ p = q := by simpa [der] using h
    exact Nat.le_refl _
  | .nd x ks r, md, p, q, h => by
    have h1 : Up (der1 w x ks) := by
      intro p q h
      rw [der1_def] at h
      split at h
      · omega
      split at h
      · omega
      split at h
      · omega
      split at h
      · exact der_up ks true p q h
      split at h
      · rw [rounds_RR] at h; exact RR_up (der_up ks false) p q h
      · exact der_up ks false p q h
    cases md with
    | false =>
      obtain ⟨t, h2, h3⟩ := der_cat.1 h
      exact Nat.le_trans (h1 p t h2) (der_up r false t q h3)
    | true =>
      rcases der_alt.1 h with h2 | h2
      · exact h1 p q h2
      · exact der_up r true p q h2
theorem der1_up {w : List UInt8} {x : Nd} {ks : F} : Up (der1 w x ks) := der_up _ _
def nxtR (x : Nd) (r : Nat) : Nat := if x.mx < 0 then min (r + 1) (max x.mn.toNat 1) else r + 1
structure Sp where
  fr : Int
  to : Int
  deriving DecidableEq
def Esp (s : Sp) : List Value := [.int .i64 s.fr, .int .i64 s.to]
instance : Enc Esp 2 := ⟨fun _ => rfl, fun x v hv => by
  simp only [Esp, List.mem_cons, List.not_mem_nil, or_false] at hv
  rcases hv with rfl | rfl <;> rfl⟩
def noS : Sp := ⟨-1, -1⟩
def fg1 (cs : List Sp) (x : Nd) : List Sp := if x.op = 7 then cs.set x.n.toNat noS else cs
def fgt (l : List Nd) (cs : List Sp) : List Sp := l.foldl fg1 cs
def fgtTo (re : List Nd) (a j : Nat) (cs : List Sp) : List Sp := fgt ((re.drop a).take (j - a)) cs
open Classical in
noncomputable def grt (Q : Nat → Prop) (p q : Nat) : Nat := if h : ∃ m, Grt Q p q m then h.choose else 0
attribute [irreducible] grt
noncomputable def reps (x : Nd) (D : Nat → Nat → Prop) (B : Nat → Nat → List Sp → List Sp) (q : Nat) : Nat → Nat → Nat → List Sp → List Sp
  | 0, _, _, cs => cs
  | f + 1, r, p, cs => if dQ (∃ m, Grt (RQ x D r p q) p q m) = true then reps x D B q f (nxtR x r) (grt (RQ x D r p q) p q) (B p (grt (RQ x D r p q) p q) cs) else cs
noncomputable def bst (w : List UInt8) : F → Bool → Nat → Nat → List Sp → List Sp
  | .nil, _, _, _, cs => cs
  | .nd x ks r, m, p, q, cs =>
    let one : Nat → Nat → List Sp → List Sp := fun p q cs =>
      if x.op = 7 then (bst w ks false p q (fgt ks.flat cs)).set x.n.toNat ⟨p, q⟩
      else if x.op = 5 then bst w ks true p q cs
      else if x.op = 4 then bst w ks false p q cs
      else if x.op = 6 then reps x (der w ks false) (fun p q cs => bst w ks false p q (fgt ks.flat cs)) q ((q - p) + max x.mn.toNat 1 + 1) 0 p cs
      else cs
    if m = true then (if dQ (der1 w x ks p q) = true then one p q cs else bst w r true p q cs)
    else bst w r false (grt (fun n => der1 w x ks p n ∧ der w r false n q) p q) q (one p (grt (fun n => der1 w x ks p n ∧ der w r false n q) p q) cs)
noncomputable def bst1 (w : List UInt8) (x : Nd) (ks : F) (p q : Nat) (cs : List Sp) : List Sp :=
  if x.op = 7 then (bst w ks false p q (fgt ks.flat cs)).set x.n.toNat ⟨p, q⟩
  else if x.op = 5 then bst w ks true p q cs
  else if x.op = 4 then bst w ks false p q cs
  else if x.op = 6 then reps x (der w ks false) (fun p q cs => bst w ks false p q (fgt ks.flat cs)) q ((q - p) + max x.mn.toNat 1 + 1) 0 p cs
  else cs
def gcn (l : List Nd) : Nat := l.countP (fun x => decide (x.op = 7))
def Numd (re : List Nd) (b i i' b' : Nat) : Prop := b' + gcn (re.take i) = b + gcn (re.take i') ∧ ∀ j x, i ≤ j → j < i' → re[j]? = some x → x.op = 7 → x.n + (gcn (re.take i) : Nat) = (b : Int) + (gcn (re.take j) : Nat) + 1
end Go.HL.Kl.Mc
namespace Go.HL
open Go
end Go.HL
namespace Go.HL.Kl.Mc
open Go Go.HL Go.HL.Kl AskE
structure AskG (T n : Nat) where
  (bE bM bA bS : Nat) (S : Hp)
  (h : OwnS Eix 1 T (.slice (some ⟨bE, 0, none⟩) n n) (List.replicate n 0) S)
noncomputable def capsV (w : List UInt8) (re : List Nd) (x : Nd) (ks : F) (p q : Nat) : List Sp := (bst1 w x ks p q (List.replicate (gcn re + 1) noS)).set 0 ⟨p, q⟩
def Slots (re : List Nd) (n : Nat) : Prop := ∀ y ∈ re, y.op = 7 → 0 ≤ y.n ∧ y.n.toNat < n
def TakeP (K : AskE) (T : Nat) (ca : Option Addr) (cc N : Nat) (cs : List Sp) (S' : Hp) : Prop := ∃ es c Sc, S' = (K.bM, mpO es c) :: Sc ∧ MapOk K.tx K.re es ∧ OwnS Esp 2 T (.slice ca N cc) cs Sc
def TakeK (P : Program) (K : AskE) (fn T : Nat) (x : Nd) (ks : F) : Prop := ∀ (i i1 p q : Nat) (es : List Me) (c : Nat) (ca : Option Addr) (cc N : Nat) (cs : List Sp) (Sc : Hp), Part K.re (.nd x ks .nil) i i1 → p ≤ q → q ≤ K.tx.length → der1 K.tx x ks p q → MapOk K.tx K.re es → cs.length = N → Slots K.re N → OwnS Esp 2 T (.slice ca N cc) cs Sc →
  Fn P fn [pt K.bS, .int .i64 i, .int .i64 p, .int .i64 q, .slice ca N cc] (fun W => Env W K (keys ((K.bM, mpO es c) :: Sc))) ((K.bM, mpO es c) :: Sc) (fun _ S' => TakeP K T ca cc N (bst1 K.tx x ks p q cs) S')
def CapsP (K : AskE) (T : Nat) (cs : List Sp) (v : Value) (S' : Hp) : Prop := ∃ es c a cc Sc, v = .slice a cs.length cc ∧ S' = (K.bM, mpO es c) :: Sc ∧ OwnS Esp 2 T (.slice a cs.length cc) cs Sc
end Go.HL.Kl.Mc
namespace Go.HL.Kl.Mc
open Go Go.HL Go.HL.Kl
def CodeP (T n : Nat) (v : Value) (S' : Hp) : Prop := ∃ (a : Option Addr) (c : Nat) (m : List In), v = .slice a m.length c ∧ m.length = n ∧ OwnS Ein 7 T (.slice a m.length c) m S'
def CodeC (P : Program) (fn T : Nat) (x : Nd) (ks : F) : Prop := ∀ (ma : Option Addr) (mc : Nat) (m : List In) (Sm : Hp) (ra : Option Addr) (rc : Nat) (re : List Nd) (i i1 : Nat), (∀ x ∈ re, -128 ≤ x.op ∧ x.op < 128) → (∀ x ∈ re, ¬ x.op = 8) → re.length ≤ 1000000 → Part re (.nd x ks .nil) i i1 → OwnS Ein 7 T (.slice ma m.length mc) m Sm → m.length + lenT x ks ≤ 70000 →
  Fn P fn [.slice ma m.length mc, .slice ra re.length rc, .int .i64 i] (fun W => Rd En W (.slice ra re.length rc) re ∧ Apart (keys Sm) (.slice ra re.length rc)) Sm (CodeP T (m.length + lenT x ks))
end Go.HL.Kl.Mc
namespace Go.HL.Kl.Mc
open Go Go.HL Go.HL.Kl Go.RowKit Go.ChangeShapes Go.WideShapes Go.ChangeAt
def Ew1 (w : BitVec 64) : List Value := [Ew w]
instance : Enc Ew1 1 := ⟨fun _ => rfl, fun _ v hv => by simp [Ew1, Ew] at hv; subst hv; rfl⟩
theorem open_u64 {P : Program} {t : TypeId} (ht : P.underlying t = some (.int .u64)) : Opens P t Ew1 (fun _ _ => True) := by
  refine ⟨fun enc w fuel cs x h _ => ?_⟩
  obtain ⟨n, rfl, _, hw⟩ := DataW.trod_int ht h
  have hb : 0 ≤ n ∧ n ≤ 18446744073709551615 := by
    simp only [Lit.wf] at hw
    simpa [IntKind.min, IntKind.max, IntKind.signed, IntKind.bits] using hw
  refine ⟨BitVec.ofNat 64 n.toNat, ?_, trivial⟩
  have e : (BitVec.ofNat 64 n.toNat).toNat = n.toNat := by
    rw [BitVec.toNat_ofNat]
    exact Nat.mod_eq_of_lt (by rw [show (2 : Nat) ^ 64 = 18446744073709551616 from by decide]; omega)
  simp only [Ew1, Ew, e, List.cons.injEq, Value.int.injEq, true_and, and_true]
  omega
def mk4 (a b c d : BitVec 64) : Cl := setw (setw (setw (setw 0 0 a) 1 b) 2 c) 3 d
theorem mk4_wd (a b c d : BitVec 64) : Ec (mk4 a b c d) = [Ew a, Ew b, Ew c, Ew d] := by
  simp [Ec, mk4, wd_setw]
theorem open_cl {P : Program} {t e : TypeId} (ht : P.underlying t = some (.array 4 e)) (he : P.underlying e = some (.int .u64)) (hk : P.cellsOf e = 1) (hc : P.cellsOf t = 4) : Opens P t Ec (fun _ _ => True) := by
  refine ⟨fun enc w fuel cs x h hw => ?_⟩
  obtain ⟨xs, rfl, hl, _⟩ := (open_array ht hk (by rw [hc]) (open_u64 he)).out enc w fuel cs x h hw
  match xs, hl with
  | [a, b, c, d], _ => exact ⟨mk4 a b c d, by rw [mk4_wd]; rfl, trivial⟩
def Ei8 (n : Int) : List Value := [.int .i8 n]
instance : Enc Ei8 1 := ⟨fun _ => rfl, fun _ _ h => by simp [Ei8] at h; subst h; rfl⟩
theorem open_i8 {P : Program} {t : TypeId} (ht : P.underlying t = some (.int .i8)) : Opens P t Ei8 (fun _ n => -128 ≤ n ∧ n < 128) := by
  refine ⟨fun enc w fuel cs x h _ => ?_⟩
  obtain ⟨n, rfl, _, hw⟩ := DataW.trod_int ht h
  refine ⟨n, rfl, ?_⟩
  simp only [Lit.wf] at hw
  have : -128 ≤ n ∧ n ≤ 127 := by simpa [IntKind.min, IntKind.max, IntKind.signed, IntKind.bits] using hw
  omega
theorem open_struct6 {P : Program} {t : TypeId} {f0 f1 f2 f3 f4 f5 : Field} {α0 α1 α2 α3 α4 α5 γ : Type} {E0 : α0 → List Value} {E1 : α1 → List Value} {E2 : α2 → List Value} {E3 : α3 → List Value} {E4 : α4 → List Value} {E5 : α5 → List Value} {E : γ → List Value} {M0 : World → α0 → Prop} {M1 : World → α1 → Prop} {M2 : World → α2 → Prop} {M3 : World → α3 → Prop} {M4 : World → α4 → Prop} {M5 : World → α5 → Prop} {Mem : World → γ → Prop}
    (ht : P.underlying t = some (.struct #[f0, f1, f2, f3, f4, f5])) (h0 : f0.offset = 0) (h1 : f1.offset = P.cellsOf f0.type) (h2 : f2.offset = P.cellsOf f0.type + P.cellsOf f1.type) (h3 : f3.offset = P.cellsOf f0.type + P.cellsOf f1.type + P.cellsOf f2.type)
    (h4 : f4.offset = P.cellsOf f0.type + P.cellsOf f1.type + P.cellsOf f2.type + P.cellsOf f3.type) (h5 : f5.offset = P.cellsOf f0.type + P.cellsOf f1.type + P.cellsOf f2.type + P.cellsOf f3.type + P.cellsOf f4.type) (hc : P.cellsOf t = P.cellsOf f0.type + P.cellsOf f1.type + P.cellsOf f2.type + P.cellsOf f3.type + P.cellsOf f4.type + P.cellsOf f5.type)
    (o0 : Opens P f0.type E0 M0) (o1 : Opens P f1.type E1 M1) (o2 : Opens P f2.type E2 M2) (o3 : Opens P f3.type E3 M3) (o4 : Opens P f4.type E4 M4) (o5 : Opens P f5.type E5 M5) (mk : ∀ w a b c d e f, M0 w a → M1 w b → M2 w c → M3 w d → M4 w e → M5 w f → ∃ z, E z = E0 a ++ (E1 b ++ (E2 c ++ (E3 d ++ (E4 e ++ E5 f)))) ∧ Mem w z) : Opens P t E Mem := by
  refine ⟨fun enc w fuel cs x h hw => ?_⟩
  obtain ⟨hl, n, hf⟩ := trod_fields ht h hw
  obtain ⟨y0, e0, w0⟩ := hf 0 f0 rfl
  obtain ⟨y1, e1, w1⟩ := hf 1 f1 rfl
  obtain ⟨y2, e2, w2⟩ := hf 2 f2 rfl
  obtain ⟨y3, e3, w3⟩ := hf 3 f3 rfl
  obtain ⟨y4, e4, w4⟩ := hf 4 f4 rfl
  obtain ⟨y5, e5, w5⟩ := hf 5 f5 rfl
  obtain ⟨a, ha, ma⟩ := o0.out enc w _ _ _ e0 w0
  obtain ⟨b, hb, mb⟩ := o1.out enc w _ _ _ e1 w1
  obtain ⟨c, hcc, mc⟩ := o2.out enc w _ _ _ e2 w2
  obtain ⟨d, hd, md⟩ := o3.out enc w _ _ _ e3 w3
  obtain ⟨e, he, me⟩ := o4.out enc w _ _ _ e4 w4
  obtain ⟨f, hff, mf⟩ := o5.out enc w _ _ _ e5 w5
  obtain ⟨z, hz, hm⟩ := mk w a b c d e f ma mb mc md me mf
  refine ⟨z, ?_, hm⟩
  rw [hz, ← ha, ← hb, ← hcc, ← hd, ← he, ← hff, h0, h1, h2, h3, h4, h5, List.drop_zero, List.take_of_length_le (l := cs.drop (P.cellsOf f0.type + _ + _ + _ + _)) (by rw [List.length_drop]; omega), ← cells_split, ← cells_split, ← cells_split, ← cells_split, List.take_append_drop]
end Go.HL.Kl.Mc
namespace Go.HL.Kl.Mc
open Go Go.HL Go.HL.Kl
noncomputable def errC (re : List Nd) : Int := if shapedB re = false then 49 else if refsB re = true then 44 else 0
structure SetsTo (l : List Nd) (n j : Nat) : Prop where
  len : l.length = n
  rng : ∀ x ∈ l, -128 ≤ x.op ∧ x.op < 128
  get : ∀ t, t < j → ∃ y, l[t]? = some y ∧ y.op = 1 ∧ y.kids = 0
def cls9 (j : Nat) : Cl := mk4 9#64 0#64 (BitVec.ofNat 64 j) 0#64
attribute [irreducible] cls9
def spN (i : Nat) : Nd := ⟨0, 0, ((1048576 * 9 + i + 1 : Nat) : Int), -7, 0, 0⟩
end Go.HL.Kl.Mc
namespace Go.HL.Kl.Mc
open Go Go.HL Go.HL.Kl AskE
structure May (re : List Nd) (w : List UInt8) (x : Nd) (ks : F) : Prop where
  sh : shapedB re = true
  rf : refsB re = false
  hs : Shp re x ks
def CapO (T : Nat) (w : List UInt8) (re : List Nd) (x : Nd) (ks : F) (p q : Nat) (v : Value) (S' : Hp) : Prop := ∃ a cc, v = .tuple #[.slice a (capsV w re x ks p q).length cc, .bool true] ∧ OwnS Esp 2 T (.slice a (capsV w re x ks p q).length cc) (capsV w re x ks p q) S'
def BestP (T : Nat) (re : List Nd) (w : List UInt8) (fr to : Int) (v : Value) (S' : Hp) : Prop :=
  (∃ x ks, ∃ p q : Nat, May re w x ks ∧ fr = p ∧ to = q ∧ p ≤ q ∧ q ≤ w.length ∧ der1 w x ks p q ∧ CapO T w re x ks p q v S') ∨
  ((¬ ∃ x ks, ∃ p q : Nat, May re w x ks ∧ fr = p ∧ to = q ∧ p ≤ q ∧ q ≤ w.length ∧ der1 w x ks p q) ∧ v = .tuple #[.slice none 0 0, .bool false] ∧ S' = [])
structure Lft (w : List UInt8) (x : Nd) (ks : F) (f p q : Nat) : Prop where
  ge : f ≤ p
  le : p ≤ q
  len : q ≤ w.length
  der : der1 w x ks p q
  left : ∀ p' q', f ≤ p' → p' < p → q' ≤ w.length → ¬ der1 w x ks p' q'
  long : ∀ q', q < q' → q' ≤ w.length → ¬ der1 w x ks p q'
def FindP (T : Nat) (re : List Nd) (w : List UInt8) (f : Int) (v : Value) (S' : Hp) : Prop :=
  (∃ x ks, ∃ g p q : Nat, May re w x ks ∧ f = g ∧ Lft w x ks g p q ∧ CapO T w re x ks p q v S') ∨
  ((¬ ∃ x ks, ∃ g p q : Nat, May re w x ks ∧ f = g ∧ g ≤ p ∧ q ≤ w.length ∧ der1 w x ks p q) ∧ v = .tuple #[.slice none 0 0, .bool false] ∧ S' = [])
end Go.HL.Kl.Mc
namespace Go.HL.Kl.Mc
open Go Go.HL Go.HL.Kl
structure RowsP (rs : List (Sl Bool)) (N : Nat) (D : Nat → Nat → Prop) : Prop where
  len : rs.length = N + 1
  get : ∀ p, p ≤ N → ∃ s, rs[p]? = some s ∧ IsS s.xs N (D p)
structure RowsTo (rs : List (Sl Bool)) (N k : Nat) (D : Nat → Nat → Prop) : Prop where
  len : rs.length = k
  get : ∀ p, p < k → ∃ s, rs[p]? = some s ∧ IsS s.xs N (D p)
structure RdRows (W : World) (v : Value) (rs : List (Sl Bool)) : Prop where
  out : Rd (Esl (α := Bool)) W v rs
  row : ∀ s ∈ rs, Rd Ebo W (.slice s.a s.xs.length s.c) s.xs
/-! a set, added place by place -/
def orTo (a b : List Bool) (i : Nat) : List Bool := (List.range a.length).map fun j => if j < i then orF a b j else bo0 a j
def fromTo (D : Nat → Nat → Prop) (P : Nat → Prop) (k q : Nat) : Prop := ∃ p, p < k ∧ P p ∧ D p q
structure AgP (N : Nat) (D : Nat → Nat → Prop) (p : Nat) (out : List Bool) (todo : List Nat) : Prop where
  len : out.length = N + 1
  me : out[p]? = some true
  sound : ∀ q : Nat, out[q]? = some true → ∃ k, pow D k p q
  td : ∀ t ∈ todo, out[t]? = some true
  closed : ∀ q : Nat, out[q]? = some true → q ∉ todo → ∀ r, r ≤ N → D q r → out[r]? = some true
structure AgK (N : Nat) (D : Nat → Nat → Prop) (p t k : Nat) (out : List Bool) (todo : List Nat) : Prop where
  len : out.length = N + 1
  me : out[p]? = some true
  tt : out[t]? = some true
  sound : ∀ q : Nat, out[q]? = some true → ∃ k, pow D k p q
  td : ∀ t ∈ todo, out[t]? = some true
  closed : ∀ q : Nat, out[q]? = some true → q ∉ todo → q ≠ t → ∀ r, r ≤ N → D q r → out[r]? = some true
  part : ∀ r, r < k → D t r → out[r]? = some true
def mvN (g : Nat) (x : Nd) : Nd := if 0 < x.n then { x with n := IntKind.i64.wrap (x.n + g) } else x
def F.mv (g : Nat) : F → F
  | .nil => .nil
  | .nd x ks r => .nd (mvN g x) (ks.mv g) (r.mv g)
def catN : Nd := ⟨4, 0, 0, 0, 0, 2⟩
def altN : Nd := ⟨5, 0, 0, 0, 0, 2⟩
def twoL (n : Nd) (a b : List Nd) (g : Nat) : List Nd := n :: (a ++ b.map (mvN g))
end Go.HL.Kl.Mc
namespace Go.HL.Kl.Mc
open Go Go.HL Go.HL.Kl
def mvTo (g : Nat) (b : List Nd) (j : Nat) : List Nd := (b.take j).map (mvN g) ++ b.drop j
def RowsC (N : Nat) (D : Nat → Nat → Prop) (v : Value) (S : Hp) : Prop := ∃ (a : Option Addr) (c : Nat) (rs : List (Sl Bool)), v = .slice a rs.length c ∧ RowsP rs N D ∧ ∀ W : World, (∀ b o, (b, o) ∈ S → W.heap[b]? = some o) → RdRows W (.slice a rs.length c) rs
def RdRS (v : Value) (rs : List (Sl Bool)) (S : Hp) : Prop := ∀ W : World, (∀ b o, (b, o) ∈ S → W.heap[b]? = some o) → RdRows W v rs
def CompOk (re : List Nd) (sv : Value) (S : Hp) (x : Nd) (ks : F) : Prop := ∃ a, shapedB re = true ∧ refsB re = false ∧ Shp re x ks ∧ sv = .slice a (mach (.nd x ks .nil)).length (mach (.nd x ks .nil)).length ∧ RdS Ein (.slice a (mach (.nd x ks .nil)).length (mach (.nd x ks .nil)).length) (mach (.nd x ks .nil)) S
/-! well shaped: forests without groups and references -/
def F.plain : F → Prop
  | .nil => True
  | .nd x ks r => (¬ x.op = 7 ∧ ¬ x.op = 8) ∧ ks.plain ∧ r.plain
def endN : Nd := ⟨4, 0, 0, 0, 0, 0⟩
def rowN (n : Nat) : Nd := ⟨4, 0, 0, 0, 0, (n : Int) + 1⟩
def timN (l m : Nat) : Nd := ⟨6, 0, 0, l, (l : Int) + m, 1⟩
def rowF : List UInt8 → F
  | [] => .nd endN .nil .nil
  | b :: bs => .nd (letN b) .nil (rowF bs)
def rowR (row : List UInt8) (l m : Nat) : List Nd := timN l m :: rowN row.length :: (row.map letN ++ [endN])
def Mt (row w : List UInt8) (p : Nat) : Prop := (w.drop p).take row.length = row
def Most (row w : List UInt8) (n k : Nat) : Prop := k ≤ n ∧ (∀ j, j < k → Mt row w (j * row.length)) ∧ (k = n ∨ ¬ Mt row w (k * row.length))
theorem u8_ne {x y : UInt8} : decide ((x.toNat : Int) ≠ (y.toNat : Int)) = !decide (x = y) := by
  by_cases h : x = y
  · subst h; simp
  · have : ¬ x.toNat = y.toNat := fun e => h (UInt8.toNat_inj.1 e)
    simp [h]; omega
end Go.HL.Kl.Mc
namespace Go.HL.Kl.Mc
open Go Go.HL Go.HL.Kl AskE
def gl (l : List Nd) : List Nat := (l.filter fun y => decide (y.op = 7)).map fun y => y.n.toNat
def gn (f : F) : List Nat := gl f.flat
def Non (f : F) (cs : List Sp) : Prop := ∀ i ∈ gn f, cs[i]? = some noS
def Nst : F → Int → Int → List Sp → Prop
  | .nil, _, _, _ => True
  | .nd x ks r, lo, hi, cs => (if x.op = 7 then ∃ s, cs[x.n.toNat]? = some s ∧ ((s = noS ∧ Non ks cs) ∨ (lo ≤ s.fr ∧ s.fr ≤ s.to ∧ s.to ≤ hi ∧ Nst ks s.fr s.to cs)) else Nst ks lo hi cs) ∧ Nst r lo hi cs
def catC : Nd := ⟨4, 0, 0, 0, 0, 2⟩
def grpC : Nd := ⟨7, 0, 1, 0, 0, 1⟩
def reC : List Nd := [catC, grpC, starN, letN 97, letN 98]
def ksG : F := .nd starN ksW .nil
def ksB : F := .nd (letN 98) .nil .nil
def ksC : F := .nd grpC ksG ksB
def wC : List UInt8 := [99, 97, 97, 98]
end Go.HL.Kl.Mc
namespace Go.HL.Kl.Mc
open Go Go.HL Go.HL.Kl
section
variable {P : Program} {κ : Cx} {L : Loc} {H : Hp} {ty t t' : TypeId} {x y : Operand}
end
end Go.HL.Kl.Mc
namespace Go.HL.Kl.Mc
open Go Go.HL Go.HL.Kl AskE
structure WalkE where
  (bW : Nat)
  (ra : Option Addr) (rc : Nat) (re : List Nd) (ta : Option Addr) (tc : Nat) (tx : List UInt8) (ca : Option Addr) (N cc : Nat)
namespace WalkE
abbrev vre (K : WalkE) : Value := .slice K.ra K.re.length K.rc
abbrev vtx (K : WalkE) : Value := .slice K.ta K.tx.length K.tc
abbrev vca (K : WalkE) : Value := .slice K.ca K.N K.cc
abbrev cells (K : WalkE) : List Value := [K.vre, K.vtx, K.vca]
end WalkE
structure EnvW (w : World) (K : WalkE) (M : List Nat) : Prop where
  p1 : RdP w K.bW 0 K.cells
  d1 : Rd En w K.vre K.re
  d2 : Rd Eb w K.vtx K.tx
  n1 : K.bW ∉ M
  a1 : Apart M K.vre
  a2 : Apart M K.vtx
structure WalkE.ok (K : WalkE) : Prop where
  rng : ∀ x ∈ K.re, -128 ≤ x.op ∧ x.op < 128
  no8 : ∀ x ∈ K.re, ¬ x.op = 8
  len : K.re.length ≤ 1000000
  tx : K.tx.length ≤ 1000000
def BestK (P : Program) (K : WalkE) (fn T : Nat) (x : Nd) (ks : F) : Prop := ∀ (i i1 p q : Nat) (cs : List Sp) (Sc : Hp), Part K.re (.nd x ks .nil) i i1 → p ≤ q → q ≤ K.tx.length → der1 K.tx x ks p q → cs.length = K.N → Slots K.re K.N → OwnS Esp 2 T K.vca cs Sc →
  Fn P fn [pt K.bW, .int .i64 i, .int .i64 p, .int .i64 q] (fun W => EnvW W K (keys Sc)) Sc (fun _ S' => OwnS Esp 2 T K.vca (bst1 K.tx x ks p q cs) S')
def CapR (x : Nd) (r s : Nat) : Prop := r = s ∨ (x.mx = -1 ∧ max x.mn.toNat 1 ≤ r ∧ s = max x.mn.toNat 1)
end Go.HL.Kl.Mc
namespace Go.HL
open Go
end Go.HL
namespace Go.HL.Kl.Mc
open Go Go.HL Go.HL.Kl
def FRes (re : List Nd) (w : List UInt8) (f : Int) (b : Bool) (L : List Sp) : Prop :=
  (∃ x ks, ∃ g p q : Nat, May re w x ks ∧ f = g ∧ Lft w x ks g p q ∧ b = true ∧ L = capsV w re x ks p q) ∨
  ((¬ ∃ x ks, ∃ g p q : Nat, May re w x ks ∧ f = g ∧ g ≤ p ∧ q ≤ w.length ∧ der1 w x ks p q) ∧ b = false ∧ L = [])
def BRes (re : List Nd) (w : List UInt8) (fr to : Int) (b : Bool) (L : List Sp) : Prop :=
  (∃ x ks, ∃ p q : Nat, May re w x ks ∧ fr = p ∧ to = q ∧ p ≤ q ∧ q ≤ w.length ∧ der1 w x ks p q ∧ b = true ∧ L = capsV w re x ks p q) ∨
  ((¬ ∃ x ks, ∃ p q : Nat, May re w x ks ∧ fr = p ∧ to = q ∧ p ≤ q ∧ q ≤ w.length ∧ der1 w x ks p q) ∧ b = false ∧ L = [])
def spB (j : Nat) : UInt8 := UInt8.ofNat (279 + 7 * j + 3)
def xor3 (x : UInt8) : UInt8 := UInt8.ofNat (BitVec.ofInt 8 (x.toNat : Int) ^^^ BitVec.ofInt 8 3).toNat
end Go.HL.Kl.Mc
namespace Go.Proofs.YtmompllplidphaaDoor
open Go Go.HL Go.Proofs Go.HL.Kl Go.HL.Kl.Mc Go.Tab
theorem eqBytes_fn (a a2 : Option Addr) (c c2 : Nat) (xs ys : List UInt8) : HL.Fn Tryd.prog 16 [.slice a xs.length c, .slice a2 ys.length c2] (fun w => Rd Eb w (.slice a xs.length c) xs ∧ Rd Eb w (.slice a2 ys.length c2) ys) [] (fun v _ => v = .bool (decide (xs = ys))) := by
  refine fn_of Tryd.func16 rfl rfl rfl fun w0 hw => ?_
  obtain ⟨hx, hy⟩ := hw
  have hsx := hx.sl
  have hsy := hy.sl
  have hbx := hsx.le
  have hby := hsy.le
  refine cR fun _ hK1 => ?_; refine oA (oZ hK1 (c_seq fun _ hK2 => ?_)); refine cR fun _ hK3 => ?_; refine oM ?_; refine oS sC (oM ?_); refine oS sC ?_; refine oS (s_neq rfl rfl) ?_; refine oZ hK3 ?_; refine c_if rfl (fun hl => ?_) (fun hl => ?_)
  ·refine cR fun _ hK4 => ?_; refine oA (oZ hK4 (c_ret ?_)); refine x_then_ret (?_); exact xR rfl rfl ((congrArg Value.bool (decide_eq_false (by intro e; subst e; omega)).symm))
  ·refine c_skip (xZ hK2 (c_seq fun _ hK5 => ?_)); refine cR fun _ hK6 => ?_; refine oA (oZ hK6 (c_block ?_))
   -- not carried: 4
   refine c_loopB (fun (j : Nat) => j ≤ xs.length ∧ ∀ i, i < j → xs[i]? = ys[i]?) (fun (j : Nat) => [(5, .int .i64 j)]) [(0, _), (1, _)] (fun (j : Nat) => _) (fun (j : Nat) => xs.length - j) 0 ⟨by omega, fun i hi => by omega⟩ sbA sbA hzB ?_
   rintro j ⟨hj, hjt⟩
   refine c_seq fun _ hK7 => ?_; refine cR fun _ hK8 => ?_; refine oM (oM ?_); refine oS sC ?_; refine oS (s_lss rfl rfl) ?_; refine oZ hK8 ?_; refine c_if rfl (fun hlt => ?_) (fun hlt => ?_)
   ·obtain ⟨x, hxj⟩ : ∃ x, xs[j]? = some x := gE
    obtain ⟨y, hyj⟩ : ∃ y, ys[j]? = some y := gE
    refine c_skip (xZ hK7 (c_seq fun _ hK9 => ?_)); refine c_block (c_seq fun _ hK10 => ?_); refine c_drawE ([]) (fun i => false) ?_; refine e_tk 0 rfl (by exact HSub.nil) sM ?_; refine e_tk 1 rfl (by exact HSub.nil) sM ?_; refine e_tk 2 rfl (by exact HSub.nil) (s_idx rfl rfl hsx (by omega)) ?_; refine e_tk 3 rfl (by exact HSub.nil) (s_ld rfl ((RdK.old0 hx).ld j 0 hxj rfl (by decide) (by omega))) ?_; refine e_tk 4 rfl (by exact HSub.nil) sM ?_; refine e_tk 5 rfl (by exact HSub.nil) sM ?_; refine e_tk 6 rfl (by exact HSub.nil) (s_idx rfl rfl hsy (by omega)) ?_; refine e_tk 7 rfl (by exact HSub.nil) (s_ld rfl ((RdK.old0 hy).ld j 0 hyj rfl (by decide) (by omega))) ?_; refine e_tk 8 rfl (by exact HSub.nil) (step_cast (v' := .bool (!decide (x = y))) (s_neq rfl rfl) (congrArg Value.bool u8_ne)) ?_; refine eZ hK10 ?_; refine c_ifn rfl (fun hne => ?_) (fun hne => ?_)
    ·refine cR fun _ hK11 => ?_; refine oA (oZ hK11 (c_ret ?_)); refine x_block_ret (x_then_ret (x_then_ret (x_block_ret (x_then_ret (?_)))))
     exact xR rfl rfl ((congrArg Value.bool (decide_eq_false (by intro e; subst e; rw [hxj] at hyj; cases hyj; exact hne rfl)).symm))
    ·refine c_skip (x_block (xZ hK9 (c_region (oM ?_)))); refine oS sD (oA (o_nil ?_)); exact xI (j + 1) ⟨by omega, fun i hi => by rcases Nat.lt_or_ge i j with h | h; exact hjt i h; rw [show i = j by omega, hxj, hyj, hne]⟩
   ·refine c_exit ?_; refine x_then_exit (x_then_exit (x_block_exit (xZ hK5 (cR fun _ hK12 => ?_)))); refine oA (oZ hK12 (c_ret ?_)); refine ?_; exact xR rfl rfl ((congrArg Value.bool (decide_eq_true (ext_upto (by omega) fun i hi => hjt i (by omega))).symm))
theorem longN_fn (n : Int) : HL.Fn Tryd.prog 8 [.int .i64 n] (fun _ => True) [] (fun v _ => v = .bool (decide (n > 2147483647))) := by
  refine fn_of Tryd.func8 rfl rfl rfl fun w0 hw => ?_; refine cR fun _ hK1 => ?_; refine oA (oZ hK1 (cR fun _ hK2 => ?_)); refine oM ?_; refine oS (s_gtr rfl rfl) ?_; refine oA (oZ hK2 (c_ret ?_)); refine ?_; exact xR rfl rfl (rfl)
end Go.Proofs.YtmompllplidphaaDoor
namespace Go.Proofs.YtmompllplidphaaDoor
open Go Go.HL Go.Proofs Go.HL.Kl Go.HL.Kl.Mc Go.HL.Sts
theorem eqZ_fn (a a2 : Option Addr) (c c2 : Nat) (xs ys : List Int) : HL.Fn Tryd.prog 75 [.slice a xs.length c, .slice a2 ys.length c2] (fun w => Rd Ei w (.slice a xs.length c) xs ∧ Rd Ei w (.slice a2 ys.length c2) ys) [] (fun v _ => v = .bool (decide (xs = ys))) := by
  refine fn_of Tryd.func75 rfl rfl rfl fun w0 hw => ?_
  obtain ⟨hx, hy⟩ := hw
  have hsx := hx.sl
  have hsy := hy.sl
  have hbx := hsx.le
  have hby := hsy.le
  refine cR fun _ hK1 => ?_; refine oA (oZ hK1 (c_seq fun _ hK2 => ?_)); refine cR fun _ hK3 => ?_; refine oM ?_; refine oS sC (oM ?_); refine oS sC ?_
  by_cases hl : xs.length ≠ ys.length
  ·refine oS (step_cast (v' := .bool true) (s_neq rfl rfl) (congrArg Value.bool (decide_eq_true (by omega)))) ?_; refine oZ hK3 ?_; refine cT (cR fun _ hK4 => ?_); refine oA (oZ hK4 (c_ret ?_)); refine x_then_ret (?_); exact xR rfl rfl ((congrArg Value.bool (decide_eq_false (by intro e; subst e; omega)).symm))
  ·refine oS (step_cast (v' := .bool false) (s_neq rfl rfl) (congrArg Value.bool (decide_eq_false (by omega)))) ?_; refine oZ hK3 ?_; refine cFZ hK2 (c_seq fun _ hK5 => ?_); refine cR fun _ hK6 => ?_; refine oA (oZ hK6 (c_block ?_))
   -- not carried: 4
   refine c_loopB (fun (j : Nat) => j ≤ xs.length ∧ ∀ i, i < j → xs[i]? = ys[i]?) (fun (j : Nat) => [(5, .int .i64 j)]) [(0, _), (1, _)] (fun (j : Nat) => []) (fun (j : Nat) => xs.length - j) 0 ⟨by omega, fun i hi => by omega⟩ sbA sbA hzB ?_
   rintro j ⟨hj, hjt⟩
   refine c_seq fun _ hK7 => ?_; refine cR fun _ hK8 => ?_; refine oM (oM ?_); refine oS sC ?_
   by_cases hlt : j < xs.length
   ·obtain ⟨x, hxj⟩ : ∃ x, xs[j]? = some x := gE
    obtain ⟨y, hyj⟩ : ∃ y, ys[j]? = some y := gE
    refine oS (step_cast (v' := .bool true) (s_lss rfl rfl) (congrArg Value.bool (decide_eq_true (by omega)))) ?_; refine oZ hK8 ?_; refine cTZ hK7 (c_seq fun _ hK9 => ?_); refine c_block (c_seq fun _ hK10 => ?_); refine c_drawE ([]) (fun i => false) ?_; refine eP 0 rfl sM ?_; refine eP 1 rfl sM ?_; refine eP 2 rfl (s_idx rfl rfl hsx (by omega)) ?_; refine e_tk 3 rfl (by exact HSub.nil) (s_ld rfl ((RdK.old0 hx).ld j 0 hxj rfl (by decide) (by omega))) ?_; refine eP 4 rfl sM ?_; refine eP 5 rfl sM ?_; refine eP 6 rfl (s_idx rfl rfl hsy (by omega)) ?_; refine e_tk 7 rfl (by exact HSub.nil) (s_ld rfl ((RdK.old0 hy).ld j 0 hyj rfl (by decide) (by omega))) ?_
    by_cases hne : x ≠ y
    ·refine eP 8 rfl (step_cast (v' := .bool true) (s_neq rfl rfl) (congrArg Value.bool (decide_eq_true hne))) ?_; refine eZ hK10 ?_; refine cT (cR fun _ hK11 => ?_); refine oA (oZ hK11 (c_ret ?_)); refine x_block_ret (x_then_ret (x_then_ret (x_block_ret (x_then_ret (?_)))))
     exact xR rfl rfl ((congrArg Value.bool (decide_eq_false (by intro e; subst e; rw [hxj] at hyj; exact hne (Option.some.inj hyj))).symm))
    ·refine eP 8 rfl (step_cast (v' := .bool false) (s_neq rfl rfl) (congrArg Value.bool (decide_eq_false hne))) ?_; refine eZ hK10 ?_; refine cF (c_skip (x_block (xZ hK9 (c_region (oM ?_))))); refine oS sD (oA (o_nil ?_)); exact xI (j + 1) ⟨by omega, fun i hi => by rcases Nat.lt_or_ge i j with h | h; (· exact hjt i h); (· rw [show i = j by omega, hxj, hyj, Classical.not_not.1 hne])⟩
   ·refine oS (step_cast (v' := .bool false) (s_lss rfl rfl) (congrArg Value.bool (decide_eq_false (by omega)))) ?_; refine oZ hK8 ?_; refine cF ?_; refine c_exit ?_; refine x_then_exit (x_then_exit (x_block_exit (xZ hK5 (cR fun _ hK12 => ?_)))); refine oA (oZ hK12 (c_ret ?_)); refine ?_; exact xR rfl rfl ((congrArg Value.bool (decide_eq_true (ext_upto (by omega) fun i hi => hjt i (by omega))).symm))
theorem eqC_fn (a a2 : Option Addr) (c c2 : Nat) (xs ys : List Kl.Cl) : HL.Fn Tryd.prog 32 [.slice a xs.length c, .slice a2 ys.length c2] (fun w => Rd Ec w (.slice a xs.length c) xs ∧ Rd Ec w (.slice a2 ys.length c2) ys) [] (fun v _ => v = .bool (decide (xs = ys))) := by
  refine fn_of Tryd.func32 rfl rfl rfl fun w0 hw => ?_
  obtain ⟨hx, hy⟩ := hw
  have hsx := hx.sl
  have hsy := hy.sl
  have hbx := hsx.le
  have hby := hsy.le
  refine cR fun _ hK1 => ?_; refine oA (oZ hK1 (c_seq fun _ hK2 => ?_)); refine cR fun _ hK3 => ?_; refine oM ?_; refine oS sC (oM ?_); refine oS sC ?_
  by_cases hl : xs.length ≠ ys.length
  ·refine oS (step_cast (v' := .bool true) (s_neq rfl rfl) (congrArg Value.bool (decide_eq_true (by omega)))) ?_; refine oZ hK3 ?_; refine cT (cR fun _ hK4 => ?_); refine oA (oZ hK4 (c_ret ?_)); refine x_then_ret (?_); exact xR rfl rfl ((congrArg Value.bool (decide_eq_false (by intro e; subst e; omega)).symm))
  ·refine oS (step_cast (v' := .bool false) (s_neq rfl rfl) (congrArg Value.bool (decide_eq_false (by omega)))) ?_; refine oZ hK3 ?_; refine cFZ hK2 (c_seq fun _ hK5 => ?_); refine cR fun _ hK6 => ?_; refine oA (oZ hK6 (c_block ?_))
   -- not carried: 4
   refine c_loopB (fun (j : Nat) => j ≤ xs.length ∧ ∀ i, i < j → xs[i]? = ys[i]?) (fun (j : Nat) => [(5, .int .i64 j)]) [(0, _), (1, _)] (fun (j : Nat) => []) (fun (j : Nat) => xs.length - j) 0 ⟨by omega, fun i hi => by omega⟩ sbA sbA hzB ?_
   rintro j ⟨hj, hjt⟩
   refine c_seq fun _ hK7 => ?_; refine cR fun _ hK8 => ?_; refine oM (oM ?_); refine oS sC ?_
   by_cases hlt : j < xs.length
   ·obtain ⟨x, hxj⟩ : ∃ x, xs[j]? = some x := gE
    obtain ⟨y, hyj⟩ : ∃ y, ys[j]? = some y := gE
    refine oS (step_cast (v' := .bool true) (s_lss rfl rfl) (congrArg Value.bool (decide_eq_true (by omega)))) ?_; refine oZ hK8 ?_; refine cTZ hK7 (c_seq fun _ hK9 => ?_); refine c_block (c_seq fun _ hK10 => ?_); refine c_drawE ([]) (fun i => false) ?_; refine eP 0 rfl sM ?_; refine eP 1 rfl sM ?_; refine eP 2 rfl (s_idx rfl rfl hsx (by omega)) ?_; refine e_tk 3 rfl (by exact HSub.nil) (s_ldB rfl ((RdK.old0 hx).lds j hxj (by omega)) lnA) ?_; refine eP 4 rfl sM ?_; refine eP 5 rfl sM ?_; refine eP 6 rfl (s_idx rfl rfl hsy (by omega)) ?_; refine e_tk 7 rfl (by exact HSub.nil) (s_ldB rfl ((RdK.old0 hy).lds j hyj (by omega)) lnA) ?_
    by_cases hne : x ≠ y
    ·refine eP 8 rfl (step_cast (v' := .bool true) (s_neq_cl rfl rfl) (congrArg Value.bool (decide_eq_true hne))) ?_; refine eZ hK10 ?_; refine cT (cR fun _ hK11 => ?_); refine oA (oZ hK11 (c_ret ?_)); refine x_block_ret (x_then_ret (x_then_ret (x_block_ret (x_then_ret (?_)))))
     exact xR rfl rfl ((congrArg Value.bool (decide_eq_false (by intro e; subst e; rw [hxj] at hyj; exact hne (Option.some.inj hyj))).symm))
    ·refine eP 8 rfl (step_cast (v' := .bool false) (s_neq_cl rfl rfl) (congrArg Value.bool (decide_eq_false hne))) ?_; refine eZ hK10 ?_; refine cF (c_skip (x_block (xZ hK9 (c_region (oM ?_))))); refine oS sD (oA (o_nil ?_)); exact xI (j + 1) ⟨by omega, fun i hi => by rcases Nat.lt_or_ge i j with h | h; (· exact hjt i h); (· rw [show i = j by omega, hxj, hyj, Classical.not_not.1 hne])⟩
   ·refine oS (step_cast (v' := .bool false) (s_lss rfl rfl) (congrArg Value.bool (decide_eq_false (by omega)))) ?_; refine oZ hK8 ?_; refine cF ?_; refine c_exit ?_; refine x_then_exit (x_then_exit (x_block_exit (xZ hK5 (cR fun _ hK12 => ?_)))); refine oA (oZ hK12 (c_ret ?_)); refine ?_; exact xR rfl rfl ((congrArg Value.bool (decide_eq_true (ext_upto (by omega) fun i hi => hjt i (by omega))).symm))
theorem eqB_fn (a a2 : Option Addr) (c c2 : Nat) (xs ys : List Bool) : HL.Fn Tryd.prog 44 [.slice a xs.length c, .slice a2 ys.length c2] (fun w => Rd Ebo w (.slice a xs.length c) xs ∧ Rd Ebo w (.slice a2 ys.length c2) ys) [] (fun v _ => v = .bool (decide (xs = ys))) := by
  refine fn_of Tryd.func44 rfl rfl rfl fun w0 hw => ?_
  obtain ⟨hx, hy⟩ := hw
  have hsx := hx.sl
  have hsy := hy.sl
  have hbx := hsx.le
  have hby := hsy.le
  refine cR fun _ hK1 => ?_; refine oA (oZ hK1 (c_seq fun _ hK2 => ?_)); refine cR fun _ hK3 => ?_; refine oM ?_; refine oS sC (oM ?_); refine oS sC ?_
  by_cases hl : xs.length ≠ ys.length
  ·refine oS (step_cast (v' := .bool true) (s_neq rfl rfl) (congrArg Value.bool (decide_eq_true (by omega)))) ?_; refine oZ hK3 ?_; refine cT (cR fun _ hK4 => ?_); refine oA (oZ hK4 (c_ret ?_)); refine x_then_ret (?_); exact xR rfl rfl ((congrArg Value.bool (decide_eq_false (by intro e; subst e; omega)).symm))
  ·refine oS (step_cast (v' := .bool false) (s_neq rfl rfl) (congrArg Value.bool (decide_eq_false (by omega)))) ?_; refine oZ hK3 ?_; refine cFZ hK2 (c_seq fun _ hK5 => ?_); refine cR fun _ hK6 => ?_; refine oA (oZ hK6 (c_block ?_))
   -- not carried: 4
   refine c_loopB (fun (j : Nat) => j ≤ xs.length ∧ ∀ i, i < j → xs[i]? = ys[i]?) (fun (j : Nat) => [(5, .int .i64 j)]) [(0, _), (1, _)] (fun (j : Nat) => []) (fun (j : Nat) => xs.length - j) 0 ⟨by omega, fun i hi => by omega⟩ sbA sbA hzB ?_
   rintro j ⟨hj, hjt⟩
   refine c_seq fun _ hK7 => ?_; refine cR fun _ hK8 => ?_; refine oM (oM ?_); refine oS sC ?_
   by_cases hlt : j < xs.length
   ·obtain ⟨x, hxj⟩ : ∃ x, xs[j]? = some x := gE
    obtain ⟨y, hyj⟩ : ∃ y, ys[j]? = some y := gE
    refine oS (step_cast (v' := .bool true) (s_lss rfl rfl) (congrArg Value.bool (decide_eq_true (by omega)))) ?_; refine oZ hK8 ?_; refine cTZ hK7 (c_seq fun _ hK9 => ?_); refine c_block (c_seq fun _ hK10 => ?_); refine c_drawE ([]) (fun i => false) ?_; refine eP 0 rfl sM ?_; refine eP 1 rfl sM ?_; refine eP 2 rfl (s_idx rfl rfl hsx (by omega)) ?_; refine e_tk 3 rfl (by exact HSub.nil) (s_ld rfl ((RdK.old0 hx).ld j 0 hxj rfl (by decide) (by omega))) ?_; refine eP 4 rfl sM ?_; refine eP 5 rfl sM ?_; refine eP 6 rfl (s_idx rfl rfl hsy (by omega)) ?_; refine e_tk 7 rfl (by exact HSub.nil) (s_ld rfl ((RdK.old0 hy).ld j 0 hyj rfl (by decide) (by omega))) ?_
    by_cases hne : x ≠ y
    ·refine eP 8 rfl (step_cast (v' := .bool true) (s_neq_bool rfl rfl) (congrArg Value.bool (decide_eq_true hne))) ?_; refine eZ hK10 ?_; refine cT (cR fun _ hK11 => ?_); refine oA (oZ hK11 (c_ret ?_)); refine x_block_ret (x_then_ret (x_then_ret (x_block_ret (x_then_ret (?_)))))
     exact xR rfl rfl ((congrArg Value.bool (decide_eq_false (by intro e; subst e; rw [hxj] at hyj; exact hne (Option.some.inj hyj))).symm))
    ·refine eP 8 rfl (step_cast (v' := .bool false) (s_neq_bool rfl rfl) (congrArg Value.bool (decide_eq_false hne))) ?_; refine eZ hK10 ?_; refine cF (c_skip (x_block (xZ hK9 (c_region (oM ?_))))); refine oS sD (oA (o_nil ?_)); exact xI (j + 1) ⟨by omega, fun i hi => by rcases Nat.lt_or_ge i j with h | h; (· exact hjt i h); (· rw [show i = j by omega, hxj, hyj, Classical.not_not.1 hne])⟩
   ·refine oS (step_cast (v' := .bool false) (s_lss rfl rfl) (congrArg Value.bool (decide_eq_false (by omega)))) ?_; refine oZ hK8 ?_; refine cF ?_; refine c_exit ?_; refine x_then_exit (x_then_exit (x_block_exit (xZ hK5 (cR fun _ hK12 => ?_)))); refine oA (oZ hK12 (c_ret ?_)); refine ?_; exact xR rfl rfl ((congrArg Value.bool (decide_eq_true (ext_upto (by omega) fun i hi => hjt i (by omega))).symm))
inductive OwnW : List (Sl Int) → Hp → Prop
  | nil : OwnW [] []
  | cons {s : Sl Int} {sls : List (Sl Int)} {S R : Hp} (h : OwnS Ei 1 3 (.slice s.a (wdl spZ s.xs).length s.c) (wdl spZ s.xs) S) (hs : OwnW sls R) : OwnW (s :: sls) (S ++ R)
def Sps (n : Nat) (sps : List (Sl Int)) : Prop := ∀ j s, sps[j]? = some s → s.xs = [spZ (n + j)]
def WdO (d : Df) (v : Value) (S : Hp) : Prop := ∃ (aC aR aE : Option Addr) (hs sps : List (Sl Int)) (SC SB SH SS SE : Hp), v = .agg [.slice aC d.atoms.length (d.atoms.length + 64), .slice aR hs.length (hs.length + 64), .slice aE d.ends.length (d.ends.length + 64)].toArray ∧ S = SC ++ (SB ++ (SH ++ (SS ++ SE))) ∧
  OwnS Ec 4 54 (.slice aC (wdl spC d.atoms).length (d.atoms.length + 64)) (wdl spC d.atoms) SC ∧ OwnS Esl 1 46 (.slice aR (hs ++ sps).length (hs.length + 64)) (hs ++ sps) SB ∧ OwnW hs SH ∧ OwnL Ei 1 3 sps (sps.map Sl.xs) SS ∧ OwnS Ebo 1 4 (.slice aE (wdl spBo d.ends).length (d.ends.length + 64)) (wdl spBo d.ends) SE ∧ d.next = hs.map Sl.xs ∧ sps.length = 64 ∧ Sps hs.length sps
structure Sml (d : Df) (rows : List (Sl Int)) : Prop where
  at_ : d.atoms.length ≤ 16777216
  nx : rows.length ≤ 16777216
  en : d.ends.length ≤ 16777216
  rw_ : ∀ s ∈ rows, s.xs.length ≤ 16777216
theorem eqIntss_fn (a a2 : Option Addr) (c c2 : Nat) (xs ys : List (Sl Int)) : HL.Fn Tryd.prog 43 [.slice a xs.length c, .slice a2 ys.length c2] (fun w => Rd Esl w (.slice a xs.length c) xs ∧ Rd Esl w (.slice a2 ys.length c2) ys ∧ (∀ s ∈ xs, Rd Ei w s.v s.xs) ∧ ∀ s ∈ ys, Rd Ei w s.v s.xs) [] (fun v _ => v = .bool (decide ((xs.map Sl.xs) = (ys.map Sl.xs)))) := by
  refine fn_of Tryd.func43 rfl rfl rfl fun w0 hw => ?_
  obtain ⟨hx, hy, hxr, hyr⟩ := hw
  have hsx := hx.sl
  have hsy := hy.sl
  have hbx := hsx.le
  have hby := hsy.le
  refine cR fun _ hK1 => ?_; refine oA (oZ hK1 (c_seq fun _ hK2 => ?_)); refine cR fun _ hK3 => ?_; refine oM ?_; refine oS sC (oM ?_); refine oS sC ?_
  by_cases hl : xs.length ≠ ys.length
  ·refine oS (step_cast (v' := .bool true) (s_neq rfl rfl) (congrArg Value.bool (decide_eq_true (by omega)))) ?_; refine oZ hK3 ?_; refine cT (cR fun _ hK4 => ?_); refine oA (oZ hK4 (c_ret ?_)); refine x_then_ret (?_); exact xR rfl rfl ((congrArg Value.bool (decide_eq_false (by intro e; have := congrArg List.length e; simp at this; omega)).symm))
  ·refine oS (step_cast (v' := .bool false) (s_neq rfl rfl) (congrArg Value.bool (decide_eq_false (by omega)))) ?_; refine oZ hK3 ?_; refine cFZ hK2 (c_seq fun _ hK5 => ?_); refine cR fun _ hK6 => ?_; refine oA (oZ hK6 (c_block ?_))
   -- not carried: 4
   refine c_loopB (fun (j : Nat) => j ≤ xs.length ∧ ∀ i, i < j → (xs.map Sl.xs)[i]? = (ys.map Sl.xs)[i]?) (fun (j : Nat) => [(5, .int .i64 j)]) [(0, _), (1, _)] (fun (j : Nat) => []) (fun (j : Nat) => xs.length - j) 0 ⟨by omega, fun i hi => by omega⟩ sbA sbA hzB ?_
   rintro j ⟨hj, hjt⟩
   refine c_seq fun _ hK7 => ?_; refine cR fun _ hK8 => ?_; refine oM (oM ?_); refine oS sC ?_
   by_cases hlt : j < xs.length
   ·obtain ⟨x, hxj⟩ : ∃ x, xs[j]? = some x := gE
    obtain ⟨y, hyj⟩ : ∃ y, ys[j]? = some y := gE
    refine oS (step_cast (v' := .bool true) (s_lss rfl rfl) (congrArg Value.bool (decide_eq_true (by omega)))) ?_; refine oZ hK8 ?_; refine cTZ hK7 (c_seq fun _ hK9 => ?_); refine c_block (c_seq fun _ hK10 => ?_); refine c_drawE ([]) (fun i => false) ?_; refine eP 0 rfl sM ?_; refine eP 1 rfl sM ?_; refine eP 2 rfl (s_idx rfl rfl hsx (by omega)) ?_; refine e_tk 3 rfl (by exact HSub.nil) (s_ld rfl ((RdK.old0 hx).ld j 0 hxj rfl (by decide) (by omega))) ?_; refine eP 4 rfl sM ?_; refine eP 5 rfl sM ?_; refine eP 6 rfl (s_idx rfl rfl hsy (by omega)) ?_; refine e_tk 7 rfl (by exact HSub.nil) (s_ld rfl ((RdK.old0 hy).ld j 0 hyj rfl (by decide) (by omega))) ?_; refine eO 8 rfl ?_; refine o_callP (eqZ_fn x.a y.a x.c y.c x.xs y.xs) rfl rfl rfl (fun w st => ⟨(RdK.old0 (hxr x (List.mem_of_getElem? hxj))).out w st, (RdK.old0 (hyr y (List.mem_of_getElem? hyj))).out w st⟩) (fun v25 hv25 => ?_)
    cases hq25 : decide (x.xs = y.xs)
    ·rw [hq25] at hv25
     subst hv25
     have hne := of_decide_eq_false hq25
     refine o_nil ?_; refine x_oneS (by exact HSub.nil) ?_; refine eP 9 rfl (s_not rfl) ?_; refine eZ hK10 ?_; refine cT (cR fun _ hK11 => ?_); refine oA (oZ hK11 (c_ret ?_)); refine x_block_ret (x_then_ret (x_then_ret (x_block_ret (x_then_ret (?_)))))
     exact xR rfl rfl ((congrArg Value.bool (decide_eq_false (by intro e; have := congrArg (fun l => l[j]?) e; simp only [List.getElem?_map, hxj, hyj, Option.map_some, Option.some.injEq] at this; exact hne this)).symm))
    ·rw [hq25] at hv25
     subst hv25
     have hne := of_decide_eq_true hq25
     refine o_nil ?_; refine x_oneS (by exact HSub.nil) ?_; refine eP 9 rfl (s_not rfl) ?_; refine eZ hK10 ?_; refine cF (c_skip (x_block (xZ hK9 (c_region (oM ?_))))); refine oS sD (oA (o_nil ?_)); exact xI (j + 1) ⟨by omega, fun i hi => by rcases Nat.lt_or_ge i j with h | h; (· exact hjt i h); (· rw [show i = j by omega, List.getElem?_map, List.getElem?_map, hxj, hyj]; exact congrArg some hne)⟩
   ·refine oS (step_cast (v' := .bool false) (s_lss rfl rfl) (congrArg Value.bool (decide_eq_false (by omega)))) ?_; refine oZ hK8 ?_; refine cF ?_; refine c_exit ?_; refine x_then_exit (x_then_exit (x_block_exit (xZ hK5 (cR fun _ hK12 => ?_)))); refine oA (oZ hK12 (c_ret ?_)); refine ?_; exact xR rfl rfl ((congrArg Value.bool (decide_eq_true (ext_upto (by simp; omega) fun i hi => hjt i (by simp at hi; omega))).symm))
theorem df_ext {d1 d2 : Df} (h1 : d1.atoms = d2.atoms) (h2 : d1.next = d2.next) (h3 : d1.ends = d2.ends) : d1 = d2 := by
  cases d1; cases d2; simp_all
set_option maxHeartbeats 1000000 in
theorem eqDfa_fn (d1 : Df) (aa1 : Option Addr) (ac1 : Nat) (na1 : Option Addr) (nc1 : Nat) (rows1 : List (Sl Int)) (ea1 : Option Addr) (ec1 : Nat) (hx1 : d1.next = rows1.map Sl.xs) (d2 : Df) (aa2 : Option Addr) (ac2 : Nat) (na2 : Option Addr) (nc2 : Nat) (rows2 : List (Sl Int)) (ea2 : Option Addr) (ec2 : Nat) (hx2 : d2.next = rows2.map Sl.xs) : HL.Fn Tryd.prog 14 [.agg [.slice aa1 d1.atoms.length ac1, .slice na1 rows1.length nc1, .slice ea1 d1.ends.length ec1].toArray, .agg [.slice aa2 d2.atoms.length ac2, .slice na2 rows2.length nc2, .slice ea2 d2.ends.length ec2].toArray] (fun w => RdD d1 aa1 ac1 na1 nc1 rows1 ea1 ec1 w ∧ RdD d2 aa2 ac2 na2 nc2 rows2 ea2 ec2 w) [] (fun v _ => v = .bool (decide (d1 = d2))) := by
  refine fn_of Tryd.func14 rfl rfl rfl fun w0 hw => ?_
  obtain ⟨hw1, hw2⟩ := hw
  refine cR fun _ hK1 => ?_; refine o_box rfl rfl rfl fun b2 => ?_; refine o_box rfl rfl rfl fun b3 => ?_; refine oA (oZ hK1 (cR fun _ hK2 => ?_)); refine oS sF ?_; refine oS sL ?_; refine oS sF ?_; refine oS sL ?_; refine o_callP (eqC_fn aa1 aa2 ac1 ac2 d1.atoms d2.atoms) rfl rfl rfl (fun w st => ⟨(RdK.old0 hw1.at_).out w st, (RdK.old0 hw2.at_).out w st⟩) (fun v9 hv9 => ?_)
  cases hq9 : decide (d1.atoms = d2.atoms)
  ·rw [hq9] at hv9
   subst hv9
   have h1 := of_decide_eq_false hq9
   refine oM ?_; refine oN ?_; refine oN ?_; refine oN ?_; refine oN ?_; refine oN ?_; refine oS sP (oM ?_); refine oN ?_; refine oN ?_; refine oN ?_; refine oN ?_; refine oN ?_; refine oS sP (oA (oZ hK2 (c_ret ?_))); refine ?_; exact xR rfl rfl ((congrArg Value.bool (decide_eq_false (fun e => h1 (by rw [e]))).symm))
  ·rw [hq9] at hv9
   subst hv9
   have h1 := of_decide_eq_true hq9
   refine oM ?_; refine oY ?_; refine oS sF ?_; refine oY ?_; refine oS sL ?_; refine oY ?_; refine oS sF ?_; refine oY ?_; refine oS sL ?_; refine oY ?_; refine o_callP (eqIntss_fn na1 na2 nc1 nc2 rows1 rows2) rfl rfl rfl (fun w st => ⟨(RdK.old0 hw1.nx).out w st, (RdK.old0 hw2.nx).out w st, fun s hs => (RdK.old0 (hw1.rw_ s hs)).out w st, fun s hs => (RdK.old0 (hw2.rw_ s hs)).out w st⟩) (fun v15 hv15 => ?_)
   cases hq15 : decide (rows1.map Sl.xs = rows2.map Sl.xs)
   ·rw [hq15] at hv15
    subst hv15
    have h2 := of_decide_eq_false hq15
    refine oS sT (oM ?_); refine oN ?_; refine oN ?_; refine oN ?_; refine oN ?_; refine oN ?_; refine oS sP (oA (oZ hK2 (c_ret ?_))); refine ?_; exact xR rfl rfl ((congrArg Value.bool (decide_eq_false (fun e => h2 (by rw [← hx1, ← hx2, e]))).symm))
   ·rw [hq15] at hv15
    subst hv15
    have h2 := of_decide_eq_true hq15
    refine oS sT (oM ?_); refine oY ?_; refine oS sF ?_; refine oY ?_; refine oS sL ?_; refine oY ?_; refine oS sF ?_; refine oY ?_; refine oS sL ?_; refine oY ?_; refine o_callP (eqB_fn ea1 ea2 ec1 ec2 d1.ends d2.ends) rfl rfl rfl (fun w st => ⟨(RdK.old0 hw1.en).out w st, (RdK.old0 hw2.en).out w st⟩) (fun v22 hv22 => ?_)
    cases hq22 : decide (d1.ends = d2.ends)
    ·rw [hq22] at hv22
     subst hv22
     have h3 := of_decide_eq_false hq22
     refine oS sT (oA (oZ hK2 (c_ret ?_))); refine ?_; exact xR rfl rfl ((congrArg Value.bool (decide_eq_false (fun e => h3 (by rw [e]))).symm))
    ·rw [hq22] at hv22
     subst hv22
     have h3 := of_decide_eq_true hq22
     refine oS sT (oA (oZ hK2 (c_ret ?_))); refine ?_; exact xR rfl rfl ((congrArg Value.bool (decide_eq_true (df_ext h1 (by rw [hx1, hx2, h2]) h3)).symm))
end Go.Proofs.YtmompllplidphaaDoor
