/- The search with back-references, step by step: its state, its runs. Conditions: none. -/
import Derived.Test.YtloepfcndglmmaaDoorBM1Z
namespace Go.HL.Kl.Mc
open Go Go.HL Go.HL.Kl AskE
/-! where something stands first in a list -/
section
variable {α : Type} [DecidableEq α]
def fnd (a : α) : List α → Option Nat
  | [] => none
  | b :: l => if b = a then some 0 else (fnd a l).map (· + 1)
theorem fnd_some {a : α} : ∀ {l : List α} {k : Nat}, fnd a l = some k → l[k]? = some a
  | [], _, h => by simp [fnd] at h
  | b :: l, k, h => by
    unfold fnd at h
    split at h
    · cases h; simpa
    · rw [Option.map_eq_some_iff] at h
      obtain ⟨m, h1, rfl⟩ := h
      simpa using fnd_some h1
theorem fnd_none {a : α} : ∀ {l : List α}, fnd a l = none → a ∉ l
  | [], _ => by simp
  | b :: l, h => by
    unfold fnd at h
    split at h
    · cases h
    · rename_i hb
      rw [Option.map_eq_none_iff] at h
      simp [fnd_none h, Ne.symm hb]
end
/-! what the groups have taken that are referred to, as a number -/
structure Tk where
  ahead : Nat
  h : List Sp
  deriving DecidableEq
def zSp : Sp := ⟨0, 0⟩
def chunk (l : List Sp) (q : Nat) : List Sp := (List.range 4).map fun k => l.getD (4 * q + k) zSp
def chunks (l : List Sp) : List (List Sp) := (List.range ((l.length + 3) / 4)).map (chunk l)
theorem chunks_inj {l l' : List Sp} (hl : l.length = l'.length) (h : chunks l = chunks l') : l = l' := by
  apply List.ext_getElem?
  intro m
  rcases Nat.lt_or_ge m l.length with hm | hm
  · have hq : m / 4 < (l.length + 3) / 4 := by omega
    have h1 : (chunks l)[m / 4]? = (chunks l')[m / 4]? := by rw [h]
    unfold chunks at h1
    rw [List.getElem?_map, List.getElem?_map, List.getElem?_range hq, List.getElem?_range (by omega)] at h1
    have h2 : chunk l (m / 4) = chunk l' (m / 4) := by simpa using h1
    have h3 : (chunk l (m / 4))[m % 4]? = (chunk l' (m / 4))[m % 4]? := by rw [h2]
    unfold chunk at h3
    rw [List.getElem?_map, List.getElem?_map, List.getElem?_range (by omega)] at h3
    have h4 : l.getD (4 * (m / 4) + m % 4) zSp = l'.getD (4 * (m / 4) + m % 4) zSp := by simpa using h3
    rw [show 4 * (m / 4) + m % 4 = m by omega] at h4
    rw [List.getD_eq_getElem?_getD, List.getD_eq_getElem?_getD, List.getElem?_eq_getElem hm, List.getElem?_eq_getElem (by omega)] at h4
    rw [List.getElem?_eq_getElem hm, List.getElem?_eq_getElem (by omega)]
    exact congrArg some h4
  · rw [List.getElem?_eq_none hm, List.getElem?_eq_none (by omega)]
theorem chunks_len {l : List Sp} : (chunks l).length = (l.length + 3) / 4 := by simp [chunks]
def stG (ts : List Tk) (n : Nat) : List (List Sp) → Nat × List Tk
  | [] => (n, ts)
  | h :: r => match fnd ⟨n, h⟩ ts with
    | some k => stG ts (k + 1) r
    | none => stG (ts ++ [⟨n, h⟩]) (ts.length + 1) r
def Dec (ts : List Tk) : Nat → List (List Sp) → Nat → Prop
  | n, [], m => n = m
  | n, h :: r, m => ∃ k : Nat, ts[k]? = some ⟨n, h⟩ ∧ Dec ts (k + 1) r m
theorem Dec.mono {ts e : List Tk} : ∀ {hs : List (List Sp)} {n m : Nat}, Dec ts n hs m → Dec (ts ++ e) n hs m
  | [], _, _, h => h
  | h :: r, n, m, ⟨k, h1, h2⟩ => ⟨k, by rw [List.getElem?_append_left (List.getElem?_eq_some_iff.1 h1).1]; exact h1, h2.mono⟩
theorem Dec.snoc {ts : List Tk} : ∀ {hs : List (List Sp)} {h : List Sp} {n m : Nat}, Dec ts n (hs ++ [h]) m ↔ ∃ a k : Nat, Dec ts n hs a ∧ ts[k]? = some ⟨a, h⟩ ∧ m = k + 1
  | [], h, n, m => by
    constructor
    · rintro ⟨k, h1, h2⟩; exact ⟨n, k, rfl, h1, h2.symm⟩
    · rintro ⟨a, k, h1, h2, rfl⟩
      have h1 : n = a := h1
      subst h1
      exact ⟨k, h2, rfl⟩
  | g :: r, h, n, m => by
    constructor
    · rintro ⟨k, h1, h2⟩
      obtain ⟨a, k2, h3, h4, h5⟩ := Dec.snoc.1 h2
      exact ⟨a, k2, ⟨k, h1, h3⟩, h4, h5⟩
    · rintro ⟨a, k2, ⟨k, h1, h3⟩, h4, h5⟩
      exact ⟨k, h1, Dec.snoc.2 ⟨a, k2, h3, h4, h5⟩⟩
theorem Dec.inj {ts : List Tk} {n : Nat} : ∀ (len : Nat) {hs hs' : List (List Sp)} {m : Nat}, hs.length = len → hs'.length = len → Dec ts n hs m → Dec ts n hs' m → hs = hs' := by
  intro len
  induction len with
  | zero => intro hs hs' m h1 h2 _ _; rw [List.eq_nil_of_length_eq_zero h1, List.eq_nil_of_length_eq_zero h2]
  | succ len ih =>
    intro hs hs' m h1 h2 d1 d2
    have e1 := List.dropLast_concat_getLast (l := hs) (by intro e; subst e; simp at h1)
    have e2 := List.dropLast_concat_getLast (l := hs') (by intro e; subst e; simp at h2)
    rw [← e1] at d1
    rw [← e2] at d2
    obtain ⟨a, k, a1, a2, a3⟩ := Dec.snoc.1 d1
    obtain ⟨b, q, b1, b2, b3⟩ := Dec.snoc.1 d2
    obtain rfl : k = q := by omega
    rw [a2] at b2
    have h5 := Option.some.inj b2
    injection h5 with h6 h7
    subst h6
    rw [← e1, ← e2, ih (by simp [h1]) (by simp [h2]) a1 b1, h7]
theorem Dec.fn {ts : List Tk} (hn : ts.Nodup) : ∀ {hs : List (List Sp)} {n m m' : Nat}, Dec ts n hs m → Dec ts n hs m' → m = m'
  | [], _, _, _, h, h' => h.symm.trans h'
  | h :: r, n, m, m', ⟨k, h1, h2⟩, ⟨k', h3, h4⟩ => by
    have : k = k' := by
      have l1 := (List.getElem?_eq_some_iff.1 h1).1
      exact (List.getElem?_inj l1 hn).1 (h1.trans h3.symm)
    subst this
    exact Dec.fn hn h2 h4
theorem stG_spec : ∀ (hs : List (List Sp)) (ts : List Tk) (n : Nat), ts.Nodup → (∃ e, (stG ts n hs).2 = ts ++ e ∧ e.length ≤ hs.length) ∧ (stG ts n hs).2.Nodup ∧ Dec (stG ts n hs).2 n hs (stG ts n hs).1
  | [], ts, n, h => ⟨⟨[], by simp [stG]⟩, by simpa [stG] using h, rfl⟩
  | h :: r, ts, n, hn => by
    unfold stG
    cases hf : fnd ⟨n, h⟩ ts with
    | some k =>
      dsimp only
      obtain ⟨⟨e, h1, hl⟩, h2, h3⟩ := stG_spec r ts (k + 1) hn
      refine ⟨⟨e, h1, by rw [List.length_cons]; omega⟩, h2, k, ?_, h3⟩
      rw [h1, List.getElem?_append_left (List.getElem?_eq_some_iff.1 (fnd_some hf)).1]
      exact fnd_some hf
    | none =>
      dsimp only
      have hnn : (ts ++ [(⟨n, h⟩ : Tk)]).Nodup := List.nodup_append.2 ⟨hn, by simp, fun a ha b hb => by
        obtain rfl := List.mem_singleton.1 hb
        intro e; subst e
        exact fnd_none hf ha⟩
      obtain ⟨⟨e, h1, hl⟩, h2, h3⟩ := stG_spec r (ts ++ [(⟨n, h⟩ : Tk)]) (ts.length + 1) hnn
      refine ⟨⟨([⟨n, h⟩] : List Tk) ++ e, by rw [h1, List.append_assoc], by simp; omega⟩, h2, ts.length, ?_, h3⟩
      rw [h1, List.getElem?_append_left (by simp), List.getElem?_append_right (Nat.le_refl _)]
      simp
/-! the state -/
structure Pt where
  u : Nat
  at_ : Nat
  tk : Nat
  deriving DecidableEq
structure SS where
  fs : List Frm
  ts : List Tk
  F : List Pt
  cs : List Sp
  fuel : Nat
  wk : Nat
def SS.push (S : SS) (f : Frm) : Nat × SS := match fnd f S.fs with
  | some k => (k + 1, S)
  | none => (S.fs.length + 1, { S with fs := S.fs ++ [f] })
def SrE.proj (K : SrE) (cs : List Sp) : List Sp := K.R.map fun n => cs.getD n noS
def SrE.code (K : SrE) (S : SS) : Nat × SS := ((stG S.ts 0 (chunks (K.proj S.cs))).1, { S with ts := (stG S.ts 0 (chunks (K.proj S.cs))).2 })
noncomputable def SrE.bh (K : SrE) (k : Nat) : Nat := k + (foAt K.re k 1).size
/-- may the node take the span? -/
def SrE.good (K : SrE) (x : Nd) (cs : List Sp) (i j : Nat) : Prop :=
  (x.op = 1 ∧ j = i + 1 ∧ ∃ b, K.w[i]? = some b ∧ x.set.getLsbD b.toNat = true) ∨ (x.op = 2 ∧ j = 0) ∨ (x.op = 3 ∧ i = K.w.length) ∨
  (x.op = 8 ∧ cs.getD x.n.toNat noS ≠ noS ∧ (K.w.drop (cs.getD x.n.toNat noS).fr.toNat).take ((cs.getD x.n.toNat noS).to - (cs.getD x.n.toNat noS).fr).toNat = (K.w.drop i).take (j - i))
def SrE.inn (K : SrE) (a b : Nat) : List Nd := (K.re.drop a).take (b - a)
def emW : List Nd → List Sp → List Sp
  | [], _ => []
  | x :: l, cs => if x.op = 7 then cs.getD x.n.toNat noS :: emW l (cs.set x.n.toNat noS) else emW l cs
def rst : List Nd → List Sp → List Sp → List Sp
  | [], _, cs => cs
  | x :: l, was, cs => if x.op = 7 then rst l was.tail (cs.set x.n.toNat (was.headD noS)) else rst l was cs
def satK (x : Nd) (k : Nat) : Nat := if x.mx < 0 then min (k + 1) (max x.mn.toNat 1) else k + 1
def SS.fail (S : SS) (b : Bool) (p : Pt) : SS := if b = true then S else { S with F := p :: S.F }
/-! runs -/
inductive SQ
  | take (at_ i j up : Nat)
  | alt (kid left i j up : Nat)
  | next (u at_ : Nat)
  | body (f : Frm) (at_ : Nat)
  | row (f : Frm) (at_ : Nat)
  | rowL (f : Frm) (u at_ : Nat) (es : List Nat)
  | rnd (f : Frm) (at_ : Nat)
  | rndL (f : Frm) (u at_ : Nat) (es : List Nat)
def brk (x : Nd) (f : Frm) (at_ e : Nat) : Prop := e = at_ ∧ x.mn ≤ (f.kid : Int) ∧ 0 < f.kid
def SS.tick (S : SS) : SS := { S with fuel := S.fuel - 1, wk := S.wk + 1 }
inductive Ev (K : SrE) : SS → SQ → Bool → SS → Prop
  | takeNo {S : SS} {at_ i j up : Nat} {x : Nd} (hx : K.re[at_]? = some x) (hf : 0 < S.fuel) (ho : x.op = 1 ∨ x.op = 2 ∨ x.op = 3 ∨ x.op = 8) (hg : ¬ K.good x S.cs i j) : Ev K S (.take at_ i j up) false S.tick
  | takeYes {S S' : SS} {at_ i j up : Nat} {x : Nd} {b : Bool} (hx : K.re[at_]? = some x) (hf : 0 < S.fuel) (ho : x.op = 1 ∨ x.op = 2 ∨ x.op = 3 ∨ x.op = 8) (hg : K.good x S.cs i j) (h : Ev K S.tick (.next up j) b S') : Ev K S (.take at_ i j up) b S'
  | takeAlt {S S' : SS} {at_ i j up : Nat} {x : Nd} {b : Bool} (hx : K.re[at_]? = some x) (hf : 0 < S.fuel) (ho : x.op = 5) (h : Ev K S.tick (.alt (at_ + 1) x.kids.toNat i j up) b S') : Ev K S (.take at_ i j up) b S'
  | takeCat {S S2 S' : SS} {at_ i j up u : Nat} {x : Nd} {b : Bool} (hx : K.re[at_]? = some x) (hf : 0 < S.fuel) (ho : x.op = 4) (hp : S.tick.push ⟨up, at_, at_ + 1, x.kids.toNat, i, j⟩ = (u, S2)) (h : Ev K S2 (.next u i) b S') : Ev K S (.take at_ i j up) b S'
  | takeRep {S S2 S' : SS} {at_ i j up u : Nat} {x : Nd} {b : Bool} (hx : K.re[at_]? = some x) (hf : 0 < S.fuel) (ho : x.op = 6) (hp : S.tick.push ⟨up, at_, 0, 0, 0, j⟩ = (u, S2)) (h : Ev K S2 (.next u i) b S') : Ev K S (.take at_ i j up) b S'
  | takeGrpY {S S2 S' : SS} {at_ i j up u : Nat} {x : Nd} (hx : K.re[at_]? = some x) (hf : 0 < S.fuel) (ho : x.op = 7) (hp : ({ S.tick with cs := fgt (K.inn (at_ + 1) (K.bh at_)) S.cs } : SS).push ⟨up, at_, 0, 0, i, j⟩ = (u, S2)) (h : Ev K S2 (.take (at_ + 1) i j u) true S') : Ev K S (.take at_ i j up) true S'
  | takeGrpN {S S2 S' : SS} {at_ i j up u : Nat} {x : Nd} (hx : K.re[at_]? = some x) (hf : 0 < S.fuel) (ho : x.op = 7) (hp : ({ S.tick with cs := fgt (K.inn (at_ + 1) (K.bh at_)) S.cs } : SS).push ⟨up, at_, 0, 0, i, j⟩ = (u, S2)) (h : Ev K S2 (.take (at_ + 1) i j u) false S') : Ev K S (.take at_ i j up) false { S' with cs := rst (K.inn (at_ + 1) (K.bh at_)) (emW (K.inn (at_ + 1) (K.bh at_)) S.cs) S'.cs }
  | altNil {S : SS} {kid i j up : Nat} : Ev K S (.alt kid 0 i j up) false S
  | altYes {S S' : SS} {kid l i j up : Nat} (h : Ev K S (.take kid i j up) true S') : Ev K S (.alt kid (l + 1) i j up) true S'
  | altNo {S S1 S' : SS} {kid l i j up : Nat} {b : Bool} (h : Ev K S (.take kid i j up) false S1) (h' : Ev K S1 (.alt (K.bh kid) l i j up) b S') : Ev K S (.alt kid (l + 1) i j up) b S'
  | nextZero {S : SS} {at_ : Nat} : Ev K S (.next 0 at_) true S
  | nextMemo {S : SS} {k at_ : Nat} (h : (⟨k + 1, at_, (K.code S).1⟩ : Pt) ∈ S.F) : Ev K S (.next (k + 1) at_) false (K.code S).2
  | nextGo {S S2 : SS} {k at_ : Nat} {f : Frm} {b : Bool} (hn : (⟨k + 1, at_, (K.code S).1⟩ : Pt) ∉ S.F) (hf : S.fs[k]? = some f) (h : Ev K { (K.code S).2 with wk := S.wk + 1 } (.body f at_) b S2) : Ev K S (.next (k + 1) at_) b (S2.fail b ⟨k + 1, at_, (K.code S).1⟩)
  | bodyCat {S S' : SS} {f : Frm} {at_ : Nat} {x : Nd} {b : Bool} (hx : K.re[f.node]? = some x) (ho : x.op = 4) (h : Ev K S (.row f at_) b S') : Ev K S (.body f at_) b S'
  | bodyRep {S S' : SS} {f : Frm} {at_ : Nat} {x : Nd} {b : Bool} (hx : K.re[f.node]? = some x) (ho : x.op = 6) (h : Ev K S (.rnd f at_) b S') : Ev K S (.body f at_) b S'
  | bodyGrpY {S S' : SS} {f : Frm} {at_ : Nat} {x : Nd} (hx : K.re[f.node]? = some x) (h4 : ¬ x.op = 4) (h6 : ¬ x.op = 6) (h : Ev K { S with cs := S.cs.set x.n.toNat ⟨f.fr, f.to⟩ } (.next f.up at_) true S') : Ev K S (.body f at_) true S'
  | bodyGrpN {S S' : SS} {f : Frm} {at_ : Nat} {x : Nd} (hx : K.re[f.node]? = some x) (h4 : ¬ x.op = 4) (h6 : ¬ x.op = 6) (h : Ev K { S with cs := S.cs.set x.n.toNat ⟨f.fr, f.to⟩ } (.next f.up at_) false S') : Ev K S (.body f at_) false { S' with cs := S'.cs.set x.n.toNat (S.cs.getD x.n.toNat noS) }
  | rowZN {S : SS} {f : Frm} {at_ : Nat} (hl : f.left = 0) (he : at_ ≠ f.to) : Ev K S (.row f at_) false S
  | rowZ {S S' : SS} {f : Frm} {at_ : Nat} {b : Bool} (hl : f.left = 0) (he : at_ = f.to) (h : Ev K S (.next f.up at_) b S') : Ev K S (.row f at_) b S'
  | rowS {S S1 S' : SS} {f : Frm} {at_ u l : Nat} {b : Bool} (hl : f.left = l + 1) (hp : S.push { f with kid := K.bh f.kid, left := l, fr := 0 } = (u, S1)) (h : Ev K S1 (.rowL f u at_ (ends at_ f.to)) b S') : Ev K S (.row f at_) b S'
  | rowLNil {S : SS} {f : Frm} {u at_ : Nat} : Ev K S (.rowL f u at_ []) false S
  | rowLYes {S S' : SS} {f : Frm} {u at_ e : Nat} {es : List Nat} (h : Ev K S (.take f.kid at_ e u) true S') : Ev K S (.rowL f u at_ (e :: es)) true S'
  | rowLLast {S S' : SS} {f : Frm} {u at_ e : Nat} {es : List Nat} (hl : f.left = 1) (h : Ev K S (.take f.kid at_ e u) false S') : Ev K S (.rowL f u at_ (e :: es)) false S'
  | rowLNo {S S1 S' : SS} {f : Frm} {u at_ e : Nat} {es : List Nat} {b : Bool} (hl : f.left ≠ 1) (h : Ev K S (.take f.kid at_ e u) false S1) (h' : Ev K S1 (.rowL f u at_ es) b S') : Ev K S (.rowL f u at_ (e :: es)) b S'
  | rndYes {S S1 S' : SS} {f : Frm} {at_ u : Nat} {x : Nd} (hx : K.re[f.node]? = some x) (hm : x.mx < 0 ∨ (f.kid : Int) < x.mx) (hp : S.push { f with kid := satK x f.kid } = (u, S1)) (h : Ev K S1 (.rndL f u at_ (ends at_ f.to)) true S') : Ev K S (.rnd f at_) true S'
  | rndEnd {S S1 S2 S' : SS} {f : Frm} {at_ u : Nat} {x : Nd} {b : Bool} (hx : K.re[f.node]? = some x) (hm : x.mx < 0 ∨ (f.kid : Int) < x.mx) (hp : S.push { f with kid := satK x f.kid } = (u, S1)) (h : Ev K S1 (.rndL f u at_ (ends at_ f.to)) false S2) (he : at_ = f.to ∧ x.mn ≤ (f.kid : Int)) (h' : Ev K S2 (.next f.up at_) b S') : Ev K S (.rnd f at_) b S'
  | rndNo {S S1 S2 : SS} {f : Frm} {at_ u : Nat} {x : Nd} (hx : K.re[f.node]? = some x) (hm : x.mx < 0 ∨ (f.kid : Int) < x.mx) (hp : S.push { f with kid := satK x f.kid } = (u, S1)) (h : Ev K S1 (.rndL f u at_ (ends at_ f.to)) false S2) (he : ¬ (at_ = f.to ∧ x.mn ≤ (f.kid : Int))) : Ev K S (.rnd f at_) false S2
  | rnd0End {S S' : SS} {f : Frm} {at_ : Nat} {x : Nd} {b : Bool} (hx : K.re[f.node]? = some x) (hm : ¬ (x.mx < 0 ∨ (f.kid : Int) < x.mx)) (he : at_ = f.to ∧ x.mn ≤ (f.kid : Int)) (h' : Ev K S (.next f.up at_) b S') : Ev K S (.rnd f at_) b S'
  | rnd0No {S : SS} {f : Frm} {at_ : Nat} {x : Nd} (hx : K.re[f.node]? = some x) (hm : ¬ (x.mx < 0 ∨ (f.kid : Int) < x.mx)) (he : ¬ (at_ = f.to ∧ x.mn ≤ (f.kid : Int))) : Ev K S (.rnd f at_) false S
  | rndLNil {S : SS} {f : Frm} {u at_ : Nat} : Ev K S (.rndL f u at_ []) false S
  | rndLBrk {S : SS} {f : Frm} {u at_ e : Nat} {es : List Nat} {x : Nd} (hx : K.re[f.node]? = some x) (hb : brk x f at_ e) : Ev K S (.rndL f u at_ (e :: es)) false S
  | rndLYes {S S' : SS} {f : Frm} {u at_ e : Nat} {es : List Nat} {x : Nd} (hx : K.re[f.node]? = some x) (hb : ¬ brk x f at_ e) (h : Ev K { S with cs := fgt (K.inn (f.node + 1) (K.bh f.node)) S.cs } (.take (f.node + 1) at_ e u) true S') : Ev K S (.rndL f u at_ (e :: es)) true S'
  | rndLNo {S S1 S' : SS} {f : Frm} {u at_ e : Nat} {es : List Nat} {x : Nd} {b : Bool} (hx : K.re[f.node]? = some x) (hb : ¬ brk x f at_ e) (h : Ev K { S with cs := fgt (K.inn (f.node + 1) (K.bh f.node)) S.cs } (.take (f.node + 1) at_ e u) false S1)
      (h' : Ev K { S1 with cs := rst (K.inn (f.node + 1) (K.bh f.node)) (emW (K.inn (f.node + 1) (K.bh f.node)) S.cs) S1.cs } (.rndL f u at_ es) b S') : Ev K S (.rndL f u at_ (e :: es)) b S'
end Go.HL.Kl.Mc
namespace Go.HL.Kl.Mc
open Go Go.HL Go.HL.Kl AskE
/-! how much a run adds -/
def SS.sz (S : SS) : Nat := S.fs.length + S.ts.length + S.F.length
def SrE.cR (K : SrE) : Nat := (K.R.length + 3) / 4
def SrE.slack (K : SrE) : SQ → Nat
  | .next _ _ => K.cR
  | .body _ _ => 1 + K.cR
  | .row _ _ => 1 + K.cR
  | .rnd _ _ => 1 + K.cR
  | _ => 0
theorem stG_grow : ∀ (hs : List (List Sp)) (ts : List Tk) (n : Nat), (stG ts n hs).2.length ≤ ts.length + hs.length
  | [], ts, n => by simp [stG]
  | h :: r, ts, n => by
    unfold stG
    split
    · have := stG_grow r ts (‹Nat› + 1)
      simp only [List.length_cons]; omega
    · have := stG_grow r (ts ++ [⟨n, h⟩]) (ts.length + 1)
      simp only [List.length_cons, List.length_append, List.length_nil] at this ⊢; omega
theorem SrE.code_sz (K : SrE) (S : SS) : (K.code S).2.sz ≤ S.sz + K.cR := by
  have h := stG_grow (chunks (K.proj S.cs)) S.ts 0
  rw [chunks_len, SrE.proj, List.length_map] at h
  simp only [SS.sz, SrE.code, SrE.cR, SrE.proj]; omega
theorem SS.push_sz {S S1 : SS} {f : Frm} {u : Nat} (h : S.push f = (u, S1)) : S1.sz ≤ S.sz + 1 ∧ S1.wk = S.wk ∧ S1.fuel = S.fuel ∧ S1.cs = S.cs ∧ S1.F = S.F ∧ S1.ts = S.ts := by
  unfold SS.push at h
  split at h
  · cases h; exact ⟨by omega, rfl, rfl, rfl, rfl, rfl⟩
  · cases h; exact ⟨by simp [SS.sz]; omega, rfl, rfl, rfl, rfl, rfl⟩
theorem SS.fail_sz (S : SS) (b : Bool) (p : Pt) : (S.fail b p).sz ≤ S.sz + 1 ∧ (S.fail b p).wk = S.wk ∧ (S.fail b p).fuel = S.fuel := by
  unfold SS.fail
  split
  · exact ⟨by omega, rfl, rfl⟩
  · exact ⟨by simp [SS.sz]; omega, rfl, rfl⟩
theorem Ev.grow {K : SrE} {S S' : SS} {q : SQ} {b : Bool} (h : Ev K S q b S') : S.wk ≤ S'.wk ∧ S.fuel + S.wk ≤ S'.fuel + S'.wk ∧ S'.sz + (K.cR + 2) * S.wk ≤ S.sz + K.slack q + (K.cR + 2) * S'.wk := by
  have tk : ∀ (S : SS), 0 < S.fuel → S.tick.wk = S.wk + 1 ∧ S.tick.fuel + 1 = S.fuel ∧ S.tick.sz = S.sz := fun S h => ⟨rfl, by simp only [SS.tick]; omega, rfl⟩
  have mul1 : ∀ a : Nat, (K.cR + 2) * (a + 1) = (K.cR + 2) * a + (K.cR + 2) := fun a => Nat.mul_succ _ _
  have mono : ∀ a b : Nat, a ≤ b → (K.cR + 2) * a ≤ (K.cR + 2) * b := fun a b h => Nat.mul_le_mul_left _ h
  induction h with
  | takeNo hx hf ho hg => obtain ⟨a, b, c⟩ := tk _ hf; rw [a, c, mul1]; simp only [SrE.slack]; omega
  | takeYes hx hf ho hg h ih => obtain ⟨a, b, c⟩ := tk _ hf; rw [a, c, mul1] at ih; simp only [SrE.slack] at ih ⊢; omega
  | takeAlt hx hf ho h ih => obtain ⟨a, b, c⟩ := tk _ hf; rw [a, c, mul1] at ih; simp only [SrE.slack] at ih ⊢; omega
  | takeCat hx hf ho hp h ih =>
    obtain ⟨a, b, c⟩ := tk _ hf
    obtain ⟨p1, p2, p3, _⟩ := SS.push_sz hp
    rw [p2, a, mul1] at ih; simp only [SrE.slack] at ih ⊢; omega
  | takeRep hx hf ho hp h ih =>
    obtain ⟨a, b, c⟩ := tk _ hf
    obtain ⟨p1, p2, p3, _⟩ := SS.push_sz hp
    rw [p2, a, mul1] at ih; simp only [SrE.slack] at ih ⊢; omega
  | takeGrpY hx hf ho hp h ih =>
    obtain ⟨a, b, c⟩ := tk _ hf
    obtain ⟨p1, p2, p3, _⟩ := SS.push_sz hp
    simp only [SS.sz] at p1 c ih ⊢
    simp only at p2 p3
    rw [p2, a, mul1] at ih; simp only [SrE.slack] at ih ⊢; omega
  | takeGrpN hx hf ho hp h ih =>
    obtain ⟨a, b, c⟩ := tk _ hf
    obtain ⟨p1, p2, p3, _⟩ := SS.push_sz hp
    simp only [SS.sz] at p1 c ih ⊢
    simp only at p2 p3
    rw [p2, a, mul1] at ih; simp only [SrE.slack] at ih ⊢; omega
  | altNil => simp only [SrE.slack]; omega
  | altYes h ih => simpa only [SrE.slack] using ih
  | altNo h h' ih ih' => simp only [SrE.slack] at ih ih' ⊢; omega
  | nextZero => simp only [SrE.slack]; omega
  | @nextMemo S k at_ h =>
    have := K.code_sz S
    have e : (K.code S).2.wk = S.wk := rfl
    have e2 : (K.code S).2.fuel = S.fuel := rfl
    rw [e]
    simp only [SrE.slack]; omega
  | @nextGo S S2 k at_ f b hn hf h ih =>
    have h1 := K.code_sz S
    have e2 : (K.code S).2.fuel = S.fuel := rfl
    obtain ⟨f1, f2, f3⟩ := SS.fail_sz S2 b ⟨k + 1, at_, (K.code S).1⟩
    rw [f2, f3]
    simp only [SrE.slack] at ih ⊢
    rw [mul1] at ih
    have e3 : ({ (K.code S).2 with wk := S.wk + 1 } : SS).sz = (K.code S).2.sz := rfl
    rw [e3] at ih
    omega
  | bodyCat hx ho h ih => simpa only [SrE.slack] using ih
  | bodyRep hx ho h ih => simpa only [SrE.slack] using ih
  | bodyGrpY hx h4 h6 h ih => simp only [SrE.slack, SS.sz] at ih ⊢; omega
  | bodyGrpN hx h4 h6 h ih => simp only [SrE.slack, SS.sz] at ih ⊢; omega
  | rowZN hl he => simp only [SrE.slack]; omega
  | rowZ hl he h ih => simp only [SrE.slack] at ih ⊢; omega
  | rowS hl hp h ih =>
    obtain ⟨p1, p2, p3, _⟩ := SS.push_sz hp
    rw [p2] at ih; simp only [SrE.slack] at ih ⊢; omega
  | rowLNil => simp only [SrE.slack]; omega
  | rowLYes h ih => simpa only [SrE.slack] using ih
  | rowLLast hl h ih => simpa only [SrE.slack] using ih
  | rowLNo hl h h' ih ih' => simp only [SrE.slack] at ih ih' ⊢; omega
  | rndYes hx hm hp h ih =>
    obtain ⟨p1, p2, p3, _⟩ := SS.push_sz hp
    rw [p2] at ih; simp only [SrE.slack] at ih ⊢; omega
  | rndEnd hx hm hp h he h' ih ih' =>
    obtain ⟨p1, p2, p3, _⟩ := SS.push_sz hp
    rw [p2] at ih; simp only [SrE.slack] at ih ih' ⊢; omega
  | rndNo hx hm hp h he ih =>
    obtain ⟨p1, p2, p3, _⟩ := SS.push_sz hp
    rw [p2] at ih; simp only [SrE.slack] at ih ⊢; omega
  | rnd0End hx hm he h' ih' => simp only [SrE.slack] at ih' ⊢; omega
  | rnd0No hx hm he => simp only [SrE.slack]; omega
  | rndLNil => simp only [SrE.slack]; omega
  | rndLBrk hx hb => simp only [SrE.slack]; omega
  | rndLYes hx hb h ih => simp only [SrE.slack, SS.sz] at ih ⊢; omega
  | rndLNo hx hb h h' ih ih' => simp only [SrE.slack, SS.sz] at ih ih' ⊢; omega
/-! what the state keeps -/
structure Inv (K : SrE) (N : Nat) (S : SS) : Prop where
  ch : Chn S.fs
  nd : S.ts.Nodup
  memo : ∀ p ∈ S.F, 1 ≤ p.u ∧ p.u ≤ S.fs.length ∧ ∃ c : Caps, c.length = N ∧ Dec S.ts 0 (chunks (K.proj (noS :: c))) p.tk ∧ K.kont S.fs p.u p.at_ c = none
structure Ext (S S' : SS) : Prop where
  fs : ∃ a, S'.fs = S.fs ++ a
  ts : ∃ a, S'.ts = S.ts ++ a
  F : ∀ p ∈ S.F, p ∈ S'.F
theorem Ext.refl {S : SS} : Ext S S := ⟨⟨[], by simp⟩, ⟨[], by simp⟩, fun _ h => h⟩
theorem Ext.trans {S S1 S2 : SS} (h : Ext S S1) (h' : Ext S1 S2) : Ext S S2 := by
  obtain ⟨⟨a, ha⟩, ⟨b, hb⟩, hF⟩ := h
  obtain ⟨⟨a', ha'⟩, ⟨b', hb'⟩, hF'⟩ := h'
  exact ⟨⟨a ++ a', by rw [ha', ha, List.append_assoc]⟩, ⟨b ++ b', by rw [hb', hb, List.append_assoc]⟩, fun p hp => hF' p (hF p hp)⟩
theorem Ext.le {S S' : SS} (h : Ext S S') : S.fs.length ≤ S'.fs.length := by obtain ⟨a, ha⟩ := h.fs; rw [ha, List.length_append]; omega
theorem Ext.get {S S' : SS} (h : Ext S S') {k : Nat} {f : Frm} (hk : S.fs[k]? = some f) : S'.fs[k]? = some f := by
  obtain ⟨a, ha⟩ := h.fs
  rw [ha, List.getElem?_append_left (List.getElem?_eq_some_iff.1 hk).1]; exact hk
theorem Inv.kont {K : SrE} {N : Nat} {S S' : SS} (h : Inv K N S) (h' : Inv K N S') (he : Ext S S') {u : Nat} (hu : u ≤ S.fs.length) : K.kont S'.fs u = K.kont S.fs u := by
  funext at_ c
  obtain ⟨a, ha⟩ := he.fs
  have hc := h'.ch
  rw [ha] at hc ⊢
  exact SrE.kont_ext h.ch hc u hu at_ c
theorem push_spec {K : SrE} {N : Nat} {S S1 : SS} {f : Frm} {u : Nat} (h : S.push f = (u, S1)) (hI : Inv K N S) (hu : f.up ≤ S.fs.length) : Ext S S1 ∧ Inv K N S1 ∧ ∃ k, u = k + 1 ∧ S1.fs[k]? = some f := by
  unfold SS.push at h
  split at h
  · rename_i k hk
    cases h
    exact ⟨.refl, hI, k, rfl, fnd_some hk⟩
  · cases h
    have hch := hI.ch.snoc hu
    refine ⟨⟨⟨[f], rfl⟩, ⟨[], by simp⟩, fun _ h => h⟩, ⟨hch, hI.nd, fun p hp => ?_⟩, S.fs.length, rfl, by simp⟩
    obtain ⟨h1, h2, c, h3, h4, h5⟩ := hI.memo p hp
    exact ⟨h1, by simp; omega, c, h3, h4, by rw [SrE.kont_ext hI.ch hch p.u h2]; exact h5⟩
theorem SrE.proj_len (K : SrE) (cs : List Sp) : (K.proj cs).length = K.R.length := by simp [SrE.proj]
theorem proj_sm {K : SrE} {N : Nat} {c c' : Caps} (h1 : c.length = N) (h2 : c'.length = N) (h : K.proj (noS :: c) = K.proj (noS :: c')) : K.Sm c c' := by
  refine ⟨h1.trans h2.symm, fun n hn => ?_⟩
  unfold SrE.proj at h
  rw [List.map_inj_left] at h
  have h3 := h (n + 1) hn
  simp only [List.getD_cons_succ] at h3
  rcases Nat.lt_or_ge n N with a | a
  · rw [List.getD_eq_getElem?_getD, List.getD_eq_getElem?_getD, List.getElem?_eq_getElem (by omega), List.getElem?_eq_getElem (by omega)] at h3
    rw [List.getElem?_eq_getElem (by omega), List.getElem?_eq_getElem (by omega)]
    exact congrArg some h3
  · rw [List.getElem?_eq_none (by omega), List.getElem?_eq_none (by omega)]
/-- a code tells what stands at the groups that are referred to -/
theorem code_sm {K : SrE} {N : Nat} {ts : List Tk} {t : Nat} {c c' : Caps} (h1 : c.length = N) (h2 : c'.length = N) (d1 : Dec ts 0 (chunks (K.proj (noS :: c))) t) (d2 : Dec ts 0 (chunks (K.proj (noS :: c'))) t) : K.Sm c c' := by
  have e := Dec.inj _ rfl (by rw [chunks_len, chunks_len, SrE.proj_len, SrE.proj_len]) d1 d2
  exact proj_sm h1 h2 (chunks_inj (by rw [SrE.proj_len, SrE.proj_len]) e)
theorem code_spec {K : SrE} {N : Nat} (S : SS) (hI : Inv K N S) : Ext S (K.code S).2 ∧ (Inv K N (K.code S).2) ∧ Dec (K.code S).2.ts 0 (chunks (K.proj S.cs)) (K.code S).1 := by
  obtain ⟨⟨e, h1, _⟩, h2, h3⟩ := stG_spec (chunks (K.proj S.cs)) S.ts 0 hI.nd
  refine ⟨⟨⟨[], by simp [SrE.code]⟩, ⟨e, h1⟩, fun _ h => h⟩, ⟨hI.ch, h2, fun p hp => ?_⟩, h3⟩
  obtain ⟨a1, a2, c, a3, a4, a5⟩ := hI.memo p hp
  exact ⟨a1, a2, c, a3, by
    show Dec (stG S.ts 0 (chunks (K.proj S.cs))).2 0 _ _
    rw [h1]; exact a4.mono, a5⟩
/-- what a failure tells -/
theorem Inv.bad {K : SrE} {N : Nat} {S : SS} (hI : Inv K N S) (hR : ∀ x ∈ K.re, x.op = 8 → 1 ≤ x.n ∧ x.n.toNat ∈ K.R) {u at_ t : Nat} (hp : (⟨u, at_, t⟩ : Pt) ∈ S.F) {c : Caps} (hc : c.length = N) (hd : Dec S.ts 0 (chunks (K.proj (noS :: c))) t) : K.kont S.fs u at_ c = none := by
  obtain ⟨_, _, c0, a3, a4, a5⟩ := hI.memo _ hp
  exact (SrE.kont_sim hR hI.ch u at_ c0 c (code_sm a3 hc a4 hd)).1 a5
theorem Inv.fail {K : SrE} {N : Nat} {S : SS} (hI : Inv K N S) {u at_ t : Nat} (h1 : 1 ≤ u) (h2 : u ≤ S.fs.length) {c : Caps} (hc : c.length = N) (hd : Dec S.ts 0 (chunks (K.proj (noS :: c))) t) (hk : K.kont S.fs u at_ c = none) : Inv K N { S with F := ⟨u, at_, t⟩ :: S.F } :=
  ⟨hI.ch, hI.nd, fun p hp => by
    rcases List.mem_cons.1 hp with rfl | hp
    · exact ⟨h1, h2, c, hc, hd, hk⟩
    · exact hI.memo p hp⟩
/-! sums -/
theorem sum_le {α : Type} {f g : α → Nat} : ∀ {l : List α}, (∀ a ∈ l, f a ≤ g a) → (l.map f).sum ≤ (l.map g).sum
  | [], _ => Nat.le_refl _
  | a :: l, h => by
    have h1 := h a List.mem_cons_self
    have h2 := sum_le (l := l) fun b hb => h b (List.mem_cons_of_mem _ hb)
    simp only [List.map_cons, List.sum_cons]; omega
theorem sum_drop {α : Type} {f g : α → Nat} {a : α} {d : Nat} : ∀ {l : List α}, (∀ b ∈ l, f b ≤ g b) → a ∈ l → f a + d ≤ g a → (l.map f).sum + d ≤ (l.map g).sum
  | [], _, h, _ => by simp at h
  | b :: l, h, ha, hd => by
    simp only [List.map_cons, List.sum_cons]
    have h1 := h b List.mem_cons_self
    rcases List.mem_cons.1 ha with rfl | ha
    · have h2 := sum_le (l := l) fun b hb => h b (List.mem_cons_of_mem _ hb)
      omega
    · have h2 := sum_drop (l := l) (fun b hb => h b (List.mem_cons_of_mem _ hb)) ha hd
      omega
theorem fs_one {f : Caps → Option Caps} {c : Caps} : [c].findSome? f = f c := by
  rw [List.findSome?_cons]
  cases f c <;> rfl
theorem fs_flat {α : Type} {g : α → List Caps} {f : Caps → Option Caps} : ∀ {l : List α}, (l.flatMap g).findSome? f = l.findSome? (fun a => (g a).findSome? f)
  | [] => rfl
  | a :: l => by
    rw [List.flatMap_cons, List.findSome?_append, List.findSome?_cons, fs_flat (l := l)]
    cases (g a).findSome? f <;> rfl
theorem fs_map {g : Caps → Caps} {f : Caps → Option Caps} : ∀ {l : List Caps}, (l.map g).findSome? f = l.findSome? (fun a => f (g a))
  | [] => rfl
  | a :: l => by rw [List.map_cons, List.findSome?_cons, List.findSome?_cons, fs_map (l := l)]
/-! the account of the tally -/
inductive TQ
  | node (x : Nd) (ks : F) (i j : Nat) (c : Caps)
  | alt (g : F) (i j : Nat) (c : Caps)
  | row (g : F) (i j : Nat) (c : Caps)
  | rnd (x y : Nd) (js : F) (had i j : Nat) (c : Caps)
def goodT (n : Nat) (x : Nd) (c : Caps) (i j : Nat) : Prop :=
  (x.op = 1 ∧ j = i + 1) ∨ (x.op = 2 ∧ i = 0 ∧ j = 0) ∨ (x.op = 3 ∧ i = n ∧ j = n) ∨ (x.op = 8 ∧ 0 ≤ (c.getD (x.n.toNat - 1) noS).fr ∧ (c.getD (x.n.toNat - 1) noS).to - (c.getD (x.n.toNat - 1) noS).fr = (j : Int) - i)
def rEs (x : Nd) (had i j : Nat) : List Nat := if x.mx = -1 ∨ (had : Int) < x.mx then (ends i j).filter (fun e => decide (¬ (e = i ∧ x.mn ≤ (had : Int) ∧ 0 < had))) else []
def sumW (es : List Nat) (L : Nat → List Caps) (kN : Nat → Nat) (kR : Nat → Caps → Nat) : Nat := (es.map fun e => kN e + ((L e).map fun c1 => kR e c1 + 1).sum).sum
inductive Ct (n : Nat) : TQ → List Caps → Nat → Prop
  | leaf {x : Nd} {ks : F} {i j : Nat} {c : Caps} {Z : List Caps} {k : Nat} (ho : x.op = 1 ∨ x.op = 2 ∨ x.op = 3 ∨ x.op = 8) (hz : goodT n x c i j → c ∈ Z) (hk : 1 ≤ k) : Ct n (.node x ks i j c) Z k
  | cat {x : Nd} {ks : F} {i j : Nat} {c : Caps} {Z : List Caps} {k k0 : Nat} (ho : x.op = 4) (h : Ct n (.row ks i j c) Z k0) (hk : k0 + 2 ≤ k) : Ct n (.node x ks i j c) Z k
  | rep {x y : Nd} {js : F} {i j : Nat} {c : Caps} {Z : List Caps} {k k0 : Nat} (ho : x.op = 6) (h : Ct n (.rnd x y js 0 i j c) Z k0) (hk : k0 + 2 ≤ k) : Ct n (.node x (.nd y js .nil) i j c) Z k
  | grp {x y : Nd} {js : F} {i j : Nat} {c : Caps} {Z L : List Caps} {k k0 : Nat} (ho : x.op = 7) (h : Ct n (.node y js i j (emp (F.nd y js .nil).flat c)) L k0) (hz : ∀ d ∈ L, d.set (x.n.toNat - 1) ⟨i, j⟩ ∈ Z) (hk : k0 + L.length + 1 ≤ k) : Ct n (.node x (.nd y js .nil) i j c) Z k
  | altC {x : Nd} {ks : F} {i j : Nat} {c : Caps} {Z : List Caps} {k k0 : Nat} (ho : x.op = 5) (h : Ct n (.alt ks i j c) Z k0) (hk : k0 + 1 ≤ k) : Ct n (.node x ks i j c) Z k
  | altNil {i j : Nat} {c : Caps} {Z : List Caps} {k : Nat} : Ct n (.alt .nil i j c) Z k
  | altCons {y : Nd} {js r : F} {i j : Nat} {c : Caps} {Z Z1 Z2 : List Caps} {k k1 k2 : Nat} (h1 : Ct n (.node y js i j c) Z1 k1) (h2 : Ct n (.alt r i j c) Z2 k2) (hz1 : ∀ d ∈ Z1, d ∈ Z) (hz2 : ∀ d ∈ Z2, d ∈ Z) (hk : k1 + k2 ≤ k) : Ct n (.alt (.nd y js r) i j c) Z k
  | rowNil {i j : Nat} {c : Caps} {Z : List Caps} {k : Nat} (hz : i = j → c ∈ Z) : Ct n (.row .nil i j c) Z k
  | rowCons {y : Nd} {js r : F} {i j : Nat} {c : Caps} {Z : List Caps} {k : Nat} {es : List Nat} {L : Nat → List Caps} {kN : Nat → Nat} {R : Nat → Caps → List Caps} {kR : Nat → Caps → Nat} (hes : es = if r.num = 0 then [j] else ends i j)
      (h1 : ∀ e, e ∈ es → Ct n (.node y js i e c) (L e) (kN e)) (h2 : ∀ e, e ∈ es → ∀ c1, c1 ∈ L e → Ct n (.row r e j c1) (R e c1) (kR e c1)) (hz : ∀ e, e ∈ es → ∀ c1, c1 ∈ L e → ∀ d, d ∈ R e c1 → d ∈ Z) (hk : sumW es L kN kR ≤ k) : Ct n (.row (.nd y js r) i j c) Z k
  | rnd {x y : Nd} {js : F} {had i j : Nat} {c : Caps} {Z : List Caps} {k : Nat} {es : List Nat} {L : Nat → List Caps} {kN : Nat → Nat} {R : Nat → Caps → List Caps} {kR : Nat → Caps → Nat} (hes : es = rEs x had i j)
      (h1 : ∀ e, e ∈ es → Ct n (.node y js i e (emp (F.nd y js .nil).flat c)) (L e) (kN e)) (h2 : ∀ e, e ∈ es → ∀ c1, c1 ∈ L e → Ct n (.rnd x y js (had + 1) e j c1) (R e c1) (kR e c1)) (hz : ∀ e, e ∈ es → ∀ c1, c1 ∈ L e → ∀ d, d ∈ R e c1 → d ∈ Z) (hz2 : i = j → x.mn ≤ (had : Int) → c ∈ Z) (hk : sumW es L kN kR ≤ k) : Ct n (.rnd x y js had i j c) Z k
/-! what a run gives -/
structure CapOk (K : SrE) (N : Nat) (c : Caps) : Prop where
  len : c.length = N
  ok : ∀ s ∈ c, s = noS ∨ (0 ≤ s.fr ∧ s.fr ≤ s.to ∧ s.to ≤ K.w.length)
theorem CapOk.set {K : SrE} {N : Nat} {c : Caps} (h : CapOk K N c) {i j : Nat} (hij : i ≤ j) (hj : j ≤ K.w.length) (n : Nat) : CapOk K N (c.set n ⟨i, j⟩) := ⟨by rw [List.length_set, h.len], fun s hs => by
  rcases List.mem_or_eq_of_mem_set hs with hs | rfl
  · exact h.ok s hs
  · exact .inr ⟨by simp, by simpa using hij, by simpa using hj⟩⟩
theorem CapOk.emp {K : SrE} {N : Nat} : ∀ (l : List Nd) {c : Caps}, CapOk K N c → CapOk K N (emp l c)
  | [], _, h => h
  | x :: l, c, h => by
    show CapOk K N (Mc.emp l (em1 c x))
    refine CapOk.emp l ?_
    unfold em1
    split
    · exact ⟨by rw [List.length_set, h.len], fun s hs => by
        rcases List.mem_or_eq_of_mem_set hs with hs | rfl
        · exact h.ok s hs
        · exact .inl rfl⟩
    · exact h
structure Res (K : SrE) (N : Nat) (S S' : SS) (b : Bool) (sem : Option Caps) (k : Nat) (Φ : SS → Nat) : Prop where
  inv : Inv K N S'
  ext : Ext S S'
  yes : b = true → ∃ r, sem = some r ∧ CapOk K N r ∧ S'.cs = noS :: r ∧ S'.wk ≤ S.wk + k + Φ S
  no : b = false → sem = none ∧ S'.cs = S.cs ∧ S'.wk + Φ S' ≤ S.wk + k + Φ S
def Anti (Φ : SS → Nat) : Prop := ∀ S S', Ext S S' → Φ S' ≤ Φ S
def NextOK (K : SrE) (N : Nat) (S0 : SS) (up j : Nat) (Z : List Caps) (Φ : SS → Nat) : Prop := ∀ S c, Ext S0 S → Inv K N S → c ∈ Z → CapOk K N c → S.cs = noS :: c → Φ S ≤ S.fuel → ∃ b S', Ev K S (.next up j) b S' ∧ Res K N S S' b (K.kont S.fs up j c) 0 Φ
theorem NextOK.mono {K : SrE} {N : Nat} {S0 S1 : SS} {up j : Nat} {Z Z' : List Caps} {Φ : SS → Nat} (h : NextOK K N S0 up j Z Φ) (he : Ext S0 S1) (hz : ∀ d ∈ Z', d ∈ Z) : NextOK K N S1 up j Z' Φ := fun S c hx hI hc => h S c (he.trans hx) hI (hz c hc)
def dn (K : SrE) (S : SS) (u e : Nat) (c1 : Caps) : Prop := ∃ t, Dec S.ts 0 (chunks (K.proj (noS :: c1))) t ∧ (⟨u, e, t⟩ : Pt) ∈ S.F
theorem dn.mono {K : SrE} {S S' : SS} (h : Ext S S') {u e : Nat} {c1 : Caps} (hd : dn K S u e c1) : dn K S' u e c1 := by
  obtain ⟨t, h1, h2⟩ := hd
  obtain ⟨a, ha⟩ := h.ts
  exact ⟨t, by rw [ha]; exact h1.mono, h.F _ h2⟩
open Classical in
noncomputable def pend (K : SrE) (u : Nat) (es : List Nat) (L : Nat → List Caps) (kR : Nat → Caps → Nat) (S : SS) : Nat := (es.map fun e => ((L e).map fun c1 => if dn K S u e c1 then 0 else kR e c1 + 1).sum).sum
theorem pend_anti {K : SrE} {u : Nat} {es : List Nat} {L : Nat → List Caps} {kR : Nat → Caps → Nat} : Anti (pend K u es L kR) := fun S S' h => sum_le fun e _ => sum_le fun c1 _ => by
  by_cases hd : dn K S u e c1
  · rw [if_pos hd, if_pos (hd.mono h)]; exact Nat.le_refl _
  · rw [if_neg hd]
    split
    · omega
    · exact Nat.le_refl _
theorem pend_le {K : SrE} {u : Nat} {es : List Nat} {L : Nat → List Caps} {kR : Nat → Caps → Nat} {S : SS} : pend K u es L kR S ≤ (es.map fun e => ((L e).map fun c1 => kR e c1 + 1).sum).sum := sum_le fun e _ => sum_le fun c1 _ => by
  split
  · omega
  · exact Nat.le_refl _
theorem pend_sumW {K : SrE} {u : Nat} {kN : Nat → Nat} {L : Nat → List Caps} {kR : Nat → Caps → Nat} {S : SS} : ∀ {es : List Nat}, (es.map kN).sum + pend K u es L kR S ≤ sumW es L kN kR
  | [] => by simp [pend, sumW]
  | e :: es => by
    have h1 := pend_sumW (K := K) (u := u) (kN := kN) (L := L) (kR := kR) (S := S) (es := es)
    have h2 := pend_le (K := K) (u := u) (es := [e]) (L := L) (kR := kR) (S := S)
    simp only [pend, sumW, List.map_cons, List.sum_cons, List.map_nil, List.sum_nil] at h1 h2 ⊢
    omega
open Classical in
theorem pend_drop {K : SrE} {u e : Nat} {es : List Nat} {L : Nat → List Caps} {kR : Nat → Caps → Nat} {S S' : SS} {c1 : Caps} (h : Ext S S') (he : e ∈ es) (hc : c1 ∈ L e) (hd : dn K S' u e c1) (hn : ¬ dn K S u e c1) : pend K u es L kR S' + (kR e c1 + 1) ≤ pend K u es L kR S := by
  have hm : ∀ e c1, (if dn K S' u e c1 then 0 else kR e c1 + 1) ≤ (if dn K S u e c1 then 0 else kR e c1 + 1) := fun e c1 => by
    by_cases hd : dn K S u e c1
    · rw [if_pos hd, if_pos (hd.mono h)]; exact Nat.le_refl _
    · rw [if_neg hd]
      split
      · omega
      · exact Nat.le_refl _
  refine sum_drop (fun e _ => sum_le fun c1 _ => hm e c1) he (sum_drop (fun c1 _ => hm e c1) hc ?_)
  rw [if_pos hd, if_neg hn]; omega
open Classical in
theorem pend_ge {K : SrE} {u e : Nat} {es : List Nat} {L : Nat → List Caps} {kR : Nat → Caps → Nat} {S : SS} {c1 : Caps} (he : e ∈ es) (hc : c1 ∈ L e) (hn : ¬ dn K S u e c1) : kR e c1 + 1 ≤ pend K u es L kR S := by
  have h := sum_drop (f := fun _ => 0) (g := fun e => ((L e).map fun c1 => if dn K S u e c1 then 0 else kR e c1 + 1).sum) (d := kR e c1 + 1) (l := es) (fun _ _ => Nat.zero_le _) he (by
    have h2 := sum_drop (f := fun _ => 0) (g := fun c1 => if dn K S u e c1 then 0 else kR e c1 + 1) (d := kR e c1 + 1) (l := L e) (fun _ _ => Nat.zero_le _) hc (by rw [if_neg hn]; omega)
    omega)
  unfold pend
  omega
/-- a frame whose runs are paid for: what its next steps take -/
theorem frame_ok {K : SrE} {N : Nat} (hR : ∀ x ∈ K.re, x.op = 8 → 1 ≤ x.n ∧ x.n.toNat ∈ K.R) {S0 : SS} {k : Nat} {f : Frm} {Φ : SS → Nat} (hΦ : Anti Φ) {es : List Nat} {L : Nat → List Caps} {kR : Nat → Caps → Nat} (hf : S0.fs[k]? = some f)
    (hB : ∀ e ∈ es, ∀ c1 ∈ L e, ∀ S, Ext S0 S → Inv K N S → CapOk K N c1 → S.cs = noS :: c1 → kR e c1 + Φ S ≤ S.fuel → ∃ b S', Ev K S (.body f e) b S' ∧ Res K N S S' b (K.kont S.fs (k + 1) e c1) (kR e c1) Φ) {e : Nat} (he : e ∈ es) :
    NextOK K N S0 (k + 1) e (L e) (fun S => Φ S + pend K (k + 1) es L kR S) := by
  intro S c hx hI hc hl hcs hfu
  obtain ⟨x1, I1, D1⟩ := code_spec S hI
  rw [hcs] at D1
  by_cases hm : (⟨k + 1, e, (K.code S).1⟩ : Pt) ∈ S.F
  · refine ⟨false, _, .nextMemo hm, I1, x1, fun h => (by cases h), fun _ => ⟨I1.bad hR (u := k + 1) (at_ := e) hm hl.len D1, rfl, ?_⟩⟩
    have h1 := hΦ _ _ x1
    have h2 := pend_anti (K := K) (u := k + 1) (es := es) (L := L) (kR := kR) _ _ x1
    have h3 : (K.code S).2.wk = S.wk := rfl
    dsimp only at hfu ⊢
    omega
  · have hf' := hx.get hf
    have xS : Ext S { (K.code S).2 with wk := S.wk + 1 } := ⟨x1.fs, x1.ts, x1.F⟩
    have I2 : Inv K N { (K.code S).2 with wk := S.wk + 1 } := ⟨I1.ch, I1.nd, I1.memo⟩
    have hn1 : ¬ dn K { (K.code S).2 with wk := S.wk + 1 } (k + 1) e c := fun ⟨t, d, m⟩ => by
      have := Dec.fn I1.nd d D1
      subst this
      exact hm m
    have hn : ¬ dn K S (k + 1) e c := fun h => hn1 (h.mono xS)
    have hp := pend_ge (K := K) (u := k + 1) (kR := kR) he hc hn
    have h1 := hΦ _ _ xS
    have hfu2 : ({ (K.code S).2 with wk := S.wk + 1 } : SS).fuel = S.fuel := rfl
    dsimp only at hfu
    obtain ⟨b, S2, ev, res⟩ := hB e he c hc _ (hx.trans xS) I2 hl hcs (by rw [hfu2]; omega)
    have hwk : ({ (K.code S).2 with wk := S.wk + 1 } : SS).wk = S.wk + 1 := rfl
    refine ⟨b, S2.fail b ⟨k + 1, e, (K.code S).1⟩, .nextGo hm hf' ev, ?_⟩
    cases b with
    | true =>
      refine ⟨res.inv, xS.trans res.ext, fun _ => ?_, fun h => by cases h⟩
      obtain ⟨r, r1, r2, r3, r4⟩ := res.yes rfl
      refine ⟨r, r1, r2, r3, ?_⟩
      show S2.wk ≤ _
      rw [hwk] at r4
      omega
    | false =>
      obtain ⟨r1, r2, r3⟩ := res.no rfl
      have hle := (hx.trans (xS.trans res.ext)).le
      have hk := (List.getElem?_eq_some_iff.1 hf).1
      have hu : k + 1 ≤ ({ (K.code S).2 with wk := S.wk + 1 } : SS).fs.length := by
        have := (List.getElem?_eq_some_iff.1 hf').1
        show k + 1 ≤ S.fs.length
        omega
      have hd2 : Dec S2.ts 0 (chunks (K.proj (noS :: c))) (K.code S).1 := by
        obtain ⟨a, ha⟩ := res.ext.ts
        rw [ha]; exact D1.mono
      have hk2 : K.kont S2.fs (k + 1) e c = none := by
        rw [I2.kont res.inv res.ext hu]; exact r1
      have xF : Ext S2 (S2.fail false ⟨k + 1, e, (K.code S).1⟩) := ⟨⟨[], by simp [SS.fail]⟩, ⟨[], by simp [SS.fail]⟩, fun p hp => by simp [SS.fail, hp]⟩
      have xA := xS.trans (res.ext.trans xF)
      refine ⟨?_, xA, fun h => (by cases h), fun _ => ⟨r1, r2, ?_⟩⟩
      · show Inv K N (if false = true then S2 else { S2 with F := ⟨k + 1, e, (K.code S).1⟩ :: S2.F })
        rw [if_neg (by decide)]
        exact res.inv.fail (by omega) (by omega) hl.len hd2 hk2
      · have hdn : dn K (S2.fail false ⟨k + 1, e, (K.code S).1⟩) (k + 1) e c := ⟨_, hd2, by simp [SS.fail]⟩
        have hpd := pend_drop (K := K) (u := k + 1) (L := L) (kR := kR) xA he hc hdn hn
        have h2 := hΦ _ _ xF
        have hw2 : (S2.fail false ⟨k + 1, e, (K.code S).1⟩).wk = S2.wk := rfl
        rw [hwk] at r3
        skip
        omega
end Go.HL.Kl.Mc
namespace Go.HL.Kl.Mc
open Go Go.HL Go.HL.Kl AskE
structure SrE.ok (K : SrE) (N : Nat) : Prop where
  ref : ∀ x ∈ K.re, x.op = 8 → 1 ≤ x.n ∧ x.n.toNat ∈ K.R
  grp : ∀ x ∈ K.re, x.op = 7 → 1 ≤ x.n ∧ x.n.toNat ≤ N
  nd : (gl K.re).Nodup
/-! groups emptied, and restored -/
theorem rst_set {n : Nat} {v : Sp} : ∀ (l : List Nd) (W C : List Sp), n ∉ gl l → rst l W (C.set n v) = (rst l W C).set n v
  | [], _, _, _ => rfl
  | x :: l, W, C, h => by
    rw [gl_cons] at h
    unfold rst
    by_cases h7 : x.op = 7
    · rw [if_pos h7] at h
      have hne : x.n.toNat ≠ n := fun e => h (by simp [e])
      rw [if_pos h7, if_pos h7, List.set_comm _ _ hne.symm]
      exact rst_set l _ _ fun hm => h (by simp [hm])
    · rw [if_neg h7] at h
      rw [if_neg h7, if_neg h7]
      exact rst_set l _ _ fun hm => h (by simpa using hm)
theorem rst_emW : ∀ (l : List Nd) (cs : List Sp), (gl l).Nodup → (∀ i ∈ gl l, i < cs.length) → rst l (emW l cs) (fgt l cs) = cs
  | [], _, _, _ => rfl
  | x :: l, cs, hn, hr => by
    rw [gl_cons] at hn hr
    have e : fgt (x :: l) cs = fgt l (fg1 cs x) := rfl
    rw [e]
    unfold rst emW fg1
    by_cases h7 : x.op = 7
    · rw [if_pos h7] at hn hr
      rw [if_pos h7, if_pos h7, if_pos h7]
      have h1 : x.n.toNat ∉ gl l := fun hm => (List.nodup_append.1 hn).2.2 x.n.toNat (by simp) x.n.toNat hm rfl
      have h2 : (gl l).Nodup := (List.nodup_append.1 hn).2.1
      have hlt : x.n.toNat < cs.length := hr _ (by simp)
      simp only [List.tail_cons, List.headD_cons]
      rw [rst_set l _ _ h1, rst_emW l _ h2 (fun i hi => by rw [List.length_set]; exact hr i (by simp [hi])), List.set_set]
      apply List.ext_getElem?
      intro m
      by_cases em : x.n.toNat = m
      · subst em
        rw [List.getElem?_set_self hlt, List.getD_eq_getElem?_getD, List.getElem?_eq_getElem hlt]; rfl
      · rw [List.getElem?_set_ne em]
    · rw [if_neg h7] at hn hr
      rw [if_neg h7, if_neg h7, if_neg h7]
      exact rst_emW l cs (by simpa using hn) fun i hi => hr i (by simpa using hi)
theorem fgt_cons : ∀ (l : List Nd) (c : Caps), (∀ x ∈ l, x.op = 7 → 1 ≤ x.n) → fgt l (noS :: c) = noS :: emp l c
  | [], _, _ => rfl
  | x :: l, c, h => by
    have e : fgt (x :: l) (noS :: c) = fgt l (fg1 (noS :: c) x) := rfl
    have e2 : emp (x :: l) c = emp l (em1 c x) := rfl
    have e3 : fg1 (noS :: c) x = noS :: em1 c x := by
      unfold fg1 em1
      by_cases h7 : x.op = 7
      · have h1 := h x List.mem_cons_self h7
        rw [if_pos h7, if_pos h7]
        obtain ⟨m, hm⟩ : ∃ m, x.n.toNat = m + 1 := ⟨x.n.toNat - 1, by omega⟩
        rw [hm, List.set_cons_succ, Nat.add_sub_cancel]
      · rw [if_neg h7, if_neg h7]
    rw [e, e2, e3]
    exact fgt_cons l _ fun y hy => h y (List.mem_cons_of_mem _ hy)
section
variable {K : SrE} {N : Nat} {x : Nd} {ks : F} {at_ e0 : Nat}
theorem SrE.bh_eq (hp : Part K.re (.nd x ks .nil) at_ e0) : K.bh at_ = at_ + 1 + ks.size := by
  have h := foAt_eq hp
  have h1 : (F.nd x ks .nil).num = 1 := by simp [F.num]
  rw [h1] at h
  unfold SrE.bh
  rw [h]
  simp only [F.size]; omega
theorem SrE.inn_eq (hp : Part K.re (.nd x ks .nil) at_ e0) : K.inn (at_ + 1) (K.bh at_) = ks.flat := by
  rw [SrE.bh_eq hp]
  obtain ⟨_, h2, _⟩ := hp.head
  unfold SrE.inn
  rw [h2.flat, show at_ + 1 + ks.size - (at_ + 1) = ks.flat.length by rw [F.flat_size]; omega, List.take_left]
theorem SrE.ok.sub (hK : K.ok N) {g : F} {k e : Nat} (hp : Part K.re g k e) : (gl g.flat).Nodup ∧ ∀ i ∈ gl g.flat, i < N + 1 := by
  have h := hK.nd
  have e1 : K.re = K.re.take k ++ (g.flat ++ K.re.drop e) := by rw [← hp.flat, List.take_append_drop]
  rw [e1, gl_app, gl_app] at h
  refine ⟨(List.nodup_append.1 (List.nodup_append.1 h).2.1).1, fun i hi => ?_⟩
  obtain ⟨y, hy, rfl⟩ := List.mem_map.1 hi
  rw [List.mem_filter] at hy
  have := (hK.grp y (hp.mem hy.1) (by simpa using hy.2)).2
  omega
theorem SrE.ok.emp (hK : K.ok N) (hp : Part K.re (.nd x ks .nil) at_ e0) (c : Caps) : fgt (K.inn (at_ + 1) (K.bh at_)) (noS :: c) = noS :: emp ks.flat c := by
  rw [SrE.inn_eq hp]
  exact fgt_cons _ _ fun y hy h7 => (hK.grp y (hp.head.2.1.mem hy) h7).1
theorem SrE.ok.rst (hK : K.ok N) (hp : Part K.re (.nd x ks .nil) at_ e0) {c : Caps} (hc : c.length = N) : rst (K.inn (at_ + 1) (K.bh at_)) (emW (K.inn (at_ + 1) (K.bh at_)) (noS :: c)) (fgt (K.inn (at_ + 1) (K.bh at_)) (noS :: c)) = noS :: c := by
  rw [SrE.inn_eq hp]
  obtain ⟨h1, h2⟩ := hK.sub hp.head.2.1
  exact rst_emW _ _ h1 fun i hi => by have := h2 i hi; simp; omega
end
/-! single nodes -/
theorem good_LF {K : SrE} {N : Nat} {x : Nd} {ks : F} {i j : Nat} {c : Caps} (hij : i ≤ j) (hj : j ≤ K.w.length) (hc : CapOk K N c) (hr : x.op = 8 → 1 ≤ x.n) (ho : x.op = 1 ∨ x.op = 2 ∨ x.op = 3 ∨ x.op = 8) :
    (K.good x (noS :: c) i j → LF1 K.w x ks i j c = [c] ∧ goodT K.w.length x c i j) ∧ (¬ K.good x (noS :: c) i j → LF1 K.w x ks i j c = []) := by
  rcases ho with h | h | h | h
  · rw [LF1_1 h]
    constructor
    · rintro (⟨_, a, b⟩ | ⟨a, _⟩ | ⟨a, _⟩ | ⟨a, _⟩)
      · exact ⟨if_pos ⟨a, b⟩, .inl ⟨h, a⟩⟩
      all_goals omega
    · intro hn; exact if_neg fun hh => hn (.inl ⟨h, hh⟩)
  · rw [LF1_2 h]
    constructor
    · rintro (⟨a, _⟩ | ⟨_, a⟩ | ⟨a, _⟩ | ⟨a, _⟩)
      · omega
      · exact ⟨if_pos ⟨by omega, a⟩, .inr (.inl ⟨h, by omega, a⟩)⟩
      all_goals omega
    · intro hn; exact if_neg fun hh => hn (.inr (.inl ⟨h, hh.2⟩))
  · rw [LF1_3 h]
    constructor
    · rintro (⟨a, _⟩ | ⟨a, _⟩ | ⟨_, a⟩ | ⟨a, _⟩)
      · omega
      · omega
      · exact ⟨if_pos ⟨a, by omega⟩, .inr (.inr (.inl ⟨h, a, by omega⟩))⟩
      · omega
    · intro hn; exact if_neg fun hh => hn (.inr (.inr (.inl ⟨h, hh.1⟩)))
  · have h1 := hr h
    obtain ⟨m, hm⟩ : ∃ m, x.n.toNat = m + 1 := ⟨x.n.toNat - 1, by omega⟩
    have hg : (noS :: c).getD x.n.toNat noS = c.getD (x.n.toNat - 1) noS := by rw [hm]; simp
    rw [LF1_8 h]
    generalize hs : c.getD (x.n.toNat - 1) noS = s at hg
    have hsv : s = noS ∨ (0 ≤ s.fr ∧ s.fr ≤ s.to ∧ s.to ≤ K.w.length) := by
      rw [List.getD_eq_getElem?_getD] at hs
      cases hq : c[x.n.toNat - 1]? with
      | none => rw [hq] at hs; exact .inl hs.symm
      | some v =>
        rw [hq] at hs
        have hs : v = s := hs
        subst hs
        exact hc.ok v (List.mem_of_getElem? hq)
    have hlen : ∀ (a b : Nat), a ≤ b → b ≤ K.w.length → ((K.w.drop a).take (b - a)).length = b - a := fun a b h1 h2 => by rw [List.length_take, List.length_drop]; omega
    constructor
    · rintro (⟨a, _⟩ | ⟨a, _⟩ | ⟨a, _⟩ | ⟨_, a, b⟩)
      · omega
      · omega
      · omega
      · rw [hg] at a b
        obtain ⟨v1, v2, v3⟩ := hsv.resolve_left a
        have hl := congrArg List.length b
        rw [hlen i j hij hj, show (s.to - s.fr).toNat = s.to.toNat - s.fr.toNat by omega, hlen _ _ (by omega) (by omega)] at hl
        have e1 : s.to - s.fr = (j : Int) - i := by omega
        refine ⟨if_pos ?_, .inr (.inr (.inr ⟨h, by rw [hs]; exact v1, by rw [hs]; exact e1⟩))⟩
        unfold sameAt
        rw [Bool.and_eq_true, decide_eq_true_eq, decide_eq_true_eq]
        refine ⟨⟨v1, e1⟩, ?_⟩
        rw [show j - i = (s.to - s.fr).toNat by omega]
        rw [show (s.to - s.fr).toNat = j - i by omega] at b ⊢
        exact b
    · intro hn
      refine if_neg fun hh => hn (.inr (.inr (.inr ⟨h, ?_⟩)))
      unfold sameAt at hh
      rw [Bool.and_eq_true, decide_eq_true_eq, decide_eq_true_eq] at hh
      obtain ⟨⟨a1, a2⟩, a3⟩ := hh
      rw [hg]
      refine ⟨fun e => by rw [e] at a1; exact absurd a1 (by decide), ?_⟩
      rw [show (s.to - s.fr).toNat = j - i by omega]
      exact a3
/-! small steps -/
section
variable {K : SrE} {N : Nat} {S : SS}
theorem tick_ext : Ext S S.tick := ⟨⟨[], by simp [SS.tick]⟩, ⟨[], by simp [SS.tick]⟩, fun _ h => h⟩
theorem Inv.same {S1 : SS} (h : Inv K N S) (h1 : S1.fs = S.fs) (h2 : S1.ts = S.ts) (h3 : S1.F = S.F) : Inv K N S1 := ⟨by rw [h1]; exact h.ch, by rw [h2]; exact h.nd, by rw [h1, h2, h3]; exact h.memo⟩
theorem Ext.same {S1 : SS} (h1 : S1.fs = S.fs) (h2 : S1.ts = S.ts) (h3 : S1.F = S.F) : Ext S S1 := ⟨⟨[], by simp [h1]⟩, ⟨[], by simp [h2]⟩, fun p hp => by rw [h3]; exact hp⟩
theorem Res.lift {S1 S' : SS} {b : Bool} {sem1 sem : Option Caps} {k1 k : Nat} {Φ1 Φ : SS → Nat} (h : Res K N S1 S' b sem1 k1 Φ1) (he : Ext S S1) (hs : sem1 = sem) (hcs : S1.cs = S.cs) (hw : S1.wk + k1 + Φ1 S1 ≤ S.wk + k + Φ S) (hΦ : ∀ S', Φ S' ≤ Φ1 S') : Res K N S S' b sem k Φ := by
  refine ⟨h.inv, he.trans h.ext, fun hb => ?_, fun hb => ?_⟩
  · obtain ⟨r, r1, r2, r3, r4⟩ := h.yes hb
    exact ⟨r, by rw [← hs]; exact r1, r2, r3, by omega⟩
  · obtain ⟨r1, r2, r3⟩ := h.no hb
    have := hΦ S'
    exact ⟨by rw [← hs]; exact r1, r2.trans hcs, by omega⟩
end
def capK (x : Nd) (had : Nat) : Nat := if x.mx < 0 then min had (max x.mn.toNat 1) else had
theorem satK_cap {x : Nd} {had : Nat} : satK x (capK x had) = capK x (had + 1) := by
  unfold satK capK
  split <;> omega
/-! what is to be shown, by kind -/
def NodeTgt (K : SrE) (N : Nat) (x : Nd) (ks : F) (i j : Nat) (c : Caps) (Z : List Caps) (k : Nat) : Prop := ∀ (at_ e0 : Nat) (S : SS) (up : Nat) (Φ : SS → Nat), Part K.re (.nd x ks .nil) at_ e0 → i ≤ j → j ≤ K.w.length → CapOk K N c → Inv K N S → S.cs = noS :: c → up ≤ S.fs.length → Anti Φ → NextOK K N S up j Z Φ → k + Φ S ≤ S.fuel →
  ∃ b S', Ev K S (.take at_ i j up) b S' ∧ Res K N S S' b ((LF1 K.w x ks i j c).findSome? (K.kont S.fs up j)) k Φ
def AltTgt (K : SrE) (N : Nat) (g : F) (i j : Nat) (c : Caps) (Z : List Caps) (k : Nat) : Prop := ∀ (kid e0 : Nat) (S : SS) (up : Nat) (Φ : SS → Nat), Part K.re g kid e0 → i ≤ j → j ≤ K.w.length → CapOk K N c → Inv K N S → S.cs = noS :: c → up ≤ S.fs.length → Anti Φ → NextOK K N S up j Z Φ → k + Φ S ≤ S.fuel →
  ∃ b S', Ev K S (.alt kid g.num i j up) b S' ∧ Res K N S S' b ((LF K.w g true i j c).findSome? (K.kont S.fs up j)) k Φ
def RowTgt (K : SrE) (N : Nat) (g : F) (i j : Nat) (c : Caps) (Z : List Caps) (k : Nat) : Prop := ∀ (f : Frm) (x : Nd) (e0 : Nat) (S : SS) (Φ : SS → Nat), K.re[f.node]? = some x → x.op = 4 → Part K.re g f.kid e0 → f.left = g.num → f.to = j → i ≤ j → j ≤ K.w.length → CapOk K N c → Inv K N S → S.cs = noS :: c → f.up ≤ S.fs.length → Anti Φ → NextOK K N S f.up j Z Φ → k + Φ S ≤ S.fuel →
  ∃ b S', Ev K S (.row f i) b S' ∧ Res K N S S' b ((LF K.w g false i j c).findSome? (K.kont S.fs f.up j)) k Φ
def RndTgt (K : SrE) (N : Nat) (x y : Nd) (js : F) (had i j : Nat) (c : Caps) (Z : List Caps) (k : Nat) : Prop := ∀ (f : Frm) (e0 : Nat) (S : SS) (Φ : SS → Nat), Part K.re (.nd x (.nd y js .nil) .nil) f.node e0 → x.op = 6 → f.kid = capK x had → f.to = j → i ≤ j → j ≤ K.w.length → CapOk K N c → Inv K N S → S.cs = noS :: c → f.up ≤ S.fs.length → Anti Φ → NextOK K N S f.up j Z Φ → k + Φ S ≤ S.fuel →
  ∃ b S', Ev K S (.rnd f i) b S' ∧ Res K N S S' b ((RLf x (K.kidsB f.node) j f.kid i c).findSome? (K.kont S.fs f.up j)) k Φ
section
variable {K : SrE} {N : Nat}
theorem sr_leaf (hK : K.ok N) {x : Nd} {ks : F} {i j : Nat} {c : Caps} {Z : List Caps} {k : Nat} (ho : x.op = 1 ∨ x.op = 2 ∨ x.op = 3 ∨ x.op = 8) (hz : goodT K.w.length x c i j → c ∈ Z) (hk : 1 ≤ k) : NodeTgt K N x ks i j c Z k := by
  intro at_ e0 S up Φ hp hij hj hc hI hcs hup hΦ hN hfu
  have hx := hp.head.1
  have xT : Ext S S.tick := tick_ext
  have IT : Inv K N S.tick := hI.same rfl rfl rfl
  have hΦT := hΦ _ _ xT
  have hf : 0 < S.fuel := by omega
  have htf : S.tick.fuel = S.fuel - 1 := rfl
  have htw : S.tick.wk = S.wk + 1 := rfl
  obtain ⟨g1, g2⟩ := good_LF (K := K) (ks := ks) hij hj hc (fun h8 => (hK.ref x (List.mem_of_getElem? hx) h8).1) ho
  by_cases hg : K.good x (noS :: c) i j
  · obtain ⟨l1, l2⟩ := g1 hg
    obtain ⟨b, S', ev, res⟩ := hN S.tick c xT IT (hz l2) hc hcs (by omega)
    exact ⟨b, S', .takeYes hx hf ho (by rw [hcs]; exact hg) ev, res.lift xT (by rw [l1, fs_one]; rfl) rfl (by omega) fun _ => Nat.le_refl _⟩
  · exact ⟨false, S.tick, .takeNo hx hf ho (by rw [hcs]; exact hg), IT, xT, fun h => (by cases h), fun _ => ⟨by rw [g2 hg]; rfl, rfl, by omega⟩⟩
theorem sr_cat (hK : K.ok N) {x : Nd} {ks : F} {i j : Nat} {c : Caps} {Z : List Caps} {k k0 : Nat} (ho : x.op = 4) (ih : RowTgt K N ks i j c Z k0) (hk : k0 + 2 ≤ k) : NodeTgt K N x ks i j c Z k := by
  intro at_ e0 S up Φ hp hij hj hc hI hcs hup hΦ hN hfu
  obtain ⟨hx, hpk, _⟩ := hp.head
  have xT : Ext S S.tick := tick_ext
  have IT : Inv K N S.tick := hI.same rfl rfl rfl
  have hΦT := hΦ _ _ xT
  have hf : 0 < S.fuel := by omega
  have htf : S.tick.fuel = S.fuel - 1 := rfl
  have htw : S.tick.wk = S.wk + 1 := rfl
  have hkn : x.kids.toNat = ks.num := by have h : (ks.num : Int) = x.kids := hp.wf.2.1; omega
  generalize hpu : S.tick.push ⟨up, at_, at_ + 1, x.kids.toNat, i, j⟩ = pr
  obtain ⟨u, S2⟩ := pr
  obtain ⟨xp, Ip, q, rfl, hf0⟩ := push_spec hpu IT hup
  obtain ⟨_, p2, p3, p4, _, _⟩ := SS.push_sz hpu
  have x2 : Ext S S2 := xT.trans xp
  have hΦ2 := hΦ _ _ x2
  have hfo : foAt K.re (at_ + 1) x.kids.toNat = ks := by rw [hkn]; exact foAt_eq hpk
  have hsem : ∀ S3, Ext S2 S3 → Inv K N S3 → K.kont S3.fs (q + 1) i c = (LF K.w ks false i j c).findSome? (K.kont S3.fs up j) := fun S3 x3 I3 => by
    rw [SrE.kont_succ I3.ch (x3.get hf0) hx, if_pos ho]
    dsimp only
    rw [hfo]
  have hNx := frame_ok (N := N) hK.ref hΦ (es := [i]) (L := fun _ => [c]) (kR := fun _ _ => k0) hf0 (fun e he c1 hc1 S3 x3 I3 hk3 hcs3 hfu3 => by
    obtain rfl := List.mem_singleton.1 he
    obtain rfl := List.mem_singleton.1 hc1
    obtain ⟨b, S', ev, res⟩ := ih ⟨up, at_, at_ + 1, x.kids.toNat, e, j⟩ x _ S3 Φ hx ho hpk hkn rfl hij hj hk3 I3 hcs3 (Nat.le_trans hup (x2.trans x3).le) hΦ (hN.mono (x2.trans x3) fun _ h => h) hfu3
    exact ⟨b, S', .bodyCat hx ho ev, res.lift .refl (hsem S3 x3 I3).symm rfl (Nat.le_refl _) fun _ => Nat.le_refl _⟩) (List.mem_singleton_self i)
  have hpl := pend_le (K := K) (u := q + 1) (es := [i]) (L := fun _ => [c]) (kR := fun _ _ => k0) (S := S2)
  simp only [List.map_cons, List.map_nil, List.sum_cons, List.sum_nil] at hpl
  obtain ⟨b, S', ev, res⟩ := hNx S2 c .refl Ip (List.mem_singleton_self c) hc (p4.trans hcs) (by first | omega | (dsimp only; omega))
  exact ⟨b, S', .takeCat hx hf ho hpu ev, res.lift x2 (by rw [hsem S2 .refl Ip, LF1_4 ho, hI.kont Ip x2 hup]) p4 (by first | omega | (dsimp only; omega)) fun S' => Nat.le_add_right _ _⟩
theorem sr_rep (hK : K.ok N) {x y : Nd} {js : F} {i j : Nat} {c : Caps} {Z : List Caps} {k k0 : Nat} (ho : x.op = 6) (ih : RndTgt K N x y js 0 i j c Z k0) (hk : k0 + 2 ≤ k) : NodeTgt K N x (.nd y js .nil) i j c Z k := by
  intro at_ e0 S up Φ hp hij hj hc hI hcs hup hΦ hN hfu
  obtain ⟨hx, hpk, _⟩ := hp.head
  have xT : Ext S S.tick := tick_ext
  have IT : Inv K N S.tick := hI.same rfl rfl rfl
  have hΦT := hΦ _ _ xT
  have hf : 0 < S.fuel := by omega
  have htf : S.tick.fuel = S.fuel - 1 := rfl
  have htw : S.tick.wk = S.wk + 1 := rfl
  generalize hpu : S.tick.push ⟨up, at_, 0, 0, 0, j⟩ = pr
  obtain ⟨u, S2⟩ := pr
  obtain ⟨xp, Ip, q, rfl, hf0⟩ := push_spec hpu IT hup
  obtain ⟨_, p2, p3, p4, _, _⟩ := SS.push_sz hpu
  have x2 : Ext S S2 := xT.trans xp
  have hΦ2 := hΦ _ _ x2
  have hcap : 0 = capK x 0 := by unfold capK; split <;> omega
  have hsem : ∀ S3, Ext S2 S3 → Inv K N S3 → K.kont S3.fs (q + 1) i c = (RLf x (K.kidsB at_) j 0 i c).findSome? (K.kont S3.fs up j) := fun S3 x3 I3 => by
    rw [SrE.kont_succ I3.ch (x3.get hf0) hx, if_neg (by omega), if_pos ho]
  have hNx := frame_ok (N := N) hK.ref hΦ (es := [i]) (L := fun _ => [c]) (kR := fun _ _ => k0) hf0 (fun e he c1 hc1 S3 x3 I3 hk3 hcs3 hfu3 => by
    obtain rfl := List.mem_singleton.1 he
    obtain rfl := List.mem_singleton.1 hc1
    obtain ⟨b, S', ev, res⟩ := ih ⟨up, at_, 0, 0, 0, j⟩ _ S3 Φ hp ho hcap rfl hij hj hk3 I3 hcs3 (Nat.le_trans hup (x2.trans x3).le) hΦ (hN.mono (x2.trans x3) fun _ h => h) hfu3
    exact ⟨b, S', .bodyRep hx ho ev, res.lift .refl (hsem S3 x3 I3).symm rfl (Nat.le_refl _) fun _ => Nat.le_refl _⟩) (List.mem_singleton_self i)
  have hpl := pend_le (K := K) (u := q + 1) (es := [i]) (L := fun _ => [c]) (kR := fun _ _ => k0) (S := S2)
  simp only [List.map_cons, List.map_nil, List.sum_cons, List.sum_nil] at hpl
  obtain ⟨b, S', ev, res⟩ := hNx S2 c .refl Ip (List.mem_singleton_self c) hc (p4.trans hcs) (by first | omega | (dsimp only; omega))
  have hfo : foAt K.re (at_ + 1) 1 = .nd y js .nil := by have h := foAt_eq hpk; rwa [show (F.nd y js .nil).num = 1 by simp [F.num]] at h
  exact ⟨b, S', .takeRep hx hf ho hpu ev, res.lift x2 (by
    rw [hsem S2 .refl Ip, LF1_6 ho, hI.kont Ip x2 hup]
    have : K.kidsB at_ = fun p e c => LF K.w (.nd y js .nil) false p e (emp (F.nd y js .nil).flat c) := by funext p e c; unfold SrE.kidsB; rw [hfo]
    rw [this]) p4 (by first | omega | (dsimp only; omega)) fun S' => Nat.le_add_right _ _⟩
end
end Go.HL.Kl.Mc
