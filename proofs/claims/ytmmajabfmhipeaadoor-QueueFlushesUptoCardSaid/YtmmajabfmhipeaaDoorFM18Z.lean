/- Part of the proofs over this seat: see the text that holds the theorem. Conditions: each theorem bears its own. -/
import Derived.Test.YtmmajabfmhipeaaDoorFM14Z
import Derived.Test.YtmmajabfmhipeaaDoorHlB
import Derived.Test.YtmmajabfmhipeaaDoorM1Z
import Derived.Test.YtmmajabfmhipeaaDoorFA1
import Derived.Test.YtmmajabfmhipeaaDoorTC1Z
namespace Go.Proofs.YtmmajabfmhipeaaDoor
open Go Go.HL Go.Proofs
/-! A flush: what is called, what comes to wait anew. -/
structure QW where
  calls : List CA
  outs : Nat
  q : List QI
def qR (fs : List FileV) (s : QW) (n : ByteArray) : List UInt8 × QW := (look fs n, ⟨s.calls ++ [⟨3, n, []⟩], s.outs, s.q⟩)
def qO (fail err dur : Int) (B : List UInt8) (N : ByteArray) (s : QW) (b : List UInt8) : Int × QW := (if (s.outs : Int) + 1 = fail then err else 0, ⟨s.calls ++ [⟨1, ⟨#[]⟩, b⟩], s.outs + 1, if (s.outs : Int) + 1 = dur then s.q ++ [.text B, .file N] else s.q⟩)
def qKR (s : QW) (_ : ByteArray) : Prop := s.calls.length ≤ 16777216 ∧ s.q.length ≤ 16777216
def qKO (s : QW) (b : List UInt8) : Prop := s.calls.length ≤ 16777216 ∧ b.length ≤ 1048577 ∧ s.outs ≤ 16777215 ∧ s.q.length ≤ 2
/-- what came to wait while it flushes: nothing, or a text and a file, once -/
structure QOnce (dur : Int) (B : List UInt8) (N : ByteArray) (s : QW) : Prop where
  once : s.q = [] ∨ (dur ≤ (s.outs : Int) ∧ s.q = [.text B, .file N])
theorem QOnce.len {dur : Int} {B : List UInt8} {N : ByteArray} {s : QW} (h : QOnce dur B N s) : s.q.length ≤ 2 := by
  rcases h.once with e | ⟨_, e⟩ <;> rw [e] <;> simp
theorem QOnce.rd {dur : Int} {B : List UInt8} {N n : ByteArray} {s : QW} {fs : List FileV} (h : QOnce dur B N s) : QOnce dur B N (qR fs s n).2 := ⟨h.once⟩
theorem QOnce.out {fail err dur : Int} {B b : List UInt8} {N : ByteArray} {s : QW} (h : QOnce dur B N s) : QOnce dur B N (qO fail err dur B N s b).2 := by
  refine ⟨?_⟩
  simp only [qO]
  by_cases e : (s.outs : Int) + 1 = dur
  · rw [if_pos e]
    rcases h.once with h1 | ⟨h1, _⟩
    · exact .inr ⟨by omega, by rw [h1]; rfl⟩
    · omega
  · rw [if_neg e]
    exact h.once.imp id fun ⟨h1, h2⟩ => ⟨by omega, h2⟩
section
variable {fs : List FileV} {fail err dur : Int} {B : List UInt8} {N : ByteArray}
theorem qStep (q : QI) (s : QW) (h : QOnce dur B N s) : (stepQ (qR fs) (qO fail err dur B N) q s).2.calls.length ≤ s.calls.length + 2 ∧ (stepQ (qR fs) (qO fail err dur B N) q s).2.outs ≤ s.outs + 1 ∧ QOnce dur B N (stepQ (qR fs) (qO fail err dur B N) q s).2 := by
  cases q with
  | text b => exact ⟨by simp [stepQ, qO], by simp [stepQ, qO], h.out⟩
  | file n =>
    simp only [stepQ]
    split
    · exact ⟨by simp [qR], by simp [qR], h.rd (fs := fs)⟩
    · exact ⟨by simp [qR, qO], by simp [qR, qO], (h.rd (fs := fs)).out⟩
theorem qBnd : ∀ (l : List QI) (s : QW), QOnce dur B N s → (flushQ (qR fs) (qO fail err dur B N) l s).2.calls.length ≤ s.calls.length + 2 * l.length ∧ (flushQ (qR fs) (qO fail err dur B N) l s).2.outs ≤ s.outs + l.length ∧ QOnce dur B N (flushQ (qR fs) (qO fail err dur B N) l s).2
  | [], s, h => ⟨Nat.le_refl _, Nat.le_refl _, h⟩
  | q :: l, s, h => by
    obtain ⟨h1, h2, h3⟩ := qStep (fs := fs) (fail := fail) (err := err) q s h
    simp only [flushQ]
    split
    · exact ⟨by rw [List.length_cons]; omega, by rw [List.length_cons]; omega, h3⟩
    · obtain ⟨g1, g2, g3⟩ := qBnd l _ h3
      exact ⟨by rw [List.length_cons]; omega, by rw [List.length_cons]; omega, g3⟩
theorem qFits (hf : ∀ f ∈ fs, f.b.xs.length ≤ 1048576) : ∀ (l : List QI) (s : QW), QOnce dur B N s → (∀ b, QI.text b ∈ l → b.length ≤ 1048576) → s.calls.length + 2 * l.length ≤ 16777216 → s.outs + l.length ≤ 16777215 → fitsQ (qR fs) (qO fail err dur B N) qKR qKO l s
  | [], _, _, _, _, _ => trivial
  | q :: l, s, h, hb, hc, ho => by
    obtain ⟨h1, h2, h3⟩ := qStep (fs := fs) (fail := fail) (err := err) q s h
    have hq := h.len
    simp only [List.length_cons] at hc ho
    refine ⟨?_, fun _ => qFits hf l _ h3 (fun b hm => hb b (List.mem_cons_of_mem _ hm)) (by omega) (by omega)⟩
    cases q with
    | text b =>
      have := hb b List.mem_cons_self
      exact ⟨by omega, by omega, by rw [List.length_append, List.length_singleton]; omega, by omega, hq⟩
    | file n =>
      have := look_len (n := n) hf
      exact ⟨⟨by omega, by omega⟩, fun _ => ⟨by simp only [qR, List.length_append, List.length_singleton]; omega, by simp only [qR]; omega, by simp only [qR]; omega, hq⟩⟩
end
end Go.Proofs.YtmmajabfmhipeaaDoor
namespace Go.HL
open Go
/-! lists of lists: for the bag that looks whether lists share memory -/
section
variable {α : Type} {E : α → List Value} {k : Nat} {T : TypeId}
/-- lists that the heap's part S bears, each owned: headers, and what they hold -/
inductive OwnL (E : α → List Value) (k : Nat) (T : TypeId) : List (Sl α) → List (List α) → Hp → Prop
  | nil : OwnL E k T [] [] []
  | cons {s : Sl α} {xs : List α} {sls : List (Sl α)} {xss : List (List α)} {S R : Hp} (h : OwnS E k T s.v xs S) (hs : OwnL E k T sls xss R) : OwnL E k T (s :: sls) (xs :: xss) (S ++ R)
theorem OwnL.at {sls : List (Sl α)} {xss : List (List α)} {S : Hp} (h : OwnL E k T sls xss S) : ∀ {n : Nat} {s : Sl α}, sls[n]? = some s →
    ∃ xs S1 Sn S2, xss[n]? = some xs ∧ S = S1 ++ (Sn ++ S2) ∧ OwnS E k T s.v xs Sn ∧ ∀ xs' Sn', OwnS E k T s.v xs' Sn' → OwnL E k T sls (xss.set n xs') (S1 ++ (Sn' ++ S2)) := by
  induction h with
  | nil => intro n s hs; simp at hs
  | @cons s xs sls xss S R h hs ih =>
    intro n s' hn
    cases n with
    | zero =>
      simp at hn; subst hn
      exact ⟨xs, [], S, R, rfl, rfl, h, fun xs' Sn' h' => by simpa using OwnL.cons h' hs⟩
    | succ n =>
      obtain ⟨xs', S1, Sn, S2, h1, rfl, h3, h4⟩ := ih (by simpa using hn)
      exact ⟨xs', S ++ S1, Sn, S2, by simpa using h1, by simp, h3, fun y Sy hy => by simpa using OwnL.cons h (h4 y Sy hy)⟩
theorem OwnL.snoc {sls : List (Sl α)} {xss : List (List α)} {S S' : Hp} {s : Sl α} {xs : List α} (h : OwnL E k T sls xss S) (h' : OwnS E k T s.v xs S') : OwnL E k T (sls ++ [s]) (xss ++ [xs]) (S ++ S') := by
  induction h with
  | nil => simpa using OwnL.cons h' .nil
  | cons h hs ih => simpa using OwnL.cons h ih
theorem OwnL.len {sls : List (Sl α)} {xss : List (List α)} {S : Hp} (h : OwnL E k T sls xss S) : xss.length = sls.length := by
  induction h with
  | nil => rfl
  | cons h hs ih => simp [ih]
/-- what is written into the list n -/
def mkL (f : Nat → Nat → α) (n m : Nat) : List α := (List.range m).map (f n)
theorem mkL_len {f : Nat → Nat → α} {n m : Nat} : (mkL f n m).length = m := by simp [mkL]
theorem mkL_get {f : Nat → Nat → α} {n m i : Nat} (h : i < m) : (mkL f n m)[i]? = some (f n i) := by simp [mkL, List.getElem?_range h]
theorem mkL_succ {f : Nat → Nat → α} {n m : Nat} : mkL f n m ++ [f n m] = mkL f n (m + 1) := by simp [mkL, List.range_succ]
theorem mkL_fill {f : Nat → Nat → α} {n m i : Nat} {l : List α} (h : Tab.Fill (f n) m i l) (hi : m ≤ i) : l = mkL f n m := h.done hi
/-- likewise, all of them marked, from the list n on -/
inductive OwnF (E : α → List Value) (k : Nat) (T : TypeId) (f : Nat → Nat → α) : Nat → List (Sl α) → Hp → Prop
  | nil {n : Nat} : OwnF E k T f n [] []
  | cons {n : Nat} {s : Sl α} {sls : List (Sl α)} {S R : Hp} (h : OwnS E k T s.v (mkL f n s.xs.length) S) (hs : OwnF E k T f (n + 1) sls R) : OwnF E k T f n (s :: sls) (S ++ R)
theorem OwnL.all {f : Nat → Nat → α} {sls : List (Sl α)} {xss : List (List α)} {S : Hp} (h : OwnL E k T sls xss S) : ∀ {n : Nat}, (∀ j s, sls[j]? = some s → xss[j]? = some (mkL f (n + j) s.xs.length)) → OwnF E k T f n sls S := by
  induction h with
  | nil => intro n _; exact .nil
  | @cons s xs sls xss S R h hs ih =>
    intro n hj
    have h0 := hj 0 s rfl
    simp at h0
    subst h0
    refine .cons h (ih fun j s' hs' => ?_)
    have := hj (j + 1) s' (by simpa using hs')
    rw [show n + 1 + j = n + (j + 1) by omega]
    simpa using this
theorem OwnF.head {f : Nat → Nat → α} {sls : List (Sl α)} {S : Hp} {n : Nat} {s : Sl α} (h : OwnF E k T f n (sls.drop n) S) (hs : sls[n]? = some s) : ∃ S1 S2, S = S1 ++ S2 ∧ OwnS E k T s.v (mkL f n s.xs.length) S1 ∧ OwnF E k T f (n + 1) (sls.drop (n + 1)) S2 := by
  have hn : n < sls.length := by
    rcases Nat.lt_or_ge n sls.length with h' | h'
    · exact h'
    · rw [List.getElem?_eq_none h'] at hs; cases hs
  have e : sls.drop n = s :: sls.drop (n + 1) := by
    rw [List.drop_eq_getElem_cons hn]
    rw [List.getElem?_eq_getElem hn] at hs
    simp at hs; rw [hs]
  rw [e] at h
  cases h with
  | cons h1 h2 => exact ⟨_, _, rfl, h1, h2⟩
/-- the first n lists have been gone on with -/
structure Done (E : α → List Value) (f : Nat → Nat → α) (sls ones mores : List (Sl α)) (G : Hp) (n : Nat) : Prop where
  out : ∀ j, j < n → ∃ s o m, sls[j]? = some s ∧ ones[j]? = some o ∧ mores[j]? = some m ∧ o.xs = mkL f j (s.xs.length + 1) ∧ m.xs = mkL f j (s.xs.length + 70) ∧ IsSl s.v s.xs.length ∧ IsSl o.v o.xs.length ∧ IsSl m.v m.xs.length ∧ RdS E s.v (mkL f j s.xs.length) G ∧ RdS E o.v o.xs G ∧ RdS E m.v m.xs G
theorem Done.zero {f : Nat → Nat → α} {sls ones mores : List (Sl α)} {G : Hp} : Done E f sls ones mores G 0 := ⟨fun _ h => by omega⟩
theorem Done.step {f : Nat → Nat → α} {sls ones mores : List (Sl α)} {G G' : Hp} {n : Nat} {s o m : Sl α} (h : Done E f sls ones mores G n) (h1 : ones.length = n) (h2 : mores.length = n) (hs : sls[n]? = some s)
    (ho : o.xs = mkL f n (s.xs.length + 1)) (hm : m.xs = mkL f n (s.xs.length + 70)) (i1 : IsSl s.v s.xs.length) (i2 : IsSl o.v o.xs.length) (i3 : IsSl m.v m.xs.length) (r1 : RdS E s.v (mkL f n s.xs.length) G') (r2 : RdS E o.v o.xs G') (r3 : RdS E m.v m.xs G') : Done E f sls (ones ++ [o]) (mores ++ [m]) (G' ++ G) (n + 1) := by
  refine ⟨fun j hj => ?_⟩
  by_cases e : j = n
  · subst e
    exact ⟨s, o, m, hs, by rw [List.getElem?_append_right (by omega)]; simp [h1], by rw [List.getElem?_append_right (by omega)]; simp [h2], ho, hm, i1, i2, i3, r1.mono HIn.appL, r2.mono HIn.appL, r3.mono HIn.appL⟩
  · obtain ⟨s', o', m', a1, a2, a3, a4, a5, b1, b2, b3, a6, a7, a8⟩ := h.out j (by omega)
    exact ⟨s', o', m', a1, by rw [List.getElem?_append_left (by omega)]; exact a2, by rw [List.getElem?_append_left (by omega)]; exact a3, a4, a5, b1, b2, b3, a6.mono HIn.appR, a7.mono HIn.appR, a8.mono HIn.appR⟩
theorem set_all {f : Nat → Nat → α} {sls : List (Sl α)} {xss : List (List α)} {n : Nat} {s : Sl α} {l xs : List α} (hA : ∀ j s, j < n → sls[j]? = some s → xss[j]? = some (mkL f j s.xs.length)) (hs : sls[n]? = some s) (hl : l = mkL f n s.xs.length) (hx : xss[n]? = some xs) :
    ∀ j s', j < n + 1 → sls[j]? = some s' → (xss.set n l)[j]? = some (mkL f j s'.xs.length) := by
  intro j s' hj hs'
  by_cases e : n = j
  · subst e
    rw [hs] at hs'; cases hs'
    rw [List.getElem?_set_self (List.getElem?_eq_some_iff.1 hx).1, hl]
  · rw [List.getElem?_set_ne e]; exact hA j s' (by omega) hs'
theorem Keep.more {v0 v : Value} {xs0 xs : List α} {S G G' : Hp} (h : Keep E k T v0 xs0 v xs S G) (hG : HIn G G') : Keep E k T v0 xs0 v xs S G' := ⟨h.own, h.old.imp (fun r => r.mono hG) fun r => r⟩
theorem sl_get {sls : List (Sl α)} {n : Nat} (h : n < sls.length) : ∃ s, sls[n]? = some s := ⟨_, List.getElem?_eq_getElem h⟩
theorem Sl.v_len {s : Sl α} {a : Option Addr} {n c : Nat} {xs : List α} {S : Hp} [Enc E k] (h : OwnS E k T s.v xs S) (_e : s.v = .slice a n c) : xs.length = s.xs.length := by
  obtain ⟨a', c', e', _⟩ := h.sl.out
  simp [Sl.v] at e'; exact e'.2.1.symm
theorem OwnS.lenv [Enc E k] {s : Sl α} {xs : List α} {S : Hp} (h : OwnS E k T s.v xs S) : xs.length = s.xs.length := by
  obtain ⟨a', c', e', _⟩ := h.sl.out
  simp [Sl.v] at e'; exact e'.2.1.symm
end
end Go.HL
namespace Go.Proofs.YtmmajabfmhipeaaDoor
open Go Go.HL Go.Proofs Go.Tab
/-- what a flush does not change -/
structure AP where
  (bs bq : Nat) (fail err dur : Int) (B : Sl UInt8) (N : ByteArray)
structure AD where
  (fa : Option Addr) (fc : Nat) (Sf : Hp) (sum : Int) (aa : Option Addr) (ac : Nat) (al : List UInt8) (Sa : Hp) (ca : Option Addr) (cc : Nat) (cl : List CallV) (Sc : Hp) (ga : Option Addr) (gc : Nat) (gl : List (Sl UInt8)) (Sg SG : Hp) (la : Option Addr) (lc : Nat) (ll : List (Sl UInt8)) (Sn SL : Hp) (wa : Option Addr) (wc : Nat) (wl : List (Sl UInt8)) (Sw : Hp) (sa : Option Addr) (sc : Nat) (sl : List (Sl UInt8)) (Ss : Hp) (qa : Option Addr) (qc : Nat) (ql : List IV) (So Si Sx : Hp)
def widen (s : Sl UInt8) : Sl UInt8 := ⟨s.a, s.c, wide s.xs⟩
/-- the lists that were lent, their room too -/
def LentO (ll : List (Sl UInt8)) (S : Hp) : Prop := OwnL Eb 1 5 (ll.map widen) (ll.map fun s => wide s.xs) S
theorem LentO.snoc {ll : List (Sl UInt8)} {S S' : Hp} {a : Option Addr} {c : Nat} {b : List UInt8} (h : LentO ll S) (h' : OwnS Eb 1 5 (.slice a (wide b).length c) (wide b) S') : LentO (ll ++ [⟨a, c, b⟩]) (S ++ S') := by
  have h1 := OwnL.snoc (s := widen ⟨a, c, b⟩) h h'
  unfold LentO
  rw [List.map_append, List.map_append]
  exact h1
structure AD.Ok (d : AD) (p : AP) (fs : List FileV) (L : List (Sl UInt8)) (g0 z : Nat) (s : QW) : Prop where
  hf : OwnS Efile 3 115 (.slice d.fa fs.length d.fc) fs d.Sf
  hsum : 0 ≤ d.sum ∧ d.sum ≤ 1048578 * (s.calls.length + z)
  ha : OwnS Eb 1 5 (.slice d.aa d.al.length d.ac) d.al d.Sa
  hal : d.al.length ≤ 1048577 * (g0 + s.outs)
  hc : OwnS Ecall 3 204 (.slice d.ca d.cl.length d.cc) d.cl d.Sc
  hci : CallsIn d.cl s.calls d.Sx
  hg : OwnS Esl 1 40 (.slice d.ga d.gl.length d.gc) d.gl d.Sg
  hgo : OwnL Eb 1 5 d.gl (d.gl.map Sl.xs) d.SG
  hgl : d.gl.length ≤ g0 + s.outs
  hgb : ∀ x ∈ d.gl, x.xs.length ≤ 1048577
  hl : OwnS Esl 1 40 (.slice d.la d.ll.length d.lc) d.ll d.Sn
  hlo : LentO d.ll d.SL
  hll : d.ll.length ≤ 1000
  hlb : ∀ x ∈ d.ll, x.xs.length ≤ 1048576
  hw : OwnS Esl 1 40 (.slice d.wa d.wl.length d.wc) d.wl d.Sw
  hwx : d.wl.map Sl.xs = d.ll.map Sl.xs
  hwL : ∀ x ∈ d.wl, x ∈ L
  hs : OwnS Esl 1 40 (.slice d.sa d.sl.length d.sc) d.sl d.Ss
  hsx : d.sl.map Sl.xs = d.gl.map Sl.xs
  hsr : ∀ x ∈ d.sl, RdS Eb x.v x.xs d.Sx
  hq : OwnS Eiv 1 135 (.slice d.qa d.ql.length d.qc) d.ql d.So
  hqi : Items d.ql s.q d.Si
def AD.rest (d : AD) : Hp := d.Sf ++ (d.Sa ++ (d.Sc ++ (d.Sg ++ (d.SG ++ (d.Sn ++ (d.SL ++ (d.Sw ++ (d.Ss ++ (d.So ++ (d.Si ++ d.Sx))))))))))
def AD.heap (d : AD) (p : AP) (fs : List FileV) (outs : Int) : Hp := (p.bs, .cells [.slice none 0 0, .pointer none, .pointer none, .pointer none, .slice d.fa fs.length d.fc, .int .i64 p.fail, .int .i64 p.err, .int .i64 0, .int .i64 0, .pointer none, .slice none 0 0, .string ⟨#[]⟩, .bool false, .bool false, .bool false, .bool false, .int .i64 0, .int .i64 outs, .int .i64 d.sum, .slice d.aa d.al.length d.ac, .string ⟨#[]⟩, .slice d.ca d.cl.length d.cc, .slice d.ga d.gl.length d.gc, .slice d.la d.ll.length d.lc, .slice d.wa d.wl.length d.wc, .pointer (some ⟨p.bq, 0, none⟩), .int .i64 p.dur, .slice p.B.a p.B.xs.length p.B.c, .string p.N, .slice d.sa d.sl.length d.sc].toArray 45 (0, 0)) :: (p.bq, .cells [.bool true, .slice d.qa d.ql.length d.qc].toArray 109 (0, 0)) :: d.rest
def AH (p : AP) (fs : List FileV) (L : List (Sl UInt8)) (g0 z : Nat) (s : QW) (S : Hp) : Prop := ∃ d : AD, S.Perm (d.heap p fs (s.outs : Nat)) ∧ d.Ok p fs L g0 z s
/-- what the files and the texts are that come out of the scripts -/
structure APre (p : AP) (fs : List FileV) (L : List (Sl UInt8)) (g0 z : Nat) : Prop where
  fb : ∀ f ∈ fs, f.b.xs.length ≤ 1048576
  fL : ∀ f ∈ fs, f.b ∈ L
  BL : p.B ∈ L
  B : p.B.xs.length ≤ 1048576
  g : g0 ≤ 16777216
  z : z ≤ 16777216
theorem aR_fn (p : AP) (fs : List FileV) (L : List (Sl UInt8)) (g0 z : Nat) (hP : APre p fs L g0 z) (s : QW) (S : Hp) (n : ByteArray) (hs : AH p fs L g0 z s S) (hk : qKR s n) :
    HL.Fn Tryd.prog 49 ([.pointer (some ⟨p.bs, 0, none⟩)] ++ [.string n] ++ []) (OldL L S) S (fun v S' => ∃ a c b, v = .slice a b.length c ∧ RdS Eb (.slice a b.length c) b S' ∧ (b = (qR fs s n).1 ∧ AH p fs L g0 z (qR fs s n).2 S')) := by
  obtain ⟨d, hp, ok⟩ := hs
  have hk' := hk.1
  have hcl := ok.hci.len
  have hsum := ok.hsum
  have hz := hP.z
  have hlw : d.wl.length = d.ll.length := by have := congrArg List.length ok.hwx; simpa using this
  have h1 := (sread_fn p.bs (.slice none 0 0) (.pointer none) (.pointer none) (.int .i64 p.fail) (.int .i64 p.err) (.int .i64 0) (.int .i64 0) (.pointer none) (.slice none 0 0) (.string ⟨#[]⟩) (.bool false) (.bool false) (.bool false) (.int .i64 0) (.int .i64 (s.outs : Nat)) (.slice d.aa d.al.length d.ac) (.string ⟨#[]⟩) (.slice d.ga d.gl.length d.gc) (.pointer (some ⟨p.bq, 0, none⟩)) (.int .i64 p.dur) (.slice p.B.a p.B.xs.length p.B.c) (.string p.N) (.slice d.sa d.sl.length d.sc) d.fa d.fc fs d.Sf ok.hf hP.fb d.ca d.cc d.cl d.Sc ok.hc (by omega) d.sum (by omega) d.la d.wa d.lc d.wc d.ll d.wl d.Sn d.Sw ok.hl ok.hw ok.hll hlw n).frame (R := (p.bq, .cells [.bool true, .slice d.qa d.ql.length d.qc].toArray 109 (0, 0)) :: (d.Sa ++ (d.Sg ++ (d.SG ++ (d.SL ++ (d.Ss ++ (d.So ++ (d.Si ++ d.Sx))))))))
  have hpm : ((p.bs, .cells [.slice none 0 0, .pointer none, .pointer none, .pointer none, .slice d.fa fs.length d.fc, .int .i64 p.fail, .int .i64 p.err, .int .i64 0, .int .i64 0, .pointer none, .slice none 0 0, .string ⟨#[]⟩, .bool false, .bool false, .bool false, .bool false, .int .i64 0, .int .i64 (s.outs : Nat), .int .i64 d.sum, .slice d.aa d.al.length d.ac, .string ⟨#[]⟩, .slice d.ca d.cl.length d.cc, .slice d.ga d.gl.length d.gc, .slice d.la d.ll.length d.lc, .slice d.wa d.wl.length d.wc, .pointer (some ⟨p.bq, 0, none⟩), .int .i64 p.dur, .slice p.B.a p.B.xs.length p.B.c, .string p.N, .slice d.sa d.sl.length d.sc].toArray 45 (0, 0)) :: (d.Sf ++ (d.Sc ++ (d.Sn ++ d.Sw))) ++ ((p.bq, .cells [.bool true, .slice d.qa d.ql.length d.qc].toArray 109 (0, 0)) :: (d.Sa ++ (d.Sg ++ (d.SG ++ (d.SL ++ (d.Ss ++ (d.So ++ (d.Si ++ d.Sx))))))))).Perm S := by
    refine List.Perm.trans ?_ hp.symm
    rw [List.cons_append]
    refine List.Perm.cons _ ?_
    classical exact List.perm_iff_count.2 fun x => by simp only [AD.rest, List.count_append, List.count_cons]; omega
  have h2 := h1.has (pre' := OldL L S) (fun w h hS q hq => by
    obtain ⟨f, hf, rfl⟩ := List.mem_map.1 hq
    exact (OldL.sub h (fun x hx => hpm.mem_iff.1 (List.mem_append_left _ hx))) _ (hP.fL f hf))
  refine (h2.perm hpm).weaken (fun _ h => h) fun v S' hv => ?_
  obtain ⟨S1, rfl, a', c', a2, c2, ca', cc', Sc', la', lc', ll', wa', wc', wl', Sn', Sw', Sx', Sy', rfl, rfl, hlp, hc', hr2, hr, hst⟩ := hv
  have hlk := look_len (n := n) hP.fb
  have hci' : ∀ {R : Hp}, HIn Sx' R → HIn d.Sx R → CallsIn (d.cl ++ [(⟨3, n, ⟨a2, c2, []⟩⟩ : CallV)]) (s.calls ++ [⟨3, n, []⟩]) R := fun h1 h2 => by
    refine ⟨by simp [ok.hci.abs, CallV.abs], fun c hc => ?_⟩
    rcases List.mem_append.1 hc with hc | hc
    · exact (ok.hci.rd c hc).mono h2
    · have e := List.mem_singleton.1 hc
      subst e
      exact hr2.mono h1
  refine ⟨a', c', _, rfl, hr.mono (hin_sub hzB), rfl, ?_⟩
  rcases hst with ⟨rfl, rfl⟩ | ⟨q, ⟨f, hf, rfl⟩, hqx, rfl, rfl, hyo⟩
  · refine ⟨{ d with sum := d.sum + 1 + ([] : List UInt8).length, ca := ca', cc := cc', cl := d.cl ++ [(⟨3, n, ⟨a2, c2, []⟩⟩ : CallV)], Sc := Sc', la := la', lc := lc', Sn := Sn', wa := wa', wc := wc', Sw := Sw', Sx := d.Sx ++ (Sx' ++ Sy') }, ?_, ?_⟩
    · rw [List.cons_append]
      refine List.Perm.cons _ ?_
      classical exact List.perm_iff_count.2 fun x => by simp only [AD.rest, List.count_append, List.count_cons]; omega
    · exact ⟨ok.hf, by simp only [qR, List.length_append, List.length_nil, List.length_singleton]; omega, ok.ha, ok.hal, hc', hci' (fun q hq => HIn.appR q (HIn.appL q hq)) HIn.appL, ok.hg, ok.hgo, ok.hgl, ok.hgb, hlp.1, ok.hlo, ok.hll, ok.hlb, hlp.2.1, ok.hwx, ok.hwL, ok.hs, ok.hsx, fun x hx => (ok.hsr x hx).mono HIn.appL, ok.hq, ok.hqi⟩
  · refine ⟨{ d with sum := d.sum + 1 + ([] : List UInt8).length, ca := ca', cc := cc', cl := d.cl ++ [(⟨3, n, ⟨a2, c2, []⟩⟩ : CallV)], Sc := Sc', la := la', lc := lc', ll := d.ll ++ [⟨a', (look fs n).length + 64, look fs n⟩], Sn := Sn', SL := d.SL ++ Sy', wa := wa', wc := wc', wl := d.wl ++ [f.b], Sw := Sw', Sx := d.Sx ++ Sx' }, ?_, ?_⟩
    · rw [List.cons_append]
      refine List.Perm.cons _ ?_
      classical exact List.perm_iff_count.2 fun x => by simp only [AD.rest, List.count_append, List.count_cons]; omega
    · exact ⟨ok.hf, by simp only [qR, List.length_append, List.length_nil, List.length_singleton]; omega, ok.ha, ok.hal, hc', hci' HIn.appR HIn.appL, ok.hg, ok.hgo, ok.hgl, ok.hgb, hlp.1, ok.hlo.snoc hyo, hlp.2.2.1, fun x hx => (List.mem_append.1 hx).elim (ok.hlb x) (fun e => by rw [List.mem_singleton.1 e]; exact hlk), hlp.2.1, by rw [List.map_append, List.map_append, ok.hwx]; simp [hqx], fun x hx => (List.mem_append.1 hx).elim (ok.hwL x) (fun e => by rw [List.mem_singleton.1 e]; exact hP.fL f hf), ok.hs, ok.hsx, fun x hx => (ok.hsr x hx).mono HIn.appL, ok.hq, ok.hqi⟩
theorem aO_fn (p : AP) (fs : List FileV) (L : List (Sl UInt8)) (g0 z : Nat) (hP : APre p fs L g0 z) (s : QW) (S : Hp) (b : List UInt8) (Sb : Hp) (a : Option Addr) (c : Nat) (hs : AH p fs L g0 z s S) (hb : OwnS Eb 1 5 (.slice a b.length c) b Sb) (hk : qKO s b) :
    HL.Fn Tryd.prog 50 ([.pointer (some ⟨p.bs, 0, none⟩)] ++ [.slice a b.length c] ++ []) (OldL L (S ++ Sb)) (S ++ Sb) (fun v S' => v = .int .i64 (qO p.fail p.err p.dur p.B.xs p.N s b).1 ∧ AH p fs L g0 z (qO p.fail p.err p.dur p.B.xs p.N s b).2 S') := by
  obtain ⟨d, hp, ok⟩ := hs
  obtain ⟨hk1, hk2, hk3, hk4⟩ := hk
  have hcl := ok.hci.len
  have hsum := ok.hsum
  have hal := ok.hal
  have hgl := ok.hgl
  have hgs : d.sl.length = d.gl.length := by have := congrArg List.length ok.hsx; simpa using this
  have hqn := ok.hqi.len
  have hz := hP.z
  have hg0 := hP.g
  have h1 := (sout_fn p.bs (.slice none 0 0) (.pointer none) (.pointer none) (.slice d.fa fs.length d.fc) (.int .i64 0) (.slice none 0 0) (.string ⟨#[]⟩) (.bool false) (.bool false) (.int .i64 0) (.string ⟨#[]⟩) (.slice d.la d.ll.length d.lc) (.slice d.wa d.wl.length d.wc) d.aa d.ac d.al d.Sa ok.ha d.ga d.gc d.gl d.Sg ok.hg (by omega) p.fail p.err (s.outs : Nat) (by omega) d.ca d.cc d.cl d.Sc ok.hc (by omega) d.sum (by omega) a c b Sb hb (by omega) d.sa d.sc d.sl d.Ss ok.hs (by omega) p.bq p.dur p.B.a p.B.c p.B.xs p.N d.qa d.qc d.ql d.So ok.hq (by omega)).frame (R := d.Sf ++ (d.SG ++ (d.Sn ++ (d.SL ++ (d.Sw ++ (d.Si ++ d.Sx))))))
  have hpm : ((p.bs, .cells [.slice none 0 0, .pointer none, .pointer none, .pointer none, .slice d.fa fs.length d.fc, .int .i64 p.fail, .int .i64 p.err, .int .i64 0, .int .i64 0, .pointer none, .slice none 0 0, .string ⟨#[]⟩, .bool false, .bool false, .bool false, .bool false, .int .i64 0, .int .i64 (s.outs : Nat), .int .i64 d.sum, .slice d.aa d.al.length d.ac, .string ⟨#[]⟩, .slice d.ca d.cl.length d.cc, .slice d.ga d.gl.length d.gc, .slice d.la d.ll.length d.lc, .slice d.wa d.wl.length d.wc, .pointer (some ⟨p.bq, 0, none⟩), .int .i64 p.dur, .slice p.B.a p.B.xs.length p.B.c, .string p.N, .slice d.sa d.sl.length d.sc].toArray 45 (0, 0)) :: (p.bq, .cells [.bool true, .slice d.qa d.ql.length d.qc].toArray 109 (0, 0)) :: (d.Sa ++ (d.Sc ++ (d.Sg ++ (d.Ss ++ (d.So ++ Sb))))) ++ (d.Sf ++ (d.SG ++ (d.Sn ++ (d.SL ++ (d.Sw ++ (d.Si ++ d.Sx))))))).Perm (S ++ Sb) := by
    refine List.Perm.trans ?_ (hp.append_right Sb).symm
    simp only [AD.heap, List.cons_append]
    refine List.Perm.cons _ (List.Perm.cons _ ?_)
    classical exact List.perm_iff_count.2 fun x => by simp only [AD.rest, List.count_append, List.count_cons]; omega
  have h2 := h1.has (pre' := OldL L (S ++ Sb)) (fun w h hS => (OldL.sub h (fun x hx => hpm.mem_iff.1 (List.mem_append_left _ hx))) _ hP.BL)
  refine (h2.perm hpm).weaken (fun _ h => h) fun v S' hv => ?_
  obtain ⟨S1, rfl, rfl, a1, c1, aa', ac', ca', cc', ga', gc', sa', sc', a2, c2, qa', qc', ql', Sa', Sc', Sg', Ss', So', St, Sx', Sz', rfl, ha', hc', hg', hs', hr1, hr2, hq', hpu⟩ := hv
  have hci' : ∀ {R : Hp}, HIn Sx' R → HIn d.Sx R → CallsIn (d.cl ++ [(⟨1, ⟨#[]⟩, ⟨a1, c1, b⟩⟩ : CallV)]) (s.calls ++ [⟨1, ⟨#[]⟩, b⟩]) R := fun h1 h2 => by
    refine ⟨by simp [ok.hci.abs, CallV.abs], fun c hc => ?_⟩
    rcases List.mem_append.1 hc with hc | hc
    · exact (ok.hci.rd c hc).mono h2
    · have e := List.mem_singleton.1 hc
      subst e
      exact hr1.mono h1
  have hgo := OwnL.snoc (s := (⟨a, c, b⟩ : Sl UInt8)) ok.hgo hb
  have hsr' : ∀ {R : Hp}, HIn Sz' R → HIn d.Sx R → ∀ x ∈ d.sl ++ [(⟨a2, c2, b⟩ : Sl UInt8)], RdS Eb x.v x.xs R := fun h1 h2 x hx => by
    rcases List.mem_append.1 hx with hx | hx
    · exact (ok.hsr x hx).mono h2
    · have e := List.mem_singleton.1 hx
      subst e
      exact hr2.mono h1
  have hgb' : ∀ x ∈ d.gl ++ [(⟨a, c, b⟩ : Sl UInt8)], x.xs.length ≤ 1048577 := fun x hx => (List.mem_append.1 hx).elim (ok.hgb x) (fun e => by rw [List.mem_singleton.1 e]; exact hk2)
  have hgx : (d.sl ++ [(⟨a2, c2, b⟩ : Sl UInt8)]).map Sl.xs = (d.gl ++ [(⟨a, c, b⟩ : Sl UInt8)]).map Sl.xs := by rw [List.map_append, List.map_append, ok.hsx]; rfl
  have hgo' : OwnL Eb 1 5 (d.gl ++ [(⟨a, c, b⟩ : Sl UInt8)]) ((d.gl ++ [(⟨a, c, b⟩ : Sl UInt8)]).map Sl.xs) (d.SG ++ Sb) := by rw [List.map_append]; exact hgo
  rcases hpu with ⟨hno, rfl⟩ | ⟨hyes, at_, ct, rfl, hto⟩
  · refine ⟨rfl, { d with sum := d.sum + 1 + b.length, aa := aa', ac := ac', al := d.al ++ b, Sa := Sa', ca := ca', cc := cc', cl := d.cl ++ [(⟨1, ⟨#[]⟩, ⟨a1, c1, b⟩⟩ : CallV)], Sc := Sc', ga := ga', gc := gc', gl := d.gl ++ [(⟨a, c, b⟩ : Sl UInt8)], Sg := Sg', SG := d.SG ++ Sb, sa := sa', sc := sc', sl := d.sl ++ [(⟨a2, c2, b⟩ : Sl UInt8)], Ss := Ss', qa := qa', qc := qc', So := So', Sx := d.Sx ++ (St ++ (Sx' ++ Sz')) }, ?_, ?_⟩
    · rw [List.cons_append]
      refine List.Perm.cons _ ?_
      classical exact List.perm_iff_count.2 fun x => by simp only [AD.rest, List.count_append, List.count_cons]; omega
    · refine ⟨ok.hf, by simp only [qO, List.length_append, List.length_singleton]; omega, ha', by simp only [qO, List.length_append]; omega, hc', hci' (fun q hq => HIn.appR q (HIn.appR q (HIn.appL q hq))) HIn.appL, hg', hgo', by simp only [qO, List.length_append, List.length_singleton]; omega, hgb', ok.hl, ok.hlo, ok.hll, ok.hlb, ok.hw, ok.hwx, ok.hwL, hs', hgx, hsr' (fun q hq => HIn.appR q (HIn.appR q (HIn.appR q hq))) HIn.appL, hq', ?_⟩
      simp only [qO, if_neg hno]
      exact ok.hqi
  · refine ⟨rfl, { d with sum := d.sum + 1 + b.length, aa := aa', ac := ac', al := d.al ++ b, Sa := Sa', ca := ca', cc := cc', cl := d.cl ++ [(⟨1, ⟨#[]⟩, ⟨a1, c1, b⟩⟩ : CallV)], Sc := Sc', ga := ga', gc := gc', gl := d.gl ++ [(⟨a, c, b⟩ : Sl UInt8)], Sg := Sg', SG := d.SG ++ Sb, sa := sa', sc := sc', sl := d.sl ++ [(⟨a2, c2, b⟩ : Sl UInt8)], Ss := Ss', qa := qa', qc := qc', ql := (d.ql ++ [(⟨141, .slice at_ p.B.xs.length ct⟩ : IV)]) ++ [(⟨133, .string p.N⟩ : IV)], So := So', Si := St ++ d.Si, Sx := d.Sx ++ (Sx' ++ Sz') }, ?_, ?_⟩
    · rw [List.cons_append]
      refine List.Perm.cons _ ?_
      classical exact List.perm_iff_count.2 fun x => by simp only [AD.rest, List.count_append, List.count_cons]; omega
    · refine ⟨ok.hf, by simp only [qO, List.length_append, List.length_singleton]; omega, ha', by simp only [qO, List.length_append]; omega, hc', hci' (fun q hq => HIn.appR q (HIn.appL q hq)) HIn.appL, hg', hgo', by simp only [qO, List.length_append, List.length_singleton]; omega, hgb', ok.hl, ok.hlo, ok.hll, ok.hlb, ok.hw, ok.hwx, ok.hwL, hs', hgx, hsr' (fun q hq => HIn.appR q (HIn.appR q hq)) HIn.appL, hq', ?_⟩
      simp only [qO, if_pos hyes]
      have h3 := (ok.hqi.text hto).file (n := p.N)
      rw [show s.q ++ [QI.text p.B.xs] ++ [QI.file p.N] = s.q ++ [QI.text p.B.xs, QI.file p.N] by simp] at h3
      exact h3
end Go.Proofs.YtmmajabfmhipeaaDoor
namespace Go.Tab
open Go Go.HL
theorem applyT_take {t xs : List UInt8} {j : Nat} (h : j < xs.length) : (applyT t xs).take j ++ [at0 t (at0 xs j).toNat] = (applyT t xs).take (j + 1) := by
  rw [List.take_add_one]
  have : (applyT t xs)[j]? = some (at0 t (at0 xs j).toNat) := by simp [applyT, List.getElem?_range h]
  rw [this]; rfl
end Go.Tab
namespace Go.Proofs.YtmmajabfmhipeaaDoor
open Go Go.HL Go.Proofs Go.Tab
theorem rApply_fn (b1 o1 : Nat) (a : Option Addr) (c : Nat) (t xs : List UInt8) (ht : t.length = 256) (hn : xs.length ≤ 2147483647) : HL.Fn Tryd.prog 32 [.pointer (some ⟨b1, o1, none⟩), .slice a xs.length c] (fun w => RdP w b1 o1 (flat Eb t) ∧ Rd Eb w (.slice a xs.length c) xs) [] (fun v S' => ∃ a' c', v = .slice a' (applyT t xs).length c' ∧ OwnS Eb 1 5 (.slice a' (applyT t xs).length c') (applyT t xs) S') := by
  refine fn_of Tryd.func32 rfl rfl rfl fun w0 hw => ?_
  obtain ⟨h1, h2⟩ := hw
  have hsx := h2.sl
  have hbx := hsx.le
  refine c_seq fun _ hK1 => ?_
  refine c_region ?_
  refine o_step rfl (s_assign rfl) ?_
  refine o_nil ?_
  refine x_then (hK1 _ _ ?_)
  refine c_seq fun _ hK2 => ?_
  refine c_region ?_
  refine o_step rfl (s_assign rfl) ?_
  refine o_nil ?_
  refine x_then (hK2 _ _ ?_)
  refine c_seq fun _ hK3 => ?_
  refine c_seq fun _ hK4 => ?_
  refine c_region ?_
  refine o_step rfl (s_assign rfl) ?_
  refine o_nil ?_
  refine x_then (hK4 _ _ ?_)
  refine c_block ?_
  refine c_loop3 (fun (j : Nat) (q : Sl UInt8) (S : Hp) => j ≤ xs.length ∧ q.xs = (applyT t xs).take j ∧ OwnS Eb 1 5 (.slice q.a q.xs.length q.c) q.xs S) (fun (j : Nat) (q : Sl UInt8) (S : Hp) => [(6, .int .i64 j), (5, .slice q.a q.xs.length q.c)]) [(0, _), (1, _), (4, _)] (fun (j : Nat) (q : Sl UInt8) (S : Hp) => S) (fun (j : Nat) (q : Sl UInt8) (S : Hp) => xs.length - j) 0 ⟨none, 0, []⟩ [] ⟨by omega, rfl, .nil⟩ sbA sbA hzB ?_
  rintro j q S ⟨hj, hq, hS⟩
  have hql : q.xs.length = j := by rw [hq, List.length_take, applyT_len]; omega
  refine c_seq fun _ hK5 => ?_
  refine c_seq fun _ hK6 => ?_
  refine c_region ?_
  refine o_step rfl (s_move rfl) ?_
  refine o_step rfl (s_move rfl) ?_
  refine o_step rfl (s_len rfl) ?_
  by_cases hjl : j < xs.length
  ·
   have hb := byte_lt (at0 xs j)
   have hbn := UInt8.toNat_lt (at0 xs j)
   refine o_step rfl (step_cast (v' := .bool true) (s_lss rfl rfl) (by rw [decide_eq_true (by omega)])) ?_
   refine o_step rfl (s_move rfl) ?_
   refine o_yes rfl rfl ?_
   refine o_step rfl (s_move rfl) ?_
   refine o_yes rfl rfl ?_
   refine o_step rfl (step_cast (v' := .bool true) (s_neq_nilp rfl rfl) rfl) ?_
   refine o_step rfl (s_pick_t rfl rfl) ?_
   refine o_nil ?_
   refine x_then (hK6 _ _ ?_)
   refine c_true rfl ?_
   refine c_skip ?_
   refine x_then (hK5 _ _ ?_)
   refine c_seq fun _ hK7 => ?_
   refine c_block ?_
   refine c_drawE ([]) (fun i => false) ?_
   refine e_take 0 rfl (by kernel_rfl) (by kernel_rfl) (by kernel_rfl) (by kernel_rfl) (fun _ _ => rfl) rfl (by exact HSub.nil) (s_move rfl) ?_
   refine e_take 1 rfl (by kernel_rfl) (by kernel_rfl) (by kernel_rfl) (by kernel_rfl) (fun _ _ => rfl) rfl (by exact HSub.nil) (s_move rfl) ?_
   refine e_take 2 rfl (by kernel_rfl) (by kernel_rfl) (by kernel_rfl) (by kernel_rfl) (fun _ _ => rfl) rfl (by exact HSub.nil) (s_move rfl) ?_
   refine e_take 3 rfl (by kernel_rfl) (by kernel_rfl) (by kernel_rfl) (by kernel_rfl) (fun _ _ => rfl) rfl (by exact HSub.nil) (s_move rfl) ?_
   refine e_take 4 rfl (by kernel_rfl) (by kernel_rfl) (by kernel_rfl) (by kernel_rfl) (fun _ _ => rfl) rfl (by exact HSub.nil) (s_idx rfl rfl hsx (by omega)) ?_
   refine e_take 5 rfl (by kernel_rfl) (by kernel_rfl) (by kernel_rfl) (by kernel_rfl) (fun _ _ => rfl) rfl (by exact HSub.nil) (s_ld rfl ((RdK.old0 h2).ld j 0 (at0_get (by omega)) rfl (by decide) (by omega))) ?_
   refine e_take 6 rfl (by kernel_rfl) (by kernel_rfl) (by kernel_rfl) (by kernel_rfl) (fun _ _ => rfl) rfl (by exact HSub.nil) (s_nil rfl) ?_
   refine e_take 7 rfl (by kernel_rfl) (by kernel_rfl) (by kernel_rfl) (by kernel_rfl) (fun _ _ => rfl) rfl (by exact HSub.nil) (s_indexA rfl rfl (by omega)) ?_
   refine e_take 8 rfl (by kernel_rfl) (by kernel_rfl) (by kernel_rfl) (by kernel_rfl) (fun _ _ => rfl) rfl (by exact HSub.nil) (s_ld rfl ((RdPK.old0 h1).cel (j := (at0 xs j).toNat) (flatEb_get (at0_get (by omega))) (by omega))) ?_
   refine e_one 9 rfl (by kernel_rfl) ?_
   refine o_bs (E := Eb) (xs := [at0 t (at0 xs j).toNat]) (vs := [_]) rfl rfl rfl rfl rfl (by decide) (by decide) fun b26 S26 hS26 => ?_
   refine o_nil ?_
   refine x_oneS (by exact HSub.nil) ?_
   refine e_one 10 rfl (by kernel_rfl) ?_
   refine o_app hS (hS26.rdk hiA) rfl rfl rfl rfl (by simp only [List.length_singleton]; omega) (by simp only [List.length_singleton]; omega) rfl pkA fun a27 c27 S27 hS27 => ?_
   refine o_nil ?_
   refine x_oneS (by exact HSub.nil) ?_
   refine e_one 11 rfl (by kernel_rfl) ?_
   refine o_step rfl (s_assign rfl) ?_
   refine o_nil ?_
   refine x_oneS (by exact HSub.nil) ?_
   refine e_done (by kernel_rfl) ?_
   refine x_block ?_
   refine x_then (hK7 _ _ ?_)
   refine c_region ?_
   refine o_step rfl (s_move rfl) ?_
   refine o_step rfl (s_add rfl rfl (by omega)) ?_
   refine o_step rfl (s_assign rfl) ?_
   refine o_nil ?_
   exact x_then (x_inv (j + 1, ⟨a27, c27, q.xs ++ [at0 t (at0 xs j).toNat]⟩, S27) ⟨by omega, by rw [hq, applyT_take hjl], hS27⟩ (by first | omega | (dsimp only; omega)) sbA hzB)
  ·
   refine o_step rfl (step_cast (v' := .bool false) (s_lss rfl rfl) (by rw [decide_eq_false (by omega)])) ?_
   refine o_step rfl (s_move rfl) ?_
   refine o_no rfl rfl rfl rfl ?_
   refine o_no rfl rfl rfl rfl ?_
   refine o_step rfl (s_pick_f rfl rfl) ?_
   refine o_nil ?_
   refine x_then (hK6 _ _ ?_)
   refine c_false rfl ?_
   refine c_exit ?_
   refine x_then_exit ?_
   refine x_then_exit ?_
   refine x_block_exit ?_
   refine x_then (hK3 _ _ ?_)
   refine c_seq fun _ hK8 => ?_
   refine c_region ?_
   refine o_step rfl (s_move rfl) ?_
   refine o_step rfl (s_assign rfl) ?_
   refine o_nil ?_
   refine x_then (hK8 _ _ ?_)
   refine c_ret ?_
   refine ?_
   have hqe : q.xs = applyT t xs := by rw [hq]; exact List.take_of_length_le (by rw [applyT_len]; omega)
   exact x_ret rfl (.tmp rfl (.nil)) (⟨_, _, by rw [hqe]; rfl, by rw [← hqe]; exact hS⟩)
theorem rThen_fn (b1 o1 b2 o2 : Nat) (t u : List UInt8) (ht : t.length = 256) (hu : u.length = 256) : HL.Fn Tryd.prog 38 [.pointer (some ⟨b1, o1, none⟩), .pointer (some ⟨b2, o2, none⟩)] (fun w => RdP w b1 o1 (flat Eb t) ∧ RdP w b2 o2 (flat Eb u)) [] (fun v _ => v = .agg (flat Eb (thenT t u)).toArray) := by
  refine fn_of Tryd.func38 rfl rfl rfl fun w0 hw => ?_
  obtain ⟨h1, h2⟩ := hw
  refine c_seq fun _ hK1 => ?_
  refine c_region ?_
  refine o_alloc rfl rfl fun b4 => ?_
  refine o_nil ?_
  refine x_then (hK1 _ _ ?_)
  refine c_seq fun _ hK2 => ?_
  refine c_region ?_
  refine o_alloc rfl rfl fun b5 => ?_
  refine o_nil ?_
  refine x_then (hK2 _ _ ?_)
  refine c_seq fun _ hK3 => ?_
  refine c_seq fun _ hK4 => ?_
  refine c_region ?_
  refine o_step rfl (s_assign rfl) ?_
  refine o_nil ?_
  refine x_then (hK4 _ _ ?_)
  refine c_block ?_
  refine c_loop2 (fun (j : Nat) (l : List UInt8) => j ≤ 256 ∧ Fill (fun i => at0 u (at0 t i).toNat) 256 j l) (fun (j : Nat) (l : List UInt8) => [(6, .int .i64 j)]) [(0, _), (1, _), (4, _), (5, _)] (fun (j : Nat) (l : List UInt8) => [(b5, .cells (flat Eb l).toArray 96 (0, 0)), (b4, .cells (List.replicate 256 (.int .u8 0)).toArray 96 (0, 0))]) (fun (j : Nat) (l : List UInt8) => 256 - j) 0 zT ⟨by omega, .zero zT_len⟩ sbA sbA (by rw [zT, flatEb_zeros]; exact HSub.refl _) ?_
  rintro j l ⟨hj, hl⟩
  have hll := hl.len
  refine c_seq fun _ hK5 => ?_
  refine c_seq fun _ hK6 => ?_
  refine c_region ?_
  refine o_step rfl (s_move rfl) ?_
  by_cases hlt : j < 256
  ·
   have hb := byte_lt (at0 t j)
   refine o_step rfl (step_cast (v' := .bool true) (s_lss rfl rfl) (by rw [decide_eq_true (by omega)])) ?_
   refine o_step rfl (s_move rfl) ?_
   refine o_yes rfl rfl ?_
   refine o_step rfl (s_move rfl) ?_
   refine o_yes rfl rfl ?_
   refine o_step rfl (step_cast (v' := .bool true) (s_neq_nilp rfl rfl) rfl) ?_
   refine o_step rfl (s_pick_t rfl rfl) ?_
   refine o_step rfl (s_move rfl) ?_
   refine o_yes rfl rfl ?_
   refine o_step rfl (s_move rfl) ?_
   refine o_yes rfl rfl ?_
   refine o_step rfl (step_cast (v' := .bool true) (s_neq_nilp rfl rfl) rfl) ?_
   refine o_step rfl (s_pick_t rfl rfl) ?_
   refine o_nil ?_
   refine x_then (hK6 _ _ ?_)
   refine c_true rfl ?_
   refine c_skip ?_
   refine x_then (hK5 _ _ ?_)
   refine c_seq fun _ hK7 => ?_
   refine c_block ?_
   refine c_drawE ([(b5, .cells (flat Eb l).toArray 96 (0, 0)), (b4, .cells (List.replicate 256 (.int .u8 0)).toArray 96 (0, 0))]) (fun i => Nat.beq i 11) ?_
   refine e_take 0 rfl (by kernel_rfl) (by kernel_rfl) (by kernel_rfl) (by kernel_rfl) (fun _ _ => rfl) rfl hzB (s_move rfl) ?_
   refine e_take 1 rfl (by kernel_rfl) (by kernel_rfl) (by kernel_rfl) (by kernel_rfl) (fun _ _ => rfl) rfl hzB (s_move rfl) ?_
   refine e_take 2 rfl (by kernel_rfl) (by kernel_rfl) (by kernel_rfl) (by kernel_rfl) (fun _ _ => rfl) rfl hzB (s_move rfl) ?_
   refine e_take 3 rfl (by kernel_rfl) (by kernel_rfl) (by kernel_rfl) (by kernel_rfl) (fun _ _ => rfl) rfl hzB (s_move rfl) ?_
   refine e_take 4 rfl (by kernel_rfl) (by kernel_rfl) (by kernel_rfl) (by kernel_rfl) (fun _ _ => rfl) rfl hzB (s_nil rfl) ?_
   refine e_take 5 rfl (by kernel_rfl) (by kernel_rfl) (by kernel_rfl) (by kernel_rfl) (fun _ _ => rfl) rfl hzB (s_indexA rfl rfl (by omega)) ?_
   refine e_take 6 rfl (by kernel_rfl) (by kernel_rfl) (by kernel_rfl) (by kernel_rfl) (fun _ _ => rfl) rfl hzB (s_ld rfl ((RdPK.old0 h1).cel (j := j) (flatEb_get (at0_get (by omega))) (by omega))) ?_
   refine e_take 7 rfl (by kernel_rfl) (by kernel_rfl) (by kernel_rfl) (by kernel_rfl) (fun _ _ => rfl) rfl hzB (s_nil rfl) ?_
   refine e_take 8 rfl (by kernel_rfl) (by kernel_rfl) (by kernel_rfl) (by kernel_rfl) (fun _ _ => rfl) rfl hzB (s_indexA rfl rfl (by omega)) ?_
   refine e_take 9 rfl (by kernel_rfl) (by kernel_rfl) (by kernel_rfl) (by kernel_rfl) (fun _ _ => rfl) rfl hzB (s_ld rfl ((RdPK.old0 h2).cel (j := (at0 t j).toNat) (flatEb_get (at0_get (by omega))) (by omega))) ?_
   refine e_take 10 rfl (by kernel_rfl) (by kernel_rfl) (by kernel_rfl) (by kernel_rfl) (fun _ _ => rfl) rfl hzB (s_indexA rfl rfl (by omega)) ?_
   refine e_one 11 rfl (by kernel_rfl) ?_
   refine o_stB (l := l) (i := j) (at0 u (at0 t j).toNat) rfl rfl (by omega) (by omega) upA ?_
   refine o_nil ?_
   refine x_oneL rfl ?_
   refine e_done (by kernel_rfl) ?_
   refine x_block ?_
   refine x_then (hK7 _ _ ?_)
   refine c_region ?_
   refine o_step rfl (s_move rfl) ?_
   refine o_step rfl (s_add rfl rfl (by omega)) ?_
   refine o_step rfl (s_assign rfl) ?_
   refine o_nil ?_
   exact x_then (x_inv (j + 1, _) ⟨by omega, hl.step (by omega) rfl⟩ (by first | omega | (dsimp only; omega)) sbA hzB)
  ·
   have hd := fill_then hl (by omega)
   subst hd
   refine o_step rfl (step_cast (v' := .bool false) (s_lss rfl rfl) (by rw [decide_eq_false (by omega)])) ?_
   refine o_step rfl (s_move rfl) ?_
   refine o_no rfl rfl rfl rfl ?_
   refine o_no rfl rfl rfl rfl ?_
   refine o_step rfl (s_pick_f rfl rfl) ?_
   refine o_step rfl (s_move rfl) ?_
   refine o_no rfl rfl rfl rfl ?_
   refine o_no rfl rfl rfl rfl ?_
   refine o_step rfl (s_pick_f rfl rfl) ?_
   refine o_nil ?_
   refine x_then (hK6 _ _ ?_)
   refine c_false rfl ?_
   refine c_exit ?_
   refine x_then_exit ?_
   refine x_then_exit ?_
   refine x_block_exit ?_
   refine x_then (hK3 _ _ ?_)
   refine c_seq fun _ hK8 => ?_
   refine c_region ?_
   refine o_step rfl (s_ldB rfl (RdPK.cels (.own meA)) lnA) ?_
   refine o_stW rfl rfl upA lnA lnA (by first | exact flat_one _ _ | exact one_rep rfl | (simp [Value.oneCell']; done)) ?_
   refine o_nil ?_
   refine x_then (hK8 _ _ ?_)
   refine c_ret ?_
   refine ?_
   exact x_ret rfl (.agg inferInstance inferInstance rfl (RdPK.cels (.own meA)) lnA (.nil)) (rfl)
theorem rPrint_fn (b1 o1 : Nat) (t : List UInt8) (ht : t.length = 256) : HL.Fn Tryd.prog 36 [.pointer (some ⟨b1, o1, none⟩)] (fun w => RdP w b1 o1 (flat Eb t)) [] (fun v S' => ∃ a c a' c' S1 S2, v = .tuple #[.slice a (pF t 256).length c, .slice a' (pT t 256).length c'] ∧ S' = S1 ++ S2 ∧ OwnS Eb 1 5 (.slice a (pF t 256).length c) (pF t 256) S1 ∧ OwnS Eb 1 5 (.slice a' (pT t 256).length c') (pT t 256) S2) := by
  refine fn_of Tryd.func36 rfl rfl rfl fun w0 hw => ?_
  refine c_seq fun _ hK1 => ?_
  refine c_region ?_
  refine o_step rfl (s_assign rfl) ?_
  refine o_step rfl (s_assign rfl) ?_
  refine o_nil ?_
  refine x_then (hK1 _ _ ?_)
  refine c_seq fun _ hK2 => ?_
  refine c_region ?_
  refine o_step rfl (s_assign rfl) ?_
  refine o_step rfl (s_assign rfl) ?_
  refine o_nil ?_
  refine x_then (hK2 _ _ ?_)
  refine c_seq fun _ hK3 => ?_
  refine c_seq fun _ hK4 => ?_
  refine c_region ?_
  refine o_step rfl (s_assign rfl) ?_
  refine o_nil ?_
  refine x_then (hK4 _ _ ?_)
  refine c_block ?_
  refine c_loop7 (fun (j : Nat) (a : Option Addr) (c : Nat) (a2 : Option Addr) (c2 : Nat) (S : Hp) (S2 : Hp) => j ≤ 256 ∧ OwnS Eb 1 5 (.slice a (pF t j).length c) (pF t j) S ∧ OwnS Eb 1 5 (.slice a2 (pT t j).length c2) (pT t j) S2) (fun (j : Nat) (a : Option Addr) (c : Nat) (a2 : Option Addr) (c2 : Nat) (S : Hp) (S2 : Hp) => [(4, .slice a (pF t j).length c), (5, .slice a2 (pT t j).length c2), (6, .int .i64 j)]) [(0, _), (2, _), (3, _)] (fun (j : Nat) (a : Option Addr) (c : Nat) (a2 : Option Addr) (c2 : Nat) (S : Hp) (S2 : Hp) => S ++ S2) (fun (j : Nat) (a : Option Addr) (c : Nat) (a2 : Option Addr) (c2 : Nat) (S : Hp) (S2 : Hp) => 256 - j) 0 none 0 none 0 [] [] ⟨by omega, .nil, .nil⟩ sbA sbA (by exact HSub.refl _) ?_
  rintro j a c a2 c2 S S2 ⟨hj, hS, hT⟩
  have hlF := pF_len t j
  have hlT := pT_len t j
  have hlI := pIdx_len t j
  refine c_seq fun _ hK5 => ?_
  refine c_seq fun _ hK6 => ?_
  refine c_region ?_
  refine o_step rfl (s_move rfl) ?_
  by_cases hlt : j < 256
  ·
   refine o_step rfl (step_cast (v' := .bool true) (s_lss rfl rfl) (by rw [decide_eq_true (by omega)])) ?_
   refine o_step rfl (s_move rfl) ?_
   refine o_yes rfl rfl ?_
   refine o_step rfl (s_move rfl) ?_
   refine o_yes rfl rfl ?_
   refine o_step rfl (step_cast (v' := .bool true) (s_neq_nilp rfl rfl) rfl) ?_
   refine o_step rfl (s_pick_t rfl rfl) ?_
   refine o_nil ?_
   refine x_then (hK6 _ _ ?_)
   refine c_true rfl ?_
   refine c_skip ?_
   refine x_then (hK5 _ _ ?_)
   refine c_seq fun _ hK7 => ?_
   refine c_block ?_
   refine c_seq fun _ hK8 => ?_
   refine c_region ?_
   refine o_step rfl (s_move rfl) ?_
   refine o_step rfl (s_move rfl) ?_
   refine o_step rfl (s_nil rfl) ?_
   refine o_step rfl (s_indexA rfl rfl (by omega)) ?_
   refine o_step rfl (s_ld rfl ((RdPK.old0 hw).cel (j := j) (flatEb_get (at0_get (by omega))) (by omega))) ?_
   refine o_step rfl (s_move rfl) ?_
   refine o_step rfl (s_convB rfl) ?_
   refine o_step rfl (s_neq rfl rfl) ?_
   refine o_nil ?_
   refine x_then (hK8 _ _ ?_)
   refine c_if rfl (fun hq => ?_) (fun hq => ?_)
   ·
    have hy : at0 t j ≠ UInt8.ofNat j := fun e => hq (by rw [e])
    refine c_seq fun _ hK9 => ?_
    refine c_region ?_
    refine o_step rfl (s_move rfl) ?_
    refine o_step rfl (s_move rfl) ?_
    refine o_step rfl (s_convB rfl) ?_
    refine o_bs (E := Eb) (xs := [UInt8.ofNat j]) (vs := [_]) rfl rfl rfl rfl rfl (by decide) (by decide) fun b26 S26 hS26 => ?_
    refine o_app hS (hS26.rdk hiA) rfl rfl rfl rfl (by rw [hlF]; show ((pIdx t j).length + 1) * 1 ≤ _; omega) (by rw [hlF]; show (pIdx t j).length + 1 ≤ _; omega) rfl pkA fun a27 c27 S27 hS27 => ?_
    rw [← pF_yes hy] at hS27 ⊢
    refine o_step rfl (s_assign rfl) ?_
    refine o_nil ?_
    refine x_then (hK9 _ _ ?_)
    refine c_region ?_
    refine o_step rfl (s_move rfl) ?_
    refine o_step rfl (s_move rfl) ?_
    refine o_step rfl (s_move rfl) ?_
    refine o_step rfl (s_nil rfl) ?_
    refine o_step rfl (s_indexA rfl rfl (by omega)) ?_
    refine o_step rfl (s_ld rfl ((RdPK.old0 hw).cel (j := j) (flatEb_get (at0_get (by omega))) (by omega))) ?_
    refine o_bs (E := Eb) (xs := [at0 t j]) (vs := [_]) rfl rfl rfl rfl rfl (by decide) (by decide) fun b34 S34 hS34 => ?_
    refine o_app hT (hS34.rdk hiA) rfl rfl rfl rfl (by rw [hlT]; show ((pIdx t j).length + 1) * 1 ≤ _; omega) (by rw [hlT]; show (pIdx t j).length + 1 ≤ _; omega) rfl pkA fun a35 c35 S35 hS35 => ?_
    rw [← pT_yes hy] at hS35 ⊢
    refine o_step rfl (s_assign rfl) ?_
    refine o_nil ?_
    refine x_block ?_
    refine x_then (hK7 _ _ ?_)
    refine c_region ?_
    refine o_step rfl (s_move rfl) ?_
    refine o_step rfl (s_add rfl rfl (by omega)) ?_
    refine o_step rfl (s_assign rfl) ?_
    refine o_nil ?_
    exact x_then (x_inv (j + 1, _, _, _, _, _, _) ⟨by omega, hS27, hS35⟩ (by first | omega | (dsimp only; omega)) sbA hzB)
   ·
    have hno : ¬ at0 t j ≠ UInt8.ofNat j := fun e => hq (fun e2 => e (UInt8.toNat_inj.1 (by omega)))
    refine c_skip ?_
    refine x_block ?_
    refine x_then (hK7 _ _ ?_)
    refine c_region ?_
    refine o_step rfl (s_move rfl) ?_
    refine o_step rfl (s_add rfl rfl (by omega)) ?_
    refine o_step rfl (s_assign rfl) ?_
    refine o_nil ?_
    rw [← pF_no hno] at hS ⊢
    rw [← pT_no hno] at hT ⊢
    exact x_then (x_inv (j + 1, _, _, _, _, _, _) ⟨by omega, hS, hT⟩ (by first | omega | (dsimp only; omega)) sbA hzB)
  ·
   obtain rfl : j = 256 := by omega
   refine o_step rfl (step_cast (v' := .bool false) (s_lss rfl rfl) (by rw [decide_eq_false (by omega)])) ?_
   refine o_step rfl (s_move rfl) ?_
   refine o_no rfl rfl rfl rfl ?_
   refine o_no rfl rfl rfl rfl ?_
   refine o_step rfl (s_pick_f rfl rfl) ?_
   refine o_nil ?_
   refine x_then (hK6 _ _ ?_)
   refine c_false rfl ?_
   refine c_exit ?_
   refine x_then_exit ?_
   refine x_then_exit ?_
   refine x_block_exit ?_
   refine x_then (hK3 _ _ ?_)
   refine c_seq fun _ hK10 => ?_
   refine c_region ?_
   refine o_step rfl (s_move rfl) ?_
   refine o_step rfl (s_move rfl) ?_
   refine o_step rfl (s_assign rfl) ?_
   refine o_step rfl (s_assign rfl) ?_
   refine o_nil ?_
   refine x_then (hK10 _ _ ?_)
   refine c_ret ?_
   refine ?_
   exact x_ret rfl (.tmp rfl (.tmp rfl (.nil))) (⟨_, _, _, _, _, _, rfl, rfl, hS, hT⟩)
end Go.Proofs.YtmmajabfmhipeaaDoor
