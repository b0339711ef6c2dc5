/- What Best and Find answer. Conditions: none. -/
import Derived.Test.YtopmnmigpbdddaaGreatDoorHMZ
import Derived.Test.YtopmnmigpbdddaaGreatDoorMT7Z
import Derived.Test.YtopmnmigpbdddaaGreatDoorHlB
import Derived.Test.YtopmnmigpbdddaaGreatDoorMT3Z
namespace Go.HL.Kl.Mc
open Go Go.HL Go.HL.Kl AskE
structure May (re : List Nd) (w : List UInt8) (x : Nd) (ks : F) : Prop where
  sh : shapedB re = true
  rf : refsB re = false
  hs : Shp re x ks
def CapO (T : Nat) (w : List UInt8) (re : List Nd) (x : Nd) (ks : F) (p q : Nat) (v : Value) (S' : Hp) : Prop := ∃ a cc, v = .tuple #[.slice a (capsV w re x ks p q).length cc, .bool true] ∧ OwnS Esp 2 T (.slice a (capsV w re x ks p q).length cc) (capsV w re x ks p q) S'
def BestP (T : Nat) (re : List Nd) (w : List UInt8) (fr to : Int) (v : Value) (S' : Hp) : Prop :=
  (∃ x ks, ∃ p q : Nat, May re w x ks ∧ fr = p ∧ to = q ∧ p ≤ q ∧ q ≤ w.length ∧ der1 w x ks p q ∧ CapO T w re x ks p q v S') ∨
  ((¬ ∃ x ks, ∃ p q : Nat, May re w x ks ∧ fr = p ∧ to = q ∧ p ≤ q ∧ q ≤ w.length ∧ der1 w x ks p q) ∧ v = .tuple #[.slice none 0 0, .bool false] ∧ S' = [])
structure Lft (w : List UInt8) (x : Nd) (ks : F) (f p q : Nat) : Prop where
  ge : f ≤ p
  le : p ≤ q
  len : q ≤ w.length
  der : der1 w x ks p q
  left : ∀ p' q', f ≤ p' → p' < p → q' ≤ w.length → ¬ der1 w x ks p' q'
  long : ∀ q', q < q' → q' ≤ w.length → ¬ der1 w x ks p q'
def FindP (T : Nat) (re : List Nd) (w : List UInt8) (f : Int) (v : Value) (S' : Hp) : Prop :=
  (∃ x ks, ∃ g p q : Nat, May re w x ks ∧ f = g ∧ Lft w x ks g p q ∧ CapO T w re x ks p q v S') ∨
  ((¬ ∃ x ks, ∃ g p q : Nat, May re w x ks ∧ f = g ∧ g ≤ p ∧ q ≤ w.length ∧ der1 w x ks p q) ∧ v = .tuple #[.slice none 0 0, .bool false] ∧ S' = [])
end Go.HL.Kl.Mc

/- Machines of parts: rows of sets, searched and put together. Conditions: none. -/
namespace Go.HL.Kl.Mc
open Go Go.HL Go.HL.Kl
structure RowsP (rs : List (Sl Bool)) (N : Nat) (D : Nat → Nat → Prop) : Prop where
  len : rs.length = N + 1
  get : ∀ p, p ≤ N → ∃ s, rs[p]? = some s ∧ IsS s.xs N (D p)
structure RowsTo (rs : List (Sl Bool)) (N k : Nat) (D : Nat → Nat → Prop) : Prop where
  len : rs.length = k
  get : ∀ p, p < k → ∃ s, rs[p]? = some s ∧ IsS s.xs N (D p)
structure RdRows (W : World) (v : Value) (rs : List (Sl Bool)) : Prop where
  out : Rd (Esl (α := Bool)) W v rs
  row : ∀ s ∈ rs, Rd Ebo W (.slice s.a s.xs.length s.c) s.xs
/-! a set, added place by place -/
def orTo (a b : List Bool) (i : Nat) : List Bool := (List.range a.length).map fun j => if j < i then orF a b j else bo0 a j
def fromTo (D : Nat → Nat → Prop) (P : Nat → Prop) (k q : Nat) : Prop := ∃ p, p < k ∧ P p ∧ D p q
structure AgP (N : Nat) (D : Nat → Nat → Prop) (p : Nat) (out : List Bool) (todo : List Nat) : Prop where
  len : out.length = N + 1
  me : out[p]? = some true
  sound : ∀ q : Nat, out[q]? = some true → ∃ k, pow D k p q
  td : ∀ t ∈ todo, out[t]? = some true
  closed : ∀ q : Nat, out[q]? = some true → q ∉ todo → ∀ r, r ≤ N → D q r → out[r]? = some true
structure AgK (N : Nat) (D : Nat → Nat → Prop) (p t k : Nat) (out : List Bool) (todo : List Nat) : Prop where
  len : out.length = N + 1
  me : out[p]? = some true
  tt : out[t]? = some true
  sound : ∀ q : Nat, out[q]? = some true → ∃ k, pow D k p q
  td : ∀ t ∈ todo, out[t]? = some true
  closed : ∀ q : Nat, out[q]? = some true → q ∉ todo → q ≠ t → ∀ r, r ≤ N → D q r → out[r]? = some true
  part : ∀ r, r < k → D t r → out[r]? = some true
def mvN (g : Nat) (x : Nd) : Nd := if 0 < x.n then { x with n := IntKind.i64.wrap (x.n + g) } else x
def F.mv (g : Nat) : F → F
  | .nil => .nil
  | .nd x ks r => .nd (mvN g x) (ks.mv g) (r.mv g)
def catN : Nd := ⟨4, 0, 0, 0, 0, 2⟩
def altN : Nd := ⟨5, 0, 0, 0, 0, 2⟩
def twoL (n : Nd) (a b : List Nd) (g : Nat) : List Nd := n :: (a ++ b.map (mvN g))
end Go.HL.Kl.Mc
namespace Go.HL.Kl.Mc
open Go Go.HL Go.HL.Kl
def mvTo (g : Nat) (b : List Nd) (j : Nat) : List Nd := (b.take j).map (mvN g) ++ b.drop j
def RowsC (N : Nat) (D : Nat → Nat → Prop) (v : Value) (S : Hp) : Prop := ∃ (a : Option Addr) (c : Nat) (rs : List (Sl Bool)), v = .slice a rs.length c ∧ RowsP rs N D ∧ ∀ W : World, (∀ b o, (b, o) ∈ S → W.heap[b]? = some o) → RdRows W (.slice a rs.length c) rs
def RdRS (v : Value) (rs : List (Sl Bool)) (S : Hp) : Prop := ∀ W : World, (∀ b o, (b, o) ∈ S → W.heap[b]? = some o) → RdRows W v rs
end Go.HL.Kl.Mc

/- What Compile answers, as a pair; nodes written out. Conditions: none. -/
namespace Go.HL.Kl.Mc
open Go Go.HL Go.HL.Kl
def CompOk (re : List Nd) (sv : Value) (S : Hp) (x : Nd) (ks : F) : Prop := ∃ a, shapedB re = true ∧ refsB re = false ∧ Shp re x ks ∧ sv = .slice a (mach (.nd x ks .nil)).length (mach (.nd x ks .nil)).length ∧ RdS Ein (.slice a (mach (.nd x ks .nil)).length (mach (.nd x ks .nil)).length) (mach (.nd x ks .nil)) S
end Go.HL.Kl.Mc

/- Rows of bytes, so many times. Conditions: none. -/
namespace Go.HL.Kl.Mc
open Go Go.HL Go.HL.Kl
/-! well shaped: forests without groups and references -/
def F.plain : F → Prop
  | .nil => True
  | .nd x ks r => (¬ x.op = 7 ∧ ¬ x.op = 8) ∧ ks.plain ∧ r.plain
theorem shN_full {re : List Nd} : ∀ (f : F) (d g i i' : Nat) (en : List Bool), Part re f i i' → f.depth ≤ d → f.plain → kidsN (fun i en => shN re d i en g) f.num i en = some (i', en)
  | .nil, d, g, i, i', en, h, _, _ => by
    have := h.len
    simp [F.size] at this
    subst this; rfl
  | .nd x ks r, d, g, i, i', en, h, hd, hp => by
    obtain ⟨hx, hk, hr⟩ := h.head
    simp only [F.depth] at hd
    obtain ⟨d', rfl⟩ : ∃ d', d = d' + 1 := ⟨d - 1, by omega⟩
    have hkn : x.kids.toNat = ks.num := by have : (ks.num : Int) = x.kids := h.wf.2.1; omega
    have h1 := shN_full ks d' g (i + 1) _ en hk (by omega) hp.2.1
    have h2 := shN_some hx h.wf.1 (gate_other (en := en) (g := g) hp.1.2 hp.1.1) (by rw [hkn]; exact h1)
    rw [if_neg hp.1.1] at h2
    show (match shN re (d' + 1) i en g with | none => none | some (i', en') => kidsN (fun i en => shN re (d' + 1) i en g) r.num i' en') = _
    rw [h2]
    exact shN_full r (d' + 1) g _ i' en hr (by omega) hp.2.2
theorem Shp.good {re : List Nd} {x : Nd} {ks : F} (h : Shp re x ks) (hp : (F.nd x ks .nil).plain) : shapedB re = true ∧ refsB re = false := by
  have h1 := shN_full (.nd x ks .nil) 260 0 0 re.length [] h.part (by have := h.dep; simp only [F.depth]; omega) hp
  have h2 : shN re 260 0 [] 0 = some (re.length, []) := by
    simp only [F.num, kidsN] at h1
    cases hs : shN re 260 0 [] 0 with
    | none => simp [hs] at h1
    | some q => obtain ⟨a, b⟩ := q; simpa [hs] using h1
  refine ⟨shapedB_iff.2 ⟨⟨[], h2⟩, x, ks, h⟩, refs_no fun j y hj hy h8 => ?_⟩
  have key : ∀ f : F, f.plain → ∀ y ∈ f.flat, ¬ y.op = 8 := by
    intro f
    induction f with
    | nil => intro _ y hy; cases hy
    | nd z a b iha ihb =>
      rintro ⟨h1, h2, h3⟩ y hy
      rcases List.mem_cons.1 hy with rfl | hy
      · exact h1.2
      · exact (List.mem_append.1 hy).elim (iha h2 y) (ihb h3 y)
  have hm := List.mem_of_getElem? hy
  rw [h.flat] at hm
  exact key _ hp y (by simpa [F.flat] using hm) h8
/-! the row's regex -/
def endN : Nd := ⟨4, 0, 0, 0, 0, 0⟩
def rowN (n : Nat) : Nd := ⟨4, 0, 0, 0, 0, (n : Int) + 1⟩
def timN (l m : Nat) : Nd := ⟨6, 0, 0, l, (l : Int) + m, 1⟩
def rowF : List UInt8 → F
  | [] => .nd endN .nil .nil
  | b :: bs => .nd (letN b) .nil (rowF bs)
def rowR (row : List UInt8) (l m : Nat) : List Nd := timN l m :: rowN row.length :: (row.map letN ++ [endN])
theorem let_ok' (b : UInt8) : ndOk (letN b) = true := by
  have : flds (letN b) = true := flds_iff.2 ⟨by simp [letN], .inl rfl, .inr (.inr rfl), (fun h => by cases h), fun _ => ⟨rfl, rfl⟩⟩
  rw [ndOk, this]; rfl
def Mt (row w : List UInt8) (p : Nat) : Prop := (w.drop p).take row.length = row
theorem der_let {w : List UInt8} {b : UInt8} {p q : Nat} : der1 w (letN b) .nil p q ↔ q = p + 1 ∧ w[p]? = some b := by
  rw [der1_def, if_pos (show (letN b).op = 1 from rfl)]
  refine and_congr_right fun _ => ⟨fun ⟨c, hc, hs⟩ => ?_, fun h => ⟨b, h, ?_⟩⟩
  · rw [show (letN b).set = bit b.toNat from rfl, bit_get c.toNat_lt, decide_eq_true_eq] at hs
    rw [hc, UInt8.toNat_inj.1 hs]
  · rw [show (letN b).set = bit b.toNat from rfl, bit_get b.toNat_lt, decide_eq_true_eq]
theorem mt_cons {b : UInt8} {bs w : List UInt8} {p : Nat} : Mt (b :: bs) w p ↔ w[p]? = some b ∧ Mt bs w (p + 1) := by
  unfold Mt
  rcases Nat.lt_or_ge p w.length with h | h
  · rw [List.drop_eq_getElem_cons h, List.getElem?_eq_getElem h, List.length_cons, List.take_succ_cons]
    simp
  · rw [List.drop_of_length_le h, List.getElem?_eq_none h]
    simp
def Most (row w : List UInt8) (n k : Nat) : Prop := k ≤ n ∧ (∀ j, j < k → Mt row w (j * row.length)) ∧ (k = n ∨ ¬ Mt row w (k * row.length))
end Go.HL.Kl.Mc

/- Groups lie in the match, inner ones in outer ones; the known run. Conditions: none. -/
namespace Go.HL.Kl.Mc
open Go Go.HL Go.HL.Kl AskE
def gl (l : List Nd) : List Nat := (l.filter fun y => decide (y.op = 7)).map fun y => y.n.toNat
def gn (f : F) : List Nat := gl f.flat
theorem gl_cons (x : Nd) (l : List Nd) : gl (x :: l) = (if x.op = 7 then [x.n.toNat] else []) ++ gl l := by
  unfold gl
  by_cases h : x.op = 7 <;> simp [List.filter_cons, h]
theorem gl_app (l m : List Nd) : gl (l ++ m) = gl l ++ gl m := by simp [gl]
theorem gn_nd (x : Nd) (ks r : F) : gn (.nd x ks r) = (if x.op = 7 then [x.n.toNat] else []) ++ (gn ks ++ gn r) := by
  show gl (x :: (ks.flat ++ r.flat)) = _
  rw [gl_cons, gl_app]; rfl
theorem gl_mem {l : List Nd} {y : Nd} (h : y ∈ l) (h7 : y.op = 7) : y.n.toNat ∈ gl l := List.mem_map.2 ⟨y, List.mem_filter.2 ⟨h, by simp [h7]⟩, rfl⟩
def Non (f : F) (cs : List Sp) : Prop := ∀ i ∈ gn f, cs[i]? = some noS
def Nst : F → Int → Int → List Sp → Prop
  | .nil, _, _, _ => True
  | .nd x ks r, lo, hi, cs => (if x.op = 7 then ∃ s, cs[x.n.toNat]? = some s ∧ ((s = noS ∧ Non ks cs) ∨ (lo ≤ s.fr ∧ s.fr ≤ s.to ∧ s.to ≤ hi ∧ Nst ks s.fr s.to cs)) else Nst ks lo hi cs) ∧ Nst r lo hi cs
theorem Non.split {x : Nd} {ks r : F} {cs : List Sp} (h : Non (.nd x ks r) cs) : (x.op = 7 → cs[x.n.toNat]? = some noS) ∧ Non ks cs ∧ Non r cs := by
  unfold Non at h ⊢
  rw [gn_nd] at h
  refine ⟨fun h7 => h _ (by simp [h7]), fun i hi => h i (by simp [hi]), fun i hi => h i (by simp [hi])⟩
theorem Nst_non : ∀ {f : F} {lo hi : Int} {cs : List Sp}, Non f cs → Nst f lo hi cs
  | .nil, _, _, _, _ => trivial
  | .nd x ks r, lo, hi, cs, h => by
    obtain ⟨h1, h2, h3⟩ := h.split
    refine ⟨?_, Nst_non h3⟩
    split
    · rename_i h7; exact ⟨noS, h1 h7, .inl ⟨rfl, h2⟩⟩
    · exact Nst_non h2
theorem Nst_wide : ∀ {f : F} {lo hi lo' hi' : Int} {cs : List Sp}, lo' ≤ lo → hi ≤ hi' → Nst f lo hi cs → Nst f lo' hi' cs
  | .nil, _, _, _, _, _, _, _, _ => trivial
  | .nd x ks r, lo, hi, lo', hi', cs, a, b, h => by
    refine ⟨?_, Nst_wide a b h.2⟩
    have h1 := h.1
    split at h1
    · rename_i h7
      rw [if_pos h7]
      obtain ⟨s, hs, h2⟩ := h1
      refine ⟨s, hs, h2.imp id fun ⟨c, d, e, g⟩ => ⟨by omega, d, by omega, g⟩⟩
    · rename_i h7
      rw [if_neg h7]
      exact Nst_wide a b h1
theorem Nst_congr : ∀ {f : F} {lo hi : Int} {cs cs' : List Sp}, (∀ i ∈ gn f, cs'[i]? = cs[i]?) → Nst f lo hi cs → Nst f lo hi cs'
  | .nil, _, _, _, _, _, _ => trivial
  | .nd x ks r, lo, hi, cs, cs', hc, h => by
    have hx : x.op = 7 → cs'[x.n.toNat]? = cs[x.n.toNat]? := fun h7 => hc _ (by rw [gn_nd]; simp [h7])
    have hk : ∀ i ∈ gn ks, cs'[i]? = cs[i]? := fun i hi => hc i (by rw [gn_nd]; simp [hi])
    have hr : ∀ i ∈ gn r, cs'[i]? = cs[i]? := fun i hi => hc i (by rw [gn_nd]; simp [hi])
    refine ⟨?_, Nst_congr hr h.2⟩
    have h1 := h.1
    split at h1
    · rename_i h7
      rw [if_pos h7]
      obtain ⟨s, hs, h2⟩ := h1
      refine ⟨s, by rw [hx h7]; exact hs, h2.imp (fun ⟨a, b⟩ => ⟨a, fun i hi => by rw [hk i hi]; exact b i hi⟩) fun ⟨c, d, e, g⟩ => ⟨c, d, e, Nst_congr hk g⟩⟩
    · rename_i h7
      rw [if_neg h7]
      exact Nst_congr hk h1
theorem fgt_get : ∀ (l : List Nd) (cs : List Sp), (∀ i ∈ gl l, i < cs.length) → (∀ i ∈ gl l, (fgt l cs)[i]? = some noS) ∧ ∀ i, i ∉ gl l → (fgt l cs)[i]? = cs[i]?
  | [], cs, _ => ⟨fun i h => by simp [gl] at h, fun i _ => rfl⟩
  | x :: l, cs, hl => by
    have e : fgt (x :: l) cs = fgt l (fg1 cs x) := rfl
    have hl' : ∀ i ∈ gl l, i < (fg1 cs x).length := fun i hi => by rw [fg1_len]; exact hl i (by rw [gl_cons]; simp [hi])
    obtain ⟨h1, h2⟩ := fgt_get l (fg1 cs x) hl'
    rw [e, gl_cons]
    constructor
    · intro i hi
      by_cases hm : i ∈ gl l
      · exact h1 i hm
      · rw [h2 i hm]
        by_cases h7 : x.op = 7
        · simp [h7, hm] at hi
          subst hi
          rw [fg1, if_pos h7, List.getElem?_set_self (hl _ (by rw [gl_cons]; simp [h7]))]
        · simp [h7, hm] at hi
    · intro i hi
      have hm : i ∉ gl l := fun h => hi (by simp [h])
      rw [h2 i hm, fg1]
      split
      · rename_i h7
        rw [List.getElem?_set_ne]
        intro e; subst e
        exact hi (by simp [h7])
      · rfl
theorem reps_nst {x : Nd} {D : Nat → Nat → Prop} {B : Nat → Nat → List Sp → List Sp} {q p0 : Nat} {ks : F} {N : Nat}
    (hB : ∀ p m cs, cs.length = N → D p m → Nst ks p m (B p m cs) ∧ (B p m cs).length = N ∧ ∀ i, i ∉ gn ks → (B p m cs)[i]? = cs[i]?) :
    ∀ f r p cs, p0 ≤ p → cs.length = N → Nst ks p0 q cs → Nst ks p0 q (reps x D B q f r p cs) ∧ ∀ i, i ∉ gn ks → (reps x D B q f r p cs)[i]? = cs[i]?
  | 0, r, p, cs, _, _, h => ⟨h, fun _ _ => rfl⟩
  | f + 1, r, p, cs, hp, hl, h => by
    by_cases hg : ∃ m, Grt (RQ x D r p q) p q m
    · obtain ⟨m, hm⟩ := hg
      rw [reps_go hm]
      obtain ⟨h1, h2, h3⟩ := hB p m cs hl hm.2.2.1.2.2.1
      obtain ⟨h4, h5⟩ := reps_nst (q := q) (p0 := p0) hB f (nxtR x r) m (B p m cs) (Nat.le_trans hp hm.1) h2 (Nst_wide (lo := (p : Int)) (hi := (m : Int)) (by have := hp; omega) (by have h9 : m ≤ q := hm.2.1; omega) h1)
      exact ⟨h4, fun i hi => (h5 i hi).trans (h3 i hi)⟩
    · have : ∀ m, p ≤ m → m ≤ q → ¬ RQ x D r p q m := fun m a b c => hg (grt_ex a b c)
      rw [reps_end this]
      exact ⟨h, fun _ _ => rfl⟩
theorem nodup_parts {x : Nd} {ks r : F} (h : (gn (.nd x ks r)).Nodup) : (gn ks).Nodup ∧ (gn r).Nodup ∧ (∀ i ∈ gn ks, i ∉ gn r) ∧ (x.op = 7 → x.n.toNat ∉ gn ks ∧ x.n.toNat ∉ gn r) := by
  rw [gn_nd, List.nodup_append] at h
  obtain ⟨_, h2, h3⟩ := h
  rw [List.nodup_append] at h2
  refine ⟨h2.1, h2.2.1, fun i hi hr => h2.2.2 i hi i hr rfl, fun h7 => ⟨fun hk => h3 x.n.toNat (by simp [h7]) x.n.toNat (by simp [hk]) rfl, fun hk => h3 x.n.toNat (by simp [h7]) x.n.toNat (by simp [hk]) rfl⟩⟩
theorem bst_nst (w : List UInt8) : ∀ (f : F) (m : Bool) (p q : Nat) (cs : List Sp), (gn f).Nodup → (∀ i ∈ gn f, i < cs.length) → Non f cs → der w f m p q → Nst f p q (bst w f m p q cs) ∧ ∀ i, i ∉ gn f → (bst w f m p q cs)[i]? = cs[i]?
  | .nil, m, p, q, cs, _, _, _, _ => by rw [bst_nil]; exact ⟨trivial, fun _ _ => rfl⟩
  | .nd x ks r, m, p, q, cs, hnd, hsl, hno, hd => by
    obtain ⟨n1, n2, n3, n4⟩ := nodup_parts hnd
    have s1 : ∀ i ∈ gn ks, i < cs.length := fun i hi => hsl i (by rw [gn_nd]; simp [hi])
    have s2 : ∀ i ∈ gn r, i < cs.length := fun i hi => hsl i (by rw [gn_nd]; simp [hi])
    have s3 : x.op = 7 → x.n.toNat < cs.length := fun h7 => hsl _ (by rw [gn_nd]; simp [h7])
    obtain ⟨o1, o2, o3⟩ := hno.split
    have one : ∀ p q, der1 w x ks p q → Nst (.nd x ks .nil) p q (bst1 w x ks p q cs) ∧ ∀ i, i ∉ gn (.nd x ks .nil) → (bst1 w x ks p q cs)[i]? = cs[i]? := by
      intro p q h1
      have g1 : gn (.nd x ks .nil) = (if x.op = 7 then [x.n.toNat] else []) ++ gn ks := by rw [gn_nd]; simp [gn, gl, F.flat]
      rw [g1]
      by_cases h7 : x.op = 7
      · rw [bst1_7 h7, if_pos h7]
        obtain ⟨f1, f2⟩ := fgt_get ks.flat cs s1
        have hdk := (der1_4 (.inr h7)).1 h1
        obtain ⟨k1, k2⟩ := bst_nst w ks false p q (fgt ks.flat cs) n1 (by rw [fgt_len]; exact s1) f1 hdk
        have hlen : (bst w ks false p q (fgt ks.flat cs)).length = cs.length := by rw [bst_len, fgt_len]
        refine ⟨⟨?_, trivial⟩, fun i hi => ?_⟩
        · rw [if_pos h7]
          refine ⟨⟨p, q⟩, List.getElem?_set_self (by rw [hlen]; exact s3 h7), .inr ⟨Int.le_refl _, by have := der1_up _ _ h1; show (p : Int) ≤ q; omega, Int.le_refl _, ?_⟩⟩
          exact Nst_congr (fun i hi => List.getElem?_set_ne (fun e => (n4 h7).1 (by rw [e]; exact hi))) k1
        · simp at hi
          rw [List.getElem?_set_ne (fun e => hi.1 e.symm), k2 i hi.2, f2 i hi.2]
      · rw [if_neg h7, List.nil_append]
        have tr : ∀ c, Nst ks p q c → Nst (.nd x ks .nil) p q c := fun c h => ⟨by rw [if_neg h7]; exact h, trivial⟩
        by_cases h5 : x.op = 5
        · rw [bst1_5 h5]
          obtain ⟨k1, k2⟩ := bst_nst w ks true p q cs n1 s1 o2 ((der1_5 h5).1 h1)
          exact ⟨tr _ k1, k2⟩
        by_cases h4 : x.op = 4
        · rw [bst1_4 h4]
          obtain ⟨k1, k2⟩ := bst_nst w ks false p q cs n1 s1 o2 ((der1_4 (.inl h4)).1 h1)
          exact ⟨tr _ k1, k2⟩
        by_cases h6 : x.op = 6
        · rw [bst1_6 h6]
          obtain ⟨k1, k2⟩ := reps_nst (x := x) (D := der w ks false) (B := fun p q cs => bst w ks false p q (fgt ks.flat cs)) (q := q) (p0 := p) (ks := ks) (N := cs.length) (fun p m c hc hm => by
            obtain ⟨f1, f2⟩ := fgt_get ks.flat c (by rw [hc]; exact s1)
            obtain ⟨k1, k2⟩ := bst_nst w ks false p m (fgt ks.flat c) n1 (by rw [fgt_len, hc]; exact s1) f1 hm
            exact ⟨k1, by rw [bst_len, fgt_len, hc], fun i hi => (k2 i hi).trans (f2 i hi)⟩) ((q - p) + max x.mn.toNat 1 + 1) 0 p cs (Nat.le_refl _) rfl (Nst_non o2)
          exact ⟨tr _ k1, k2⟩
        · have e : bst1 w x ks p q cs = cs := by rw [bst1, if_neg h7, if_neg h5, if_neg h4, if_neg h6]
          rw [e]
          exact ⟨tr _ (Nst_non o2), fun _ _ => rfl⟩
    have up1 : ∀ {lo hi c}, Nst (.nd x ks .nil) lo hi c → Nst r lo hi c → Nst (.nd x ks r) lo hi c := fun h h' => ⟨h.1, h'⟩
    have g1 : ∀ i, i ∈ gn (.nd x ks .nil) ↔ (x.op = 7 ∧ i = x.n.toNat) ∨ i ∈ gn ks := fun i => by
      rw [gn_nd]
      by_cases h7 : x.op = 7 <;> simp [h7, gn, gl, F.flat]
    have g2 : ∀ i, i ∉ gn (.nd x ks r) → i ∉ gn (.nd x ks .nil) ∧ i ∉ gn r := fun i hi => by
      rw [gn_nd] at hi
      constructor
      · rw [g1]; rintro (⟨h7, rfl⟩ | h)
        · exact hi (by simp [h7])
        · exact hi (by simp [h])
      · exact fun h => hi (by simp [h])
    have g3 : ∀ i ∈ gn (.nd x ks .nil), i ∉ gn r := fun i hi => by
      rcases (g1 i).1 hi with ⟨h7, rfl⟩ | h
      · exact (n4 h7).2
      · exact n3 i h
    cases m with
    | true =>
      rw [bst_alt]
      split
      · rename_i hq
        obtain ⟨k1, k2⟩ := one p q (dQ_iff.1 hq)
        refine ⟨up1 k1 (Nst_non fun i hi => ?_), fun i hi => k2 i (g2 i hi).1⟩
        rw [k2 i (fun h => g3 i h hi)]; exact o3 i hi
      · rename_i hq
        have hdr := (der_alt.1 hd).resolve_left fun h => hq (dQ_t h)
        obtain ⟨k1, k2⟩ := bst_nst w r true p q cs n2 s2 o3 hdr
        refine ⟨up1 (Nst_non fun i hi => ?_) k1, fun i hi => k2 i (g2 i hi).2⟩
        rw [k2 i (g3 i hi)]
        rcases (g1 i).1 hi with ⟨h7, rfl⟩ | h
        · exact o1 h7
        · exact o2 i h
    | false =>
      obtain ⟨t, h1, h2⟩ := der_cat.1 hd
      obtain ⟨n, hn⟩ := grt_ex (Q := fun n => der1 w x ks p n ∧ der w r false n q) (der1_up _ _ h1) (der_up _ _ _ _ h2) ⟨h1, h2⟩
      rw [bst_cat hn]
      obtain ⟨k1, k2⟩ := one p n hn.2.2.1.1
      obtain ⟨l1, l2⟩ := bst_nst w r false n q (bst1 w x ks p n cs) n2 (by rw [bst1_len]; exact s2) (fun i hi => by rw [k2 i (fun h => g3 i h hi)]; exact o3 i hi) hn.2.2.1.2
      refine ⟨up1 (Nst_wide (Int.le_refl _) (by have := hn.2.1; omega) (Nst_congr (fun i hi => l2 i (g3 i hi)) k1)) (Nst_wide (by have := hn.1; omega) (Int.le_refl _) l1), fun i hi => ?_⟩
      rw [l2 i (g2 i hi).2, k2 i (g2 i hi).1]
end Go.HL.Kl.Mc

/- What the laws ask of the groups; the known run. Conditions: none. -/
namespace Go.HL.Kl.Mc
open Go Go.HL Go.HL.Kl AskE
theorem gl_take {re : List Nd} (h : shapedB re = true) : ∀ j, j ≤ re.length → (gl (re.take j)).Nodup ∧ ∀ i ∈ gl (re.take j), 1 ≤ i ∧ i ≤ gcn (re.take j)
  | 0, _ => by simp [gl]
  | j + 1, hj => by
    obtain ⟨h1, h2⟩ := gl_take h j (by omega)
    have hx : re[j]? = some re[j] := List.getElem?_eq_getElem (by omega)
    have ht := gcn_take hx
    have e : gl (re.take (j + 1)) = gl (re.take j) ++ gl [re[j]] := by rw [List.take_add_one, hx, gl_app]; rfl
    rw [e, gl_cons]
    by_cases h7 : re[j].op = 7
    · have hn := (grp_n h hx h7).1
      rw [if_pos h7] at ht ⊢
      rw [show gl ([] : List Nd) = [] from rfl, List.append_nil]
      refine ⟨List.nodup_append.2 ⟨h1, by simp, fun a ha b hb => ?_⟩, fun i hi => ?_⟩
      · obtain rfl := List.mem_singleton.1 hb
        have := (h2 a ha).2; omega
      · rcases List.mem_append.1 hi with hi | hi
        · have := h2 i hi; omega
        · obtain rfl := List.mem_singleton.1 hi; omega
    · rw [if_neg h7] at ht ⊢
      rw [show gl ([] : List Nd) = [] from rfl, List.append_nil, List.append_nil]
      exact ⟨h1, fun i hi => by have := h2 i hi; omega⟩
theorem gn_root {re : List Nd} {x : Nd} {ks : F} (hs : Shp re x ks) : gn (.nd x ks .nil) = gl re := by
  rw [hs.flat, gn, F.flat]; simp [F.flat]
theorem caps_nst {re : List Nd} {w : List UInt8} {x : Nd} {ks : F} {p q : Nat} (hm : May re w x ks) (hd : der1 w x ks p q) : Nst (.nd x ks .nil) p q (capsV w re x ks p q) ∧ (capsV w re x ks p q)[0]? = some ⟨p, q⟩ := by
  obtain ⟨h1, h2⟩ := gl_take hm.sh re.length (Nat.le_refl _)
  rw [List.take_length] at h1 h2
  have hg := gn_root hm.hs
  obtain ⟨k1, _⟩ := bst_nst w (.nd x ks .nil) false p q (List.replicate (gcn re + 1) noS) (by rw [hg]; exact h1) (fun i hi => by rw [hg] at hi; have := h2 i hi; simp; omega) (fun i hi => by
    rw [hg] at hi; have := h2 i hi
    rw [List.getElem?_replicate, if_pos (by omega)]) (der_one.2 hd)
  rw [bst_one hd] at k1
  refine ⟨Nst_congr (fun i hi => ?_) k1, ?_⟩
  · rw [hg] at hi; have := h2 i hi
    rw [capsV, List.getElem?_set_ne (by omega)]
  · rw [capsV, List.getElem?_set_self (by rw [bst1_len]; simp)]
theorem Nst_at {re : List Nd} {cs : List Sp} : ∀ (f : F) (i e : Nat) (lo hi : Int), Part re f i e → Nst f lo hi cs → ∀ j y js r j', Part re (.nd y js r) j j' → i ≤ j → j < e → y.op = 7 →
    ∃ s, cs[y.n.toNat]? = some s ∧ ((s = noS ∧ Non js cs) ∨ (lo ≤ s.fr ∧ s.fr ≤ s.to ∧ s.to ≤ hi ∧ Nst js s.fr s.to cs))
  | .nil, i, e, lo, hi, hp, _, j, y, js, r, j', hj, h1, h2, h7 => by have := hp.len; simp only [F.size] at this; omega
  | .nd x ks rr, i, e, lo, hi, hp, hn, j, y, js, r, j', hj, h1, h2, h7 => by
    obtain ⟨hx, hk, hr⟩ := hp.head
    by_cases e1 : j = i
    · subst e1
      obtain rfl := hp.uniq hj
      obtain rfl : x = y := by have := hj.head.1; rw [hx] at this; exact Option.some.inj this
      have := hn.1
      rw [if_pos h7] at this
      exact this
    by_cases e2 : j < i + 1 + ks.size
    · have hk1 := hn.1
      split at hk1
      · obtain ⟨s, hs, hc⟩ := hk1
        rcases hc with ⟨_, hno⟩ | ⟨a, b, c, d⟩
        · obtain ⟨t, ht, hc⟩ := Nst_at ks _ _ lo hi hk (Nst_non hno) j y js r j' hj (by omega) e2 h7
          exact ⟨t, ht, hc⟩
        · obtain ⟨t, ht, hc⟩ := Nst_at ks _ _ s.fr s.to hk d j y js r j' hj (by omega) e2 h7
          exact ⟨t, ht, hc.imp id fun ⟨u, v, z, o⟩ => ⟨by omega, v, by omega, o⟩⟩
      · exact Nst_at ks _ _ lo hi hk hk1 j y js r j' hj (by omega) e2 h7
    · exact Nst_at rr _ _ lo hi hr hn.2 j y js r j' hj (by omega) h2 h7
theorem part_mem {re : List Nd} {f : F} {i e k : Nat} {z : Nd} (hp : Part re f i e) (h1 : i ≤ k) (h2 : k < e) (hz : re[k]? = some z) : z ∈ f.flat := by
  have hf := hp.flat
  have hl := hp.len
  have : (re.drop i)[k - i]? = some z := by rw [List.getElem?_drop, show i + (k - i) = k by omega]; exact hz
  rw [hf, List.getElem?_append_left (by rw [F.flat_size]; omega)] at this
  exact List.mem_of_getElem? this
theorem nest_law {re : List Nd} {w : List UInt8} {x : Nd} {ks : F} {p q : Nat} (hm : May re w x ks) (hd : der1 w x ks p q) {i i' : Nat} {y : Nd} {js r : F} (hp : Part re (.nd y js r) i i') (h7 : y.op = 7) :
    ∃ s, (capsV w re x ks p q)[y.n.toNat]? = some s ∧ (s = noS ∨ ((p : Int) ≤ s.fr ∧ s.fr ≤ s.to ∧ s.to ≤ q)) ∧ ∀ k z, i ≤ k → k < i + 1 + js.size → re[k]? = some z → z.op = 7 →
      ∃ t, (capsV w re x ks p q)[z.n.toNat]? = some t ∧ (s = noS → t = noS) ∧ (s ≠ noS → t = noS ∨ (s.fr ≤ t.fr ∧ t.to ≤ s.to)) := by
  obtain ⟨h1, h2⟩ := caps_nst hm hd
  have hroot := hm.hs.part
  have hlt := (List.getElem?_eq_some_iff.1 hp.head.1).1
  obtain ⟨s, hs, hc⟩ := Nst_at _ _ _ _ _ hroot h1 i y js r i' hp (Nat.zero_le _) hlt h7
  refine ⟨s, hs, hc.imp (fun h => h.1) (fun ⟨a, b, c, _⟩ => ⟨a, b, c⟩), fun k z hk1 hk2 hz hz7 => ?_⟩
  by_cases e : k = i
  · subst e
    obtain rfl : y = z := by have := hp.head.1; rw [hz] at this; exact (Option.some.inj this).symm
    exact ⟨s, hs, id, fun _ => .inr ⟨Int.le_refl _, Int.le_refl _⟩⟩
  have hjs := hp.head.2.1
  rcases hc with ⟨h0, hno⟩ | ⟨a, b, c, d⟩
  · have hz' := part_mem hjs (by omega) hk2 hz
    exact ⟨noS, hno _ (gl_mem hz' hz7), fun _ => rfl, fun h => absurd h0 h⟩
  · obtain ⟨z', zs, zr, zj, hzp⟩ := Part.at js _ _ hjs k (by omega) hk2
    obtain rfl : z' = z := by have := hzp.head.1; rw [hz] at this; exact (Option.some.inj this).symm
    obtain ⟨t, ht, hc2⟩ := Nst_at js _ _ _ _ hjs d k z' zs zr zj hzp (by omega) hk2 hz7
    refine ⟨t, ht, fun e => ?_, fun _ => hc2.imp (fun h => h.1) fun ⟨u, _, v, _⟩ => ⟨u, v⟩⟩
    exfalso
    rw [e] at a
    simp only [noS] at a
    omega
/-! the known run -/
def catC : Nd := ⟨4, 0, 0, 0, 0, 2⟩
def grpC : Nd := ⟨7, 0, 1, 0, 0, 1⟩
def reC : List Nd := [catC, grpC, starN, letN 97, letN 98]
def ksG : F := .nd starN ksW .nil
def ksB : F := .nd (letN 98) .nil .nil
def ksC : F := .nd grpC ksG ksB
def wC : List UInt8 := [99, 97, 97, 98]
end Go.HL.Kl.Mc

/- References lie within the groups; each place of a tree's list is a tree's. Conditions: none. -/
namespace Go.HL.Kl.Mc
open Go Go.HL Go.HL.Kl AskE
def Refd (re : List Nd) (b i i' b' : Nat) : Prop := b ≤ b' ∧ ∀ j x, i ≤ j → j < i' → re[j]? = some x → x.op = 8 → 1 ≤ x.n ∧ x.n ≤ (b' : Int)
theorem kidsN_ref {re : List Nd} {step : Nat → List Bool → Option (Nat × List Bool)} (hs : ∀ i en i' en', step i en = some (i', en') → i ≤ i' ∧ Refd re en.length i i' en'.length) :
    ∀ k i en i' en', kidsN step k i en = some (i', en') → i ≤ i' ∧ Refd re en.length i i' en'.length := by
  intro k
  induction k with
  | zero =>
    intro i en i' en' h
    simp only [kidsN, Option.some.injEq, Prod.mk.injEq] at h
    obtain ⟨rfl, rfl⟩ := h
    exact ⟨Nat.le_refl _, Nat.le_refl _, fun j x h1 h2 => by omega⟩
  | succ k ih =>
    intro i en i' en' h
    simp only [kidsN] at h
    split at h
    · cases h
    · rename_i j en1 hst
      obtain ⟨h1, h2, h3⟩ := hs _ _ _ _ hst
      obtain ⟨h4, h5, h6⟩ := ih _ _ _ _ h
      refine ⟨by omega, by omega, fun t x ht1 ht2 hx h8 => ?_⟩
      rcases Nat.lt_or_ge t j with e | e
      · have := h3 t x ht1 e hx h8; omega
      · exact h6 t x e ht2 hx h8
theorem shN_ref {re : List Nd} : ∀ f i en g i' en', shN re f i en g = some (i', en') → i ≤ i' ∧ Refd re en.length i i' en'.length := by
  intro f
  induction f with
  | zero => intro i en g i' en' h; cases h
  | succ f ih =>
    intro i en g i' en' h
    simp only [shN] at h
    split at h
    · cases h
    · rename_i x hx
      split at h
      · split at h
        · cases h
        · rename_i en1 g1 hg
          split at h
          · cases h
          · rename_i i2 en2 hk
            simp only [Option.some.injEq, Prod.mk.injEq] at h
            obtain ⟨rfl, rfl⟩ := h
            obtain ⟨h1, h2, h3⟩ := kidsN_ref (fun i en i' en' h => ih i en g1 i' en' h) _ _ _ _ _ hk
            have he : en.length ≤ en1.length ∧ (x.op = 8 → 1 ≤ x.n ∧ x.n ≤ en.length) := by
              unfold gate at hg
              split at hg
              · split at hg
                · cases hg; rename_i _ hc; exact ⟨Nat.le_refl _, fun _ => ⟨hc.1, hc.2.1⟩⟩
                · cases hg
              split at hg
              · split at hg
                · cases hg; rename_i h8 _ _; exact ⟨by simp, fun h => absurd h h8⟩
                · cases hg
              · cases hg; rename_i h8 _; exact ⟨Nat.le_refl _, fun h => absurd h h8⟩
            have hl : (if x.op = 7 then en2.set (x.n.toNat - 1) true else en2).length = en2.length := by split <;> simp
            refine ⟨by omega, by rw [hl]; omega, fun j y hj1 hj2 hy h8 => ?_⟩
            rw [hl]
            by_cases e : j = i
            · subst e
              rw [hx] at hy; cases hy
              have := he.2 h8; omega
            · exact h3 j y (by omega) hj2 hy h8
      · cases h
theorem ref_n {re : List Nd} (h : shapedB re = true) {y : Nd} (hy : y ∈ re) (h8 : y.op = 8) : 1 ≤ y.n ∧ y.n ≤ (gcn re : Nat) := by
  obtain ⟨⟨en, hsh⟩, _⟩ := shapedB_iff.1 h
  obtain ⟨_, h1, _⟩ := shN_num _ _ _ _ _ _ hsh
  obtain ⟨_, _, h3⟩ := shN_ref _ _ _ _ _ _ hsh
  obtain ⟨j, hj⟩ := List.getElem?_of_mem hy
  have h4 := h3 j y (Nat.zero_le _) (List.getElem?_eq_some_iff.1 hj).1 hj h8
  rw [List.take_length] at h1
  simp [gcn] at h1
  simp only [gcn]
  omega
theorem grp_le {re : List Nd} (h : shapedB re = true) {y : Nd} (hy : y ∈ re) (h7 : y.op = 7) : 1 ≤ y.n ∧ y.n ≤ (gcn re : Nat) := by
  obtain ⟨j, hj⟩ := List.getElem?_of_mem hy
  have h1 := grp_n h hj h7
  omega
theorem Part.app {re : List Nd} {f g : F} {a b c : Nat} (h : Part re f a b) (h' : Part re g b c) : Part re (f.app g) a c :=
  ⟨F.wf_app h.wf h'.wf, by rw [h.flat, h'.flat, F.flat_app, List.append_assoc], by rw [h'.len, h.len, F.size_app]; omega, h'.le⟩
theorem part_at {re : List Nd} : ∀ (f : F) (a b : Nat), Part re f a b → ∀ k, a ≤ k → k < b → ∃ y js r e, Part re (.nd y js r) k e
  | .nil, a, b, h, k, h1, h2 => by have := h.len; simp only [F.size] at this; omega
  | .nd x ks r, a, b, h, k, h1, h2 => by
    obtain ⟨_, h3, h4⟩ := h.head
    by_cases e : k = a
    · subst e; exact ⟨x, ks, r, b, h⟩
    · rcases Nat.lt_or_ge k (a + 1 + ks.size) with h5 | h5
      · exact part_at ks _ _ h3 k (by omega) h5
      · exact part_at r _ _ h4 k h5 h2
end Go.HL.Kl.Mc

/- The ends of a list's trees. Conditions: none. -/
namespace Go.HL.Kl.Mc
open Go Go.HL Go.HL.Kl AskE
def BehI (re : List Nd) (hl : List Nat) (i : Nat) : Prop := hl.length = i ∧ ∀ k y js r e, k < i → Part re (.nd y js r) k e → hl[k]? = some (k + 1 + js.size)
theorem BehI.nil {re : List Nd} : BehI re [] 0 := ⟨rfl, fun _ _ _ _ _ h => absurd h (Nat.not_lt_zero _)⟩
theorem BehI.snoc {re : List Nd} {hl : List Nat} {i : Nat} (h : BehI re hl i) {y : Nd} {js r : F} {e : Nat} (hp : Part re (.nd y js r) i e) : BehI re (hl ++ [i + 1 + js.size]) (i + 1) :=
  ⟨by rw [List.length_append, h.1]; rfl, fun k y' js' r' e' hk hp' => by
    by_cases e : k = i
    · subst e
      have hu : js' = js := by
        obtain ⟨h1, _, _⟩ := hp.head
        obtain ⟨h2, _, _⟩ := hp'.head
        rw [h1] at h2
        cases h2
        exact hp'.uniq hp
      subst hu
      rw [List.getElem?_append_right (by rw [h.1]; exact Nat.le_refl _), h.1, Nat.sub_self]; rfl
    · rw [List.getElem?_append_left (by rw [h.1]; omega)]
      exact h.2 k y' js' r' e' (by omega) hp'⟩
theorem Part.one_end {re : List Nd} {y : Nd} {js r : F} {k e : Nat} (hp : Part re (.nd y js r) k e) : Part re (.nd y js .nil) k (k + 1 + js.size) := hp.one
end Go.HL.Kl.Mc

/- What a regex means: the table of places that are asked already. Conditions: none. -/
namespace Go.HL.Kl.Mc
open Go Go.HL Go.HL.Kl AskE
def zer (l : List Nat) : Nat := l.countP fun m => decide (m = 0)
def zers (ls : List (List Nat)) : Nat := (ls.map zer).sum
theorem zer_set {l : List Nat} {i v : Nat} (h : l[i]? = some 0) (hv : v ≠ 0) : zer (l.set i v) + 1 = zer l := by
  induction l generalizing i with
  | nil => simp at h
  | cons a l ih =>
    cases i with
    | zero => simp at h; subst h; simp [zer, hv]
    | succ i =>
      have := ih (i := i) (by simpa using h)
      simp only [zer, List.set_cons_succ, List.countP_cons] at this ⊢
      omega
theorem zers_set {ls : List (List Nat)} {k i v : Nat} {l : List Nat} (h : ls[k]? = some l) (hi : l[i]? = some 0) (hv : v ≠ 0) : zers (ls.set k (l.set i v)) + 1 = zers ls := by
  induction ls generalizing k with
  | nil => simp at h
  | cons a ls ih =>
    cases k with
    | zero =>
      simp at h; subst h
      have := zer_set hi hv
      simp only [zers, List.set_cons_zero, List.map_cons, List.sum_cons]
      omega
    | succ k =>
      have := ih (k := k) (by simpa using h)
      simp only [zers, List.set_cons_succ, List.map_cons, List.sum_cons] at this ⊢
      omega
def SetR (N : Nat) (Pool : Hp) (s : Sl Bool) : Prop := s.xs.length = N + 1 ∧ IsSl s.v (N + 1) ∧ RdS Ebo s.v s.xs Pool
def TabI (re : List Nd) (w : List UInt8) (met : List (List Nat)) (ss : List (Sl Bool)) : Prop :=
  ∀ k l i m, met[k]? = some l → l[i]? = some (m + 1) → ∃ s, ss[m]? = some s ∧ ∀ y js r e, Part re (.nd y js r) k e → IsS s.xs w.length (der1 w y js i)
theorem TabI.sets {re : List Nd} {w : List UInt8} {met : List (List Nat)} {ss : List (Sl Bool)} (h : TabI re w met ss) (s : Sl Bool) : TabI re w met (ss ++ [s]) := fun k l i m h1 h2 => by
  obtain ⟨t, h3, h4⟩ := h k l i m h1 h2
  exact ⟨t, by rw [List.getElem?_append_left (List.getElem?_eq_some_iff.1 h3).1]; exact h3, h4⟩
theorem TabI.set {re : List Nd} {w : List UInt8} {met : List (List Nat)} {ss : List (Sl Bool)} (h : TabI re w met ss) {k i m : Nat} {l : List Nat} (hl : met[k]? = some l) {s : Sl Bool} (hs : ss[m]? = some s) (hd : ∀ y js r e, Part re (.nd y js r) k e → IsS s.xs w.length (der1 w y js i)) : TabI re w (met.set k (l.set i (m + 1))) ss := fun k' l' i' m' h1 h2 => by
  have hk := (List.getElem?_eq_some_iff.1 hl).1
  by_cases e : k' = k
  · subst e
    rw [List.getElem?_set_self hk] at h1
    cases h1
    by_cases e2 : i' = i
    · subst e2
      have hi := (List.getElem?_eq_some_iff.1 h2).1
      rw [List.length_set] at hi
      rw [List.getElem?_set_self hi] at h2
      cases h2
      exact ⟨s, hs, hd⟩
    · rw [List.getElem?_set_ne (Ne.symm e2)] at h2
      exact h _ _ _ _ hl h2
  · rw [List.getElem?_set_ne (Ne.symm e)] at h1
    exact h _ _ _ _ h1 h2
theorem TabI.begun {re : List Nd} {w : List UInt8} {n : Nat} : TabI re w (List.replicate n (List.replicate (w.length + 1) 0)) [] := fun k l i m h1 h2 => by
  rw [List.mem_replicate.1 (List.mem_of_getElem? h1) |>.2] at h2
  have := (List.mem_replicate.1 (List.mem_of_getElem? h2)).2
  omega
theorem IsS.upto {N : Nat} {D : Nat → Nat → Prop} {S : Nat → Prop} {out l : List Bool} {k : Nat} (h : IsS out N (fun q => ∃ p, p < k ∧ S p ∧ D p q)) (hs : S k) (hl : IsS l N (D k)) : IsS (orL out l) N (fun q => ∃ p, p < k + 1 ∧ S p ∧ D p q) :=
  (h.or hl).iff fun q _ => ⟨fun h => h.elim (fun ⟨p, a, b, c⟩ => ⟨p, by omega, b, c⟩) fun h => ⟨k, by omega, hs, h⟩, fun ⟨p, a, b, c⟩ => by
    by_cases e : p = k
    · subst e; exact .inr c
    · exact .inl ⟨p, by omega, b, c⟩⟩
theorem IsS.upto_no {N : Nat} {D : Nat → Nat → Prop} {S : Nat → Prop} {out : List Bool} {k : Nat} (h : IsS out N (fun q => ∃ p, p < k ∧ S p ∧ D p q)) (hs : ¬ S k) : IsS out N (fun q => ∃ p, p < k + 1 ∧ S p ∧ D p q) :=
  h.iff fun q _ => ⟨fun ⟨p, a, b, c⟩ => ⟨p, by omega, b, c⟩, fun ⟨p, a, b, c⟩ => ⟨p, by
    by_cases e : p = k
    · subst e; exact absurd b hs
    · omega, b, c⟩⟩
end Go.HL.Kl.Mc

/- One list of booleans set to the places of two, place by place. Conditions: none. -/
namespace Go.HL.Kl.Mc
open Go Go.HL Go.HL.Kl AskE
def orK (a b : List Bool) (i : Nat) : List Bool := (orL a b).take i ++ a.drop i
theorem orK_len {a b : List Bool} {i : Nat} : (orK a b i).length = a.length := by
  simp only [orK, List.length_append, List.length_take, orL_len, List.length_drop]; omega
theorem orK_zero {a b : List Bool} : orK a b 0 = a := by simp [orK]
theorem orK_all {a b : List Bool} : orK a b a.length = orL a b := by
  rw [orK, List.drop_length, List.append_nil, List.take_of_length_le (by rw [orL_len]; exact Nat.le_refl _)]
theorem orK_get {a b : List Bool} {i j : Nat} : (orK a b i)[j]? = if j < i then (orL a b)[j]? else a[j]? := by
  unfold orK
  by_cases h : j < i
  · rw [if_pos h]
    by_cases h2 : j < a.length
    · rw [List.getElem?_append_left (by rw [List.length_take, orL_len]; omega), List.getElem?_take_of_lt h]
    · rw [List.getElem?_eq_none (by rw [List.length_append, List.length_take, orL_len, List.length_drop]; omega), List.getElem?_eq_none (by rw [orL_len]; omega)]
  · rw [if_neg h]
    by_cases h2 : i ≤ a.length
    · rw [List.getElem?_append_right (by rw [List.length_take, orL_len]; omega), List.length_take, orL_len, Nat.min_eq_left h2, List.getElem?_drop]
      congr 1; omega
    · rw [List.getElem?_eq_none (by rw [List.length_append, List.length_take, orL_len, List.length_drop]; omega), List.getElem?_eq_none (by omega)]
theorem orK_yes {a b : List Bool} {i : Nat} (hi : i < a.length) (hb : bo0 b i = true) : (orK a b i).set i true = orK a b (i + 1) := List.ext_getElem? fun j => by
  by_cases e : i = j
  · subst e
    rw [List.getElem?_set_self (by rw [orK_len]; exact hi), orK_get, if_pos (by omega), orL_get hi, orF, hb, Bool.or_true]
  · rw [List.getElem?_set_ne e, orK_get, orK_get]
    by_cases h : j < i
    · rw [if_pos h, if_pos (by omega)]
    · rw [if_neg h, if_neg (by omega)]
theorem orK_no {a b : List Bool} {i : Nat} (hi : i < a.length) (hb : bo0 b i = false ∨ bo0 a i = true) : orK a b i = orK a b (i + 1) := List.ext_getElem? fun j => by
  rw [orK_get, orK_get]
  by_cases e : j = i
  · subst e
    rw [if_neg (by omega), if_pos (by omega), orL_get hi, bo0_get hi, orF]
    rcases hb with h | h <;> rw [h] <;> simp
  · by_cases h : j < i
    · rw [if_pos h, if_pos (by omega)]
    · rw [if_neg h, if_neg (by omega)]
end Go.HL.Kl.Mc

/- Part of the proofs over this seat: see the text that holds the theorem. Conditions: each theorem bears its own. -/
namespace Go.Proofs.YtopmnmigpbdddaaGreatDoor
open Go Go.HL Go.Proofs Go.HL.Kl Go.HL.Kl.Mc Go.HL.Kl.Mc.AskE
set_option maxHeartbeats 1000000 in
theorem orM_fn (aa : Option Addr) (ac : Nat) (xs : List Bool) (Sa : Hp) (hO : OwnS Ebo 1 4 (.slice aa xs.length ac) xs Sa) (ba : Option Addr) (bc : Nat) (zs : List Bool) (hz : zs.length = xs.length) (hxl : xs.length ≤ 2000000) : HL.Fn Tryz.prog 64 [.slice aa xs.length ac, .slice ba zs.length bc] (fun W => Rd Ebo W (.slice ba zs.length bc) zs ∧ Apart (keys Sa) (.slice ba zs.length bc)) Sa (fun v S' => v = .bool (moreB xs zs) ∧ OwnS Ebo 1 4 (.slice aa xs.length ac) (orL xs zs) S') := by
  refine fn_of Tryz.func64 rfl rfl rfl fun w0 hw => ?_
  have hzs := hw.1.sl
  have hxs := hO.sl
  refine c_seq fun _ hK1 => ?_; refine c_region ?_; refine o_step rfl (s_assign rfl) ?_; refine o_nil ?_; refine x_then (hK1 _ _ ?_); refine c_seq fun _ hK2 => ?_; refine c_region ?_; refine o_step rfl (s_assign rfl) ?_; refine o_nil ?_; refine x_then (hK2 _ _ ?_); refine c_seq fun _ hK3 => ?_; refine c_seq fun _ hK4 => ?_; refine c_region ?_; refine o_step rfl (s_assign rfl) ?_; refine o_nil ?_; refine x_then (hK4 _ _ ?_); refine c_block ?_; refine c_loop2 (fun (i : Nat) (Sx : Hp) => i ≤ xs.length ∧ OwnS Ebo 1 4 (.slice aa xs.length ac) (orK xs zs i) Sx) (fun (i : Nat) (Sx : Hp) => [(6, .int .i64 i), (5, .bool (moreTo xs zs i))]) [(0, _), (1, _), (4, _)] (fun (i : Nat) (Sx : Hp) => Sx) (fun (i : Nat) (Sx : Hp) => xs.length - i) 0 Sa ⟨Nat.zero_le _, by rw [orK_zero]; exact hO⟩ sbA sbA hzB ?_
  rintro i Sx ⟨hi, hOx⟩
  refine c_seq fun _ hK5 => ?_; refine c_seq fun _ hK6 => ?_; refine c_region ?_; refine o_step rfl (s_move rfl) ?_; refine o_step rfl (s_move rfl) ?_; refine o_step rfl (s_len rfl) ?_; refine o_step rfl (s_lss rfl rfl) ?_; refine o_nil ?_; refine x_then (hK6 _ _ ?_); refine c_if rfl (fun hlt => ?_) (fun hlt => ?_)
  ·
   have hix : i < xs.length := by omega
   have hiz : i < zs.length := by omega
   have hgx : (orK xs zs i)[i]? = some (bo0 xs i) := by rw [orK_get, if_neg (by omega)]; exact bo0_get hix
   refine c_skip ?_; refine x_then (hK5 _ _ ?_); refine c_seq fun _ hK7 => ?_; refine c_block ?_; refine c_seq fun _ hK8 => ?_; refine c_region ?_; refine o_step rfl (s_move rfl) ?_; refine o_step rfl (s_move rfl) ?_; refine o_step rfl (s_idx rfl rfl hzs (by omega)) ?_
   by_cases hb : bo0 zs i = true
   ·
    refine o_step rfl (step_cast (v' := .bool true) (s_ld rfl ((RdK.old hw.1 hw.2).ld i 0 (bo0_get hiz) rfl (by decide) (by omega))) (by rw [hb])) ?_; refine o_step rfl (s_move rfl) ?_; refine o_yes rfl rfl ?_; refine o_step rfl (s_move rfl) ?_; refine o_yes rfl rfl ?_; refine o_step rfl (s_move rfl) ?_; refine o_yes rfl rfl ?_; refine o_step rfl (s_idx rfl rfl hxs (by omega)) ?_; refine o_yes rfl rfl ?_
    by_cases ha : bo0 xs i = true
    ·
     refine o_step rfl (step_cast (v' := .bool true) (s_ld rfl ((hOx.rdk hiA).ld i 0 hgx rfl (by decide) (by omega))) (by rw [ha])) ?_; refine o_yes rfl rfl ?_; refine o_step rfl (s_not rfl) ?_; refine o_step rfl (s_pick_t rfl rfl) ?_; refine o_nil ?_; refine x_then (hK8 _ _ ?_); refine c_false rfl ?_; refine c_skip ?_; refine x_block ?_; refine x_then (hK7 _ _ ?_); refine c_region ?_; refine o_step rfl (s_move rfl) ?_; refine o_step rfl (s_add rfl rfl (by omega)) ?_; refine o_step rfl (s_assign rfl) ?_; refine o_nil ?_; exact x_then (x_inv (i + 1, Sx) ⟨by dsimp only; omega, by rw [← orK_no hix (.inr ha)]; exact hOx⟩ (by first | omega | (dsimp only; omega)) (by exact Sub.cons rfl (Sub.cons' rfl (congrArg Value.bool (by rw [moreTo_succ, hb, ha]; simp)) sbA)) hzB)
    ·
     have haf : bo0 xs i = false := by simpa using ha
     refine o_step rfl (step_cast (v' := .bool false) (s_ld rfl ((hOx.rdk hiA).ld i 0 hgx rfl (by decide) (by omega))) (by rw [haf])) ?_; refine o_yes rfl rfl ?_; refine o_step rfl (s_not rfl) ?_; refine o_step rfl (s_pick_t rfl rfl) ?_; refine o_nil ?_; refine x_then (hK8 _ _ ?_); refine c_true rfl ?_; refine c_seq fun _ hK9 => ?_; refine c_region ?_; refine o_step rfl (s_move rfl) ?_; refine o_step rfl (s_move rfl) ?_; refine o_step rfl (s_idx rfl rfl hxs (by omega)) ?_; refine o_stS1 i _ hOx pkA rfl rfl rfl (by rw [orK_len]; omega) (by omega) fun S' hS' => ?_; refine o_nil ?_; refine x_then (hK9 _ _ ?_); refine c_region ?_; refine o_step rfl (s_assign rfl) ?_; refine o_nil ?_; refine x_block ?_; refine x_then (hK7 _ _ ?_); refine c_region ?_; refine o_step rfl (s_move rfl) ?_; refine o_step rfl (s_add rfl rfl (by omega)) ?_; refine o_step rfl (s_assign rfl) ?_; refine o_nil ?_; exact x_then (x_inv (i + 1, S') ⟨by dsimp only; omega, by rw [← orK_yes hix hb]; exact hS'⟩ (by first | omega | (dsimp only; omega)) (by exact Sub.cons rfl (Sub.cons' rfl (congrArg Value.bool (by rw [moreTo_succ, hb, haf]; simp)) sbA)) hzB)
   ·
    have hbf : bo0 zs i = false := by simpa using hb
    refine o_step rfl (step_cast (v' := .bool false) (s_ld rfl ((RdK.old hw.1 hw.2).ld i 0 (bo0_get hiz) rfl (by decide) (by omega))) (by rw [hbf])) ?_; refine o_step rfl (s_move rfl) ?_; refine o_no rfl rfl rfl rfl ?_; refine o_no rfl rfl rfl rfl ?_; refine o_no rfl rfl rfl rfl ?_; refine o_no rfl rfl rfl rfl ?_; refine o_no rfl rfl rfl rfl ?_; refine o_step rfl (s_pick_f rfl rfl) ?_; refine o_nil ?_; refine x_then (hK8 _ _ ?_); refine c_false rfl ?_; refine c_skip ?_; refine x_block ?_; refine x_then (hK7 _ _ ?_); refine c_region ?_; refine o_step rfl (s_move rfl) ?_; refine o_step rfl (s_add rfl rfl (by omega)) ?_; refine o_step rfl (s_assign rfl) ?_; refine o_nil ?_; exact x_then (x_inv (i + 1, Sx) ⟨by dsimp only; omega, by rw [← orK_no hix (.inl hbf)]; exact hOx⟩ (by first | omega | (dsimp only; omega)) (by exact Sub.cons rfl (Sub.cons' rfl (congrArg Value.bool (by rw [moreTo_succ, hbf]; simp)) sbA)) hzB)
  ·
   obtain rfl : i = xs.length := by omega
   rw [orK_all] at hOx
   refine c_exit ?_; refine x_then_exit ?_; refine x_then_exit ?_; refine x_block_exit ?_; refine x_then (hK3 _ _ ?_); refine c_seq fun _ hK10 => ?_; refine c_region ?_; refine o_step rfl (s_move rfl) ?_; refine o_step rfl (s_assign rfl) ?_; refine o_nil ?_; refine x_then (hK10 _ _ ?_); refine c_ret ?_; refine ?_; refine x_sub (Sub.refl _) (H' := Sx) hzB ?_; exact x_ret rfl (.tmp rfl (.nil)) (⟨rfl, hOx⟩)
end Go.Proofs.YtopmnmigpbdddaaGreatDoor

/- Part of the proofs over this seat: see the text that holds the theorem. Conditions: each theorem bears its own. -/
namespace Go.Proofs.YtopmnmigpbdddaaGreatDoor
open Go Go.HL Go.Proofs Go.HL.Kl Go.HL.Kl.Mc Go.HL.Kl.Mc.AskE
theorem orM2_fn (aa : Option Addr) (ac n : Nat) (xs : List Bool) (hn : xs.length = n) (Sa : Hp) (hO : OwnS Ebo 1 4 (.slice aa n ac) xs Sa) (ba : Option Addr) (bc : Nat) (zs : List Bool) (hz : zs.length = n) (hxl : n ≤ 2000000) : HL.Fn Tryz.prog 64 [.slice aa n ac, .slice ba zs.length bc] (fun W => Rd Ebo W (.slice ba zs.length bc) zs ∧ Apart (keys Sa) (.slice ba zs.length bc)) Sa (fun v S' => v = .bool (moreB xs zs) ∧ OwnS Ebo 1 4 (.slice aa n ac) (orL xs zs) S') := by
  subst hn
  exact orM_fn aa ac xs Sa hO ba bc zs hz hxl
def SetO (N : Nat) (Pool : Hp) (s : Sl Bool) : Prop := s.xs.length = N + 1 ∧ ∃ S0, HIn S0 Pool ∧ OwnS Ebo 1 4 s.v s.xs S0
theorem SetO.mono {N : Nat} {P P' : Hp} {s : Sl Bool} (h : SetO N P s) (hs : HIn P P') : SetO N P' s := by
  obtain ⟨h1, S0, h2, h3⟩ := h
  exact ⟨h1, S0, fun p hp => hs p (h2 p hp), h3⟩
structure MeE where
  (bM : Nat) (ra : Option Addr) (rc : Nat) (re : List Nd) (ta : Option Addr) (tc : Nat) (w : List UInt8) (ma : Option Addr) (mc : Nat) (sls : List (Sl Nat))
structure MeS where
  (met : List (List Nat)) (SR : Hp) (sa : Option Addr) (sc : Nat) (ss : List (Sl Bool)) (SS Pool : Hp)
namespace MeE
def obj (K : MeE) (σ : MeS) : Nat × Obj := (K.bM, .cells [.slice K.ra K.re.length K.rc, .slice K.ta K.w.length K.tc, .slice K.ma K.sls.length K.mc, .slice σ.sa σ.ss.length σ.sc].toArray 132 (0, 0))
def H (K : MeE) (σ : MeS) : Hp := K.obj σ :: (σ.SR ++ (σ.SS ++ σ.Pool))
structure ok (K : MeE) : Prop where
  rng : ∀ x ∈ K.re, -128 ≤ x.op ∧ x.op < 128
  sh : shapedB K.re = true
  r8 : ∀ x ∈ K.re, ¬ x.op = 8
  rl : K.re.length ≤ 1000000
  wl : K.w.length ≤ 1000000
  sl : K.sls.length = K.re.length
structure Env (K : MeE) (W : World) (S : Hp) : Prop where
  d1 : Rd En W (.slice K.ra K.re.length K.rc) K.re
  a1 : Apart (keys S) (.slice K.ra K.re.length K.rc)
  d2 : Rd Eb W (.slice K.ta K.w.length K.tc) K.w
  a2 : Apart (keys S) (.slice K.ta K.w.length K.tc)
  d3 : Rd Esl W (.slice K.ma K.sls.length K.mc) K.sls
  a3 : Apart (keys S) (.slice K.ma K.sls.length K.mc)
structure Inv (K : MeE) (σ : MeS) : Prop where
  rows : OwnL Eix 1 3 K.sls σ.met σ.SR
  sets : OwnS Esl 1 41 (.slice σ.sa σ.ss.length σ.sc) σ.ss σ.SS
  tab : TabI K.re K.w σ.met σ.ss
  pool : ∀ s ∈ σ.ss, SetO K.w.length σ.Pool s
  len : ∀ (k : Nat) l, σ.met[k]? = some l → l.length = K.w.length + 1
  cnt : σ.ss.length + zers σ.met ≤ 1000000
structure Ext (K : MeE) (lo hi : Nat) (σ σ' : MeS) : Prop where
  inv : K.Inv σ'
  pool : HIn σ.Pool σ'.Pool
  out : ∀ k, k < lo ∨ hi ≤ k → σ'.met[k]? = σ.met[k]?
theorem Ext.refl {K : MeE} {lo hi : Nat} {σ : MeS} (h : K.Inv σ) : K.Ext lo hi σ σ := ⟨h, fun _ h => h, fun _ _ => rfl⟩
theorem Ext.trans {K : MeE} {lo hi lo1 hi1 : Nat} {σ σ1 σ2 : MeS} (h : K.Ext lo hi σ σ1) (h' : K.Ext lo1 hi1 σ1 σ2) (h1 : lo ≤ lo1) (h2 : hi1 ≤ hi) : K.Ext lo hi σ σ2 :=
  ⟨h'.inv, fun p hp => h'.pool p (h.pool p hp), fun k hk => (h'.out k (by omega)).trans (h.out k hk)⟩
theorem Ext.wide {K : MeE} {lo hi lo1 hi1 : Nat} {σ σ1 : MeS} (h : K.Ext lo1 hi1 σ σ1) (h1 : lo ≤ lo1) (h2 : hi1 ≤ hi) : K.Ext lo hi σ σ1 := ⟨h.inv, h.pool, fun k hk => h.out k (by omega)⟩
theorem Inv.add {K : MeE} {σ : MeS} (h : K.Inv σ) {at_ i : Nat} {row : List Nat} (hr : σ.met[at_]? = some row) (h0 : row[i]? = some 0) {a : Option Addr} {c : Nat} {l : List Bool} {So : Hp} (hO : OwnS Ebo 1 4 (.slice a l.length c) l So) (hll : l.length = K.w.length + 1)
    {sa : Option Addr} {sc : Nat} {SS' : Hp} (hS : OwnS Esl 1 41 (.slice sa (σ.ss ++ [(⟨a, c, l⟩ : Sl Bool)]).length sc) (σ.ss ++ [(⟨a, c, l⟩ : Sl Bool)]) SS') {SR' : Hp} (hR : OwnL Eix 1 3 K.sls (σ.met.set at_ (row.set i (σ.ss.length + 1))) SR')
    (hD : ∀ y js r e, Part K.re (.nd y js r) at_ e → IsS l K.w.length (der1 K.w y js i)) : K.Inv ⟨σ.met.set at_ (row.set i (σ.ss.length + 1)), SR', sa, sc, σ.ss ++ [(⟨a, c, l⟩ : Sl Bool)], SS', So ++ σ.Pool⟩ := by
  have hz := zers_set (v := σ.ss.length + 1) hr h0 (Nat.succ_ne_zero _)
  refine ⟨hR, hS, (h.tab.sets ⟨a, c, l⟩).set hr (s := ⟨a, c, l⟩) (by simp) hD, fun s hs => ?_, fun k l' hk => ?_, ?_⟩
  · rcases List.mem_append.1 hs with hs | hs
    · exact (h.pool s hs).mono HIn.appR
    · obtain rfl := List.mem_singleton.1 hs
      exact ⟨hll, So, HIn.appL, hO⟩
  · by_cases e : at_ = k
    · subst e
      rw [List.getElem?_set_self (List.getElem?_eq_some_iff.1 hr).1] at hk
      cases hk
      rw [List.length_set]
      exact h.len _ _ hr
    · rw [List.getElem?_set_ne e] at hk
      exact h.len _ _ hk
  · have := h.cnt
    simp only [List.length_append, List.length_singleton]
    omega
def OutQ (K : MeE) (lo hi : Nat) (D : Nat → Prop) (σ : MeS) (v : Value) (S' : Hp) : Prop := ∃ (a : Option Addr) (c : Nat) (l : List Bool) (So : Hp) (σ' : MeS), v = .slice a l.length c ∧ S' = K.obj σ' :: (So ++ (σ'.SR ++ (σ'.SS ++ σ'.Pool))) ∧ OwnS Ebo 1 4 (.slice a l.length c) l So ∧ IsS l K.w.length D ∧ K.Ext lo hi σ σ'
def EndQ (K : MeE) (lo hi : Nat) (D : Nat → Prop) (σ : MeS) (v : Value) (S' : Hp) : Prop := ∃ (a : Option Addr) (c : Nat) (l : List Bool) (S0 : Hp) (σ' : MeS), v = .slice a l.length c ∧ S' = K.obj σ' :: (σ'.SR ++ (σ'.SS ++ σ'.Pool)) ∧ OwnS Ebo 1 4 (.slice a l.length c) l S0 ∧ HIn S0 σ'.Pool ∧ IsS l K.w.length D ∧ K.Ext lo hi σ σ'
def EndsT (K : MeE) (x : Nd) (ks : F) : Prop := ∀ (at_ i1 : Nat), Part K.re (.nd x ks .nil) at_ i1 → ∀ (i : Nat), i ≤ K.w.length → ∀ σ : MeS, K.Inv σ →
  HL.Fn Tryz.prog 18 [pt K.bM, .int .i64 at_, .int .i64 i] (fun W => K.Env W (K.H σ)) (K.H σ) (K.EndQ at_ i1 (der1 K.w x ks i) σ)
def StepT (K : MeE) (x : Nd) (ks : F) : Prop := ∀ (at_ i1 : Nat), Part K.re (.nd x ks .nil) at_ i1 → ∀ (fa : Option Addr) (fc : Nat) (fr : List Bool) (S : Nat → Prop), IsS fr K.w.length S → ∀ σ : MeS, K.Inv σ →
  HL.Fn Tryz.prog 66 [pt K.bM, .int .i64 at_, .slice fa fr.length fc] (fun W => K.Env W (K.H σ) ∧ Rd Ebo W (.slice fa fr.length fc) fr ∧ Apart (keys (K.H σ)) (.slice fa fr.length fc)) (K.H σ) (K.OutQ at_ i1 (img (der1 K.w x ks) S) σ)
def RoundT (K : MeE) (x y : Nd) (js : F) : Prop := ∀ (at_ i1 : Nat), x.op = 6 → Part K.re (.nd x (.nd y js .nil) .nil) at_ i1 → ∀ (fa : Option Addr) (fc : Nat) (fr : List Bool) (Sh : Hp) (S : Nat → Prop), OwnS Ebo 1 4 (.slice fa fr.length fc) fr Sh → IsS fr K.w.length S → (∀ p, S p → p ≤ K.w.length) → ∀ σ : MeS, K.Inv σ →
  HL.Fn Tryz.prog 65 [pt K.bM, .int .i64 at_, .slice fa fr.length fc] (fun W => K.Env W (K.obj σ :: (Sh ++ (σ.SR ++ (σ.SS ++ σ.Pool))))) (K.obj σ :: (Sh ++ (σ.SR ++ (σ.SS ++ σ.Pool)))) (K.OutQ (at_ + 1) i1 (img (rounds x (der1 K.w y js)) S) σ)
end MeE
end Go.Proofs.YtopmnmigpbdddaaGreatDoor

/- Where a node can end, from one place on: node by node. Conditions: none. -/
namespace Go.HL.Kl.Mc
open Go Go.HL Go.HL.Kl AskE
variable {w : List UInt8} {x y : Nd} {ks js : F} {i : Nat}
theorem IsS.ds1 (h1 : x.op = 1) {b : UInt8} (hb : w[i]? = some b) {v : Bool} (hv : v = true ↔ x.set.getLsbD b.toNat = true) : IsS ((List.replicate (w.length + 1) false).set (i + 1) v) w.length (der1 w x ks i) := by
  have hi := (List.getElem?_eq_some_iff.1 hb).1
  refine (IsS.only (by omega) hv).iff fun q _ => ?_
  rw [der1_1 h1]
  constructor
  · rintro ⟨rfl, h⟩; exact ⟨rfl, b, hb, h⟩
  · rintro ⟨rfl, b', hb', h⟩
    rw [hb] at hb'
    cases hb'
    exact ⟨rfl, h⟩
theorem IsS.ds1n (h1 : x.op = 1) (hi : ¬ i < w.length) : IsS (List.replicate (w.length + 1) false) w.length (der1 w x ks i) := IsS.none.iff fun q _ => by
  rw [der1_1 h1]
  refine ⟨False.elim, ?_⟩
  rintro ⟨_, b, hb, _⟩
  exact hi (List.getElem?_eq_some_iff.1 hb).1
theorem IsS.ds2 (h2 : x.op = 2) (hi : i ≤ w.length) {v : Bool} (hv : v = true ↔ i = 0) : IsS ((List.replicate (w.length + 1) false).set i v) w.length (der1 w x ks i) := (IsS.only hi hv).iff fun q _ => by
  rw [der1_2 h2]
  constructor
  · rintro ⟨a, b⟩; omega
  · rintro ⟨a, b⟩; omega
theorem IsS.ds3 (h3 : x.op = 3) (hi : i ≤ w.length) {v : Bool} (hv : v = true ↔ i = w.length) : IsS ((List.replicate (w.length + 1) false).set i v) w.length (der1 w x ks i) := (IsS.only hi hv).iff fun q _ => by
  rw [der1_3 h3]
  constructor
  · rintro ⟨a, b⟩; omega
  · rintro ⟨a, b⟩; omega
theorem img_only {D : Nat → Nat → Prop} {i q : Nat} : img D (fun p => p = i) q ↔ D i q := by
  constructor
  · rintro ⟨p, h1, h2⟩
    have h1 : p = i := h1
    subst h1; exact h2
  · exact fun h => ⟨i, rfl, h⟩
theorem IsS.orn {l : List Bool} {N : Nat} {S : Nat → Prop} (hl : IsS l N S) : IsS (orL (List.replicate (N + 1) false) l) N S := (IsS.none.or hl).iff fun q _ => by simp
theorem IsS.ds7 (h7 : x.op = 7) {l : List Bool} (hl : IsS l w.length (der1 w y js i)) : IsS (orL (List.replicate (w.length + 1) false) l) w.length (der1 w x (.nd y js .nil) i) := hl.orn.iff fun q _ => by rw [der1_4 (.inr h7), der_one]
theorem IsS.ds6 (h6 : x.op = 6) {l : List Bool} (hl : IsS l w.length (img (rounds x (der1 w y js)) (fun q => q = i))) : IsS (orL (List.replicate (w.length + 1) false) l) w.length (der1 w x (.nd y js .nil) i) := hl.orn.iff fun q _ => by
  have h := img_rep6 (w := w) (x := x) (ks := .nd y js .nil) (T := fun q => q = i) (p := q) h6
  rw [der_fone] at h
  rw [← h, img_only]
def CatI (w : List UInt8) (x : Nd) (ks g : F) (i : Nat) (T : Nat → Prop) : Prop := ∀ q, img (der w g false) T q ↔ der1 w x ks i q
theorem CatI.start (h4 : x.op = 4) : CatI w x ks ks i (fun q => q = i) := fun q => by rw [img_only, der1_4 (.inl h4)]
theorem CatI.step {r : F} {T : Nat → Prop} (h : CatI w x ks (.nd y js r) i T) : CatI w x ks r i (img (der1 w y js) T) := fun q => img_cat.trans (h q)
theorem CatI.done {T : Nat → Prop} (h : CatI w x ks .nil i T) {l : List Bool} (hl : IsS l w.length T) : IsS (orL (List.replicate (w.length + 1) false) l) w.length (der1 w x ks i) := hl.orn.iff fun q _ => img_nil.symm.trans (h q)
def AltI (w : List UInt8) (x : Nd) (ks g : F) (i : Nat) (T : Nat → Prop) : Prop := ∀ q, (T q ∨ der w g true i q) ↔ der1 w x ks i q
theorem AltI.start (h5 : x.op = 5) : AltI w x ks ks i (fun _ => False) := fun q => by rw [der1_5 h5]; simp
theorem AltI.step {r : F} {T : Nat → Prop} (h : AltI w x ks (.nd y js r) i T) : AltI w x ks r i (fun q => T q ∨ der1 w y js i q) := fun q => by
  rw [← h q, der_alt, or_assoc]
theorem AltI.done {T : Nat → Prop} (h : AltI w x ks .nil i T) {l : List Bool} (hl : IsS l w.length T) : IsS l w.length (der1 w x ks i) := hl.iff fun q _ => by
  rw [← h q]
  exact ⟨.inl, fun h => h.resolve_right der_nil'.1⟩
theorem IsS.upto_all {S : Nat → Prop} {out : List Bool} (h : IsS out w.length (fun q => ∃ p, p < w.length + 1 ∧ S p ∧ der1 w y js p q)) : IsS out w.length (img (der1 w y js) S) := h.iff fun q hq => ⟨fun ⟨p, _, a, b⟩ => ⟨p, a, b⟩, fun ⟨p, a, b⟩ => ⟨p, by have := der1_up _ _ b; omega, a, b⟩⟩
end Go.HL.Kl.Mc
