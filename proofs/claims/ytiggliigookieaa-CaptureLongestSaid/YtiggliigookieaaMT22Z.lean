/- Machines of parts: rows of sets, searched and put together. Conditions: none. -/
import Derived.Test.YtiggliigookieaaMT17Z
import Derived.Test.YtiggliigookieaaMT7Z
import Derived.Test.YtiggliigookieaaMT25Z
namespace Go.HL.Kl.Mc
open Go Go.HL Go.HL.Kl
/-- rows of sets -/
structure RowsP (rs : List (Sl Bool)) (N : Nat) (D : Nat → Nat → Prop) : Prop where
  len : rs.length = N + 1
  get : ∀ p, p ≤ N → ∃ s, rs[p]? = some s ∧ IsS s.xs N (D p)
/-- the first k rows -/
structure RowsTo (rs : List (Sl Bool)) (N k : Nat) (D : Nat → Nat → Prop) : Prop where
  len : rs.length = k
  get : ∀ p, p < k → ∃ s, rs[p]? = some s ∧ IsS s.xs N (D p)
theorem RowsTo.zero {N : Nat} {D : Nat → Nat → Prop} : RowsTo [] N 0 D := ⟨rfl, fun p h => by omega⟩
theorem RowsTo.step {rs : List (Sl Bool)} {N k : Nat} {D : Nat → Nat → Prop} {s : Sl Bool} (h : RowsTo rs N k D) (hs : IsS s.xs N (D k)) : RowsTo (rs ++ [s]) N (k + 1) D := by
  refine ⟨by simp [h.len], fun p hp => ?_⟩
  by_cases e : p = k
  · subst e
    exact ⟨s, by rw [List.getElem?_append_right (by rw [h.len]; omega), h.len]; simp, hs⟩
  · obtain ⟨u, hu, hi⟩ := h.get p (by omega)
    exact ⟨u, by rw [List.getElem?_append_left (List.getElem?_eq_some_iff.1 hu).1]; exact hu, hi⟩
theorem RowsTo.done {rs : List (Sl Bool)} {N : Nat} {D : Nat → Nat → Prop} (h : RowsTo rs N (N + 1) D) : RowsP rs N D := ⟨h.len, fun p hp => h.get p (by omega)⟩
/-- rows that a part of the heap bears -/
structure RdRows (W : World) (v : Value) (rs : List (Sl Bool)) : Prop where
  out : Rd (Esl (α := Bool)) W v rs
  row : ∀ s ∈ rs, Rd Ebo W (.slice s.a s.xs.length s.c) s.xs
/-! a set, added place by place -/
def orTo (a b : List Bool) (i : Nat) : List Bool := (List.range a.length).map fun j => if j < i then orF a b j else bo0 a j
theorem orTo_len (a b : List Bool) (i : Nat) : (orTo a b i).length = a.length := by simp [orTo]
theorem orTo_get {a b : List Bool} {i j : Nat} (h : j < a.length) : (orTo a b i)[j]? = some (if j < i then orF a b j else bo0 a j) := by
  unfold orTo
  rw [List.getElem?_map, List.getElem?_range h]; rfl
theorem orTo_zero (a b : List Bool) : orTo a b 0 = a := by
  apply List.ext_getElem?
  intro j
  by_cases hj : j < a.length
  · rw [orTo_get hj, if_neg (by omega), bo0_get hj]
  · rw [List.getElem?_eq_none (by rw [orTo_len]; omega), List.getElem?_eq_none (by omega)]
theorem orTo_all (a b : List Bool) : orTo a b a.length = orL a b := by
  apply List.ext_getElem?
  intro j
  by_cases hj : j < a.length
  · rw [orTo_get hj, if_pos hj, orL_get hj]
  · rw [List.getElem?_eq_none (by rw [orTo_len]; omega), List.getElem?_eq_none (by rw [orL_len]; omega)]
theorem orTo_set {a b : List Bool} {i : Nat} (hi : i < a.length) : (orTo a b i).set i (orF a b i) = orTo a b (i + 1) := by
  apply List.ext_getElem?
  intro j
  by_cases hj : j < a.length
  · by_cases e : i = j
    · subst e
      rw [List.getElem?_set_self (by rw [orTo_len]; exact hi), orTo_get hi, if_pos (by omega)]
    · rw [List.getElem?_set_ne e, orTo_get hj, orTo_get hj]
      by_cases h : j < i
      · rw [if_pos h, if_pos (by omega)]
      · rw [if_neg h, if_neg (by omega)]
  · rw [List.getElem?_eq_none (by rw [List.length_set, orTo_len]; omega), List.getElem?_eq_none (by rw [orTo_len]; omega)]
theorem orTo_bo {a b : List Bool} {i : Nat} (hi : i < a.length) : bo0 (orTo a b i) i = bo0 a i := by
  have := orTo_get (b := b) (i := i) hi
  rw [if_neg (by omega)] at this
  simp [bo0, this]
def fromTo (D : Nat → Nat → Prop) (P : Nat → Prop) (k q : Nat) : Prop := ∃ p, p < k ∧ P p ∧ D p q
theorem fromTo_zero {D : Nat → Nat → Prop} {P : Nat → Prop} {N : Nat} : IsS (List.replicate (N + 1) false) N (fromTo D P 0) := IsS.none.iff fun q _ => ⟨False.elim, fun ⟨_, h, _⟩ => by omega⟩
theorem fromTo_no {D : Nat → Nat → Prop} {P : Nat → Prop} {N k : Nat} {l : List Bool} (h : IsS l N (fromTo D P k)) (hn : ¬ P k) : IsS l N (fromTo D P (k + 1)) := h.iff fun q _ =>
  ⟨fun ⟨p, h1, h2⟩ => ⟨p, by omega, h2⟩, fun ⟨p, h1, h2, h3⟩ => ⟨p, Nat.lt_of_le_of_ne (by omega) (fun e => hn (e ▸ h2)), h2, h3⟩⟩
theorem fromTo_yes {D : Nat → Nat → Prop} {P : Nat → Prop} {N k : Nat} {l r : List Bool} (h : IsS l N (fromTo D P k)) (hr : IsS r N (D k)) (hy : P k) : IsS (orL l r) N (fromTo D P (k + 1)) := (h.or hr).iff fun q _ =>
  ⟨fun h => h.elim (fun ⟨p, h1, h2⟩ => ⟨p, by omega, h2⟩) fun h => ⟨k, by omega, hy, h⟩, fun ⟨p, h1, h2, h3⟩ => if e : p = k then .inr (e ▸ h3) else .inl ⟨p, by omega, h2, h3⟩⟩
theorem fromTo_all {D : Nat → Nat → Prop} {P : Nat → Prop} {N : Nat} {l : List Bool} (h : IsS l N (fromTo D P (N + 1))) (hP : ∀ p, P p → p ≤ N) : IsS l N (img D P) := h.iff fun q _ =>
  ⟨fun ⟨p, _, h2, h3⟩ => ⟨p, h2, h3⟩, fun ⟨p, h2, h3⟩ => ⟨p, by have := hP p h2; omega, h2, h3⟩⟩
/-! again and again: a search -/
structure AgP (N : Nat) (D : Nat → Nat → Prop) (p : Nat) (out : List Bool) (todo : List Nat) : Prop where
  len : out.length = N + 1
  me : out[p]? = some true
  sound : ∀ q : Nat, out[q]? = some true → ∃ k, pow D k p q
  td : ∀ t ∈ todo, out[t]? = some true
  closed : ∀ q : Nat, out[q]? = some true → q ∉ todo → ∀ r, r ≤ N → D q r → out[r]? = some true
theorem AgP.start {N p : Nat} {D : Nat → Nat → Prop} (hp : p ≤ N) : AgP N D p ((List.replicate (N + 1) false).set p true) [p] := by
  have hq : ∀ q : Nat, ((List.replicate (N + 1) false).set p true)[q]? = some true → q = p := fun q h => by
    by_cases e : p = q
    · exact e.symm
    · rw [List.getElem?_set_ne e] at h; exact absurd h rep_no
  have hm : ((List.replicate (N + 1) false).set p true)[p]? = some true := List.getElem?_set_self (by simp; omega)
  exact ⟨by simp, hm, fun q h => ⟨0, (hq q h).symm⟩, fun t ht => by obtain rfl := List.mem_singleton.1 ht; exact hm, fun q h hn => absurd (List.mem_singleton.2 (hq q h)) hn⟩
/-- the place t at hand, its first k targets looked at -/
structure AgK (N : Nat) (D : Nat → Nat → Prop) (p t k : Nat) (out : List Bool) (todo : List Nat) : Prop where
  len : out.length = N + 1
  me : out[p]? = some true
  tt : out[t]? = some true
  sound : ∀ q : Nat, out[q]? = some true → ∃ k, pow D k p q
  td : ∀ t ∈ todo, out[t]? = some true
  closed : ∀ q : Nat, out[q]? = some true → q ∉ todo → q ≠ t → ∀ r, r ≤ N → D q r → out[r]? = some true
  part : ∀ r, r < k → D t r → out[r]? = some true
theorem AgP.pop {N p t : Nat} {D : Nat → Nat → Prop} {out : List Bool} {tl : List Nat} (h : AgP N D p out (tl ++ [t])) : AgK N D p t 0 out tl :=
  ⟨h.len, h.me, h.td t (by simp), h.sound, fun u hu => h.td u (by simp [hu]), fun q hq hn ht => h.closed q hq (by simp [hn, ht]), fun r hr => by omega⟩
theorem AgK.no {N p t k : Nat} {D : Nat → Nat → Prop} {out : List Bool} {td : List Nat} (h : AgK N D p t k out td) (hn : D t k → out[k]? = some true) : AgK N D p t (k + 1) out td :=
  ⟨h.len, h.me, h.tt, h.sound, h.td, h.closed, fun r hr hd => if e : r = k then e ▸ hn (e ▸ hd) else h.part r (by omega) hd⟩
theorem AgK.yes {N p t k : Nat} {D : Nat → Nat → Prop} {out : List Bool} {td : List Nat} (h : AgK N D p t k out td) (hk : k ≤ N) (hd : D t k) : AgK N D p t (k + 1) (out.set k true) (td ++ [k]) := by
  have hup : ∀ q : Nat, out[q]? = some true → (out.set k true)[q]? = some true := fun q hq => by
    rw [List.getElem?_set]
    split
    · rw [if_pos (by rw [h.len]; omega)]
    · exact hq
  have hme : (out.set k true)[k]? = some true := List.getElem?_set_self (by rw [h.len]; omega)
  refine ⟨by rw [List.length_set]; exact h.len, hup _ h.me, hup _ h.tt, fun q hq => ?_, fun u hu => ?_, fun q hq hn ht r hr hqr => ?_, fun r hr hd' => ?_⟩
  · by_cases e : k = q
    · subst e
      obtain ⟨j, hj⟩ := h.sound t h.tt
      exact ⟨j + 1, pow_succ'.2 ⟨t, hj, hd⟩⟩
    · rw [List.getElem?_set_ne e] at hq; exact h.sound q hq
  · rcases List.mem_append.1 hu with hu | hu
    · exact hup _ (h.td u hu)
    · obtain rfl := List.mem_singleton.1 hu; exact hme
  · by_cases e : k = q
    · subst e; exact absurd (List.mem_append_right _ (List.mem_singleton.2 rfl)) hn
    · rw [List.getElem?_set_ne e] at hq
      exact hup _ (h.closed q hq (fun hm => hn (List.mem_append_left _ hm)) ht r hr hqr)
  · by_cases e : r = k
    · subst e; exact hme
    · exact hup _ (h.part r (by omega) hd')
theorem AgK.done {N p t k : Nat} {D : Nat → Nat → Prop} {out : List Bool} {td : List Nat} (h : AgK N D p t k out td) (hk : N + 1 ≤ k) : AgP N D p out td :=
  ⟨h.len, h.me, h.sound, h.td, fun q hq hn r hr hqr => if e : q = t then h.part r (by omega) (e ▸ hqr) else h.closed q hq hn e r hr hqr⟩
theorem AgP.done {N p : Nat} {D : Nat → Nat → Prop} {out : List Bool} (h : AgP N D p out []) (hD : Inn N D) (hp : p ≤ N) : IsS out N (fun q => ∃ k, pow D k p q) := by
  refine ⟨h.len, fun q _ => ⟨h.sound q, fun ⟨k, hk⟩ => ?_⟩⟩
  have key : ∀ k q, pow D k p q → out[q]? = some true := by
    intro k
    induction k with
    | zero => intro q hq; obtain rfl : p = q := hq; exact h.me
    | succ k ih =>
      intro q hq
      obtain ⟨t, h1, h2⟩ := pow_succ'.1 hq
      exact h.closed t (ih t h1) (by simp) q (hD t q (pow_inn hD k p t hp h1) h2) h2
  exact key k q hk
/-! regexes with other numbers of groups -/
def mvN (g : Nat) (x : Nd) : Nd := if 0 < x.n then { x with n := IntKind.i64.wrap (x.n + g) } else x
def F.mv (g : Nat) : F → F
  | .nil => .nil
  | .nd x ks r => .nd (mvN g x) (ks.mv g) (r.mv g)
theorem mvN_op (g : Nat) (x : Nd) : (mvN g x).op = x.op ∧ (mvN g x).set = x.set ∧ (mvN g x).mn = x.mn ∧ (mvN g x).mx = x.mx ∧ (mvN g x).kids = x.kids := by
  unfold mvN; split <;> exact ⟨rfl, rfl, rfl, rfl, rfl⟩
theorem mvN_ok {g : Nat} {x : Nd} (h : ndOk x = true) : ndOk (mvN g x) = true := by
  obtain ⟨h1, h2, h3, h4, h5⟩ := mvN_op g x
  simp only [ndOk, Bool.and_eq_true] at h ⊢
  refine ⟨?_, ?_⟩
  · have hf := flds_iff.1 h.1
    refine flds_iff.2 ?_
    rw [h1, h2, h3, h4]
    refine ⟨hf.1, hf.2.1, ?_, hf.2.2.2⟩
    rcases hf.2.2.1 with e | e | e
    · exact .inl e
    · exact .inr (.inl e)
    · refine .inr (.inr ?_)
      unfold mvN; rw [if_neg (by omega)]; exact e
  · unfold kidsOk at h ⊢; rw [h1, h5]; exact h.2
theorem F.mv_num (g : Nat) : ∀ f : F, (f.mv g).num = f.num
  | .nil => rfl
  | .nd x ks r => by simp only [F.mv, F.num, F.mv_num g r]
theorem F.mv_wf (g : Nat) : ∀ {f : F}, f.wf → (f.mv g).wf
  | .nil, _ => trivial
  | .nd x ks r, ⟨a, b, c, d⟩ => ⟨mvN_ok a, by rw [F.mv_num, (mvN_op g x).2.2.2.2]; exact b, F.mv_wf g c, F.mv_wf g d⟩
theorem F.mv_flat (g : Nat) : ∀ f : F, (f.mv g).flat = f.flat.map (mvN g)
  | .nil => rfl
  | .nd x ks r => by simp [F.mv, F.flat, F.mv_flat g ks, F.mv_flat g r]
theorem rounds_congr {x y : Nd} {D : Nat → Nat → Prop} (h : x.mn = y.mn) (h' : x.mx = y.mx) : rounds x D = rounds y D := by
  funext p q; unfold rounds; rw [h, h']
theorem der_mv (w : List UInt8) (g : Nat) : ∀ (f : F) (m : Bool), der w (f.mv g) m = der w f m
  | .nil, m => rfl
  | .nd x ks r, m => by
    obtain ⟨h1, h2, h3, h4, h5⟩ := mvN_op g x
    funext p q
    have e1 := der_mv w g ks true
    have e2 := der_mv w g ks false
    have e3 := der_mv w g r m
    have e4 := der_mv w g r true
    have e5 := der_mv w g r false
    simp only [F.mv, der, h1, h2, e1, e2, e4, e5, rounds_congr h3 h4]
theorem der1_mv (w : List UInt8) (g : Nat) (x : Nd) (ks : F) : der1 w (mvN g x) (ks.mv g) = der1 w x ks := by
  funext p q
  exact congrFun (congrFun (der_mv w g (.nd x ks .nil) false) p) q
/-- two regexes under one node -/
def catN : Nd := ⟨4, 0, 0, 0, 0, 2⟩
def altN : Nd := ⟨5, 0, 0, 0, 0, 2⟩
def twoL (n : Nd) (a b : List Nd) (g : Nat) : List Nd := n :: (a ++ b.map (mvN g))
theorem Shp.two {n : Nd} {a b : List Nd} {xa xb y : Nd} {ka kb js : F} {g : Nat} (hn : ndOk n = true) (h2 : n.kids = 2) (ha : Shp a xa ka) (hb : Shp b xb kb) (h : Shp (twoL n a b g) y js) : y = n ∧ js = .nd xa ka (.nd (mvN g xb) (kb.mv g) .nil) := by
  have hbw := F.mv_wf g hb.wf
  have hwf : (F.nd n (.nd xa ka (.nd (mvN g xb) (kb.mv g) .nil)) .nil).wf := ⟨hn, by rw [h2]; rfl, ⟨ha.wf.1, ha.wf.2.1, ha.wf.2.2.1, hbw⟩, trivial⟩
  have := flat_inj (.nd y js .nil) (.nd n (.nd xa ka (.nd (mvN g xb) (kb.mv g) .nil)) .nil) [] [] h.wf hwf rfl (by
    have e := h.flat
    have eb := congrArg (List.map (mvN g)) hb.flat
    simp only [List.map_cons, ← F.mv_flat] at eb
    simp only [F.flat, List.append_nil]
    rw [← e, twoL, eb, ha.flat]; simp)
  simpa using this.1
theorem Shp.rep1 {a : List Nd} {xa y : Nd} {ka js : F} (ha : Shp a xa ka) (h : Shp (starN :: a) y js) : y = starN ∧ js = .nd xa ka .nil := by
  have hwf : (F.nd starN (.nd xa ka .nil) .nil).wf := ⟨by decide +kernel, rfl, ⟨ha.wf.1, ha.wf.2.1, ha.wf.2.2.1, trivial⟩, trivial⟩
  have := flat_inj (.nd y js .nil) (.nd starN (.nd xa ka .nil) .nil) [] [] h.wf hwf rfl (by
    simp only [F.flat, List.append_nil]
    rw [← h.flat, ha.flat])
  simpa using this.1
theorem der1_cat2 {w : List UInt8} {xa xb : Nd} {ka kb : F} {g p q : Nat} : der1 w catN (.nd xa ka (.nd (mvN g xb) (kb.mv g) .nil)) p q ↔ img (der1 w xb kb) (der1 w xa ka p) q := by
  have h := img_else (w := w) (x := catN) (ks := .nd xa ka (.nd (mvN g xb) (kb.mv g) .nil)) (T := fun t => t = p) (p := q) (by decide) (by decide) (by decide) (by decide) (by decide)
  simp only [img, exists_eq_left] at h
  rw [h, der_cat]
  constructor
  · rintro ⟨t, h1, h2⟩
    exact ⟨t, h1, by rw [← der1_mv w g xb kb]; exact h2⟩
  · rintro ⟨t, h1, h2⟩
    exact ⟨t, h1, by rw [← der1_mv w g xb kb] at h2; exact h2⟩
theorem der1_alt2 {w : List UInt8} {xa xb : Nd} {ka kb : F} {g p q : Nat} : der1 w altN (.nd xa ka (.nd (mvN g xb) (kb.mv g) .nil)) p q ↔ der1 w xa ka p q ∨ der1 w xb kb p q := by
  have h := img_alt5 (w := w) (x := altN) (ks := .nd xa ka (.nd (mvN g xb) (kb.mv g) .nil)) (T := fun t => t = p) (p := q) rfl
  simp only [img, exists_eq_left] at h
  rw [h, der_alt, der_alt, der1_mv]
  exact or_congr_right ⟨fun h => h.elim id fun h => (der_nil'.1 h).elim, .inl⟩
theorem der1_star {w : List UInt8} {xa : Nd} {ka : F} {p q : Nat} : der1 w starN (.nd xa ka .nil) p q ↔ ∃ k, pow (der1 w xa ka) k p q := by
  have h := img_rep6 (w := w) (x := starN) (ks := .nd xa ka .nil) (T := fun t => t = p) (p := q) rfl
  simp only [img, exists_eq_left] at h
  rw [h]
  constructor
  · rintro ⟨k, _, _, h⟩; exact ⟨k, h⟩
  · rintro ⟨k, h⟩; exact ⟨k, Int.natCast_nonneg k, .inl rfl, h⟩
theorem mvN_rng {g : Nat} {b : List Nd} (h : ∀ x ∈ b, -128 ≤ x.op ∧ x.op < 128) : ∀ x ∈ b.map (mvN g), -128 ≤ x.op ∧ x.op < 128 := fun x hx => by
  obtain ⟨y, hy, rfl⟩ := List.mem_map.1 hx
  rw [(mvN_op g y).1]; exact h y hy
theorem twoL_rng {n : Nd} {a b : List Nd} {g : Nat} (hn : -128 ≤ n.op ∧ n.op < 128) (ha : ∀ x ∈ a, -128 ≤ x.op ∧ x.op < 128) (hb : ∀ x ∈ b, -128 ≤ x.op ∧ x.op < 128) : ∀ x ∈ twoL n a b g, -128 ≤ x.op ∧ x.op < 128 := fun x hx => by
  rcases List.mem_cons.1 hx with rfl | hx
  · exact hn
  · exact (List.mem_append.1 hx).elim (ha x) (mvN_rng hb x)
theorem cons_rng {n : Nd} {a : List Nd} (hn : -128 ≤ n.op ∧ n.op < 128) (ha : ∀ x ∈ a, -128 ≤ x.op ∧ x.op < 128) : ∀ x ∈ n :: a, -128 ≤ x.op ∧ x.op < 128 := fun x hx => (List.mem_cons.1 hx).elim (fun e => e ▸ hn) (ha x)
theorem twoL_len {n : Nd} {a b : List Nd} {g : Nat} : (twoL n a b g).length = a.length + b.length + 1 := by simp [twoL]
theorem cat_ok : ndOk catN = true := by decide +kernel
theorem alt_ok : ndOk altN = true := by decide +kernel
end Go.HL.Kl.Mc
namespace Go.HL.Kl.Mc
open Go Go.HL Go.HL.Kl
def mvTo (g : Nat) (b : List Nd) (j : Nat) : List Nd := (b.take j).map (mvN g) ++ b.drop j
theorem mvTo_len (g : Nat) (b : List Nd) (j : Nat) : (mvTo g b j).length = b.length := by simp [mvTo]; omega
theorem mvTo_zero (g : Nat) (b : List Nd) : mvTo g b 0 = b := by simp [mvTo]
theorem mvTo_all (g : Nat) (b : List Nd) : mvTo g b b.length = b.map (mvN g) := by simp [mvTo]
theorem mvTo_at {g : Nat} {b : List Nd} {j : Nat} {x : Nd} (h : b[j]? = some x) : mvTo g b j = (b.take j).map (mvN g) ++ x :: b.drop (j + 1) := by
  have hj := (List.getElem?_eq_some_iff.1 h).1
  rw [List.getElem?_eq_getElem hj, Option.some.injEq] at h
  rw [mvTo, List.drop_eq_getElem_cons hj, h]
theorem mvTo_len' {g : Nat} {b : List Nd} {j : Nat} {x : Nd} (h : b[j]? = some x) : ((b.take j).map (mvN g)).length = j := by
  have := (List.getElem?_eq_some_iff.1 h).1
  simp; omega
theorem mvTo_get {g : Nat} {b : List Nd} {j : Nat} {x : Nd} (h : b[j]? = some x) : (mvTo g b j)[j]? = some x := by rw [mvTo_at h, get_mid (mvTo_len' h)]
theorem mvTo_set {g : Nat} {b : List Nd} {j : Nat} {x : Nd} (h : b[j]? = some x) : (mvTo g b j).set j (mvN g x) = mvTo g b (j + 1) := by
  rw [mvTo_at h, set_mid (mvTo_len' h), mvTo, List.take_add_one, h]
  simp
theorem mvTo_skip {g : Nat} {b : List Nd} {j : Nat} {x : Nd} (h : b[j]? = some x) (hn : ¬ 0 < x.n) : mvTo g b j = mvTo g b (j + 1) := by
  rw [← mvTo_set h, mvTo_at h, set_mid (mvTo_len' h), mvN, if_neg hn]
/-- the answer of runs -/
def RowsC (N : Nat) (D : Nat → Nat → Prop) (v : Value) (S : Hp) : Prop := ∃ (a : Option Addr) (c : Nat) (rs : List (Sl Bool)), v = .slice a rs.length c ∧ RowsP rs N D ∧ ∀ W : World, (∀ b o, (b, o) ∈ S → W.heap[b]? = some o) → RdRows W (.slice a rs.length c) rs
theorem RowsC.of {N : Nat} {D : Nat → Nat → Prop} {q : Sl (Sl Bool)} {S S' : Hp} {T : Nat} (h : RowsTo q.xs N (N + 1) D) (ho : OwnS (Esl (α := Bool)) 1 T (.slice q.a q.xs.length q.c) q.xs S) (hr : ∀ s ∈ q.xs, RdS Ebo (.slice s.a s.xs.length s.c) s.xs S') : RowsC N D (.slice q.a q.xs.length q.c) (S ++ S') :=
  ⟨_, _, q.xs, rfl, h.done, fun W hW => ⟨ho.rd fun b o hm => hW b o (List.mem_append_left _ hm), fun s hs => (hr s hs).out W fun b o hm => hW b o (List.mem_append_right _ hm)⟩⟩
/-- read as rows, in every world that bears this part -/
def RdRS (v : Value) (rs : List (Sl Bool)) (S : Hp) : Prop := ∀ W : World, (∀ b o, (b, o) ∈ S → W.heap[b]? = some o) → RdRows W v rs
theorem RdRS.at {v : Value} {rs : List (Sl Bool)} {S H : Hp} {w0 w : World} (h : RdRS v rs S) (hs : HIn S H) (st : St w0 w [] H) : RdRows w v rs := h w fun b o hm => st.has b o (hs _ hm)
theorem RdRS.rdk {v : Value} {rs : List (Sl Bool)} {S H : Hp} {κ : Cx} (h : RdRS v rs S) (hs : HIn S H) : RdK (Esl (α := Bool)) κ H v rs := ⟨fun w st => (h w fun b o hm => st.has b o (hs _ hm)).out⟩
theorem RdRS.row {v : Value} {rs : List (Sl Bool)} {S H : Hp} {κ : Cx} {s : Sl Bool} (h : RdRS v rs S) (hm : s ∈ rs) (hs : HIn S H) : RdK Ebo κ H (.slice s.a s.xs.length s.c) s.xs := ⟨fun w st => (h w fun b o hm => st.has b o (hs _ hm)).row s hm⟩
end Go.HL.Kl.Mc

/- What Compile answers, as a pair; nodes written out. Conditions: none. -/
namespace Go.HL.Kl.Mc
open Go Go.HL Go.HL.Kl
/-- an answer of Compile that is good -/
def CompOk (re : List Nd) (sv : Value) (S : Hp) (x : Nd) (ks : F) : Prop := ∃ a, shapedB re = true ∧ refsB re = false ∧ Shp re x ks ∧ sv = .slice a (mach (.nd x ks .nil)).length (mach (.nd x ks .nil)).length ∧ RdS Ein (.slice a (mach (.nd x ks .nil)).length (mach (.nd x ks .nil)).length) (mach (.nd x ks .nil)) S
theorem CompP.pair {re : List Nd} {v : Value} {S : Hp} (h : CompP re v S) : ∃ sv e, v = .tuple #[sv, .int .i64 e] ∧ (e = 0 → ∃ x ks, CompOk re sv S x ks) := by
  cases h with
  | shape hs hv => exact ⟨_, _, hv, fun h => by omega⟩
  | ref hs hr hv => exact ⟨_, _, hv, fun h => by omega⟩
  | ok hs hr h hv hm => exact ⟨_, _, hv, fun _ => ⟨_, _, _, hs, hr, h, rfl, hm⟩⟩
theorem En_cat : En catN = [.int .i8 4, .int .u64 0, .int .u64 0, .int .u64 0, .int .u64 0, .int .i64 0, .int .i64 0, .int .i64 0, .int .i64 2] := by
  show _ :: (Ec 0#256 ++ _) = _
  rw [Ec_zero]; rfl
theorem En_alt : En altN = [.int .i8 5, .int .u64 0, .int .u64 0, .int .u64 0, .int .u64 0, .int .i64 0, .int .i64 0, .int .i64 0, .int .i64 2] := by
  show _ :: (Ec 0#256 ++ _) = _
  rw [Ec_zero]; rfl
end Go.HL.Kl.Mc

/- Rows of bytes, so many times. Conditions: none. -/
namespace Go.HL.Kl.Mc
open Go Go.HL Go.HL.Kl
/-! well shaped: forests without groups and references -/
def F.plain : F → Prop
  | .nil => True
  | .nd x ks r => (¬ x.op = 7 ∧ ¬ x.op = 8) ∧ ks.plain ∧ r.plain
theorem shN_full {re : List Nd} : ∀ (f : F) (d g i i' : Nat) (en : List Bool), Part re f i i' → f.depth ≤ d → f.plain → kidsN (fun i en => shN re d i en g) f.num i en = some (i', en)
  | .nil, d, g, i, i', en, h, _, _ => by
    have := h.len
    simp [F.size] at this
    subst this; rfl
  | .nd x ks r, d, g, i, i', en, h, hd, hp => by
    obtain ⟨hx, hk, hr⟩ := h.head
    simp only [F.depth] at hd
    obtain ⟨d', rfl⟩ : ∃ d', d = d' + 1 := ⟨d - 1, by omega⟩
    have hkn : x.kids.toNat = ks.num := by have : (ks.num : Int) = x.kids := h.wf.2.1; omega
    have h1 := shN_full ks d' g (i + 1) _ en hk (by omega) hp.2.1
    have h2 := shN_some hx h.wf.1 (gate_other (en := en) (g := g) hp.1.2 hp.1.1) (by rw [hkn]; exact h1)
    rw [if_neg hp.1.1] at h2
    show (match shN re (d' + 1) i en g with | none => none | some (i', en') => kidsN (fun i en => shN re (d' + 1) i en g) r.num i' en') = _
    rw [h2]
    exact shN_full r (d' + 1) g _ i' en hr (by omega) hp.2.2
theorem Shp.good {re : List Nd} {x : Nd} {ks : F} (h : Shp re x ks) (hp : (F.nd x ks .nil).plain) : shapedB re = true ∧ refsB re = false := by
  have h1 := shN_full (.nd x ks .nil) 260 0 0 re.length [] h.part (by have := h.dep; simp only [F.depth]; omega) hp
  have h2 : shN re 260 0 [] 0 = some (re.length, []) := by
    simp only [F.num, kidsN] at h1
    cases hs : shN re 260 0 [] 0 with
    | none => simp [hs] at h1
    | some q => obtain ⟨a, b⟩ := q; simpa [hs] using h1
  refine ⟨shapedB_iff.2 ⟨⟨[], h2⟩, x, ks, h⟩, refs_no fun j y hj hy h8 => ?_⟩
  have key : ∀ f : F, f.plain → ∀ y ∈ f.flat, ¬ y.op = 8 := by
    intro f
    induction f with
    | nil => intro _ y hy; cases hy
    | nd z a b iha ihb =>
      rintro ⟨h1, h2, h3⟩ y hy
      rcases List.mem_cons.1 hy with rfl | hy
      · exact h1.2
      · exact (List.mem_append.1 hy).elim (iha h2 y) (ihb h3 y)
  have hm := List.mem_of_getElem? hy
  rw [h.flat] at hm
  exact key _ hp y (by simpa [F.flat] using hm) h8
/-! the row's regex -/
def endN : Nd := ⟨4, 0, 0, 0, 0, 0⟩
def rowN (n : Nat) : Nd := ⟨4, 0, 0, 0, 0, (n : Int) + 1⟩
def timN (l m : Nat) : Nd := ⟨6, 0, 0, l, (l : Int) + m, 1⟩
def rowF : List UInt8 → F
  | [] => .nd endN .nil .nil
  | b :: bs => .nd (letN b) .nil (rowF bs)
def rowR (row : List UInt8) (l m : Nat) : List Nd := timN l m :: rowN row.length :: (row.map letN ++ [endN])
theorem rowF_num : ∀ row, (rowF row).num = row.length + 1
  | [] => rfl
  | b :: bs => by simp [rowF, F.num, rowF_num bs]
theorem rowF_flat : ∀ row, (rowF row).flat = row.map letN ++ [endN]
  | [] => rfl
  | b :: bs => by simp [rowF, F.flat, rowF_flat bs]
theorem let_ok' (b : UInt8) : ndOk (letN b) = true := by
  have : flds (letN b) = true := flds_iff.2 ⟨by simp [letN], .inl rfl, .inr (.inr rfl), (fun h => by cases h), fun _ => ⟨rfl, rfl⟩⟩
  rw [ndOk, this]; rfl
theorem end_ok : ndOk endN = true := by decide +kernel
theorem rowF_wf : ∀ row, (rowF row).wf
  | [] => ⟨end_ok, rfl, trivial, trivial⟩
  | b :: bs => ⟨let_ok' b, rfl, trivial, rowF_wf bs⟩
theorem rowF_plain : ∀ row, (rowF row).plain
  | [] => ⟨⟨by decide, by decide⟩, trivial, trivial⟩
  | b :: bs => ⟨⟨by simp [letN], by simp [letN]⟩, trivial, rowF_plain bs⟩
theorem rowF_depth : ∀ row, (rowF row).depth = 1
  | [] => rfl
  | b :: bs => by simp [rowF, F.depth, rowF_depth bs]
theorem rowF_weight : ∀ row, (rowF row).weight = row.length + 1
  | [] => rfl
  | b :: bs => by simp [rowF, F.weight, rowF_weight bs]; omega
theorem row_ok {n : Nat} (h : 1 ≤ n) : ndOk (rowN n) = true := by
  have h1 : flds (rowN n) = true := flds_iff.2 ⟨by simp [rowN], .inr rfl, .inr (.inr rfl), (fun h => by cases h), fun _ => ⟨rfl, rfl⟩⟩
  have h2 : kidsOk (rowN n) = true := by
    unfold kidsOk rowN
    simp; omega
  rw [ndOk, h1, h2]; rfl
theorem tim_ok {l m : Nat} (hl : l ≤ 30) (hm : m ≤ 30) : ndOk (timN l m) = true := by
  have h1 : flds (timN l m) = true := flds_iff.2 ⟨by simp [timN], .inr rfl, .inr (.inr rfl), (fun _ => ⟨by simp [timN], by simp [timN]; omega, .inr (by simp [timN]; omega)⟩), fun h => absurd rfl h⟩
  rw [ndOk, h1]; rfl
theorem rowR_shp {row : List UInt8} {l m : Nat} (h1 : 1 ≤ row.length) (h2 : row.length ≤ 40) (hl : l ≤ 30) (hm : m ≤ 30) : Shp (rowR row l m) (timN l m) (.nd (rowN row.length) (rowF row) .nil) := by
  refine ⟨⟨tim_ok hl hm, rfl, ⟨row_ok h1, by rw [rowF_num]; rfl, rowF_wf row, trivial⟩, trivial⟩, by simp [rowR, F.flat, rowF_flat], by simp [F.depth, rowF_depth], ?_⟩
  have t1 : times (rowN row.length) = 1 := by simp [times, rowN]
  have t2 : times (timN l m) ≤ 60 := by
    have h0 : ¬ ((l : Int) + m < 0) := by omega
    simp only [times, timN, if_true, h0, if_false]
    omega
  rw [weight_one, weight_one, rowF_weight, t1]
  have : times (timN l m) * (1 + 1 * (row.length + 1)) ≤ 60 * 42 := Nat.mul_le_mul t2 (by omega)
  omega
theorem rowR_good {row : List UInt8} {l m : Nat} (h1 : 1 ≤ row.length) (h2 : row.length ≤ 40) (hl : l ≤ 30) (hm : m ≤ 30) : shapedB (rowR row l m) = true ∧ refsB (rowR row l m) = false :=
  (rowR_shp h1 h2 hl hm).good ⟨⟨by simp [timN], by simp [timN]⟩, ⟨⟨by simp [rowN], by simp [rowN]⟩, rowF_plain row, trivial⟩, trivial⟩
theorem rowR_rng (row : List UInt8) (l m : Nat) : ∀ x ∈ rowR row l m, -128 ≤ x.op ∧ x.op < 128 := fun x hx => by
  rcases List.mem_cons.1 hx with rfl | hx
  · simp [timN]
  rcases List.mem_cons.1 hx with rfl | hx
  · simp [rowN]
  rcases List.mem_append.1 hx with hx | hx
  · obtain ⟨b, _, rfl⟩ := List.mem_map.1 hx
    simp [letN]
  · obtain rfl := List.mem_singleton.1 hx
    decide
theorem CompP.good {re : List Nd} {v : Value} {S : Hp} {x : Nd} {ks : F} (h : CompP re v S) (hs : Shp re x ks) (hg : shapedB re = true ∧ refsB re = false) : ∃ a, v = .tuple #[.slice a (mach (.nd x ks .nil)).length (mach (.nd x ks .nil)).length, .int .i64 0] ∧ RdS Ein (.slice a (mach (.nd x ks .nil)).length (mach (.nd x ks .nil)).length) (mach (.nd x ks .nil)) S := by
  cases h with
  | shape h1 => rw [hg.1] at h1; cases h1
  | ref _ h1 => rw [hg.2] at h1; cases h1
  | ok _ _ h hv hm =>
    obtain ⟨rfl, rfl⟩ := h.uniq hs
    exact ⟨_, hv, hm⟩
/-! its derivations -/
def Mt (row w : List UInt8) (p : Nat) : Prop := (w.drop p).take row.length = row
theorem der_let {w : List UInt8} {b : UInt8} {p q : Nat} : der1 w (letN b) .nil p q ↔ q = p + 1 ∧ w[p]? = some b := by
  rw [der1_def, if_pos (show (letN b).op = 1 from rfl)]
  refine and_congr_right fun _ => ⟨fun ⟨c, hc, hs⟩ => ?_, fun h => ⟨b, h, ?_⟩⟩
  · rw [show (letN b).set = bit b.toNat from rfl, bit_get c.toNat_lt, decide_eq_true_eq] at hs
    rw [hc, UInt8.toNat_inj.1 hs]
  · rw [show (letN b).set = bit b.toNat from rfl, bit_get b.toNat_lt, decide_eq_true_eq]
theorem mt_cons {b : UInt8} {bs w : List UInt8} {p : Nat} : Mt (b :: bs) w p ↔ w[p]? = some b ∧ Mt bs w (p + 1) := by
  unfold Mt
  rcases Nat.lt_or_ge p w.length with h | h
  · rw [List.drop_eq_getElem_cons h, List.getElem?_eq_getElem h, List.length_cons, List.take_succ_cons]
    simp
  · rw [List.drop_of_length_le h, List.getElem?_eq_none h]
    simp
theorem der_row {w : List UInt8} : ∀ {row : List UInt8} {p q : Nat}, der w (rowF row) false p q ↔ q = p + row.length ∧ Mt row w p
  | [], p, q => by
    rw [rowF, der_cat]
    simp only [der_nil]
    have h : ∀ p q, der1 w endN .nil p q ↔ p = q := fun p q => by
      rw [der1_def, if_neg (by decide), if_neg (by decide), if_neg (by decide), if_neg (by decide), if_neg (by decide), der_nil]
    simp only [h, Mt]
    simp
    exact eq_comm
  | b :: bs, p, q => by
    rw [rowF, der_cat]
    simp only [der_let, mt_cons, der_row (row := bs), List.length_cons]
    constructor
    · rintro ⟨t, ⟨rfl, h1⟩, rfl, h2⟩; exact ⟨by omega, h1, h2⟩
    · rintro ⟨rfl, h1, h2⟩; exact ⟨p + 1, ⟨rfl, h1⟩, by omega, h2⟩
theorem pow_row {row w : List UInt8} : ∀ {k q : Nat}, pow (fun p q => q = p + row.length ∧ Mt row w p) k 0 q ↔ q = k * row.length ∧ ∀ j, j < k → Mt row w (j * row.length)
  | 0, q => by simp [pow]; exact eq_comm
  | k + 1, q => by
    rw [pow_succ']
    simp only [pow_row (k := k)]
    constructor
    · rintro ⟨t, ⟨rfl, h1⟩, rfl, h2⟩
      exact ⟨(Nat.succ_mul _ _).symm, fun j hj => if e : j = k then e ▸ h2 else h1 j (by omega)⟩
    · rintro ⟨rfl, h1⟩
      exact ⟨k * row.length, ⟨rfl, fun j hj => h1 j (by omega)⟩, Nat.succ_mul _ _, h1 k (by omega)⟩
theorem der_tim {row w : List UInt8} {l m q : Nat} : der1 w (timN l m) (.nd (rowN row.length) (rowF row) .nil) 0 q ↔ ∃ k, l ≤ k ∧ k ≤ l + m ∧ q = k * row.length ∧ ∀ j, j < k → Mt row w (j * row.length) := by
  have h := img_rep6 (w := w) (x := timN l m) (ks := .nd (rowN row.length) (rowF row) .nil) (T := fun t => t = 0) (p := q) rfl
  simp only [img, exists_eq_left] at h
  rw [h]
  have hD : der w (.nd (rowN row.length) (rowF row) .nil) false = fun p q => q = p + row.length ∧ Mt row w p := by
    funext p q
    refine propext ?_
    have h2 := img_else (w := w) (x := rowN row.length) (ks := rowF row) (T := fun t => t = p) (p := q) (by simp [rowN]) (by simp [rowN]) (by simp [rowN]) (by simp [rowN]) (by simp [rowN])
    simp only [img, exists_eq_left] at h2
    exact h2.trans der_row
  rw [hD]
  constructor
  · rintro ⟨k, h1, h2, h3⟩
    refine ⟨k, ?_, ?_, pow_row.1 h3⟩
    · have : (l : Int) ≤ k := h1
      omega
    · rcases h2 with h2 | h2
      · have : (l : Int) + m = -1 := h2
        omega
      · have : (k : Int) ≤ (l : Int) + m := h2
        omega
  · rintro ⟨k, h1, h2, h3⟩
    exact ⟨k, show (l : Int) ≤ k by omega, .inr (show (k : Int) ≤ (l : Int) + m by omega), pow_row.2 h3⟩
/-- the greatest number of rounds -/
def Most (row w : List UInt8) (n k : Nat) : Prop := k ≤ n ∧ (∀ j, j < k → Mt row w (j * row.length)) ∧ (k = n ∨ ¬ Mt row w (k * row.length))
theorem row_want {row w : List UInt8} {l m k q : Nat} (hr : 1 ≤ row.length) (h : Most row w (l + m) k) : der1 w (timN l m) (.nd (rowN row.length) (rowF row) .nil) 0 q ↔ q % row.length = 0 ∧ q / row.length ≤ k ∧ l ≤ q / row.length := by
  rw [der_tim]
  constructor
  · rintro ⟨j, h1, h2, rfl, h3⟩
    rw [Nat.mul_mod_left, Nat.mul_div_cancel _ (by omega)]
    refine ⟨rfl, Nat.le_of_not_lt fun hlt => ?_, h1⟩
    rcases h.2.2 with e | e
    · omega
    · exact e (h3 k hlt)
  · rintro ⟨h1, h2, h3⟩
    exact ⟨q / row.length, h3, Nat.le_trans h2 h.1, by rw [Nat.mul_comm]; have := Nat.div_add_mod q row.length; omega, fun j hj => h.2.1 j (by omega)⟩
theorem mt_len {row w : List UInt8} {p : Nat} (h : Mt row w p) (hr : 1 ≤ row.length) : p + row.length ≤ w.length := by
  have := congrArg List.length h
  rw [List.length_take, List.length_drop] at this
  omega
theorem row_isS {row w : List UInt8} {l m k q : Nat} {out : List Bool} (hr : 1 ≤ row.length) (h : Most row w (l + m) k) (hi : IsS out w.length (der1 w (timN l m) (.nd (rowN row.length) (rowF row) .nil) 0)) (hq : q ≤ w.length) : bo0 out q = decide (q % row.length = 0 ∧ q / row.length ≤ k ∧ l ≤ q / row.length) := by
  rw [Bool.eq_iff_iff, bo0_true, hi.get q hq, row_want hr h, decide_eq_true_eq]
theorem remN {a b : Nat} : ((a : Int)).tmod (b : Int) = ((a % b : Nat) : Int) := (Int.ofNat_tmod a b).symm
theorem quoN {a b : Nat} (h : a ≤ 1000000) : IntKind.i64.wrap ((a : Int).tdiv (b : Int)) = ((a / b : Nat) : Int) := by
  have e : (a : Int).tdiv (b : Int) = ((a / b : Nat) : Int) := (Int.ofNat_tdiv a b).symm
  have := Nat.div_le_self a b
  rw [e]
  generalize a / b = c at this
  exact wrap_i64z (by omega) (by omega)
theorem u8_ne {x y : UInt8} : decide ((x.toNat : Int) ≠ (y.toNat : Int)) = !decide (x = y) := by
  by_cases h : x = y
  · subst h; simp
  · have : ¬ x.toNat = y.toNat := fun e => h (UInt8.toNat_inj.1 e)
    simp [h]; omega
theorem En_end : En endN = [.int .i8 4, .int .u64 0, .int .u64 0, .int .u64 0, .int .u64 0, .int .i64 0, .int .i64 0, .int .i64 0, .int .i64 0] := by
  show _ :: (Ec 0#256 ++ _) = _
  rw [Ec_zero]; rfl
theorem En_row (n : Nat) : En (rowN n) = [.int .i8 4, .int .u64 0, .int .u64 0, .int .u64 0, .int .u64 0, .int .i64 0, .int .i64 0, .int .i64 0, .int .i64 ((n : Int) + 1)] := by
  show _ :: (Ec 0#256 ++ _) = _
  rw [Ec_zero]; rfl
theorem En_tim (l m : Nat) : En (timN l m) = [.int .i8 6, .int .u64 0, .int .u64 0, .int .u64 0, .int .u64 0, .int .i64 0, .int .i64 l, .int .i64 ((l : Int) + m), .int .i64 1] := by
  show _ :: (Ec 0#256 ++ _) = _
  rw [Ec_zero]; rfl
theorem mulB {k n : Nat} (hk : k ≤ 61) (hn : n ≤ 40) : k * n ≤ 2440 := Nat.mul_le_mul hk hn
theorem mulZ {k n : Nat} (hk : k ≤ 61) (hn : n ≤ 40) {x : Int} (hx : x = (k : Int)) : -9223372036854775808 ≤ x * (n : Int) ∧ x * (n : Int) ≤ 9223372036854775807 := by
  have h := mulB hk hn
  subst hx
  rw [show (k : Int) * (n : Int) = ((k * n : Nat) : Int) from (by push_cast; rfl)]
  generalize k * n = z at h
  omega
end Go.HL.Kl.Mc

/- Groups lie in the match, inner ones in outer ones; the known run. Conditions: none. -/
namespace Go.HL.Kl.Mc
open Go Go.HL Go.HL.Kl AskE
def gl (l : List Nd) : List Nat := (l.filter fun y => decide (y.op = 7)).map fun y => y.n.toNat
def gn (f : F) : List Nat := gl f.flat
theorem gl_cons (x : Nd) (l : List Nd) : gl (x :: l) = (if x.op = 7 then [x.n.toNat] else []) ++ gl l := by
  unfold gl
  by_cases h : x.op = 7 <;> simp [List.filter_cons, h]
theorem gl_app (l m : List Nd) : gl (l ++ m) = gl l ++ gl m := by simp [gl]
theorem gn_nd (x : Nd) (ks r : F) : gn (.nd x ks r) = (if x.op = 7 then [x.n.toNat] else []) ++ (gn ks ++ gn r) := by
  show gl (x :: (ks.flat ++ r.flat)) = _
  rw [gl_cons, gl_app]; rfl
theorem gl_mem {l : List Nd} {y : Nd} (h : y ∈ l) (h7 : y.op = 7) : y.n.toNat ∈ gl l := List.mem_map.2 ⟨y, List.mem_filter.2 ⟨h, by simp [h7]⟩, rfl⟩
def Non (f : F) (cs : List Sp) : Prop := ∀ i ∈ gn f, cs[i]? = some noS
def Nst : F → Int → Int → List Sp → Prop
  | .nil, _, _, _ => True
  | .nd x ks r, lo, hi, cs => (if x.op = 7 then ∃ s, cs[x.n.toNat]? = some s ∧ ((s = noS ∧ Non ks cs) ∨ (lo ≤ s.fr ∧ s.fr ≤ s.to ∧ s.to ≤ hi ∧ Nst ks s.fr s.to cs)) else Nst ks lo hi cs) ∧ Nst r lo hi cs
theorem Non.split {x : Nd} {ks r : F} {cs : List Sp} (h : Non (.nd x ks r) cs) : (x.op = 7 → cs[x.n.toNat]? = some noS) ∧ Non ks cs ∧ Non r cs := by
  unfold Non at h ⊢
  rw [gn_nd] at h
  refine ⟨fun h7 => h _ (by simp [h7]), fun i hi => h i (by simp [hi]), fun i hi => h i (by simp [hi])⟩
theorem Nst_non : ∀ {f : F} {lo hi : Int} {cs : List Sp}, Non f cs → Nst f lo hi cs
  | .nil, _, _, _, _ => trivial
  | .nd x ks r, lo, hi, cs, h => by
    obtain ⟨h1, h2, h3⟩ := h.split
    refine ⟨?_, Nst_non h3⟩
    split
    · rename_i h7; exact ⟨noS, h1 h7, .inl ⟨rfl, h2⟩⟩
    · exact Nst_non h2
theorem Nst_wide : ∀ {f : F} {lo hi lo' hi' : Int} {cs : List Sp}, lo' ≤ lo → hi ≤ hi' → Nst f lo hi cs → Nst f lo' hi' cs
  | .nil, _, _, _, _, _, _, _, _ => trivial
  | .nd x ks r, lo, hi, lo', hi', cs, a, b, h => by
    refine ⟨?_, Nst_wide a b h.2⟩
    have h1 := h.1
    split at h1
    · rename_i h7
      rw [if_pos h7]
      obtain ⟨s, hs, h2⟩ := h1
      refine ⟨s, hs, h2.imp id fun ⟨c, d, e, g⟩ => ⟨by omega, d, by omega, g⟩⟩
    · rename_i h7
      rw [if_neg h7]
      exact Nst_wide a b h1
theorem Nst_congr : ∀ {f : F} {lo hi : Int} {cs cs' : List Sp}, (∀ i ∈ gn f, cs'[i]? = cs[i]?) → Nst f lo hi cs → Nst f lo hi cs'
  | .nil, _, _, _, _, _, _ => trivial
  | .nd x ks r, lo, hi, cs, cs', hc, h => by
    have hx : x.op = 7 → cs'[x.n.toNat]? = cs[x.n.toNat]? := fun h7 => hc _ (by rw [gn_nd]; simp [h7])
    have hk : ∀ i ∈ gn ks, cs'[i]? = cs[i]? := fun i hi => hc i (by rw [gn_nd]; simp [hi])
    have hr : ∀ i ∈ gn r, cs'[i]? = cs[i]? := fun i hi => hc i (by rw [gn_nd]; simp [hi])
    refine ⟨?_, Nst_congr hr h.2⟩
    have h1 := h.1
    split at h1
    · rename_i h7
      rw [if_pos h7]
      obtain ⟨s, hs, h2⟩ := h1
      refine ⟨s, by rw [hx h7]; exact hs, h2.imp (fun ⟨a, b⟩ => ⟨a, fun i hi => by rw [hk i hi]; exact b i hi⟩) fun ⟨c, d, e, g⟩ => ⟨c, d, e, Nst_congr hk g⟩⟩
    · rename_i h7
      rw [if_neg h7]
      exact Nst_congr hk h1
theorem fgt_get : ∀ (l : List Nd) (cs : List Sp), (∀ i ∈ gl l, i < cs.length) → (∀ i ∈ gl l, (fgt l cs)[i]? = some noS) ∧ ∀ i, i ∉ gl l → (fgt l cs)[i]? = cs[i]?
  | [], cs, _ => ⟨fun i h => by simp [gl] at h, fun i _ => rfl⟩
  | x :: l, cs, hl => by
    have e : fgt (x :: l) cs = fgt l (fg1 cs x) := rfl
    have hl' : ∀ i ∈ gl l, i < (fg1 cs x).length := fun i hi => by rw [fg1_len]; exact hl i (by rw [gl_cons]; simp [hi])
    obtain ⟨h1, h2⟩ := fgt_get l (fg1 cs x) hl'
    rw [e, gl_cons]
    constructor
    · intro i hi
      by_cases hm : i ∈ gl l
      · exact h1 i hm
      · rw [h2 i hm]
        by_cases h7 : x.op = 7
        · simp [h7, hm] at hi
          subst hi
          rw [fg1, if_pos h7, List.getElem?_set_self (hl _ (by rw [gl_cons]; simp [h7]))]
        · simp [h7, hm] at hi
    · intro i hi
      have hm : i ∉ gl l := fun h => hi (by simp [h])
      rw [h2 i hm, fg1]
      split
      · rename_i h7
        rw [List.getElem?_set_ne]
        intro e; subst e
        exact hi (by simp [h7])
      · rfl
theorem reps_nst {x : Nd} {D : Nat → Nat → Prop} {B : Nat → Nat → List Sp → List Sp} {q p0 : Nat} {ks : F} {N : Nat}
    (hB : ∀ p m cs, cs.length = N → D p m → Nst ks p m (B p m cs) ∧ (B p m cs).length = N ∧ ∀ i, i ∉ gn ks → (B p m cs)[i]? = cs[i]?) :
    ∀ f r p cs, p0 ≤ p → cs.length = N → Nst ks p0 q cs → Nst ks p0 q (reps x D B q f r p cs) ∧ ∀ i, i ∉ gn ks → (reps x D B q f r p cs)[i]? = cs[i]?
  | 0, r, p, cs, _, _, h => ⟨h, fun _ _ => rfl⟩
  | f + 1, r, p, cs, hp, hl, h => by
    by_cases hg : ∃ m, Grt (RQ x D r p q) p q m
    · obtain ⟨m, hm⟩ := hg
      rw [reps_go hm]
      obtain ⟨h1, h2, h3⟩ := hB p m cs hl hm.2.2.1.2.2.1
      obtain ⟨h4, h5⟩ := reps_nst (q := q) (p0 := p0) hB f (nxtR x r) m (B p m cs) (Nat.le_trans hp hm.1) h2 (Nst_wide (lo := (p : Int)) (hi := (m : Int)) (by have := hp; omega) (by have h9 : m ≤ q := hm.2.1; omega) h1)
      exact ⟨h4, fun i hi => (h5 i hi).trans (h3 i hi)⟩
    · have : ∀ m, p ≤ m → m ≤ q → ¬ RQ x D r p q m := fun m a b c => hg (grt_ex a b c)
      rw [reps_end this]
      exact ⟨h, fun _ _ => rfl⟩
theorem nodup_parts {x : Nd} {ks r : F} (h : (gn (.nd x ks r)).Nodup) : (gn ks).Nodup ∧ (gn r).Nodup ∧ (∀ i ∈ gn ks, i ∉ gn r) ∧ (x.op = 7 → x.n.toNat ∉ gn ks ∧ x.n.toNat ∉ gn r) := by
  rw [gn_nd, List.nodup_append] at h
  obtain ⟨_, h2, h3⟩ := h
  rw [List.nodup_append] at h2
  refine ⟨h2.1, h2.2.1, fun i hi hr => h2.2.2 i hi i hr rfl, fun h7 => ⟨fun hk => h3 x.n.toNat (by simp [h7]) x.n.toNat (by simp [hk]) rfl, fun hk => h3 x.n.toNat (by simp [h7]) x.n.toNat (by simp [hk]) rfl⟩⟩
theorem bst_nst (w : List UInt8) : ∀ (f : F) (m : Bool) (p q : Nat) (cs : List Sp), (gn f).Nodup → (∀ i ∈ gn f, i < cs.length) → Non f cs → der w f m p q → Nst f p q (bst w f m p q cs) ∧ ∀ i, i ∉ gn f → (bst w f m p q cs)[i]? = cs[i]?
  | .nil, m, p, q, cs, _, _, _, _ => by rw [bst_nil]; exact ⟨trivial, fun _ _ => rfl⟩
  | .nd x ks r, m, p, q, cs, hnd, hsl, hno, hd => by
    obtain ⟨n1, n2, n3, n4⟩ := nodup_parts hnd
    have s1 : ∀ i ∈ gn ks, i < cs.length := fun i hi => hsl i (by rw [gn_nd]; simp [hi])
    have s2 : ∀ i ∈ gn r, i < cs.length := fun i hi => hsl i (by rw [gn_nd]; simp [hi])
    have s3 : x.op = 7 → x.n.toNat < cs.length := fun h7 => hsl _ (by rw [gn_nd]; simp [h7])
    obtain ⟨o1, o2, o3⟩ := hno.split
    have one : ∀ p q, der1 w x ks p q → Nst (.nd x ks .nil) p q (bst1 w x ks p q cs) ∧ ∀ i, i ∉ gn (.nd x ks .nil) → (bst1 w x ks p q cs)[i]? = cs[i]? := by
      intro p q h1
      have g1 : gn (.nd x ks .nil) = (if x.op = 7 then [x.n.toNat] else []) ++ gn ks := by rw [gn_nd]; simp [gn, gl, F.flat]
      rw [g1]
      by_cases h7 : x.op = 7
      · rw [bst1_7 h7, if_pos h7]
        obtain ⟨f1, f2⟩ := fgt_get ks.flat cs s1
        have hdk := (der1_4 (.inr h7)).1 h1
        obtain ⟨k1, k2⟩ := bst_nst w ks false p q (fgt ks.flat cs) n1 (by rw [fgt_len]; exact s1) f1 hdk
        have hlen : (bst w ks false p q (fgt ks.flat cs)).length = cs.length := by rw [bst_len, fgt_len]
        refine ⟨⟨?_, trivial⟩, fun i hi => ?_⟩
        · rw [if_pos h7]
          refine ⟨⟨p, q⟩, List.getElem?_set_self (by rw [hlen]; exact s3 h7), .inr ⟨Int.le_refl _, by have := der1_up _ _ h1; show (p : Int) ≤ q; omega, Int.le_refl _, ?_⟩⟩
          exact Nst_congr (fun i hi => List.getElem?_set_ne (fun e => (n4 h7).1 (by rw [e]; exact hi))) k1
        · simp at hi
          rw [List.getElem?_set_ne (fun e => hi.1 e.symm), k2 i hi.2, f2 i hi.2]
      · rw [if_neg h7, List.nil_append]
        have tr : ∀ c, Nst ks p q c → Nst (.nd x ks .nil) p q c := fun c h => ⟨by rw [if_neg h7]; exact h, trivial⟩
        by_cases h5 : x.op = 5
        · rw [bst1_5 h5]
          obtain ⟨k1, k2⟩ := bst_nst w ks true p q cs n1 s1 o2 ((der1_5 h5).1 h1)
          exact ⟨tr _ k1, k2⟩
        by_cases h4 : x.op = 4
        · rw [bst1_4 h4]
          obtain ⟨k1, k2⟩ := bst_nst w ks false p q cs n1 s1 o2 ((der1_4 (.inl h4)).1 h1)
          exact ⟨tr _ k1, k2⟩
        by_cases h6 : x.op = 6
        · rw [bst1_6 h6]
          obtain ⟨k1, k2⟩ := reps_nst (x := x) (D := der w ks false) (B := fun p q cs => bst w ks false p q (fgt ks.flat cs)) (q := q) (p0 := p) (ks := ks) (N := cs.length) (fun p m c hc hm => by
            obtain ⟨f1, f2⟩ := fgt_get ks.flat c (by rw [hc]; exact s1)
            obtain ⟨k1, k2⟩ := bst_nst w ks false p m (fgt ks.flat c) n1 (by rw [fgt_len, hc]; exact s1) f1 hm
            exact ⟨k1, by rw [bst_len, fgt_len, hc], fun i hi => (k2 i hi).trans (f2 i hi)⟩) ((q - p) + max x.mn.toNat 1 + 1) 0 p cs (Nat.le_refl _) rfl (Nst_non o2)
          exact ⟨tr _ k1, k2⟩
        · have e : bst1 w x ks p q cs = cs := by rw [bst1, if_neg h7, if_neg h5, if_neg h4, if_neg h6]
          rw [e]
          exact ⟨tr _ (Nst_non o2), fun _ _ => rfl⟩
    have up1 : ∀ {lo hi c}, Nst (.nd x ks .nil) lo hi c → Nst r lo hi c → Nst (.nd x ks r) lo hi c := fun h h' => ⟨h.1, h'⟩
    have g1 : ∀ i, i ∈ gn (.nd x ks .nil) ↔ (x.op = 7 ∧ i = x.n.toNat) ∨ i ∈ gn ks := fun i => by
      rw [gn_nd]
      by_cases h7 : x.op = 7 <;> simp [h7, gn, gl, F.flat]
    have g2 : ∀ i, i ∉ gn (.nd x ks r) → i ∉ gn (.nd x ks .nil) ∧ i ∉ gn r := fun i hi => by
      rw [gn_nd] at hi
      constructor
      · rw [g1]; rintro (⟨h7, rfl⟩ | h)
        · exact hi (by simp [h7])
        · exact hi (by simp [h])
      · exact fun h => hi (by simp [h])
    have g3 : ∀ i ∈ gn (.nd x ks .nil), i ∉ gn r := fun i hi => by
      rcases (g1 i).1 hi with ⟨h7, rfl⟩ | h
      · exact (n4 h7).2
      · exact n3 i h
    cases m with
    | true =>
      rw [bst_alt]
      split
      · rename_i hq
        obtain ⟨k1, k2⟩ := one p q (dQ_iff.1 hq)
        refine ⟨up1 k1 (Nst_non fun i hi => ?_), fun i hi => k2 i (g2 i hi).1⟩
        rw [k2 i (fun h => g3 i h hi)]; exact o3 i hi
      · rename_i hq
        have hdr := (der_alt.1 hd).resolve_left fun h => hq (dQ_t h)
        obtain ⟨k1, k2⟩ := bst_nst w r true p q cs n2 s2 o3 hdr
        refine ⟨up1 (Nst_non fun i hi => ?_) k1, fun i hi => k2 i (g2 i hi).2⟩
        rw [k2 i (g3 i hi)]
        rcases (g1 i).1 hi with ⟨h7, rfl⟩ | h
        · exact o1 h7
        · exact o2 i h
    | false =>
      obtain ⟨t, h1, h2⟩ := der_cat.1 hd
      obtain ⟨n, hn⟩ := grt_ex (Q := fun n => der1 w x ks p n ∧ der w r false n q) (der1_up _ _ h1) (der_up _ _ _ _ h2) ⟨h1, h2⟩
      rw [bst_cat hn]
      obtain ⟨k1, k2⟩ := one p n hn.2.2.1.1
      obtain ⟨l1, l2⟩ := bst_nst w r false n q (bst1 w x ks p n cs) n2 (by rw [bst1_len]; exact s2) (fun i hi => by rw [k2 i (fun h => g3 i h hi)]; exact o3 i hi) hn.2.2.1.2
      refine ⟨up1 (Nst_wide (Int.le_refl _) (by have := hn.2.1; omega) (Nst_congr (fun i hi => l2 i (g3 i hi)) k1)) (Nst_wide (by have := hn.1; omega) (Int.le_refl _) l1), fun i hi => ?_⟩
      rw [l2 i (g2 i hi).2, k2 i (g2 i hi).1]
end Go.HL.Kl.Mc

/- What the laws ask of the groups; the known run. Conditions: none. -/
namespace Go.HL.Kl.Mc
open Go Go.HL Go.HL.Kl AskE
theorem gl_take {re : List Nd} (h : shapedB re = true) : ∀ j, j ≤ re.length → (gl (re.take j)).Nodup ∧ ∀ i ∈ gl (re.take j), 1 ≤ i ∧ i ≤ gcn (re.take j)
  | 0, _ => by simp [gl]
  | j + 1, hj => by
    obtain ⟨h1, h2⟩ := gl_take h j (by omega)
    have hx : re[j]? = some re[j] := List.getElem?_eq_getElem (by omega)
    have ht := gcn_take hx
    have e : gl (re.take (j + 1)) = gl (re.take j) ++ gl [re[j]] := by rw [List.take_add_one, hx, gl_app]; rfl
    rw [e, gl_cons]
    by_cases h7 : re[j].op = 7
    · have hn := (grp_n h hx h7).1
      rw [if_pos h7] at ht ⊢
      rw [show gl ([] : List Nd) = [] from rfl, List.append_nil]
      refine ⟨List.nodup_append.2 ⟨h1, by simp, fun a ha b hb => ?_⟩, fun i hi => ?_⟩
      · obtain rfl := List.mem_singleton.1 hb
        have := (h2 a ha).2; omega
      · rcases List.mem_append.1 hi with hi | hi
        · have := h2 i hi; omega
        · obtain rfl := List.mem_singleton.1 hi; omega
    · rw [if_neg h7] at ht ⊢
      rw [show gl ([] : List Nd) = [] from rfl, List.append_nil, List.append_nil]
      exact ⟨h1, fun i hi => by have := h2 i hi; omega⟩
theorem gn_root {re : List Nd} {x : Nd} {ks : F} (hs : Shp re x ks) : gn (.nd x ks .nil) = gl re := by
  rw [hs.flat, gn, F.flat]; simp [F.flat]
theorem caps_nst {re : List Nd} {w : List UInt8} {x : Nd} {ks : F} {p q : Nat} (hm : May re w x ks) (hd : der1 w x ks p q) : Nst (.nd x ks .nil) p q (capsV w re x ks p q) ∧ (capsV w re x ks p q)[0]? = some ⟨p, q⟩ := by
  obtain ⟨h1, h2⟩ := gl_take hm.sh re.length (Nat.le_refl _)
  rw [List.take_length] at h1 h2
  have hg := gn_root hm.hs
  obtain ⟨k1, _⟩ := bst_nst w (.nd x ks .nil) false p q (List.replicate (gcn re + 1) noS) (by rw [hg]; exact h1) (fun i hi => by rw [hg] at hi; have := h2 i hi; simp; omega) (fun i hi => by
    rw [hg] at hi; have := h2 i hi
    rw [List.getElem?_replicate, if_pos (by omega)]) (der_one.2 hd)
  rw [bst_one hd] at k1
  refine ⟨Nst_congr (fun i hi => ?_) k1, ?_⟩
  · rw [hg] at hi; have := h2 i hi
    rw [capsV, List.getElem?_set_ne (by omega)]
  · rw [capsV, List.getElem?_set_self (by rw [bst1_len]; simp)]
theorem Nst_at {re : List Nd} {cs : List Sp} : ∀ (f : F) (i e : Nat) (lo hi : Int), Part re f i e → Nst f lo hi cs → ∀ j y js r j', Part re (.nd y js r) j j' → i ≤ j → j < e → y.op = 7 →
    ∃ s, cs[y.n.toNat]? = some s ∧ ((s = noS ∧ Non js cs) ∨ (lo ≤ s.fr ∧ s.fr ≤ s.to ∧ s.to ≤ hi ∧ Nst js s.fr s.to cs))
  | .nil, i, e, lo, hi, hp, _, j, y, js, r, j', hj, h1, h2, h7 => by have := hp.len; simp only [F.size] at this; omega
  | .nd x ks rr, i, e, lo, hi, hp, hn, j, y, js, r, j', hj, h1, h2, h7 => by
    obtain ⟨hx, hk, hr⟩ := hp.head
    by_cases e1 : j = i
    · subst e1
      obtain rfl := hp.uniq hj
      obtain rfl : x = y := by have := hj.head.1; rw [hx] at this; exact Option.some.inj this
      have := hn.1
      rw [if_pos h7] at this
      exact this
    by_cases e2 : j < i + 1 + ks.size
    · have hk1 := hn.1
      split at hk1
      · obtain ⟨s, hs, hc⟩ := hk1
        rcases hc with ⟨_, hno⟩ | ⟨a, b, c, d⟩
        · obtain ⟨t, ht, hc⟩ := Nst_at ks _ _ lo hi hk (Nst_non hno) j y js r j' hj (by omega) e2 h7
          exact ⟨t, ht, hc⟩
        · obtain ⟨t, ht, hc⟩ := Nst_at ks _ _ s.fr s.to hk d j y js r j' hj (by omega) e2 h7
          exact ⟨t, ht, hc.imp id fun ⟨u, v, z, o⟩ => ⟨by omega, v, by omega, o⟩⟩
      · exact Nst_at ks _ _ lo hi hk hk1 j y js r j' hj (by omega) e2 h7
    · exact Nst_at rr _ _ lo hi hr hn.2 j y js r j' hj (by omega) h2 h7
theorem part_mem {re : List Nd} {f : F} {i e k : Nat} {z : Nd} (hp : Part re f i e) (h1 : i ≤ k) (h2 : k < e) (hz : re[k]? = some z) : z ∈ f.flat := by
  have hf := hp.flat
  have hl := hp.len
  have : (re.drop i)[k - i]? = some z := by rw [List.getElem?_drop, show i + (k - i) = k by omega]; exact hz
  rw [hf, List.getElem?_append_left (by rw [F.flat_size]; omega)] at this
  exact List.mem_of_getElem? this
/-- what the law asks of a group -/
theorem nest_law {re : List Nd} {w : List UInt8} {x : Nd} {ks : F} {p q : Nat} (hm : May re w x ks) (hd : der1 w x ks p q) {i i' : Nat} {y : Nd} {js r : F} (hp : Part re (.nd y js r) i i') (h7 : y.op = 7) :
    ∃ s, (capsV w re x ks p q)[y.n.toNat]? = some s ∧ (s = noS ∨ ((p : Int) ≤ s.fr ∧ s.fr ≤ s.to ∧ s.to ≤ q)) ∧ ∀ k z, i ≤ k → k < i + 1 + js.size → re[k]? = some z → z.op = 7 →
      ∃ t, (capsV w re x ks p q)[z.n.toNat]? = some t ∧ (s = noS → t = noS) ∧ (s ≠ noS → t = noS ∨ (s.fr ≤ t.fr ∧ t.to ≤ s.to)) := by
  obtain ⟨h1, h2⟩ := caps_nst hm hd
  have hroot := hm.hs.part
  have hlt := (List.getElem?_eq_some_iff.1 hp.head.1).1
  obtain ⟨s, hs, hc⟩ := Nst_at _ _ _ _ _ hroot h1 i y js r i' hp (Nat.zero_le _) hlt h7
  refine ⟨s, hs, hc.imp (fun h => h.1) (fun ⟨a, b, c, _⟩ => ⟨a, b, c⟩), fun k z hk1 hk2 hz hz7 => ?_⟩
  by_cases e : k = i
  · subst e
    obtain rfl : y = z := by have := hp.head.1; rw [hz] at this; exact (Option.some.inj this).symm
    exact ⟨s, hs, id, fun _ => .inr ⟨Int.le_refl _, Int.le_refl _⟩⟩
  have hjs := hp.head.2.1
  rcases hc with ⟨h0, hno⟩ | ⟨a, b, c, d⟩
  · have hz' := part_mem hjs (by omega) hk2 hz
    exact ⟨noS, hno _ (gl_mem hz' hz7), fun _ => rfl, fun h => absurd h0 h⟩
  · obtain ⟨z', zs, zr, zj, hzp⟩ := Part.at js _ _ hjs k (by omega) hk2
    obtain rfl : z' = z := by have := hzp.head.1; rw [hz] at this; exact (Option.some.inj this).symm
    obtain ⟨t, ht, hc2⟩ := Nst_at js _ _ _ _ hjs d k z' zs zr zj hzp (by omega) hk2 hz7
    refine ⟨t, ht, fun e => ?_, fun _ => hc2.imp (fun h => h.1) fun ⟨u, _, v, _⟩ => ⟨u, v⟩⟩
    exfalso
    rw [e] at a
    simp only [noS] at a
    omega
/-! the known run -/
def catC : Nd := ⟨4, 0, 0, 0, 0, 2⟩
def grpC : Nd := ⟨7, 0, 1, 0, 0, 1⟩
def reC : List Nd := [catC, grpC, starN, letN 97, letN 98]
def ksG : F := .nd starN ksW .nil
def ksB : F := .nd (letN 98) .nil .nil
def ksC : F := .nd grpC ksG ksB
def wC : List UInt8 := [99, 97, 97, 98]
theorem shpC : Shp reC catC ksC := ⟨⟨by decide +kernel, rfl, ⟨by decide +kernel, rfl, wfW, let_ok' 98, rfl, trivial, trivial⟩, trivial⟩, rfl, by decide, by decide +kernel⟩
theorem shapedC : shapedB reC = true := shapedB_iff.2 ⟨⟨[true], by decide +kernel⟩, _, _, shpC⟩
theorem rngC : ∀ x ∈ reC, -128 ≤ x.op ∧ x.op < 128 := by simp [reC, catC, grpC, starN, letN]
theorem refsC : refsB reC = false := refs_no fun j x hj hx h8 => by
  have := List.mem_of_getElem? hx
  simp only [reC, List.mem_cons, List.not_mem_nil, or_false] at this
  rcases this with rfl | rfl | rfl | rfl | rfl <;> cases h8
theorem mayC : May reC wC catC ksC := ⟨shapedC, refsC, shpC⟩
theorem powC {k p q : Nat} (h : pow (der wC ksW false) k p q) : q = p ∨ (1 ≤ p ∧ q ≤ 3) := by
  induction k generalizing p with
  | zero => exact .inl h.symm
  | succ k ih =>
    obtain ⟨m, h1, h2⟩ := h
    obtain ⟨rfl, h3⟩ := der_let.1 (der_one.1 h1)
    have hp : 1 ≤ p ∧ p < 3 := by
      match p, h3 with
      | 0, h3 => cases h3
      | 1, _ => omega
      | 2, _ => omega
      | 3, h3 => cases h3
      | p + 4, h3 => cases h3
    rcases ih h2 with e | e <;> omega
theorem derC {p q : Nat} : der1 wC catC ksC p q ↔ q = 4 ∧ 1 ≤ p ∧ p ≤ 3 := by
  rw [der1_4 (.inl rfl), ksC, der_cat]
  constructor
  · rintro ⟨t, h1, h2⟩
    obtain ⟨rfl, h3⟩ := der_let.1 (der_one.1 h2)
    have ht : t = 3 := by
      match t, h3 with
      | 0, h3 => cases h3
      | 1, h3 => cases h3
      | 2, h3 => cases h3
      | 3, _ => rfl
      | t + 4, h3 => cases h3
    subst ht
    rw [der1_4 (.inr rfl), ksG, der_one, der1_6 rfl] at h1
    obtain ⟨k, _, _, hk⟩ := h1
    rcases powC hk with e | e
    · omega
    · have := pow_up (der_up _ _) _ _ _ hk; omega
  · rintro ⟨rfl, h1, h2⟩
    refine ⟨3, ?_, der_one.2 (der_let.2 ⟨rfl, rfl⟩)⟩
    rw [der1_4 (.inr rfl), ksG, der_one, der1_6 rfl]
    have one : ∀ t, 1 ≤ t → t < 3 → der wC ksW false t (t + 1) := fun t a b => der_one.2 (der_let.2 ⟨rfl, by
      rcases (show t = 1 ∨ t = 2 by omega) with rfl | rfl <;> rfl⟩)
    rcases (show p = 1 ∨ p = 2 ∨ p = 3 by omega) with rfl | rfl | rfl
    · exact ⟨2, by decide, .inl rfl, 2, one 1 (by omega) (by omega), 3, one 2 (by omega) (by omega), rfl⟩
    · exact ⟨1, by decide, .inl rfl, 3, one 2 (by omega) (by omega), rfl⟩
    · exact ⟨0, by decide, .inl rfl, rfl⟩
theorem fgt_plain : ∀ (l : List Nd) (cs : List Sp), (∀ y ∈ l, ¬ y.op = 7) → fgt l cs = cs
  | [], cs, _ => rfl
  | x :: l, cs, h => by
    show fgt l (fg1 cs x) = cs
    rw [fg1, if_neg (h x List.mem_cons_self)]
    exact fgt_plain l cs fun y hy => h y (List.mem_cons_of_mem _ hy)
theorem reps_id {x : Nd} {D : Nat → Nat → Prop} {B : Nat → Nat → List Sp → List Sp} {q : Nat} (hB : ∀ p q cs, B p q cs = cs) : ∀ f r p cs, reps x D B q f r p cs = cs
  | 0, r, p, cs => rfl
  | f + 1, r, p, cs => by
    rw [reps]; split
    · rw [reps_id hB f, hB]
    · rfl
theorem bst1_plain {w : List UInt8} {x : Nd} {ks : F} (hk : ∀ m p q cs, bst w ks m p q cs = cs) (hx : ¬ x.op = 7) (hf : ∀ y ∈ ks.flat, ¬ y.op = 7) {p q : Nat} {cs : List Sp} : bst1 w x ks p q cs = cs := by
  unfold bst1
  rw [if_neg hx]
  split
  · exact hk _ _ _ _
  split
  · exact hk _ _ _ _
  split
  · exact reps_id (fun p q cs => by rw [hk, fgt_plain _ _ hf]) _ _ _ _
  · rfl
theorem bst_plain {w : List UInt8} : ∀ (f : F), (∀ y ∈ f.flat, ¬ y.op = 7) → ∀ (m : Bool) (p q : Nat) (cs : List Sp), bst w f m p q cs = cs
  | .nil, _, m, p, q, cs => bst_nil
  | .nd x ks r, h, m, p, q, cs => by
    have hk : ∀ y ∈ ks.flat, ¬ y.op = 7 := fun y hy => h y (by simp [F.flat, hy])
    have hr : ∀ y ∈ r.flat, ¬ y.op = 7 := fun y hy => h y (by simp [F.flat, hy])
    have h1 : ∀ p q cs, bst1 w x ks p q cs = cs := fun p q cs => bst1_plain (fun m p q cs => bst_plain ks hk m p q cs) (h x (by simp [F.flat])) hk
    cases m with
    | true =>
      rw [bst_alt, h1]; split
      · rfl
      · exact bst_plain r hr true p q cs
    | false =>
      conv => lhs; rw [bst]
      show bst w r false _ q (bst1 w x ks p _ cs) = cs
      rw [h1, bst_plain r hr]
theorem capsC {p : Nat} (h1 : 1 ≤ p) (h2 : p ≤ 3) : capsV wC reC catC ksC p 4 = [⟨p, 4⟩, ⟨p, 3⟩] := by
  have hd := (derC (p := p) (q := 4)).2 ⟨rfl, h1, h2⟩
  have hg : der1 wC grpC ksG p 3 := by
    obtain ⟨t, a, b⟩ := der_cat.1 ((der1_4 (.inl rfl)).1 hd)
    have := (der_let.1 (der_one.1 b)).1
    obtain rfl : t = 3 := by omega
    exact a
  have hG : Grt (fun n => der1 wC grpC ksG p n ∧ der wC ksB false n 4) p 4 3 := ⟨h2, by decide, ⟨hg, der_one.2 (der_let.2 ⟨rfl, rfl⟩)⟩, fun n a b ⟨_, c⟩ => by
    have := (der_let.1 (der_one.1 c)).1; omega⟩
  have e1 : gcn reC + 1 = 2 := by decide +kernel
  rw [capsV, e1, bst1_4 rfl, ksC, bst_cat hG, bst_plain ksB (by simp [ksB, F.flat, letN]), bst1_7 rfl, bst_plain ksG (by simp [ksG, ksW, F.flat, letN, starN]), fgt_plain _ _ (by simp [ksG, ksW, F.flat, letN, starN])]
  rfl
theorem findC {T : Nat} {v : Value} {S' : Hp} (h : FindP T reC wC 0 v S') : ∃ a cc, v = .tuple #[.slice a 2 cc, .bool true] ∧ OwnS Esp 2 T (.slice a 2 cc) [⟨1, 4⟩, ⟨1, 3⟩] S' := by
  rcases h with ⟨x, ks, g, p, q, hm, hg, hl, a, cc, hv, hO⟩ | ⟨hn, _⟩
  · obtain ⟨rfl, rfl⟩ := hm.hs.uniq shpC
    obtain ⟨rfl, h1, h2⟩ := derC.1 hl.der
    obtain rfl : g = 0 := by omega
    have hp : p = 1 := by
      rcases Nat.lt_or_ge 1 p with h | h
      · exact absurd (derC.2 ⟨rfl, by decide, by decide⟩) (hl.left 1 4 (by decide) h (by decide))
      · omega
    subst hp
    rw [capsC (by decide) (by decide)] at hv hO
    exact ⟨a, cc, hv, hO⟩
  · exact absurd ⟨catC, ksC, 0, 1, 4, mayC, rfl, by decide, by decide, derC.2 ⟨rfl, by decide, by decide⟩⟩ hn
theorem bestC {T : Nat} {v : Value} {S' : Hp} (h : BestP T reC wC 2 4 v S') : ∃ a cc, v = .tuple #[.slice a 2 cc, .bool true] ∧ OwnS Esp 2 T (.slice a 2 cc) [⟨2, 4⟩, ⟨2, 3⟩] S' := by
  rcases h with ⟨x, ks, p, q, hm, hp, hq, _, _, hd, a, cc, hv, hO⟩ | ⟨hn, _⟩
  · obtain ⟨rfl, rfl⟩ := hm.hs.uniq shpC
    obtain rfl : p = 2 := by omega
    obtain rfl : q = 4 := by omega
    rw [capsC (by decide) (by decide)] at hv hO
    exact ⟨a, cc, hv, hO⟩
  · exact absurd ⟨catC, ksC, 2, 4, mayC, rfl, rfl, by decide, by decide, derC.2 ⟨rfl, by decide, by decide⟩⟩ hn
theorem En_catC : En catC = [.int .i8 4, .int .u64 0, .int .u64 0, .int .u64 0, .int .u64 0, .int .i64 0, .int .i64 0, .int .i64 0, .int .i64 2] := by
  show _ :: (Ec 0#256 ++ _) = _
  rw [Ec_zero]; rfl
theorem En_grpC : En grpC = [.int .i8 7, .int .u64 0, .int .u64 0, .int .u64 0, .int .u64 0, .int .i64 1, .int .i64 0, .int .i64 0, .int .i64 1] := by
  show _ :: (Ec 0#256 ++ _) = _
  rw [Ec_zero]; rfl
end Go.HL.Kl.Mc
