/- Part of the proofs over this seat: see the text that holds the theorem. Conditions: each theorem bears its own. -/
import Derived.Test.YtmmajabfmhipeaaDoorHlB
namespace Go.Tab
open Go Go.HL

/-- the first j places of l hold f -/
structure Fill {α : Type} (f : Nat → α) (n j : Nat) (l : List α) : Prop where
  len : l.length = n
  get : ∀ i, i < j → l[i]? = some (f i)
theorem Fill.zero {α : Type} {f : Nat → α} {l : List α} {n : Nat} (h : l.length = n) : Fill f n 0 l := ⟨h, fun _ h => by omega⟩
theorem Fill.step {α : Type} {f : Nat → α} {n j : Nat} {l : List α} (h : Fill f n j l) (hj : j < n) {y : α} (hy : y = f j) : Fill f n (j + 1) (l.set j y) := by
  refine ⟨by simp [h.len], fun i hi => ?_⟩
  subst hy
  by_cases e : j = i
  · subst e; rw [List.getElem?_set_self (by rw [h.len]; exact hj)]
  · rw [List.getElem?_set_ne e]; exact h.get i (by omega)
theorem Fill.done {α : Type} {f : Nat → α} {n j : Nat} {l : List α} (h : Fill f n j l) (hj : n ≤ j) : l = (List.range n).map f := by
  apply List.ext_getElem?
  intro i
  by_cases hi : i < n
  · rw [h.get i (by omega), List.getElem?_map, List.getElem?_range hi]; rfl
  · rw [List.getElem?_eq_none (by rw [h.len]; omega), List.getElem?_eq_none (by simp; omega)]

def idT : List UInt8 := (List.range 256).map UInt8.ofNat
theorem idT_len : idT.length = 256 := by simp [idT]
theorem idT_get {i : Nat} (h : i < 256) : idT[i]? = some (UInt8.ofNat i) := by
  unfold idT
  rw [List.getElem?_map, List.getElem?_range h]; rfl
theorem zlen (n : Nat) : (List.replicate n (0 : UInt8)).length = n := by simp

def at0 (t : List UInt8) (i : Nat) : UInt8 := t.getD i 0
theorem at0_get {t : List UInt8} {i : Nat} (h : i < t.length) : t[i]? = some (at0 t i) := by simp [at0, h]

def thenT (t u : List UInt8) : List UInt8 := (List.range 256).map fun i => at0 u (at0 t i).toNat
theorem thenT_len (t u : List UInt8) : (thenT t u).length = 256 := by simp [thenT]
def applyT (t b : List UInt8) : List UInt8 := (List.range b.length).map fun i => at0 t (at0 b i).toNat
theorem applyT_len (t b : List UInt8) : (applyT t b).length = b.length := by simp [applyT]
theorem applyT_id (b : List UInt8) : applyT idT b = b := by
  apply List.ext_getElem?
  intro i
  by_cases hi : i < b.length
  · unfold applyT
    rw [List.getElem?_map, List.getElem?_range hi, at0_get hi]
    simp only [Option.map_some, Option.some.injEq]
    have h := idT_get (UInt8.toNat_lt (at0 b i))
    unfold at0 at h ⊢
    rw [List.getD_eq_getElem?_getD, h]
    simp
  · rw [List.getElem?_eq_none (by rw [applyT_len]; omega), List.getElem?_eq_none (by omega)]

/-- the table of the first j pairs -/
def newAt (f t : List UInt8) : Nat → Option (List UInt8)
  | 0 => some idT
  | j + 1 => if at0 f j ∈ f.take j then none else (newAt f t j).map (·.set (at0 f j).toNat (at0 t j))
def newR (f t : List UInt8) : Option (List UInt8) := if f.length = t.length then newAt f t f.length else none
theorem newAt_len {f t : List UInt8} : ∀ {j : Nat} {l : List UInt8}, newAt f t j = some l → l.length = 256
  | 0, l, h => by simp only [newAt, Option.some.injEq] at h; subst h; exact idT_len
  | j + 1, l, h => by
    simp only [newAt] at h
    split at h
    · cases h
    · cases hr : newAt f t j with
      | none => simp [hr] at h
      | some m => simp only [hr, Option.map_some, Option.some.injEq] at h; subst h; simp [newAt_len hr]
theorem newAt_none {f t : List UInt8} {j : Nat} (h : at0 f j ∈ f.take j) : ∀ {m : Nat}, j < m → newAt f t m = none
  | 0, hm => by omega
  | m + 1, hm => by
    simp only [newAt]
    by_cases e : j = m
    · subst e; rw [if_pos h]
    · rw [newAt_none h (by omega)]; simp

def zT : List UInt8 := List.replicate 256 0
theorem zT_len : zT.length = 256 := List.length_replicate
/-- what New answers -/
def tabV (r : Option (List UInt8)) : Value := .tuple #[.agg (flat Eb (r.getD zT)).toArray, .int .i64 (if r.isSome then 0 else 60)]

theorem getD_len {r : Option (List UInt8)} (h : ∀ l, r = some l → l.length = 256) : (r.getD zT).length = 256 := by
  cases r with
  | none => exact zT_len
  | some l => exact h l rfl
theorem tab_none {r : Option (List UInt8)} (h : r = none) : resV [.agg (List.replicate 256 (.int .u8 0)).toArray, .int .i64 60] = tabV r := by
  subst h
  show Value.tuple #[_, _] = tabV none
  rw [tabV]
  simp only [Option.getD_none, zT, flatEb_zeros]
  rfl
theorem tab_some {r : Option (List UInt8)} {l : List UInt8} (h : r = some l) : resV [.agg (flat Eb l).toArray, .int .i64 0] = tabV r := by subst h; rfl
theorem newR_some {f t l : List UInt8} {j : Nat} (h : newAt f t j = some l) (hl : f.length = t.length) (hj : f.length ≤ j) (hj' : j ≤ f.length) : newR f t = some l := by
  have : j = f.length := by omega
  subst this
  rw [newR, if_pos hl, h]
theorem newR_none {f t : List UInt8} {j : Nat} (h : at0 f j ∈ f.take j) (hj : j < f.length) : newR f t = none := by
  rw [newR]; split
  · exact newAt_none h hj
  · rfl
theorem seen_step {f : List UInt8} {j : Nat} {sn : List Bool} (hj : j < f.length) (hl : sn.length = 256) (h : ∀ b : UInt8, sn[b.toNat]? = some (decide (b ∈ f.take j))) :
    ∀ b : UInt8, (sn.set (at0 f j).toNat true)[b.toNat]? = some (decide (b ∈ f.take (j + 1))) := by
  intro b
  rw [List.take_add_one, at0_get hj]
  by_cases e : at0 f j = b
  · subst e
    rw [List.getElem?_set_self (by rw [hl]; exact UInt8.toNat_lt _)]
    simp
  · rw [List.getElem?_set_ne (fun h' => e (UInt8.toNat_inj.1 h')), h b]
    congr 1
    rw [Bool.eq_iff_iff]
    simp only [decide_eq_true_eq, List.mem_append, Option.toList_some, List.mem_singleton]
    constructor
    · exact fun h => .inl h
    · rintro (h | h)
      · exact h
      · exact absurd h.symm e
theorem idT_take {j : Nat} (h : j < 256) : idT.take (j + 1) = idT.take j ++ [UInt8.ofNat j] := by
  rw [List.take_add_one, idT_get h]; rfl
theorem idT_all : idT.take 256 = idT := List.take_of_length_le (by rw [idT_len]; omega)
theorem idT_tl {j : Nat} (h : j ≤ 256) : (idT.take j).length = j := by rw [List.length_take, idT_len]; omega
theorem at0_id {j : Nat} (h : j < 256) : (at0 idT j).toNat = j := by
  have h1 := idT_get h
  unfold at0
  rw [List.getD_eq_getElem?_getD, h1, Option.getD_some, UInt8.toNat_ofNat_of_lt' (by simp [UInt8.size]; omega)]
theorem at0_range {f : Nat → UInt8} {n i : Nat} (h : i < n) : at0 ((List.range n).map f) i = f i := by
  unfold at0
  rw [List.getD_eq_getElem?_getD, List.getElem?_map, List.getElem?_range h]; rfl
theorem at0_apply {t b : List UInt8} {i : Nat} (h : i < b.length) : at0 (applyT t b) i = at0 t (at0 b i).toNat := at0_range h
theorem at0_then {t u : List UInt8} {i : Nat} (h : i < 256) : at0 (thenT t u) i = at0 u (at0 t i).toNat := at0_range h
theorem applyT_then (t u b : List UInt8) : applyT (thenT t u) b = applyT u (applyT t b) := by
  unfold applyT
  rw [show ((List.range b.length).map fun i => at0 t (at0 b i).toNat).length = b.length by simp]
  refine List.map_congr_left fun i hi => ?_
  rw [at0_then (UInt8.toNat_lt _), at0_range (by simpa using hi)]
theorem thenT_assoc (t u v : List UInt8) : thenT (thenT t u) v = thenT t (thenT u v) := by
  refine List.map_congr_left fun i hi => ?_
  rw [at0_then (by simpa using hi), at0_then (UInt8.toNat_lt _)]
def xyT : List UInt8 := (idT.set 97 120).set 98 121
theorem xyT_len : xyT.length = 256 := by rw [xyT, List.length_set, List.length_set, idT_len]
theorem lv1 : newR [97, 98] [120, 121] = some xyT := rfl
theorem lv2 : newR [97, 97] [120, 121] = none := rfl
theorem lv3 : applyT xyT [97, 98, 99, 97, 98] = [120, 121, 99, 120, 121] := by decide +kernel
theorem fill_id {j : Nat} {l : List UInt8} (h : Fill UInt8.ofNat 256 j l) (hj : 256 ≤ j) : l = idT := h.done hj
theorem fill_then {t u : List UInt8} {j : Nat} {l : List UInt8} (h : Fill (fun i => at0 u (at0 t i).toNat) 256 j l) (hj : 256 ≤ j) : l = thenT t u := h.done hj
theorem fill_apply {t xs : List UInt8} {j : Nat} {l : List UInt8} (h : Fill (fun i => at0 t (at0 xs i).toNat) xs.length j l) (hj : xs.length ≤ j) : l = applyT t xs := h.done hj
attribute [irreducible] idT thenT applyT xyT
end Go.Tab

/- Part of the proofs over this seat: see the text that holds the theorem. Conditions: each theorem bears its own. -/
namespace Go.HL
open Go
/-! lists of lists: for the bag that looks whether lists share memory -/
section
variable {α : Type} {E : α → List Value} {k : Nat} {T : TypeId}
/-- lists that the heap's part S bears, each owned: headers, and what they hold -/
inductive OwnL (E : α → List Value) (k : Nat) (T : TypeId) : List (Sl α) → List (List α) → Hp → Prop
  | nil : OwnL E k T [] [] []
  | cons {s : Sl α} {xs : List α} {sls : List (Sl α)} {xss : List (List α)} {S R : Hp} (h : OwnS E k T s.v xs S) (hs : OwnL E k T sls xss R) : OwnL E k T (s :: sls) (xs :: xss) (S ++ R)
theorem OwnL.at {sls : List (Sl α)} {xss : List (List α)} {S : Hp} (h : OwnL E k T sls xss S) : ∀ {n : Nat} {s : Sl α}, sls[n]? = some s →
    ∃ xs S1 Sn S2, xss[n]? = some xs ∧ S = S1 ++ (Sn ++ S2) ∧ OwnS E k T s.v xs Sn ∧ ∀ xs' Sn', OwnS E k T s.v xs' Sn' → OwnL E k T sls (xss.set n xs') (S1 ++ (Sn' ++ S2)) := by
  induction h with
  | nil => intro n s hs; simp at hs
  | @cons s xs sls xss S R h hs ih =>
    intro n s' hn
    cases n with
    | zero =>
      simp at hn; subst hn
      exact ⟨xs, [], S, R, rfl, rfl, h, fun xs' Sn' h' => by simpa using OwnL.cons h' hs⟩
    | succ n =>
      obtain ⟨xs', S1, Sn, S2, h1, rfl, h3, h4⟩ := ih (by simpa using hn)
      exact ⟨xs', S ++ S1, Sn, S2, by simpa using h1, by simp, h3, fun y Sy hy => by simpa using OwnL.cons h (h4 y Sy hy)⟩
theorem OwnL.snoc {sls : List (Sl α)} {xss : List (List α)} {S S' : Hp} {s : Sl α} {xs : List α} (h : OwnL E k T sls xss S) (h' : OwnS E k T s.v xs S') : OwnL E k T (sls ++ [s]) (xss ++ [xs]) (S ++ S') := by
  induction h with
  | nil => simpa using OwnL.cons h' .nil
  | cons h hs ih => simpa using OwnL.cons h ih
theorem OwnL.len {sls : List (Sl α)} {xss : List (List α)} {S : Hp} (h : OwnL E k T sls xss S) : xss.length = sls.length := by
  induction h with
  | nil => rfl
  | cons h hs ih => simp [ih]
/-- what is written into the list n -/
def mkL (f : Nat → Nat → α) (n m : Nat) : List α := (List.range m).map (f n)
theorem mkL_len {f : Nat → Nat → α} {n m : Nat} : (mkL f n m).length = m := by simp [mkL]
theorem mkL_get {f : Nat → Nat → α} {n m i : Nat} (h : i < m) : (mkL f n m)[i]? = some (f n i) := by simp [mkL, List.getElem?_range h]
theorem mkL_succ {f : Nat → Nat → α} {n m : Nat} : mkL f n m ++ [f n m] = mkL f n (m + 1) := by simp [mkL, List.range_succ]
theorem mkL_fill {f : Nat → Nat → α} {n m i : Nat} {l : List α} (h : Tab.Fill (f n) m i l) (hi : m ≤ i) : l = mkL f n m := h.done hi
/-- likewise, all of them marked, from the list n on -/
inductive OwnF (E : α → List Value) (k : Nat) (T : TypeId) (f : Nat → Nat → α) : Nat → List (Sl α) → Hp → Prop
  | nil {n : Nat} : OwnF E k T f n [] []
  | cons {n : Nat} {s : Sl α} {sls : List (Sl α)} {S R : Hp} (h : OwnS E k T s.v (mkL f n s.xs.length) S) (hs : OwnF E k T f (n + 1) sls R) : OwnF E k T f n (s :: sls) (S ++ R)
theorem OwnL.all {f : Nat → Nat → α} {sls : List (Sl α)} {xss : List (List α)} {S : Hp} (h : OwnL E k T sls xss S) : ∀ {n : Nat}, (∀ j s, sls[j]? = some s → xss[j]? = some (mkL f (n + j) s.xs.length)) → OwnF E k T f n sls S := by
  induction h with
  | nil => intro n _; exact .nil
  | @cons s xs sls xss S R h hs ih =>
    intro n hj
    have h0 := hj 0 s rfl
    simp at h0
    subst h0
    refine .cons h (ih fun j s' hs' => ?_)
    have := hj (j + 1) s' (by simpa using hs')
    rw [show n + 1 + j = n + (j + 1) by omega]
    simpa using this
theorem OwnF.head {f : Nat → Nat → α} {sls : List (Sl α)} {S : Hp} {n : Nat} {s : Sl α} (h : OwnF E k T f n (sls.drop n) S) (hs : sls[n]? = some s) : ∃ S1 S2, S = S1 ++ S2 ∧ OwnS E k T s.v (mkL f n s.xs.length) S1 ∧ OwnF E k T f (n + 1) (sls.drop (n + 1)) S2 := by
  have hn : n < sls.length := by
    rcases Nat.lt_or_ge n sls.length with h' | h'
    · exact h'
    · rw [List.getElem?_eq_none h'] at hs; cases hs
  have e : sls.drop n = s :: sls.drop (n + 1) := by
    rw [List.drop_eq_getElem_cons hn]
    rw [List.getElem?_eq_getElem hn] at hs
    simp at hs; rw [hs]
  rw [e] at h
  cases h with
  | cons h1 h2 => exact ⟨_, _, rfl, h1, h2⟩
/-- the first n lists have been gone on with -/
structure Done (E : α → List Value) (f : Nat → Nat → α) (sls ones mores : List (Sl α)) (G : Hp) (n : Nat) : Prop where
  out : ∀ j, j < n → ∃ s o m, sls[j]? = some s ∧ ones[j]? = some o ∧ mores[j]? = some m ∧ o.xs = mkL f j (s.xs.length + 1) ∧ m.xs = mkL f j (s.xs.length + 70) ∧ IsSl s.v s.xs.length ∧ IsSl o.v o.xs.length ∧ IsSl m.v m.xs.length ∧ RdS E s.v (mkL f j s.xs.length) G ∧ RdS E o.v o.xs G ∧ RdS E m.v m.xs G
theorem Done.zero {f : Nat → Nat → α} {sls ones mores : List (Sl α)} {G : Hp} : Done E f sls ones mores G 0 := ⟨fun _ h => by omega⟩
theorem Done.step {f : Nat → Nat → α} {sls ones mores : List (Sl α)} {G G' : Hp} {n : Nat} {s o m : Sl α} (h : Done E f sls ones mores G n) (h1 : ones.length = n) (h2 : mores.length = n) (hs : sls[n]? = some s)
    (ho : o.xs = mkL f n (s.xs.length + 1)) (hm : m.xs = mkL f n (s.xs.length + 70)) (i1 : IsSl s.v s.xs.length) (i2 : IsSl o.v o.xs.length) (i3 : IsSl m.v m.xs.length) (r1 : RdS E s.v (mkL f n s.xs.length) G') (r2 : RdS E o.v o.xs G') (r3 : RdS E m.v m.xs G') : Done E f sls (ones ++ [o]) (mores ++ [m]) (G' ++ G) (n + 1) := by
  refine ⟨fun j hj => ?_⟩
  by_cases e : j = n
  · subst e
    exact ⟨s, o, m, hs, by rw [List.getElem?_append_right (by omega)]; simp [h1], by rw [List.getElem?_append_right (by omega)]; simp [h2], ho, hm, i1, i2, i3, r1.mono HIn.appL, r2.mono HIn.appL, r3.mono HIn.appL⟩
  · obtain ⟨s', o', m', a1, a2, a3, a4, a5, b1, b2, b3, a6, a7, a8⟩ := h.out j (by omega)
    exact ⟨s', o', m', a1, by rw [List.getElem?_append_left (by omega)]; exact a2, by rw [List.getElem?_append_left (by omega)]; exact a3, a4, a5, b1, b2, b3, a6.mono HIn.appR, a7.mono HIn.appR, a8.mono HIn.appR⟩
theorem set_all {f : Nat → Nat → α} {sls : List (Sl α)} {xss : List (List α)} {n : Nat} {s : Sl α} {l xs : List α} (hA : ∀ j s, j < n → sls[j]? = some s → xss[j]? = some (mkL f j s.xs.length)) (hs : sls[n]? = some s) (hl : l = mkL f n s.xs.length) (hx : xss[n]? = some xs) :
    ∀ j s', j < n + 1 → sls[j]? = some s' → (xss.set n l)[j]? = some (mkL f j s'.xs.length) := by
  intro j s' hj hs'
  by_cases e : n = j
  · subst e
    rw [hs] at hs'; cases hs'
    rw [List.getElem?_set_self (List.getElem?_eq_some_iff.1 hx).1, hl]
  · rw [List.getElem?_set_ne e]; exact hA j s' (by omega) hs'
theorem Keep.more {v0 v : Value} {xs0 xs : List α} {S G G' : Hp} (h : Keep E k T v0 xs0 v xs S G) (hG : HIn G G') : Keep E k T v0 xs0 v xs S G' := ⟨h.own, h.old.imp (fun r => r.mono hG) fun r => r⟩
theorem sl_get {sls : List (Sl α)} {n : Nat} (h : n < sls.length) : ∃ s, sls[n]? = some s := ⟨_, List.getElem?_eq_getElem h⟩
theorem Sl.v_len {s : Sl α} {a : Option Addr} {n c : Nat} {xs : List α} {S : Hp} [Enc E k] (h : OwnS E k T s.v xs S) (_e : s.v = .slice a n c) : xs.length = s.xs.length := by
  obtain ⟨a', c', e', _⟩ := h.sl.out
  simp [Sl.v] at e'; exact e'.2.1.symm
theorem OwnS.lenv [Enc E k] {s : Sl α} {xs : List α} {S : Hp} (h : OwnS E k T s.v xs S) : xs.length = s.xs.length := by
  obtain ⟨a', c', e', _⟩ := h.sl.out
  simp [Sl.v] at e'; exact e'.2.1.symm
end
end Go.HL
