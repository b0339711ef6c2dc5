/- Part of the proofs over this seat: see the text that holds the theorem. Conditions: each theorem bears its own. -/
import Derived.Test.YtmmajabfmhipeaaDoorHlB
namespace Go.Tab
open Go Go.HL
/-- the first j places of l hold f -/
structure Fill {α : Type} (f : Nat → α) (n j : Nat) (l : List α) : Prop where
  len : l.length = n
  get : ∀ i, i < j → l[i]? = some (f i)
theorem Fill.zero {α : Type} {f : Nat → α} {l : List α} {n : Nat} (h : l.length = n) : Fill f n 0 l := ⟨h, fun _ h => by omega⟩
theorem Fill.step {α : Type} {f : Nat → α} {n j : Nat} {l : List α} (h : Fill f n j l) (hj : j < n) {y : α} (hy : y = f j) : Fill f n (j + 1) (l.set j y) := by
  refine ⟨by simp [h.len], fun i hi => ?_⟩
  subst hy
  by_cases e : j = i
  · subst e; rw [List.getElem?_set_self (by rw [h.len]; exact hj)]
  · rw [List.getElem?_set_ne e]; exact h.get i (by omega)
theorem Fill.done {α : Type} {f : Nat → α} {n j : Nat} {l : List α} (h : Fill f n j l) (hj : n ≤ j) : l = (List.range n).map f := by
  apply List.ext_getElem?
  intro i
  by_cases hi : i < n
  · rw [h.get i (by omega), List.getElem?_map, List.getElem?_range hi]; rfl
  · rw [List.getElem?_eq_none (by rw [h.len]; omega), List.getElem?_eq_none (by simp; omega)]
def idT : List UInt8 := (List.range 256).map UInt8.ofNat
theorem idT_len : idT.length = 256 := by simp [idT]
theorem idT_get {i : Nat} (h : i < 256) : idT[i]? = some (UInt8.ofNat i) := by
  unfold idT
  rw [List.getElem?_map, List.getElem?_range h]; rfl
theorem zlen (n : Nat) : (List.replicate n (0 : UInt8)).length = n := by simp
def at0 (t : List UInt8) (i : Nat) : UInt8 := t.getD i 0
theorem at0_get {t : List UInt8} {i : Nat} (h : i < t.length) : t[i]? = some (at0 t i) := by simp [at0, h]
def thenT (t u : List UInt8) : List UInt8 := (List.range 256).map fun i => at0 u (at0 t i).toNat
theorem thenT_len (t u : List UInt8) : (thenT t u).length = 256 := by simp [thenT]
def applyT (t b : List UInt8) : List UInt8 := (List.range b.length).map fun i => at0 t (at0 b i).toNat
theorem applyT_len (t b : List UInt8) : (applyT t b).length = b.length := by simp [applyT]
theorem applyT_id (b : List UInt8) : applyT idT b = b := by
  apply List.ext_getElem?
  intro i
  by_cases hi : i < b.length
  · unfold applyT
    rw [List.getElem?_map, List.getElem?_range hi, at0_get hi]
    simp only [Option.map_some, Option.some.injEq]
    have h := idT_get (UInt8.toNat_lt (at0 b i))
    unfold at0 at h ⊢
    rw [List.getD_eq_getElem?_getD, h]
    simp
  · rw [List.getElem?_eq_none (by rw [applyT_len]; omega), List.getElem?_eq_none (by omega)]
/-- the table of the first j pairs -/
def newAt (f t : List UInt8) : Nat → Option (List UInt8)
  | 0 => some idT
  | j + 1 => if at0 f j ∈ f.take j then none else (newAt f t j).map (·.set (at0 f j).toNat (at0 t j))
def newR (f t : List UInt8) : Option (List UInt8) := if f.length = t.length then newAt f t f.length else none
theorem newAt_len {f t : List UInt8} : ∀ {j : Nat} {l : List UInt8}, newAt f t j = some l → l.length = 256
  | 0, l, h => by simp only [newAt, Option.some.injEq] at h; subst h; exact idT_len
  | j + 1, l, h => by
    simp only [newAt] at h
    split at h
    · cases h
    · cases hr : newAt f t j with
      | none => simp [hr] at h
      | some m => simp only [hr, Option.map_some, Option.some.injEq] at h; subst h; simp [newAt_len hr]
theorem newAt_none {f t : List UInt8} {j : Nat} (h : at0 f j ∈ f.take j) : ∀ {m : Nat}, j < m → newAt f t m = none
  | 0, hm => by omega
  | m + 1, hm => by
    simp only [newAt]
    by_cases e : j = m
    · subst e; rw [if_pos h]
    · rw [newAt_none h (by omega)]; simp
def zT : List UInt8 := List.replicate 256 0
theorem zT_len : zT.length = 256 := List.length_replicate
/-- what New answers -/
def tabV (r : Option (List UInt8)) : Value := .tuple #[.agg (flat Eb (r.getD zT)).toArray, .int .i64 (if r.isSome then 0 else 60)]
theorem getD_len {r : Option (List UInt8)} (h : ∀ l, r = some l → l.length = 256) : (r.getD zT).length = 256 := by
  cases r with
  | none => exact zT_len
  | some l => exact h l rfl
theorem tab_none {r : Option (List UInt8)} (h : r = none) : resV [.agg (List.replicate 256 (.int .u8 0)).toArray, .int .i64 60] = tabV r := by
  subst h
  show Value.tuple #[_, _] = tabV none
  rw [tabV]
  simp only [Option.getD_none, zT, flatEb_zeros]
  rfl
theorem tab_some {r : Option (List UInt8)} {l : List UInt8} (h : r = some l) : resV [.agg (flat Eb l).toArray, .int .i64 0] = tabV r := by subst h; rfl
theorem newR_some {f t l : List UInt8} {j : Nat} (h : newAt f t j = some l) (hl : f.length = t.length) (hj : f.length ≤ j) (hj' : j ≤ f.length) : newR f t = some l := by
  have : j = f.length := by omega
  subst this
  rw [newR, if_pos hl, h]
theorem newR_none {f t : List UInt8} {j : Nat} (h : at0 f j ∈ f.take j) (hj : j < f.length) : newR f t = none := by
  rw [newR]; split
  · exact newAt_none h hj
  · rfl
theorem seen_step {f : List UInt8} {j : Nat} {sn : List Bool} (hj : j < f.length) (hl : sn.length = 256) (h : ∀ b : UInt8, sn[b.toNat]? = some (decide (b ∈ f.take j))) :
    ∀ b : UInt8, (sn.set (at0 f j).toNat true)[b.toNat]? = some (decide (b ∈ f.take (j + 1))) := by
  intro b
  rw [List.take_add_one, at0_get hj]
  by_cases e : at0 f j = b
  · subst e
    rw [List.getElem?_set_self (by rw [hl]; exact UInt8.toNat_lt _)]
    simp
  · rw [List.getElem?_set_ne (fun h' => e (UInt8.toNat_inj.1 h')), h b]
    congr 1
    rw [Bool.eq_iff_iff]
    simp only [decide_eq_true_eq, List.mem_append, Option.toList_some, List.mem_singleton]
    constructor
    · exact fun h => .inl h
    · rintro (h | h)
      · exact h
      · exact absurd h.symm e
theorem idT_take {j : Nat} (h : j < 256) : idT.take (j + 1) = idT.take j ++ [UInt8.ofNat j] := by
  rw [List.take_add_one, idT_get h]; rfl
theorem idT_all : idT.take 256 = idT := List.take_of_length_le (by rw [idT_len]; omega)
theorem idT_tl {j : Nat} (h : j ≤ 256) : (idT.take j).length = j := by rw [List.length_take, idT_len]; omega
theorem at0_id {j : Nat} (h : j < 256) : (at0 idT j).toNat = j := by
  have h1 := idT_get h
  unfold at0
  rw [List.getD_eq_getElem?_getD, h1, Option.getD_some, UInt8.toNat_ofNat_of_lt' (by simp [UInt8.size]; omega)]
theorem at0_range {f : Nat → UInt8} {n i : Nat} (h : i < n) : at0 ((List.range n).map f) i = f i := by
  unfold at0
  rw [List.getD_eq_getElem?_getD, List.getElem?_map, List.getElem?_range h]; rfl
theorem at0_apply {t b : List UInt8} {i : Nat} (h : i < b.length) : at0 (applyT t b) i = at0 t (at0 b i).toNat := at0_range h
theorem at0_then {t u : List UInt8} {i : Nat} (h : i < 256) : at0 (thenT t u) i = at0 u (at0 t i).toNat := at0_range h
theorem applyT_then (t u b : List UInt8) : applyT (thenT t u) b = applyT u (applyT t b) := by
  unfold applyT
  rw [show ((List.range b.length).map fun i => at0 t (at0 b i).toNat).length = b.length by simp]
  refine List.map_congr_left fun i hi => ?_
  rw [at0_then (UInt8.toNat_lt _), at0_range (by simpa using hi)]
theorem thenT_assoc (t u v : List UInt8) : thenT (thenT t u) v = thenT t (thenT u v) := by
  refine List.map_congr_left fun i hi => ?_
  rw [at0_then (by simpa using hi), at0_then (UInt8.toNat_lt _)]
def xyT : List UInt8 := (idT.set 97 120).set 98 121
theorem xyT_len : xyT.length = 256 := by rw [xyT, List.length_set, List.length_set, idT_len]
theorem lv1 : newR [97, 98] [120, 121] = some xyT := rfl
theorem lv2 : newR [97, 97] [120, 121] = none := rfl
theorem lv3 : applyT xyT [97, 98, 99, 97, 98] = [120, 121, 99, 120, 121] := by decide +kernel
theorem fill_id {j : Nat} {l : List UInt8} (h : Fill UInt8.ofNat 256 j l) (hj : 256 ≤ j) : l = idT := h.done hj
theorem fill_then {t u : List UInt8} {j : Nat} {l : List UInt8} (h : Fill (fun i => at0 u (at0 t i).toNat) 256 j l) (hj : 256 ≤ j) : l = thenT t u := h.done hj
theorem fill_apply {t xs : List UInt8} {j : Nat} {l : List UInt8} (h : Fill (fun i => at0 t (at0 xs i).toNat) xs.length j l) (hj : xs.length ≤ j) : l = applyT t xs := h.done hj
attribute [irreducible] idT thenT applyT xyT
theorem at0_set_self {l : List UInt8} {i : Nat} {y : UInt8} (h : i < l.length) : at0 (l.set i y) i = y := by simp [at0, h]
theorem at0_set_ne {l : List UInt8} {i j : Nat} {y : UInt8} (h : i ≠ j) : at0 (l.set i y) j = at0 l j := by
  unfold at0
  rw [List.getD_eq_getElem?_getD, List.getD_eq_getElem?_getD, List.getElem?_set_ne h]
theorem at0_ext {a b : List UInt8} (h : a.length = b.length) (he : ∀ i, i < a.length → at0 a i = at0 b i) : a = b := by
  apply List.ext_getElem?
  intro i
  by_cases hi : i < a.length
  · rw [at0_get hi, at0_get (by omega), he i hi]
  · rw [List.getElem?_eq_none (by omega), List.getElem?_eq_none (by omega)]
theorem mem_take_iff {f : List UInt8} {j : Nat} {b : UInt8} (hj : j ≤ f.length) : b ∈ f.take j ↔ ∃ i, i < j ∧ at0 f i = b := by
  rw [List.mem_take_iff_getElem]
  constructor
  · rintro ⟨i, hi, rfl⟩
    exact ⟨i, by omega, by simp [at0, show i < f.length by omega]⟩
  · rintro ⟨i, hi, rfl⟩
    exact ⟨i, by omega, by simp [at0, show i < f.length by omega]⟩
theorem idT_at0 {j : Nat} (h : j < 256) : at0 idT j = UInt8.ofNat j := by
  have h1 := idT_get h
  unfold at0
  rw [List.getD_eq_getElem?_getD, h1]; rfl
theorem newAt_spec {f t : List UInt8} : ∀ {j : Nat}, j ≤ f.length → (∀ i k, i < k → k < j → at0 f i ≠ at0 f k) →
    ∃ l, newAt f t j = some l ∧ l.length = 256 ∧ (∀ i, i < j → at0 l (at0 f i).toNat = at0 t i) ∧ (∀ x, x < 256 → (∀ i, i < j → (at0 f i).toNat ≠ x) → at0 l x = UInt8.ofNat x)
  | 0, _, _ => ⟨idT, rfl, idT_len, fun i h => by omega, fun x hx _ => idT_at0 hx⟩
  | j + 1, hj, hd => by
    obtain ⟨l, h1, h2, h3, h4⟩ := newAt_spec (f := f) (t := t) (j := j) (by omega) (fun i k a b => hd i k a (by omega))
    have hn : ¬ at0 f j ∈ f.take j := by
      rw [mem_take_iff (by omega)]
      rintro ⟨i, hi, he⟩
      exact hd i j hi (by omega) he
    refine ⟨l.set (at0 f j).toNat (at0 t j), by simp only [newAt]; rw [if_neg hn, h1]; rfl, by rw [List.length_set, h2], fun i hi => ?_, fun x hx hne => ?_⟩
    · by_cases e : i = j
      · subst e
        exact at0_set_self (by rw [h2]; exact UInt8.toNat_lt _)
      · rw [at0_set_ne (fun h' => hd i j (by omega) (by omega) (UInt8.toNat_inj.1 h').symm)]
        exact h3 i (by omega)
    · rw [at0_set_ne (hne j (by omega))]
      exact h4 x hx (fun i hi => hne i (by omega))
theorem newAt_isSome {f t : List UInt8} {j : Nat} (hj : j ≤ f.length) : (newAt f t j).isSome = true ↔ (f.take j).Nodup := by
  induction j with
  | zero => simp [newAt]
  | succ j ih =>
    have hlt : j < f.length := by omega
    have e : f.take (j + 1) = f.take j ++ [at0 f j] := by rw [List.take_add_one, at0_get hlt]; rfl
    rw [e, List.nodup_append]
    simp only [newAt]
    by_cases hm : at0 f j ∈ f.take j
    · rw [if_pos hm]
      simp only [Option.isSome_none, Bool.false_eq_true, false_iff]
      rintro ⟨_, _, h3⟩
      exact h3 _ hm _ (by simp) rfl
    · rw [if_neg hm, Option.isSome_map, ih (by omega)]
      constructor
      · intro h
        refine ⟨h, by simp, fun a ha b hb e => ?_⟩
        simp at hb; subst hb; subst e; exact hm ha
      · exact fun h => h.1
/-! the rows of a table -/
def pIdx (t : List UInt8) (j : Nat) : List Nat := (List.range j).filter fun i => decide (at0 t i ≠ UInt8.ofNat i)
def pF (t : List UInt8) (j : Nat) : List UInt8 := (pIdx t j).map UInt8.ofNat
def pT (t : List UInt8) (j : Nat) : List UInt8 := (pIdx t j).map (at0 t)
theorem pIdx_yes {t : List UInt8} {j : Nat} (h : at0 t j ≠ UInt8.ofNat j) : pIdx t (j + 1) = pIdx t j ++ [j] := by
  simp [pIdx, List.range_succ, List.filter_append, h]
theorem pIdx_no {t : List UInt8} {j : Nat} (h : ¬ at0 t j ≠ UInt8.ofNat j) : pIdx t (j + 1) = pIdx t j := by
  simp only [pIdx, List.range_succ, List.filter_append]
  rw [show [j].filter (fun i => decide (at0 t i ≠ UInt8.ofNat i)) = [] by simpa using h]
  simp
theorem pF_yes {t : List UInt8} {j : Nat} (h : at0 t j ≠ UInt8.ofNat j) : pF t (j + 1) = pF t j ++ [UInt8.ofNat j] := by rw [pF, pIdx_yes h, List.map_append]; rfl
theorem pT_yes {t : List UInt8} {j : Nat} (h : at0 t j ≠ UInt8.ofNat j) : pT t (j + 1) = pT t j ++ [at0 t j] := by rw [pT, pIdx_yes h, List.map_append]; rfl
theorem pF_no {t : List UInt8} {j : Nat} (h : ¬ at0 t j ≠ UInt8.ofNat j) : pF t (j + 1) = pF t j := by rw [pF, pIdx_no h]; rfl
theorem pT_no {t : List UInt8} {j : Nat} (h : ¬ at0 t j ≠ UInt8.ofNat j) : pT t (j + 1) = pT t j := by rw [pT, pIdx_no h]; rfl
theorem pIdx_len (t : List UInt8) (j : Nat) : (pIdx t j).length ≤ j := by
  have := List.length_filter_le (fun i => decide (at0 t i ≠ UInt8.ofNat i)) (List.range j)
  simpa [pIdx] using this
theorem pF_len (t : List UInt8) (j : Nat) : (pF t j).length = (pIdx t j).length := by simp [pF]
theorem pT_len (t : List UInt8) (j : Nat) : (pT t j).length = (pIdx t j).length := by simp [pT]
theorem pIdx_mem {t : List UInt8} {j i : Nat} : i ∈ pIdx t j ↔ i < j ∧ at0 t i ≠ UInt8.ofNat i := by simp [pIdx]
theorem pIdx_lt {t : List UInt8} {j : Nat} : (pIdx t j).Pairwise (· < ·) := List.Pairwise.filter _ List.pairwise_lt_range
theorem at0_map {f : Nat → UInt8} {l : List Nat} {i : Nat} (h : i < l.length) : at0 (l.map f) i = f (l[i]) := by
  unfold at0; simp [h]
theorem pIdx_get_lt {t : List UInt8} {j i k : Nat} (h : i < k) (hk : k < (pIdx t j).length) : (pIdx t j)[i]'(by omega) < (pIdx t j)[k] := (List.pairwise_iff_getElem.1 (pIdx_lt (t := t) (j := j))) i k (by omega) hk h
theorem pIdx_get {t : List UInt8} {j i : Nat} (h : i < (pIdx t j).length) : (pIdx t j)[i] < j ∧ at0 t (pIdx t j)[i] ≠ UInt8.ofNat (pIdx t j)[i] := pIdx_mem.1 (List.getElem_mem h)
theorem ofNat_toNat {n : Nat} (h : n < 256) : (UInt8.ofNat n).toNat = n := UInt8.toNat_ofNat_of_lt' (by simp [UInt8.size]; omega)
theorem pF_at {t : List UInt8} {i : Nat} (h : i < (pF t 256).length) : at0 (pF t 256) i = UInt8.ofNat ((pIdx t 256)[i]'(by rw [← pF_len]; exact h)) := at0_map _
theorem pT_at {t : List UInt8} {i : Nat} (h : i < (pT t 256).length) : at0 (pT t 256) i = at0 t ((pIdx t 256)[i]'(by rw [← pT_len]; exact h)) := at0_map _
/-- what does not stay is not what it was -/
theorem p_ne {t : List UInt8} {i : Nat} (h : i < (pF t 256).length) : at0 (pF t 256) i ≠ at0 (pT t 256) i := by
  rw [pF_at h, pT_at (by rw [pT_len, ← pF_len]; exact h)]
  exact (pIdx_get _).2.symm
theorem p_rise {t : List UInt8} {i k : Nat} (h : i < k) (hk : k < (pF t 256).length) : (at0 (pF t 256) i).toNat < (at0 (pF t 256) k).toNat := by
  have hk' : k < (pIdx t 256).length := by rw [← pF_len]; exact hk
  rw [pF_at (by omega), pF_at hk, ofNat_toNat (pIdx_get _).1, ofNat_toNat (pIdx_get _).1]
  exact pIdx_get_lt h hk'
theorem newR_print {t : List UInt8} (ht : t.length = 256) : newR (pF t 256) (pT t 256) = some t := by
  have hl : (pF t 256).length = (pT t 256).length := by rw [pF_len, pT_len]
  obtain ⟨l, h1, h2, h3, h4⟩ := newAt_spec (f := pF t 256) (t := pT t 256) (j := (pF t 256).length) (Nat.le_refl _) (fun i k a b e => by
    have := p_rise a b; rw [e] at this; omega)
  rw [newR, if_pos hl, h1]
  congr 1
  refine at0_ext (by omega) fun x hx => ?_
  rw [h2] at hx
  by_cases hm : at0 t x ≠ UInt8.ofNat x
  · obtain ⟨i, hi, he⟩ := List.getElem_of_mem (pIdx_mem.2 ⟨hx, hm⟩ : x ∈ pIdx t 256)
    have hi' : i < (pF t 256).length := by rw [pF_len]; exact hi
    have h5 := h3 i hi'
    rw [pF_at hi', pT_at (by rw [pT_len]; exact hi), he, ofNat_toNat hx] at h5
    exact h5
  · have hm' : at0 t x = UInt8.ofNat x := Decidable.not_not.1 hm
    rw [hm']
    refine h4 x hx fun i hi e => ?_
    have hi' : i < (pIdx t 256).length := by rw [← pF_len]; exact hi
    rw [pF_at hi, ofNat_toNat (pIdx_get _).1] at e
    have := (pIdx_get hi').2
    rw [e] at this
    exact this hm'
theorem newR_len {f t l : List UInt8} (h : newR f t = some l) : l.length = 256 := by
  rw [newR] at h
  split at h
  · exact newAt_len h
  · cases h
theorem nodup_at {t : List UInt8} (h : t.Nodup) {i k : Nat} (hi : i < t.length) (hk : k < t.length) (e : at0 t i = at0 t k) : i = k := by
  have e1 : t[i]? = t[k]? := by rw [at0_get hi, at0_get hk, e]
  rw [List.getElem?_eq_getElem hi, List.getElem?_eq_getElem hk, Option.some.injEq] at e1
  have hp := List.pairwise_iff_getElem.1 h
  rcases Nat.lt_trichotomy i k with h1 | h1 | h1
  · exact absurd e1 (hp i k hi hk h1)
  · exact h1
  · exact absurd e1.symm (hp k i hk hi h1)
theorem newR_back {t : List UInt8} (ht : t.length = 256) (hn : t.Nodup) (b : List UInt8) : ∃ l, newR (pT t 256) (pF t 256) = some l ∧ l.length = 256 ∧ applyT l (applyT t b) = b := by
  have hl : (pT t 256).length = (pF t 256).length := by rw [pF_len, pT_len]
  have hlt : (pT t 256).length = (pIdx t 256).length := pT_len _ _
  obtain ⟨l, h1, h2, h3, h4⟩ := newAt_spec (f := pT t 256) (t := pF t 256) (j := (pT t 256).length) (Nat.le_refl _) (fun i k a b e => by
    rw [pT_at (by omega), pT_at b] at e
    have := nodup_at hn (by rw [ht]; exact (pIdx_get _).1) (by rw [ht]; exact (pIdx_get _).1) e
    have h' := pIdx_get_lt a (by omega : k < (pIdx t 256).length)
    omega)
  refine ⟨l, by rw [newR, if_pos hl, h1], h2, ?_⟩
  refine at0_ext (by rw [applyT_len, applyT_len]) fun i hi => ?_
  rw [applyT_len] at hi
  have hib : i < b.length := by rw [applyT_len] at hi; exact hi
  rw [at0_apply hi, at0_apply hib]
  generalize at0 b i = c
  have hc := UInt8.toNat_lt c
  have e0 : UInt8.ofNat c.toNat = c := by simp
  by_cases hm : at0 t c.toNat ≠ UInt8.ofNat c.toNat
  · obtain ⟨q, hq, he⟩ := List.getElem_of_mem (pIdx_mem.2 ⟨hc, hm⟩ : c.toNat ∈ pIdx t 256)
    have hq' : q < (pT t 256).length := by rw [pT_len]; exact hq
    have h5 := h3 q hq'
    rw [pT_at hq', pF_at (by rw [pF_len]; exact hq), he, e0] at h5
    exact h5
  · have hm' : at0 t c.toNat = UInt8.ofNat c.toNat := Decidable.not_not.1 hm
    rw [hm', e0]
    have h6 := h4 c.toNat hc (fun q hq e => by
      rw [pT_at hq] at e
      have h7 := UInt8.toNat_inj.1 (e.trans (by rfl : c.toNat = c.toNat))
      have hqi : q < (pIdx t 256).length := by omega
      have h8 := nodup_at hn (by rw [ht]; exact (pIdx_get hqi).1) (by rw [ht]; exact hc) (h7.trans (e0.symm.trans hm'.symm))
      have h9 := (pIdx_get hqi).2
      rw [h8] at h9
      exact h9 hm')
    rw [h6, e0]
theorem nodup_step1 {t : List UInt8} {j : Nat} (hj : j < t.length) (h : (t.take j).Nodup) : (!decide (at0 t j ∈ t.take j)) = decide (t.take (j + 1)).Nodup := by
  rw [Bool.eq_iff_iff]
  have e : t.take (j + 1) = t.take j ++ [at0 t j] := by rw [List.take_add_one, at0_get hj]; rfl
  rw [e]
  simp only [Bool.not_eq_true', decide_eq_false_iff_not, decide_eq_true_eq, List.nodup_append]
  constructor
  · intro hm
    exact ⟨h, by simp, fun a ha b hb e => by simp at hb; subst hb; subst e; exact hm ha⟩
  · rintro ⟨_, _, h3⟩ hm
    exact h3 _ hm _ (by simp) rfl
theorem nodup_step0 {t : List UInt8} {j : Nat} (h : ¬ (t.take j).Nodup) : false = decide (t.take (j + 1)).Nodup := by
  symm
  rw [decide_eq_false_iff_not]
  intro hn
  exact h (hn.sublist (List.take_sublist_take_left (by omega)))
def wideF (xs : List UInt8) (i : Nat) : UInt8 := if i < xs.length then at0 xs i else UInt8.ofNat (279 + 7 * i + 3)
def wide (xs : List UInt8) : List UInt8 := (List.range (xs.length + 64)).map (wideF xs)
theorem wide_len (xs : List UInt8) : (wide xs).length = xs.length + 64 := by simp [wide]
theorem wide_at {xs : List UInt8} {i : Nat} (h : i < xs.length + 64) : at0 (wide xs) i = wideF xs i := at0_range h
theorem wide_take (xs : List UInt8) : (wide xs).take xs.length = xs := by
  refine at0_ext (by rw [List.length_take, wide_len]; omega) fun i hi => ?_
  rw [List.length_take, wide_len] at hi
  have h : at0 ((wide xs).take xs.length) i = at0 (wide xs) i := by
    unfold at0
    rw [List.getD_eq_getElem?_getD, List.getD_eq_getElem?_getD, List.getElem?_take, if_pos (by omega)]
  rw [h, wide_at (by omega), wideF, if_pos (by omega)]
theorem fill_wide {xs : List UInt8} {j : Nat} {l : List UInt8} (h : Fill (wideF xs) (xs.length + 64) j l) (hj : xs.length + 64 ≤ j) : l = wide xs := h.done hj
theorem wideF_in {xs : List UInt8} {i : Nat} (h : i < xs.length) : at0 xs i = wideF xs i := by rw [wideF, if_pos h]
theorem wideF_out {xs : List UInt8} {i : Nat} (h : ¬ i < xs.length) : UInt8.ofNat (279 + 7 * i + 3) = wideF xs i := by rw [wideF, if_neg h]
theorem nodup_lt : ∀ (n : Nat) (l : List Nat), l.Nodup → (∀ x ∈ l, x < n) → l.length ≤ n
  | 0, l, _, h => by
    cases l with
    | nil => simp
    | cons x l => exact absurd (h x List.mem_cons_self) (Nat.not_lt_zero _)
  | n + 1, l, hd, h => by
    have h1 := nodup_lt n (l.erase n) (hd.erase n) (fun x hx => by
      have h2 := h x (List.mem_of_mem_erase hx)
      have h3 : x ≠ n := fun e => by
        subst e
        exact absurd hx (List.Nodup.not_mem_erase hd)
      omega)
    have h4 := List.length_erase (a := n) (l := l)
    split at h4 <;> omega
theorem nodup_u8 {l : List UInt8} (h : l.Nodup) : l.length ≤ 256 := by
  have := nodup_lt 256 (l.map UInt8.toNat) (by
    rw [List.Nodup, List.pairwise_map]
    exact List.Pairwise.imp (fun hne e => hne (UInt8.toNat_inj.1 e)) h) (fun x hx => by
    obtain ⟨b, _, rfl⟩ := List.mem_map.1 hx
    exact UInt8.toNat_lt b)
  simpa using this
theorem newR_long {f t : List UInt8} (h : 256 < f.length) : newR f t = none := by
  rw [newR]
  split
  · cases hn : newAt f t f.length with
    | none => rfl
    | some l =>
      have h1 := (newAt_isSome (f := f) (t := t) (Nat.le_refl _)).1 (by rw [hn]; rfl)
      rw [List.take_of_length_le (Nat.le_refl _)] at h1
      have := nodup_u8 h1
      omega
  · rfl
theorem notin_take {f : List UInt8} {j k : Nat} (hj : j < f.length) (hk : j ≤ k) (h : ∀ i, i < k → at0 f i ≠ at0 f j) : ¬ at0 f j ∈ f.take j := by
  rw [mem_take_iff (by omega)]
  rintro ⟨i, hi, he⟩
  exact h i (by omega) he
theorem in_take {f : List UInt8} {j k : Nat} (hj : j < f.length) (hk : k < j) (h : at0 f k = at0 f j) : at0 f j ∈ f.take j := by
  rw [mem_take_iff (by omega)]
  exact ⟨k, hk, h⟩
attribute [irreducible] wide wideF
end Go.Tab
