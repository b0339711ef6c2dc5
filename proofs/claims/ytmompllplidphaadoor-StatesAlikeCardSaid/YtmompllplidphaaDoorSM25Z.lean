/- The first text that one of two machines takes alone has fewer bytes than both have states. Conditions: none. -/
import Derived.Test.YtmompllplidphaaDoorSE5Z
import Derived.Test.YtmompllplidphaaDoorSM15Z
import Derived.Test.YtmompllplidphaaDoorHTZ
namespace Go.HL.Sts
open Go Go.HL Go.HL.Kl Go.HL.Kl.Mc
theorem countP_strict {α : Type} {p q : α → Bool} : ∀ {l : List α}, (∀ x ∈ l, p x = true → q x = true) → ∀ {y : α}, y ∈ l → p y = false → q y = true → l.countP p < l.countP q
  | [], _, _, hy, _, _ => by cases hy
  | x :: l, h, y, hy, h1, h2 => by
    have hm : l.countP p ≤ l.countP q := List.countP_mono_left fun z hz => h z (List.mem_cons_of_mem _ hz)
    rw [List.countP_cons, List.countP_cons]
    rcases List.mem_cons.1 hy with rfl | hy
    · rw [h1, h2]; simp; omega
    · have := countP_strict (fun z hz => h z (List.mem_cons_of_mem _ hz)) hy h1 h2
      have hx := h x List.mem_cons_self
      cases e : p x with
      | true => rw [hx e]; simp; omega
      | false => cases q x <;> simp <;> omega
section
variable {α : Type} (M : Nat) (A : Nat → List α → Bool) (st : Nat → α → Nat)
def Eqk (k p q : Nat) : Prop := ∀ w : List α, w.length < k → A p w = A q w
open Classical in
noncomputable def rpsE (k : Nat) : Nat := (List.range M).countP fun p => decide (∀ q, q < p → ¬ Eqk A k p q)
variable {M A st}
theorem Eqk.symm {k p q : Nat} (h : Eqk A k p q) : Eqk A k q p := fun w hw => (h w hw).symm
theorem Eqk.trans {k p q r : Nat} (h : Eqk A k p q) (h' : Eqk A k q r) : Eqk A k p r := fun w hw => (h w hw).trans (h' w hw)
theorem Eqk.mono {k j p q : Nat} (h : Eqk A k p q) (hj : j ≤ k) : Eqk A j p q := fun w hw => h w (by omega)
theorem stab_next (hs : ∀ u e, u < M → st u e < M) (ha : ∀ u e w, u < M → A u (e :: w) = A (st u e) w) {k : Nat} (h : ∀ p q, p < M → q < M → Eqk A k p q → Eqk A (k + 1) p q) : ∀ p q, p < M → q < M → Eqk A (k + 1) p q → Eqk A (k + 2) p q := by
  intro p q hp hq he w hw
  cases w with
  | nil => exact he [] (Nat.succ_pos _)
  | cons e w =>
    rw [ha p e w hp, ha q e w hq]
    refine h _ _ (hs p e hp) (hs q e hq) (fun v hv => ?_) w (by simpa using hw)
    have := he (e :: v) (by simpa using hv)
    rwa [ha p e v hp, ha q e v hq] at this
theorem stab_all (hs : ∀ u e, u < M → st u e < M) (ha : ∀ u e w, u < M → A u (e :: w) = A (st u e) w) {k : Nat} (h : ∀ p q, p < M → q < M → Eqk A k p q → Eqk A (k + 1) p q) : ∀ n p q, p < M → q < M → Eqk A k p q → Eqk A (k + n) p q := by
  have h1 : ∀ n, ∀ p q, p < M → q < M → Eqk A (k + n) p q → Eqk A (k + n + 1) p q := by
    intro n
    induction n with
    | zero => exact h
    | succ n ih => exact stab_next hs ha ih
  intro n
  induction n with
  | zero => exact fun p q _ _ he => he
  | succ n ih => exact fun p q hp hq he => h1 n p q hp hq (ih p q hp hq he)
theorem least_in {k : Nat} : ∀ (n q : Nat), q < n → ∃ r, r ≤ q ∧ Eqk A k q r ∧ ∀ s, s < r → ¬ Eqk A k r s
  | 0, q, h => absurd h (Nat.not_lt_zero _)
  | n + 1, q, h => by
    by_cases hq : ∃ s, s < q ∧ Eqk A k q s
    · obtain ⟨s, hs, he⟩ := hq
      obtain ⟨r, h1, h2, h3⟩ := least_in n s (by omega)
      exact ⟨r, by omega, he.trans h2, h3⟩
    · exact ⟨q, Nat.le_refl _, fun _ _ => rfl, fun s hs he => hq ⟨s, hs, he⟩⟩
open Classical in
theorem rpsE_lt {k p q : Nat} (hp : p < M) (hq : q < M) (h : Eqk A k p q) (hn : ¬ Eqk A (k + 1) p q) : rpsE M A k < rpsE M A (k + 1) := by
  obtain ⟨r, hr1, hr2, hr3⟩ := least_in (A := A) (k := k) (p + 1) p (Nat.lt_succ_self _)
  have hqr : Eqk A k q r := h.symm.trans hr2
  obtain ⟨x, hx, hxr, hxn⟩ : ∃ x, x < M ∧ Eqk A k x r ∧ ¬ Eqk A (k + 1) x r := by
    by_cases e : Eqk A (k + 1) p r
    · exact ⟨q, hq, hqr, fun e2 => hn (e.trans e2.symm)⟩
    · exact ⟨p, hp, hr2, e⟩
  obtain ⟨y, hy1, hy2, hy3⟩ := least_in (A := A) (k := k + 1) (x + 1) x (Nat.lt_succ_self _)
  have hyr : Eqk A k y r := (hy2.symm.mono (Nat.le_succ _)).trans hxr
  have hne : y ≠ r := fun e => hxn (by rw [← e]; exact hy2)
  have hry : r < y := by
    rcases Nat.lt_trichotomy y r with h1 | h1 | h1
    · exact absurd hyr.symm (hr3 y h1)
    · exact absurd h1 hne
    · exact h1
  unfold rpsE
  refine countP_strict (fun z _ hz => ?_) (List.mem_range.2 (show y < M by omega)) ?_ ?_
  · rw [decide_eq_true_eq] at hz ⊢
    exact fun s hs he => hz s hs (he.mono (Nat.le_succ _))
  · rw [decide_eq_false_iff_not]
    exact fun hall => hall r hry hyr
  · rw [decide_eq_true_eq]
    exact hy3
open Classical in
theorem rpsE_zero (hM : 0 < M) : 1 ≤ rpsE M A 0 := by
  unfold rpsE
  refine List.countP_pos_iff.2 ⟨0, List.mem_range.2 hM, ?_⟩
  rw [decide_eq_true_eq]
  exact fun q hq => absurd hq (Nat.not_lt_zero _)
theorem part_short (hs : ∀ u e, u < M → st u e < M) (ha : ∀ u e w, u < M → A u (e :: w) = A (st u e) w) {p q : Nat} (hp : p < M) (hq : q < M) {w : List α} (hw : A p w ≠ A q w) (hl : ∀ v : List α, v.length < w.length → A p v = A q v) : w.length + 2 ≤ M := by
  have hno : ∀ k, k ≤ w.length → ∃ p' q', p' < M ∧ q' < M ∧ Eqk A k p' q' ∧ ¬ Eqk A (k + 1) p' q' := by
    intro k hk
    rcases Classical.em (∃ p' q', p' < M ∧ q' < M ∧ Eqk A k p' q' ∧ ¬ Eqk A (k + 1) p' q') with h | h
    · exact h
    · exfalso
      have hst : ∀ p q, p < M → q < M → Eqk A k p q → Eqk A (k + 1) p q := fun p' q' h1 h2 h3 => Classical.byContradiction fun h4 => h ⟨p', q', h1, h2, h3, h4⟩
      have := stab_all hs ha hst (w.length + 1) p q hp hq (fun v hv => hl v (by omega))
      exact hw (this w (by omega))
  have hr : ∀ k, k ≤ w.length + 1 → k + 1 ≤ rpsE M A k := by
    intro k
    induction k with
    | zero => exact fun _ => rpsE_zero (by omega)
    | succ k ih =>
      intro hk
      obtain ⟨p', q', h1, h2, h3, h4⟩ := hno k (by omega)
      have := rpsE_lt h1 h2 h3 h4
      have := ih (by omega)
      omega
  have h1 := hr (w.length + 1) (Nat.le_refl _)
  have h2 : rpsE M A (w.length + 1) ≤ M := by
    unfold rpsE
    exact Nat.le_trans List.countP_le_length (by simp)
  omega
end
def twoA (a b : Df) (u : Nat) (w : List UInt8) : Bool := if u < a.ends.length then endsR a (tkR a w u) else if u < a.ends.length + b.ends.length then endsR b (tkR b w ((u - a.ends.length : Nat) : Int)) else false
def twoS (a b : Df) (u : Nat) (e : UInt8) : Nat := if u < a.ends.length then (if goesR a u e.toNat < 0 then a.ends.length + b.ends.length else (goesR a u e.toNat).toNat) else
  if u < a.ends.length + b.ends.length then (if goesR b ((u - a.ends.length : Nat) : Int) e.toNat < 0 then a.ends.length + b.ends.length else a.ends.length + (goesR b ((u - a.ends.length : Nat) : Int) e.toNat).toNat) else a.ends.length + b.ends.length
theorem goesR_bnd {d : Df} (h : Shp d) {q : Int} (hq : q < d.ends.length) (e : UInt8) : -1 ≤ goesR d q e.toNat ∧ goesR d q e.toNat < d.ends.length := by
  rw [← gP_goes h q e.toNat_lt]; exact gP_bnd h hq _
theorem twoS_lt {a b : Df} (ha : Shp a) (hb : Shp b) (u : Nat) (e : UInt8) (_ : u < a.ends.length + b.ends.length + 1) : twoS a b u e < a.ends.length + b.ends.length + 1 := by
  unfold twoS
  by_cases h1 : u < a.ends.length
  · rw [if_pos h1]
    have := goesR_bnd ha (q := (u : Int)) (by omega) e
    split <;> omega
  · rw [if_neg h1]
    by_cases h2 : u < a.ends.length + b.ends.length
    · rw [if_pos h2]
      have := goesR_bnd hb (q := ((u - a.ends.length : Nat) : Int)) (by omega) e
      split <;> omega
    · rw [if_neg h2]; omega
theorem endsR_neg {d : Df} {q : Int} (h : q < 0) : endsR d q = false := by
  unfold endsR; rw [decide_eq_false (by omega)]; rfl
theorem twoA_step {a b : Df} (ha : Shp a) (hb : Shp b) (u : Nat) (e : UInt8) (w : List UInt8) (_ : u < a.ends.length + b.ends.length + 1) : twoA a b u (e :: w) = twoA a b (twoS a b u e) w := by
  have hd : twoA a b (a.ends.length + b.ends.length) w = false := by
    unfold twoA; rw [if_neg (by omega), if_neg (by omega)]
  conv => lhs; unfold twoA
  by_cases h1 : u < a.ends.length
  · rw [if_pos h1]
    have hB := goesR_bnd ha (q := (u : Int)) (by omega) e
    show endsR a (tkR a w (goesR a u e.toNat)) = _
    by_cases h3 : goesR a u e.toNat < 0
    · have e1 : twoS a b u e = a.ends.length + b.ends.length := by unfold twoS; rw [if_pos h1, if_pos h3]
      rw [e1, hd, endsR_neg (tkR_neg a w h3)]
    · have e1 : twoS a b u e = (goesR a u e.toNat).toNat := by unfold twoS; rw [if_pos h1, if_neg h3]
      rw [e1]
      unfold twoA
      rw [if_pos (by omega), show ((goesR a u e.toNat).toNat : Int) = goesR a u e.toNat by omega]
  · rw [if_neg h1]
    by_cases h2 : u < a.ends.length + b.ends.length
    · rw [if_pos h2]
      obtain ⟨g, hg⟩ : ∃ g, g = goesR b ((u - a.ends.length : Nat) : Int) e.toNat := ⟨_, rfl⟩
      have hB := goesR_bnd hb (q := ((u - a.ends.length : Nat) : Int)) (by omega) e
      rw [← hg] at hB
      show endsR b (tkR b w (goesR b ((u - a.ends.length : Nat) : Int) e.toNat)) = _
      by_cases h3 : g < 0
      · have e1 : twoS a b u e = a.ends.length + b.ends.length := by unfold twoS; rw [if_neg h1, if_pos h2, ← hg, if_pos h3]
        rw [e1, hd, ← hg, endsR_neg (tkR_neg b w h3)]
      · have e1 : twoS a b u e = a.ends.length + g.toNat := by unfold twoS; rw [if_neg h1, if_pos h2, ← hg, if_neg h3]
        rw [e1, ← hg]
        unfold twoA
        rw [if_neg (by omega), if_pos (by omega), show ((a.ends.length + g.toNat - a.ends.length : Nat) : Int) = g by omega]
    · rw [if_neg h2]
      have e1 : twoS a b u e = a.ends.length + b.ends.length := by unfold twoS; rw [if_neg h1, if_neg h2]
      rw [e1, hd]
theorem unM_len {a b : Df} (ha : Shp a) (hb : Shp b) {t : List UInt8} (h : unM a b = some t) : t.length < a.ends.length + b.ends.length := by
  obtain ⟨h1, h2⟩ := unM_some ha hb h
  have ea : ∀ w, twoA a b 0 w = takesP a w := fun w => by
    rw [takesP_rn ha]; unfold twoA rnT
    rw [if_pos (by have := ha.sz.1; omega)]; rfl
  have eb : ∀ w, twoA a b a.ends.length w = takesP b w := fun w => by
    rw [takesP_rn hb]; unfold twoA rnT
    rw [if_neg (by omega), if_pos (by have := hb.sz.1; omega), Nat.sub_self]; rfl
  have := part_short (M := a.ends.length + b.ends.length + 1) (A := twoA a b) (st := twoS a b) (fun u e hu => twoS_lt ha hb u e hu) (fun u e w hu => twoA_step ha hb u e w hu) (p := 0) (q := a.ends.length) (by omega) (by omega) (w := t) (by rw [ea, eb]; exact h1) (fun v hv => by rw [ea, eb]; exact h2 v (code_len hv))
  omega
end Go.HL.Sts
namespace Go.HL.Sts
open Go Go.HL Go.HL.Kl Go.HL.Kl.Mc
structure Can (d : Df) (cn : Nat → Nat → Nat) : Prop where
  z : cn 0 0 = 1
  st : ∀ (q k : Nat) (row : List Int) (v : Int), d.next[q]? = some row → row[k]? = some v → v ≤ (cn q k : Int) ∧ cn q (k + 1) = if v = (cn q k : Int) then cn q k + 1 else cn q k
  nx : ∀ q, q < d.ends.length → cn (q + 1) 0 = cn q d.atoms.length ∧ q < cn q 0
  fin : cn d.ends.length 0 = d.ends.length
theorem Can.le {d : Df} {cn : Nat → Nat → Nat} (h : Can d cn) (hS : Shp d) {q k : Nat} (hq : q < d.ends.length) (hk : k ≤ d.atoms.length) : cn q k ≤ d.ends.length := by
  have hnl : d.next.length = d.ends.length := by have := hS.sz.2.2.1; omega
  have h1 : ∀ q, q < d.ends.length → ∀ n k, k + n ≤ d.atoms.length → cn q k ≤ cn q (k + n) := by
    intro q hq n
    induction n with
    | zero => exact fun k _ => Nat.le_refl _
    | succ n ih =>
      intro k hkn
      have hr := List.getElem?_eq_getElem (l := d.next) (i := q) (by omega)
      have hrl := (hS.rows _ (List.getElem_mem (l := d.next) (by omega : q < d.next.length))).1
      have hv := List.getElem?_eq_getElem (l := d.next[q]'(by omega)) (i := k + n) (by omega)
      have h2 := (h.st q (k + n) _ _ hr hv).2
      have h3 := ih k (by omega)
      rw [show k + (n + 1) = k + n + 1 by omega, h2]
      split <;> omega
  have h2 : ∀ n q, q + n = d.ends.length → cn q 0 ≤ d.ends.length := by
    intro n
    induction n with
    | zero => intro q hq; rw [show q = d.ends.length by omega, h.fin]; exact Nat.le_refl _
    | succ n ih =>
      intro q hq
      have h3 := h1 q (by omega) d.atoms.length 0 (by omega)
      rw [Nat.zero_add, ← (h.nx q (by omega)).1] at h3
      exact Nat.le_trans h3 (ih (q + 1) (by omega))
  have h3 := h1 q hq (d.atoms.length - k) k (by omega)
  rw [show k + (d.atoms.length - k) = d.atoms.length by omega, ← (h.nx q hq).1] at h3
  exact Nat.le_trans h3 (h2 (d.ends.length - (q + 1)) (q + 1) (by omega))
def LE (a b : Df) (p : Nat) : Prop := ∀ t : List Nat, (∀ k ∈ t, k < a.atoms.length) → accD a (p : Int) t = accD b (p : Int) t
def ApD (d : Df) : Prop := ∀ i j : Nat, i < d.ends.length → j < d.ends.length → i ≠ j → ∃ t : List Nat, (∀ k ∈ t, k < d.atoms.length) ∧ accD d (i : Int) t ≠ accD d (j : Int) t
def AlD (d : Df) : Prop := ∀ (q k : Nat) (row : List Int) (v : Int), d.next[q]? = some row → row[k]? = some v → 0 ≤ v → ∃ t : List Nat, (∀ k ∈ t, k < d.atoms.length) ∧ accD d v t = true
theorem acc_cons {d : Df} {q k : Nat} {row : List Int} {v : Int} (h : d.next[q]? = some row) (hv : row[k]? = some v) (t : List Nat) : accD d (q : Int) (k :: t) = accD d v t := by
  show accD d (gD d (q : Int) k) t = accD d v t
  have : gD d (q : Int) k = v := by unfold gD; rw [if_neg (by omega), nxt_get h hv]
  rw [this]
theorem can_num {a b : Df} (hSa : Shp a) (hSb : Shp b) (hat : a.atoms.length = b.atoms.length) (apa : ApD a) (apb : ApD b) (ala : AlD a) (alb : AlD b) {q k c : Nat} {ra rb : List Int} {va vb : Int} (hra : a.next[q]? = some ra) (hrb : b.next[q]? = some rb) (hva : ra[k]? = some va) (hvb : rb[k]? = some vb)
    (hk : k < a.atoms.length) (hq : LE a b q) (hca : va ≤ c) (hcb : vb ≤ c) (hc1 : c ≤ a.ends.length) (hc2 : c ≤ b.ends.length) (hL : ∀ p, p < c → LE a b p) : va = vb ∧ ∀ t : List Nat, (∀ k ∈ t, k < a.atoms.length) → accD a va t = accD b vb t := by
  have hE : ∀ t : List Nat, (∀ k ∈ t, k < a.atoms.length) → accD a va t = accD b vb t := fun t ht => by
    rw [← acc_cons hra hva t, ← acc_cons hrb hvb t]
    exact hq (k :: t) fun x hx => by
      rcases List.mem_cons.1 hx with rfl | hx
      · exact hk
      · exact ht x hx
  refine ⟨?_, hE⟩
  have ba := (hSa.rows ra (List.mem_of_getElem? hra)).2 va (List.mem_of_getElem? hva)
  have bb := (hSb.rows rb (List.mem_of_getElem? hrb)).2 vb (List.mem_of_getElem? hvb)
  rcases Int.lt_or_le va 0 with h1 | h1
  · rcases Int.lt_or_le vb 0 with h2 | h2
    · omega
    · obtain ⟨t, ht, h3⟩ := alb q k rb vb hrb hvb h2
      have h4 := hE t (fun x hx => by rw [hat]; exact ht x hx)
      rw [accD_neg a t h1, h3] at h4; cases h4
  · rcases Int.lt_or_le vb 0 with h2 | h2
    · obtain ⟨t, ht, h3⟩ := ala q k ra va hra hva h1
      have h4 := hE t ht
      rw [accD_neg b t h2, h3] at h4; cases h4
    · obtain ⟨x, rfl⟩ : ∃ x : Nat, va = x := ⟨va.toNat, by omega⟩
      obtain ⟨y, rfl⟩ : ∃ y : Nat, vb = y := ⟨vb.toNat, by omega⟩
      rcases Nat.lt_or_ge x c with h3 | h3
      · rcases Nat.decEq x y with h4 | h4
        · obtain ⟨t, ht, h5⟩ := apb x y (by omega) (by omega) h4
          have ht' : ∀ k ∈ t, k < a.atoms.length := fun k hk => by rw [hat]; exact ht k hk
          exact absurd ((hL x h3 t ht').symm.trans (hE t ht')) h5
        · rw [h4]
      · rcases Nat.lt_or_ge y c with h5 | h5
        · rcases Nat.decEq x y with h4 | h4
          · obtain ⟨t, ht, h6⟩ := apa x y (by omega) (by omega) h4
            exact absurd ((hE t ht).trans (hL y h5 t ht).symm) h6
          · rw [h4]
        · omega
theorem can_eq {a b : Df} (hSa : Shp a) (hSb : Shp b) (hat : a.atoms = b.atoms) {ca cb : Nat → Nat → Nat} (hA : Can a ca) (hB : Can b cb) (apa : ApD a) (apb : ApD b) (ala : AlD a) (alb : AlD b) (h0 : LE a b 0) : a.next = b.next ∧ a.ends = b.ends := by
  have hK : a.atoms.length = b.atoms.length := by rw [hat]
  have la : a.next.length = a.ends.length := by have := hSa.sz.2.2.1; omega
  have lb : b.next.length = b.ends.length := by have := hSb.sz.2.2.1; omega
  have main : ∀ q, q ≤ a.ends.length → q ≤ b.ends.length → ca q 0 = cb q 0 ∧ (∀ p, p < ca q 0 → LE a b p) ∧ ∀ q', q' < q → a.next[q']? = b.next[q']? := by
    intro q
    induction q with
    | zero =>
      intro _ _
      refine ⟨hA.z.trans hB.z.symm, fun p hp => ?_, fun q' h => by omega⟩
      rw [hA.z] at hp
      rw [show p = 0 by omega]; exact h0
    | succ q ih =>
      intro hqa hqb
      obtain ⟨h1, h2, h3⟩ := ih (by omega) (by omega)
      have hra := List.getElem?_eq_getElem (l := a.next) (i := q) (by omega)
      have hrb := List.getElem?_eq_getElem (l := b.next) (i := q) (by omega)
      have hla := (hSa.rows _ (List.mem_of_getElem? hra)).1
      have hlb := (hSb.rows _ (List.mem_of_getElem? hrb)).1
      have hq := h2 q (hA.nx q (by omega)).2
      have inner : ∀ k, k ≤ a.atoms.length → ca q k = cb q k ∧ (∀ p, p < ca q k → LE a b p) ∧ ∀ k', k' < k → (a.next[q]'(by omega))[k']? = (b.next[q]'(by omega))[k']? := by
        intro k
        induction k with
        | zero => exact fun _ => ⟨h1, h2, fun k' h => by omega⟩
        | succ k ihk =>
          intro hk
          obtain ⟨g1, g2, g3⟩ := ihk (by omega)
          have hva := List.getElem?_eq_getElem (l := a.next[q]'(by omega)) (i := k) (by omega)
          have hvb := List.getElem?_eq_getElem (l := b.next[q]'(by omega)) (i := k) (by omega)
          obtain ⟨s1, s2⟩ := hA.st q k _ _ hra hva
          obtain ⟨s3, s4⟩ := hB.st q k _ _ hrb hvb
          have l1 := hA.le hSa (q := q) (k := k) (by omega) (by omega)
          have l2 := hB.le hSb (q := q) (k := k) (by omega) (by omega)
          rw [← g1] at s3 s4 l2
          obtain ⟨e1, e2⟩ := can_num hSa hSb hK apa apb ala alb hra hrb hva hvb (by omega) hq s1 s3 l1 l2 g2
          refine ⟨by rw [s2, s4, e1], fun p hp => ?_, fun k' hk' => ?_⟩
          · rcases Nat.lt_or_ge p (ca q k) with h5 | h5
            · exact g2 p h5
            · rw [s2] at hp
              split at hp
              · rename_i h6
                have hpc : p = ca q k := by omega
                intro t ht
                have := e2 t ht
                rw [← e1, h6, ← hpc] at this
                exact this
              · omega
          · rcases Nat.lt_or_ge k' k with h5 | h5
            · exact g3 k' h5
            · rw [show k' = k by omega, hva, hvb, e1]
      obtain ⟨g1, g2, g3⟩ := inner a.atoms.length (Nat.le_refl _)
      have ea := (hA.nx q (by omega)).1
      have eb := (hB.nx q (by omega)).1
      rw [← hK] at eb
      refine ⟨by rw [ea, eb, g1], fun p hp => g2 p (by rw [← ea]; exact hp), fun q' hq' => ?_⟩
      rcases Nat.lt_or_ge q' q with h5 | h5
      · exact h3 q' h5
      · rw [show q' = q by omega, hra, hrb]
        congr 1
        refine List.ext_getElem? fun k => ?_
        rcases Nat.lt_or_ge k a.atoms.length with h6 | h6
        · exact g3 k h6
        · rw [List.getElem?_eq_none (by omega), List.getElem?_eq_none (by omega)]
  have hn : a.ends.length = b.ends.length := by
    rcases Nat.lt_trichotomy a.ends.length b.ends.length with h | h | h
    · obtain ⟨h1, _, _⟩ := main a.ends.length (Nat.le_refl _) (by omega)
      have := (hB.nx a.ends.length h).2
      rw [← h1, hA.fin] at this; omega
    · exact h
    · obtain ⟨h1, _, _⟩ := main b.ends.length (by omega) (Nat.le_refl _)
      have := (hA.nx b.ends.length h).2
      rw [h1, hB.fin] at this; omega
  obtain ⟨h1, h2, h3⟩ := main a.ends.length (Nat.le_refl _) (by omega)
  refine ⟨List.ext_getElem? fun q => ?_, List.ext_getElem? fun q => ?_⟩
  · rcases Nat.lt_or_ge q a.ends.length with h | h
    · exact h3 q h
    · rw [List.getElem?_eq_none (by omega), List.getElem?_eq_none (by omega)]
  · rcases Nat.lt_or_ge q a.ends.length with h | h
    · have h4 := h2 q (by rw [hA.fin]; exact h) [] (fun _ h => by cases h)
      have e1 : ∀ d : Df, q < d.ends.length → d.ends[q]? = some (accD d (q : Int) []) := fun d hd => by
        show _ = some (endsR d (q : Int))
        unfold endsR
        rw [decide_eq_true (show (0 : Int) ≤ (q : Int) by omega), Bool.true_and, Int.toNat_natCast, List.getElem?_eq_getElem hd]; rfl
      rw [e1 a h, e1 b (by omega), h4]
    · rw [List.getElem?_eq_none (by omega), List.getElem?_eq_none (by omega)]
/-! texts for words -/
theorem word_text {at_ : List Kl.Cl} (ha : Atm at_) : ∀ t : List Nat, (∀ k ∈ t, k < at_.length) → ∃ w : List UInt8, ltrs at_ w = t
  | [], _ => ⟨[], rfl⟩
  | k :: t, ht => by
    obtain ⟨w, hw⟩ := word_text ha t fun x hx => ht x (List.mem_cons_of_mem _ hx)
    have hk := ht k List.mem_cons_self
    have hne := ha.ne _ (List.getElem_mem hk)
    obtain ⟨b, hb, hbit⟩ : ∃ b, b < 256 ∧ (at_[k]).getLsbD b = true := by
      rcases Classical.em (∃ b, b < 256 ∧ (at_[k]).getLsbD b = true) with h | h
      · exact h
      · refine absurd (BitVec.eq_of_getLsbD_eq fun i hi => ?_) hne
        cases e : (at_[k]).getLsbD i with
        | false => simp
        | true => exact absurd ⟨i, hi, e⟩ h
    have e1 : (UInt8.ofNat b).toNat = b := by simp [UInt8.toNat_ofNat']; omega
    obtain ⟨h1, h2⟩ := ha.fst hb
    refine ⟨UInt8.ofNat b :: w, ?_⟩
    show fstK at_ (UInt8.ofNat b).toNat :: ltrs at_ w = _
    rw [e1, hw, ha.uniq hb h1 hk h2 hbit]
theorem same_LE {a b : Df} (hSa : Shp a) (hSb : Shp b) (hat : a.atoms = b.atoms) (h : ∀ w, takesP a w = takesP b w) : LE a b 0 := fun t ht => by
  obtain ⟨w, rfl⟩ := word_text hSa.atm t ht
  have h1 := h w
  rw [takesP_rn hSa, takesP_rn hSb] at h1
  unfold rnT at h1
  rw [tkR_run hSa.atm, tkR_run hSb.atm, ← hat] at h1
  exact h1
/-! what Make makes is so -/
def miF (w : Wd) (P : List Nat) (lv : List Bool) : Nat → Lm
  | 0 => ⟨[0], [], []⟩
  | q + 1 => lmStep w P lv q (miF w P lv q)
def rowF (w : Wd) (P : List Nat) (lv : List Bool) (q : Nat) : List Nat := w.next[(miF w P lv q).met[q]?.getD 0]?.getD []
def cnF (w : Wd) (P : List Nat) (lv : List Bool) (q k : Nat) : Nat := (lrowT P lv ((rowF w P lv q).take k) (miF w P lv q).met).2.length
theorem cnF_zero (w : Wd) (P : List Nat) (lv : List Bool) (q : Nat) : cnF w P lv q 0 = (miF w P lv q).met.length := by
  unfold cnF; rw [List.take_zero]; rfl
section
variable {w : Wd} {lv : List Bool} {m : Lm} {d : Df}
theorem mi_T (h : MkOk w lv d.atoms.length m d) (hm : lmM w (partsM w.next w.ends d.atoms.length) lv = some m) : ∀ q, q ≤ m.met.length → LmT w (partsM w.next w.ends d.atoms.length) lv d.atoms.length q (miF w (partsM w.next w.ends d.atoms.length) lv q) m
  | 0, _ => h.trace hm
  | q + 1, hq => by
    obtain ⟨_, _, _, _, _, _, _, _, h1, _⟩ := (mi_T h hm q (by omega)).step h.hw h.hl.1 (by omega)
    exact h1
theorem MkOk.can (h : MkOk w lv d.atoms.length m d) (hm : lmM w (partsM w.next w.ends d.atoms.length) lv = some m) : Can d (cnF w (partsM w.next w.ends d.atoms.length) lv) := by
  obtain ⟨l1, l2, l3, l4⟩ := h.len
  have hrow : ∀ q, q < d.ends.length → ∃ row : List Nat, rowF w (partsM w.next w.ends d.atoms.length) lv q = row ∧ q < (miF w (partsM w.next w.ends d.atoms.length) lv q).met.length ∧ row.length = d.atoms.length ∧ (∀ v ∈ row, v < lv.length) ∧
      d.next[q]? = some (lrowT (partsM w.next w.ends d.atoms.length) lv row (miF w (partsM w.next w.ends d.atoms.length) lv q).met).1 ∧ (miF w (partsM w.next w.ends d.atoms.length) lv (q + 1)).met = (lrowT (partsM w.next w.ends d.atoms.length) lv row (miF w (partsM w.next w.ends d.atoms.length) lv q).met).2 := by
    intro q hq
    obtain ⟨s, row, h1, h2, h3, h4, h5, h6, _, h8⟩ := (mi_T h hm q (by omega)).step h.hw h.hl.1 (by omega)
    exact ⟨row, by unfold rowF; rw [h2, Option.getD_some, h3, Option.getD_some], h1, h4, h5, by rw [h.nx]; exact h6, h8⟩
  refine ⟨by rw [cnF_zero]; rfl, fun q k row v hr hv => ?_, fun q hq => ?_, ?_⟩
  · have hq := (List.getElem?_eq_some_iff.1 hr).1
    obtain ⟨r, e1, _, e3, e4, e5, _⟩ := hrow q (by omega)
    rw [hr] at e5
    obtain rfl := Option.some.inj e5
    have hk := (List.getElem?_eq_some_iff.1 hv).1
    rw [lrowT_len] at hk
    unfold cnF
    rw [e1]
    exact num_step e4 (mi_T h hm q (by omega)).1.nd (List.getElem?_eq_getElem hk) hv
  · obtain ⟨r, e1, e2, e3, e4, e5, e6⟩ := hrow q hq
    rw [cnF_zero, cnF_zero]
    refine ⟨?_, e2⟩
    rw [e6]
    unfold cnF
    rw [e1, List.take_of_length_le (by omega)]
  · rw [cnF_zero, (mi_T h hm d.ends.length (by omega)).fin (by omega), l2]
theorem MkOk.apD (h : MkOk w lv d.atoms.length m d) : ApD d := fun i j hi hj hij => by
  obtain ⟨_, l2, _, _⟩ := h.len
  exact h.apart (by omega) (by omega) hij
theorem MkOk.alD (h : MkOk w lv d.atoms.length m d) : AlD d := fun q k row v hr hv h0 => by
  obtain ⟨l1, l2, l3, l4⟩ := h.len
  have hq := (List.getElem?_eq_some_iff.1 hr).1
  obtain ⟨s, hs⟩ : ∃ s, m.met[q]? = some s := ⟨_, List.getElem?_eq_getElem (by omega)⟩
  have hsn := h.I.bnd s (List.mem_of_getElem? hs)
  obtain ⟨_, row', e2, e3, e4⟩ := h.I.rows q s (by omega) hs
  rw [h.nx, e2] at hr
  obtain rfl := Option.some.inj hr
  have hk : k < d.atoms.length := by rw [← e3]; exact (List.getElem?_eq_some_iff.1 hv).1
  have hN := e4 k v hk hv
  have htn := (h.hw.get hsn hk).choose_spec.2.2
  by_cases hb : lv[Sts.nx w.next s k]? = some true
  · obtain ⟨t, ht, ha⟩ := (live_acc h.hw htn).1 ((h.hl.2 _).1 hb)
    refine ⟨t, ht, ?_⟩
    have h1 := h.acc (k :: t) q s hs (fun x hx => by
      rcases List.mem_cons.1 hx with rfl | hx
      · exact hk
      · exact ht x hx)
    rw [acc_cons (by rw [h.nx]; exact e2) hv t] at h1
    rw [h1]; exact ha
  · have := hN.1 (lv_no (by rw [h.hl.1]; exact htn) hb)
    omega
end
theorem alike_eq {x y : List Nd} {a b : Df} (ha : mkOk x a) (hb : mkOk y b) (hat : a.atoms = b.atoms) (h : ∀ w, takesP a w = takesP b w) : a = b := by
  obtain ⟨_, _, _, _, _, _, _, _, hMa, hma, hSa⟩ := mk_ok ha
  obtain ⟨_, _, _, _, _, _, _, _, hMb, hmb, hSb⟩ := mk_ok hb
  obtain ⟨h1, h2⟩ := can_eq hSa hSb hat (hMa.can hma) (hMb.can hmb) hMa.apD hMb.apD hMa.alD hMb.alD (same_LE hSa hSb hat h)
  cases a; cases b
  simp only at h1 h2 hat
  subst h1; subst h2; subst hat; rfl
end Go.HL.Sts
namespace Go.Proofs.YtmompllplidphaaDoor
open Go Go.HL Go.Proofs Go.HL.Kl Go.HL.Kl.Mc Go.HL.Sts
def aheadB (v t : List UInt8) : Bool := decide (code v < code t)
theorem ah_short {v t : List UInt8} (h : v.length < t.length) : aheadB v t = true := decide_eq_true (code_len h)
theorem ah_long {v t : List UInt8} (h : t.length < v.length) : aheadB v t = false := decide_eq_false (by have := code_len h; omega)
theorem ah_lt {v t : List UInt8} {i : Nat} {x y : UInt8} (hl : v.length = t.length) (hp : v.take i = t.take i) (hx : v[i]? = some x) (hy : t[i]? = some y) (h : x.toNat < y.toNat) : aheadB v t = true := decide_eq_true (code_part hl hp hx hy h)
theorem ah_gt {v t : List UInt8} {i : Nat} {x y : UInt8} (hl : v.length = t.length) (hp : v.take i = t.take i) (hx : v[i]? = some x) (hy : t[i]? = some y) (h : y.toNat < x.toNat) : aheadB v t = false := decide_eq_false (by have := code_part hl.symm hp.symm hy hx h; omega)
theorem ah_eq {v t : List UInt8} (hl : v.length = t.length) (hp : v.take v.length = t.take v.length) : aheadB v t = false := decide_eq_false (by
  rw [List.take_length, hl, List.take_length] at hp
  rw [hp]; omega)
theorem ahead_fn (va : Option Addr) (vc : Nat) (v : List UInt8) (ua : Option Addr) (uc : Nat) (t : List UInt8) : HL.Fn Tryd.prog 31 [.slice va v.length vc, .slice ua t.length uc] (fun W => Rd Eb W (.slice va v.length vc) v ∧ Rd Eb W (.slice ua t.length uc) t) [] (fun r _ => r = .bool (aheadB v t)) := by
  refine fn_of Tryd.func31 rfl rfl rfl fun w0 hw => ?_
  have hsv := hw.1.sl
  have hst := hw.2.sl
  have hbv := hsv.le
  have hbt := hst.le
  refine cR fun _ hK1 => ?_; refine oA (oZ hK1 (c_seq fun _ hK2 => ?_)); refine cR fun _ hK3 => ?_; refine oM ?_; refine oS sC (oM ?_); refine oS sC ?_
  by_cases hl : v.length ≠ t.length
  ·refine oS (step_cast (v' := .bool true) (s_neq rfl rfl) (congrArg Value.bool (decide_eq_true (by omega)))) ?_; refine oZ hK3 ?_; refine cT (cR fun _ hK4 => ?_); refine oM ?_; refine oS sC (oM ?_); refine oS sC ?_
   by_cases hsh : v.length < t.length
   ·refine oS (step_cast (v' := .bool true) (s_lss rfl rfl) (congrArg Value.bool (decide_eq_true (by omega)))) ?_; refine oA (oZ hK4 (c_ret ?_)); refine x_then_ret (?_); exact xR rfl rfl ((congrArg Value.bool (ah_short hsh).symm))
   ·refine oS (step_cast (v' := .bool false) (s_lss rfl rfl) (congrArg Value.bool (decide_eq_false (by omega)))) ?_; refine oA (oZ hK4 (c_ret ?_)); refine x_then_ret (?_); exact xR rfl rfl ((congrArg Value.bool (ah_long (by omega)).symm))
  ·refine oS (step_cast (v' := .bool false) (s_neq rfl rfl) (congrArg Value.bool (decide_eq_false (by omega)))) ?_; refine oZ hK3 ?_; refine cFZ hK2 (c_seq fun _ hK5 => ?_); refine cR fun _ hK6 => ?_; refine oA (oZ hK6 (c_block ?_))
   -- not carried: 4
   refine c_loopB (fun (k : Nat) => k ≤ v.length ∧ v.take k = t.take k) (fun (k : Nat) => [(5, .int .i64 k)]) [(0, _), (1, _)] (fun (k : Nat) => []) (fun (k : Nat) => v.length - k) 0 ⟨by omega, by simp⟩ sbA sbA hzB ?_
   rintro k ⟨hk, hp⟩
   refine c_seq fun _ hK7 => ?_; refine cR fun _ hK8 => ?_; refine oM (oM ?_); refine oS sC ?_
   by_cases hkl : k < v.length
   ·obtain ⟨x, hx⟩ : ∃ x, v[k]? = some x := gE
    obtain ⟨y, hy⟩ : ∃ y, t[k]? = some y := gE
    refine oS (step_cast (v' := .bool true) (s_lss rfl rfl) (congrArg Value.bool (decide_eq_true (by omega)))) ?_; refine oZ hK8 ?_; refine cTZ hK7 (c_seq fun _ hK9 => ?_); refine c_block (c_seq fun _ hK10 => ?_); refine c_drawE ([]) (fun i => false) ?_; refine eP 0 rfl sM ?_; refine eP 1 rfl sM ?_; refine eP 2 rfl (s_idx rfl rfl hsv (by omega)) ?_; refine e_tk 3 rfl (by exact HSub.nil) (s_ld rfl ((RdK.old0 hw.1).ld k 0 hx rfl (by decide) (by omega))) ?_; refine eP 4 rfl sM ?_; refine eP 5 rfl sM ?_; refine eP 6 rfl (s_idx rfl rfl hst (by omega)) ?_; refine e_tk 7 rfl (by exact HSub.nil) (s_ld rfl ((RdK.old0 hw.2).ld k 0 hy rfl (by decide) (by omega))) ?_
    by_cases hne : x.toNat ≠ y.toNat
    ·refine eP 8 rfl (step_cast (v' := .bool true) (s_neq rfl rfl) (congrArg Value.bool (decide_eq_true (by omega)))) ?_; refine eZ hK10 ?_; refine cT (c_seq fun _ hK11 => ?_); refine c_drawE ([]) (fun i => false) ?_; refine eP 0 rfl sM ?_; refine eP 1 rfl sM ?_; refine eP 2 rfl (s_idx rfl rfl hsv (by omega)) ?_; refine e_tk 3 rfl (by exact HSub.nil) (s_ld rfl ((RdK.old0 hw.1).ld k 0 hx rfl (by decide) (by omega))) ?_; refine eP 4 rfl sM ?_; refine eP 5 rfl sM ?_; refine eP 6 rfl (s_idx rfl rfl hst (by omega)) ?_; refine e_tk 7 rfl (by exact HSub.nil) (s_ld rfl ((RdK.old0 hw.2).ld k 0 hy rfl (by decide) (by omega))) ?_
     by_cases hlt : x.toNat < y.toNat
     ·refine eP 8 rfl (step_cast (v' := .bool true) (s_lss rfl rfl) (congrArg Value.bool (decide_eq_true (by omega)))) ?_; refine eP 9 rfl sA (eZ hK11 (c_ret ?_)); refine x_block_ret (x_then_ret (x_then_ret (x_block_ret (x_then_ret (?_)))))
      exact xR rfl rfl ((congrArg Value.bool (ah_lt (by omega) hp hx hy hlt).symm))
     ·refine eP 8 rfl (step_cast (v' := .bool false) (s_lss rfl rfl) (congrArg Value.bool (decide_eq_false (by omega)))) ?_; refine eP 9 rfl sA (eZ hK11 (c_ret ?_)); refine x_block_ret (x_then_ret (x_then_ret (x_block_ret (x_then_ret (?_)))))
      exact xR rfl rfl ((congrArg Value.bool (ah_gt (by omega) hp hx hy (by omega)).symm))
    ·refine eP 8 rfl (step_cast (v' := .bool false) (s_neq rfl rfl) (congrArg Value.bool (decide_eq_false (by omega)))) ?_; refine eZ hK10 ?_; refine cF (c_skip (x_block (xZ hK9 (c_region (oM ?_))))); refine oS sD (oA (o_nil ?_)); exact xI (k + 1) ⟨by omega, by rw [take_succ_get hx, take_succ_get hy, hp, UInt8.toNat_inj.1 (show x.toNat = y.toNat by omega)]⟩
   ·obtain rfl : k = v.length := by omega
    refine oS (step_cast (v' := .bool false) (s_lss rfl rfl) (congrArg Value.bool (decide_eq_false (by omega)))) ?_; refine oZ hK8 ?_; refine cF ?_; refine c_exit ?_; refine x_then_exit (x_then_exit (x_block_exit (xZ hK5 (cR fun _ hK12 => ?_)))); refine oA (oZ hK12 (c_ret ?_)); refine ?_; exact xR rfl rfl ((congrArg Value.bool (ah_eq (by omega) hp).symm))
end Go.Proofs.YtmompllplidphaaDoor
