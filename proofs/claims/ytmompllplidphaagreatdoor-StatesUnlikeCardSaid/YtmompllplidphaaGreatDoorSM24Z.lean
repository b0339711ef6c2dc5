/- The first text that one of two machines takes alone is the least one. Conditions: none. -/
import Derived.Test.YtmompllplidphaaGreatDoorGSW12Z
import Derived.Test.YtmompllplidphaaGreatDoorKQZ
import Derived.Test.YtmompllplidphaaGreatDoorHTZ
namespace Go.HL.Sts
open Go Go.HL Go.HL.Kl Go.HL.Kl.Mc
def codeF (n : Nat) : List UInt8 → Nat
  | [] => n
  | b :: t => codeF (n * 256 + b.toNat + 1) t
def code (t : List UInt8) : Nat := codeF 0 t
theorem codeF_append (n : Nat) : ∀ (s t : List UInt8), codeF n (s ++ t) = codeF (codeF n s) t := fun s => by
  induction s generalizing n with
  | nil => intro t; rfl
  | cons b s ih => intro t; exact ih _ t
theorem code_snoc (t : List UInt8) (b : UInt8) : code (t ++ [b]) = code t * 256 + b.toNat + 1 := by
  unfold code; rw [codeF_append]; rfl
theorem codeF_lt {n m : Nat} : ∀ {s t : List UInt8}, s.length = t.length → n < m → codeF n s < codeF m t := fun {s} => by
  induction s generalizing n m with
  | nil => intro t h1 h2; cases t with
    | nil => exact h2
    | cons b t => cases h1
  | cons a s ih =>
    intro t h1 h2
    cases t with
    | nil => cases h1
    | cons b t =>
      have h3 : a.toNat < 256 := a.toNat_lt
      show codeF (n * 256 + a.toNat + 1) s < codeF (m * 256 + b.toNat + 1) t
      exact ih (by simpa using h1) (by omega)
theorem code_len {s t : List UInt8} (h : s.length < t.length) : code s < code t := by
  have e : t = t.take (t.length - s.length) ++ t.drop (t.length - s.length) := (List.take_append_drop _ _).symm
  unfold code
  rw [e, codeF_append]
  refine codeF_lt (by simp; omega) ?_
  obtain ⟨b, u, hu⟩ : ∃ b u, t.take (t.length - s.length) = b :: u := by
    cases hh : t.take (t.length - s.length) with
    | nil => have := congrArg List.length hh; simp at this; omega
    | cons b u => exact ⟨b, u, rfl⟩
  rw [hu]
  have key : ∀ (u : List UInt8) (n : Nat), 0 < n → 0 < codeF n u := by
    intro u
    induction u with
    | nil => intro n h; exact h
    | cons c u ih => intro n h; exact ih _ (by omega)
  exact key u _ (by omega)
theorem code_inj {s t : List UInt8} (h : code s = code t) : s = t := by
  have hl : s.length = t.length := by
    rcases Nat.lt_trichotomy s.length t.length with h1 | h1 | h1
    · have := code_len h1; omega
    · exact h1
    · have := code_len h1; omega
  have key : ∀ (s t : List UInt8) (n : Nat), s.length = t.length → codeF n s = codeF n t → s = t := by
    intro s
    induction s with
    | nil => intro t n h1 h2; cases t with
      | nil => rfl
      | cons b t => cases h1
    | cons a s ih =>
      intro t n h1 h2
      cases t with
      | nil => cases h1
      | cons b t =>
        have h1' : s.length = t.length := by simpa using h1
        rcases Nat.lt_trichotomy a.toNat b.toNat with h3 | h3 | h3
        · have : codeF (n * 256 + a.toNat + 1) s < codeF (n * 256 + b.toNat + 1) t := codeF_lt h1' (by omega)
          have h5 : codeF (n * 256 + a.toNat + 1) s = codeF (n * 256 + b.toNat + 1) t := h2
          omega
        · obtain rfl := UInt8.toNat_inj.1 h3
          rw [ih t _ h1' h2]
        · have : codeF (n * 256 + b.toNat + 1) t < codeF (n * 256 + a.toNat + 1) s := codeF_lt h1'.symm (by omega)
          have h5 : codeF (n * 256 + a.toNat + 1) s = codeF (n * 256 + b.toNat + 1) t := h2
          omega
  exact key s t 0 hl h
attribute [irreducible] code
theorem gP_goes {d : Df} (h : Shp d) (q : Int) {b : Nat} (hb : b < 256) : gP d q b = goesR d q b := by
  unfold gP
  by_cases hq : q < 0
  · unfold goesR; rw [if_pos hq, if_pos hq]
  · rw [if_neg hq, h.goes (by omega) hb]
theorem tkR_snoc (d : Df) (t : List UInt8) (b : UInt8) (q : Int) : tkR d (t ++ [b]) q = goesR d (tkR d t q) b.toNat := by
  unfold tkR; rw [List.foldl_append]; rfl
def rnT (d : Df) (t : List UInt8) : Int := tkR d t 0
structure UnJ (a b : Df) (i c : Nat) (l : List Bo) (ts : List (List UInt8)) : Prop where
  u : UnI a b l
  ln : ts.length = l.length
  il : i ≤ l.length
  fr : ∀ (k : Nat) (x : Bo) (t : List UInt8), l[k]? = some x → ts[k]? = some t → (x.frm < 0 ∧ t = []) ∨ ∃ (j : Nat) (tj : List UInt8), x.frm = j ∧ ts[j]? = some tj ∧ t = tj ++ [UInt8.ofNat x.by_]
  rn : ∀ (k : Nat) (x : Bo) (t : List UInt8), l[k]? = some x → ts[k]? = some t → x.p = rnT a t ∧ x.q = rnT b t
  z : ts[0]? = some []
  inc : ∀ (k k' : Nat) (t t' : List UInt8), k < k' → ts[k]? = some t → ts[k']? = some t' → code t < code t'
  top : ∀ (k : Nat) (t ti : List UInt8), ts[k]? = some t → ts[i]? = some ti → code t ≤ code ti * 256 + c
  don : ∀ (j : Nat) (x : Bo) (tj : List UInt8), j < i → l[j]? = some x → ts[j]? = some tj → endsR a x.p = endsR b x.q ∧ ∀ e : UInt8, ∃ (m : Nat) (y : Bo) (tm : List UInt8), l[m]? = some y ∧ ts[m]? = some tm ∧ y.p = goesR a x.p e.toNat ∧ y.q = goesR b x.q e.toNat ∧ code tm ≤ code tj * 256 + e.toNat + 1
  cur : ∀ (x : Bo) (ti : List UInt8), l[i]? = some x → ts[i]? = some ti → ∀ e : UInt8, e.toNat < c → ∃ (m : Nat) (y : Bo) (tm : List UInt8), l[m]? = some y ∧ ts[m]? = some tm ∧ y.p = goesR a x.p e.toNat ∧ y.q = goesR b x.q e.toNat ∧ code tm ≤ code ti * 256 + e.toNat + 1
theorem UnJ.zero {a b : Df} (ha : Shp a) (hb : Shp b) : UnJ a b 0 0 [⟨0, 0, -1, 0⟩] [[]] := by
  have one : ∀ {α : Type} {k : Nat} {x y : α}, [x][k]? = some y → k = 0 ∧ y = x := fun {α k x y} h => by
    cases k with
    | zero => simp at h; exact ⟨rfl, h.symm⟩
    | succ k => simp at h
  refine ⟨UnI.one ha.sz.1 hb.sz.1, rfl, Nat.zero_le _, ?_, ?_, rfl, ?_, ?_, ?_, ?_⟩
  · intro k x t hx ht
    obtain ⟨_, rfl⟩ := one hx
    obtain ⟨_, rfl⟩ := one ht
    exact .inl ⟨by decide, rfl⟩
  · intro k x t hx ht
    obtain ⟨_, rfl⟩ := one hx
    obtain ⟨_, rfl⟩ := one ht
    exact ⟨rfl, rfl⟩
  · intro k k' t t' hk ht ht'
    have := (one ht').1; omega
  · intro k t ti ht hti
    obtain ⟨_, rfl⟩ := one ht
    exact Nat.le_add_right_of_le (by obtain ⟨_, rfl⟩ := one hti; exact Nat.le_mul_of_pos_right _ (by decide))
  · intro j x tj hj; omega
  · intro x ti _ _ e he; omega
theorem snoc_get {α : Type} {l : List α} {x y : α} {k : Nat} (h : (l ++ [x])[k]? = some y) : (k < l.length ∧ l[k]? = some y) ∨ (k = l.length ∧ y = x) := by
  rcases Nat.lt_or_ge k l.length with h1 | h1
  · rw [List.getElem?_append_left h1] at h; exact .inl ⟨h1, h⟩
  · rw [List.getElem?_append_right h1] at h
    have h2 : k - l.length < 1 := by simpa using (List.getElem?_eq_some_iff.1 h).1
    rw [show k - l.length = 0 by omega] at h
    exact .inr ⟨by omega, (Option.some.inj h).symm⟩
theorem get_app {α : Type} {l t : List α} {k : Nat} {x : α} (h : l[k]? = some x) : (l ++ t)[k]? = some x := by
  rw [List.getElem?_append_left (List.getElem?_eq_some_iff.1 h).1]; exact h
theorem UnJ.old {a b : Df} (ha : Shp a) (hb : Shp b) {i c : Nat} {l : List Bo} {ts : List (List UInt8)} (h : UnJ a b i c l ts) (hc : c < 256) {x : Bo} (hx : l[i]? = some x) (ho : (gP a x.p c, gP b x.q c) ∈ l.map Bo.pq) : UnJ a b i (c + 1) l ts := by
  have hi := (List.getElem?_eq_some_iff.1 hx).1
  refine ⟨h.u, h.ln, h.il, h.fr, h.rn, h.z, h.inc, fun k t ti h1 h2 => by have := h.top k t ti h1 h2; omega, h.don, ?_⟩
  intro x' ti hx' hti e he
  rcases Nat.lt_or_ge e.toNat c with h1 | h1
  · exact h.cur x' ti hx' hti e h1
  · have h2 : e.toNat = c := by omega
    rw [hx] at hx'
    obtain rfl := Option.some.inj hx'
    obtain ⟨y, hy, he2⟩ := List.mem_map.1 ho
    obtain ⟨m, hm⟩ := List.mem_iff_getElem?.1 hy
    have hml := (List.getElem?_eq_some_iff.1 hm).1
    obtain ⟨tm, htm⟩ : ∃ t, ts[m]? = some t := ⟨_, List.getElem?_eq_getElem (by rw [h.ln]; omega)⟩
    have e1 : y.p = gP a x.p c := congrArg Prod.fst he2
    have e2 : y.q = gP b x.q c := congrArg Prod.snd he2
    refine ⟨m, y, tm, hm, htm, by rw [e1, gP_goes ha _ hc, h2], by rw [e2, gP_goes hb _ hc, h2], ?_⟩
    have h9 := h.top m tm ti htm hti
    rw [h2]
    exact Nat.le_succ_of_le h9
theorem UnJ.new {a b : Df} (ha : Shp a) (hb : Shp b) {i c : Nat} {l : List Bo} {ts : List (List UInt8)} (h : UnJ a b i c l ts) (hc : c < 256) {x : Bo} (hx : l[i]? = some x) {ti : List UInt8} (hti : ts[i]? = some ti) (ho : (gP a x.p c, gP b x.q c) ∉ l.map Bo.pq) : UnJ a b i (c + 1) (l ++ [⟨gP a x.p c, gP b x.q c, i, c⟩]) (ts ++ [ti ++ [UInt8.ofNat c]]) := by
  have hi := (List.getElem?_eq_some_iff.1 hx).1
  have hxm := List.mem_of_getElem? hx
  have hcb : (UInt8.ofNat c).toNat = c := by simp [UInt8.toNat_ofNat']; omega
  have hcode : code (ti ++ [UInt8.ofNat c]) = code ti * 256 + c + 1 := by rw [code_snoc, hcb]
  have hr := h.rn i x ti hx hti
  refine ⟨h.u.push ho (gP_bnd ha (h.u.bp x hxm).2 c) (gP_bnd hb (h.u.bq x hxm).2 c) hi hc, by simp [h.ln], by simp; have := h.il; omega, ?_, ?_, get_app h.z, ?_, ?_, ?_, ?_⟩
  · intro k y t hy ht
    rcases snoc_get hy with ⟨h1, h2⟩ | ⟨h1, h2⟩
    · rcases snoc_get ht with ⟨_, h4⟩ | ⟨h3, _⟩
      · rcases h.fr k y t h2 h4 with h5 | ⟨j, tj, h5, h6, h7⟩
        · exact .inl h5
        · exact .inr ⟨j, tj, h5, get_app h6, h7⟩
      · rw [h.ln] at h3; omega
    · rcases snoc_get ht with ⟨h3, _⟩ | ⟨_, h4⟩
      · rw [h.ln] at h3; omega
      · subst h2; subst h4
        exact .inr ⟨i, ti, rfl, get_app hti, rfl⟩
  · intro k y t hy ht
    rcases snoc_get hy with ⟨h1, h2⟩ | ⟨h1, h2⟩
    · rcases snoc_get ht with ⟨_, h4⟩ | ⟨h3, _⟩
      · exact h.rn k y t h2 h4
      · rw [h.ln] at h3; omega
    · rcases snoc_get ht with ⟨h3, _⟩ | ⟨_, h4⟩
      · rw [h.ln] at h3; omega
      · subst h2; subst h4
        unfold rnT
        rw [tkR_snoc, tkR_snoc, hcb]
        have e1 : tkR a ti 0 = x.p := hr.1.symm
        have e2 : tkR b ti 0 = x.q := hr.2.symm
        rw [e1, e2]
        exact ⟨gP_goes ha _ hc, gP_goes hb _ hc⟩
  · intro k k' t t' hk ht ht'
    rcases snoc_get ht' with ⟨h3, h4⟩ | ⟨h3, h4⟩
    · rcases snoc_get ht with ⟨_, h6⟩ | ⟨h5, _⟩
      · exact h.inc k k' t t' hk h6 h4
      · omega
    · rcases snoc_get ht with ⟨_, h6⟩ | ⟨h5, _⟩
      · have := h.top k t ti h6 hti
        rw [h4, hcode]; omega
      · omega
  · intro k t ti' ht hti'
    rw [get_app hti] at hti'
    obtain rfl := Option.some.inj hti'
    rcases snoc_get ht with ⟨_, h6⟩ | ⟨_, h6⟩
    · have := h.top k t ti h6 hti; omega
    · rw [h6, hcode]; omega
  · intro j y tj hj hy htj
    rcases snoc_get hy with ⟨h1, h2⟩ | ⟨h1, _⟩
    · rcases snoc_get htj with ⟨_, h4⟩ | ⟨h3, _⟩
      · obtain ⟨h5, h6⟩ := h.don j y tj hj h2 h4
        refine ⟨h5, fun e => ?_⟩
        obtain ⟨m, z, tm, g1, g2, g3, g4, g5⟩ := h6 e
        exact ⟨m, z, tm, get_app g1, get_app g2, g3, g4, g5⟩
      · rw [h.ln] at h3; omega
    · omega
  · intro x' ti' hx' hti' e he
    rw [get_app hx] at hx'
    obtain rfl := Option.some.inj hx'
    rw [get_app hti] at hti'
    obtain rfl := Option.some.inj hti'
    rcases Nat.lt_or_ge e.toNat c with h1 | h1
    · obtain ⟨m, z, tm, g1, g2, g3, g4, g5⟩ := h.cur x ti hx hti e h1
      exact ⟨m, z, tm, get_app g1, get_app g2, g3, g4, g5⟩
    · have h2 : e.toNat = c := by omega
      refine ⟨l.length, ⟨gP a x.p c, gP b x.q c, i, c⟩, ti ++ [UInt8.ofNat c], by simp, by rw [← h.ln]; simp, ?_, ?_, by rw [hcode, h2]; exact Nat.le_refl _⟩
      · show gP a x.p c = _; rw [gP_goes ha _ hc, h2]
      · show gP b x.q c = _; rw [gP_goes hb _ hc, h2]
theorem UnJ.row {a b : Df} (ha : Shp a) (hb : Shp b) {i : Nat} {l : List Bo} {ts : List (List UInt8)} (h : UnJ a b i 0 l ts) {x : Bo} (hx : l[i]? = some x) : ∀ c, c ≤ 256 → ∃ ts', UnJ a b i c (unRow a b i x c l) ts' ∧ (unRow a b i x c l)[i]? = some x
  | 0, _ => ⟨ts, h, hx⟩
  | c + 1, hc => by
    obtain ⟨ts', h1, h2⟩ := h.row ha hb hx c (by omega)
    by_cases ho : (gP a x.p c, gP b x.q c) ∈ (unRow a b i x c l).map Bo.pq
    · rw [unRow_old ho]
      exact ⟨ts', h1.old ha hb (by omega) h2 ho, h2⟩
    · rw [unRow_new ho]
      have hi := (List.getElem?_eq_some_iff.1 h2).1
      obtain ⟨ti, hti⟩ : ∃ t, ts'[i]? = some t := ⟨_, List.getElem?_eq_getElem (by rw [h1.ln]; omega)⟩
      exact ⟨_, h1.new ha hb (by omega) h2 hti ho, get_app h2⟩
theorem UnJ.next {a b : Df} {i : Nat} {l : List Bo} {ts : List (List UInt8)} (h : UnJ a b i 256 l ts) {x : Bo} (hx : l[i]? = some x) (he : endsR a x.p = endsR b x.q) : UnJ a b (i + 1) 0 l ts := by
  have hi := (List.getElem?_eq_some_iff.1 hx).1
  obtain ⟨ti, hti⟩ : ∃ t, ts[i]? = some t := ⟨_, List.getElem?_eq_getElem (by rw [h.ln]; omega)⟩
  refine ⟨h.u, h.ln, by omega, h.fr, h.rn, h.z, h.inc, ?_, ?_, fun _ _ _ _ e he => by omega⟩
  · intro k t ti' ht hti'
    have h1 := h.inc i (i + 1) ti ti' (by omega) hti hti'
    have h2 := h.top k t ti ht hti
    have h3 : (code ti + 1) * 256 ≤ code ti' * 256 := Nat.mul_le_mul_right 256 h1
    rw [Nat.succ_mul] at h3
    rw [Nat.add_zero]
    exact Nat.le_trans h2 h3
  · intro j y tj hj hy htj
    rcases Nat.lt_or_ge j i with h1 | h1
    · exact h.don j y tj h1 hy htj
    · obtain rfl : j = i := by omega
      rw [hx] at hy
      obtain rfl := Option.some.inj hy
      exact ⟨he, fun e => h.cur x tj hx htj e e.toNat_lt⟩
theorem UnJ.ahead {a b : Df} {i : Nat} {l : List Bo} {ts : List (List UInt8)} (h : UnJ a b i 0 l ts) (N : Nat) (hN : ∀ (k : Nat) (t : List UInt8), ts[k]? = some t → code t < N → k < i) : ∀ (w : List UInt8), code w < N → ∃ (m : Nat) (y : Bo) (tm : List UInt8), m < i ∧ l[m]? = some y ∧ ts[m]? = some tm ∧ y.p = rnT a w ∧ y.q = rnT b w ∧ code tm ≤ code w := by
  have key : ∀ (n : Nat) (w : List UInt8), w.length = n → code w < N → ∃ (m : Nat) (y : Bo) (tm : List UInt8), m < i ∧ l[m]? = some y ∧ ts[m]? = some tm ∧ y.p = rnT a w ∧ y.q = rnT b w ∧ code tm ≤ code w := by
    intro n
    induction n with
    | zero =>
      intro w hw hc
      obtain rfl := List.eq_nil_of_length_eq_zero hw
      have h0 := hN 0 [] h.z hc
      have hl : 0 < l.length := by have := h.il; omega
      obtain ⟨y, hy⟩ : ∃ y, l[0]? = some y := ⟨_, List.getElem?_eq_getElem hl⟩
      exact ⟨0, y, [], h0, hy, h.z, (h.rn 0 y [] hy h.z).1, (h.rn 0 y [] hy h.z).2, Nat.le_refl _⟩
    | succ n ih =>
      intro w hw hc
      have hne : w ≠ [] := by intro e; subst e; cases hw
      obtain ⟨v, e, rfl⟩ : ∃ v e, w = v ++ [e] := ⟨w.dropLast, w.getLast hne, (List.dropLast_concat_getLast hne).symm⟩
      rw [code_snoc] at hc
      obtain ⟨m, y, tm, h1, h2, h3, h4, h5, h6⟩ := ih v (by simpa using hw) (by omega)
      obtain ⟨_, hd⟩ := h.don m y tm h1 h2 h3
      obtain ⟨m', z, tz, g1, g2, g3, g4, g5⟩ := hd e
      have hle : code tz ≤ code v * 256 + e.toNat + 1 := Nat.le_trans g5 (Nat.succ_le_succ (Nat.add_le_add_right (Nat.mul_le_mul_right 256 h6) _))
      refine ⟨m', z, tz, hN m' tz g2 (by omega), g1, g2, ?_, ?_, by rw [code_snoc]; exact hle⟩
      · rw [g3, h4]; unfold rnT; rw [tkR_snoc]
      · rw [g4, h5]; unfold rnT; rw [tkR_snoc]
  intro w hc
  exact key _ w rfl hc
theorem UnJ.back_eq {a b : Df} {i c : Nat} {l : List Bo} {ts : List (List UInt8)} (h : UnJ a b i c l ts) : ∀ (n k : Nat) (x : Bo) (t : List UInt8), k < n → l[k]? = some x → ts[k]? = some t → (back l x).reverse = t
  | 0, k, _, _, hk, _, _ => absurd hk (Nat.not_lt_zero _)
  | n + 1, k, x, t, hk, hx, ht => by
    rcases h.fr k x t hx ht with ⟨h1, rfl⟩ | ⟨j, tj, h1, h2, rfl⟩
    · rw [back_end h1]; rfl
    · have h3 := h.u.fr k x hx
      have hjl := (List.getElem?_eq_some_iff.1 h2).1
      rw [h.ln] at hjl
      obtain ⟨y, hy⟩ : ∃ y, l[x.frm.toNat]? = some y := ⟨_, List.getElem?_eq_getElem (by rw [h1]; simpa using hjl)⟩
      rw [back_step h.u hx (by omega) hy, List.reverse_cons]
      rw [h1] at hy
      rw [h.back_eq n j y tj (by omega) (by simpa using hy) h2]
theorem UnJ.run {a b : Df} (ha : Shp a) (hb : Shp b) : ∀ (f i : Nat) (l : List Bo) (ts : List (List UInt8)), UnJ a b i 0 l ts → 66050 ≤ f + i → 0 < f →
    (∀ t, unRun a b f i l = some t → endsR a (rnT a t) ≠ endsR b (rnT b t) ∧ ∀ w, code w < code t → endsR a (rnT a w) = endsR b (rnT b w)) ∧ (unRun a b f i l = none → ∀ w, endsR a (rnT a w) = endsR b (rnT b w))
  | 0, _, _, _, _, _, hf => absurd hf (Nat.lt_irrefl _)
  | f + 1, i, l, ts, h, hfi, _ => by
    have hlen := h.u.len ha.sz.2.1 hb.sz.2.1
    have hil := h.il
    rcases Nat.lt_or_ge i l.length with hi | hi
    · obtain ⟨x, hx⟩ : ∃ x, l[i]? = some x := ⟨_, List.getElem?_eq_getElem hi⟩
      obtain ⟨ti, hti⟩ : ∃ t, ts[i]? = some t := ⟨_, List.getElem?_eq_getElem (by rw [h.ln]; omega)⟩
      by_cases he : endsR a x.p = endsR b x.q
      · rw [unRun_step (by omega) hx he, Nat.add_sub_cancel]
        obtain ⟨ts', h1, h2⟩ := h.row ha hb hx 256 (Nat.le_refl _)
        exact UnJ.run ha hb f (i + 1) _ ts' (h1.next h2 he) (by omega) (by omega)
      · rw [unRun_hit (by omega) hx he]
        refine ⟨fun t ht => ?_, fun hn => by cases hn⟩
        obtain rfl := Option.some.inj ht
        rw [h.back_eq (i + 1) i x ti (by omega) hx hti]
        have hr := h.rn i x ti hx hti
        refine ⟨by rw [← hr.1, ← hr.2]; exact he, fun w hw => ?_⟩
        obtain ⟨m, y, tm, h1, h2, h3, h4, h5, h6⟩ := h.ahead (code ti) (fun k t hk hkt => by
          rcases Nat.lt_trichotomy k i with h1 | h1 | h1
          · exact h1
          · subst h1; rw [hti] at hk; obtain rfl := Option.some.inj hk; omega
          · have := h.inc i k ti t h1 hti hk; omega) w hw
        have := (h.don m y tm h1 h2 h3).1
        rw [h4, h5] at this
        exact this
    · rw [unRun_end hi]
      refine ⟨fun t ht => (by cases ht), fun _ w => ?_⟩
      obtain ⟨m, y, tm, h1, h2, h3, h4, h5, h6⟩ := h.ahead (code w + 1) (fun k t hk _ => by
        have := (List.getElem?_eq_some_iff.1 hk).1
        rw [h.ln] at this; omega) w (Nat.lt_succ_self _)
      have := (h.don m y tm h1 h2 h3).1
      rw [h4, h5] at this
      exact this
theorem takesP_rn {d : Df} (h : Shp d) (w : List UInt8) : takesP d w = endsR d (rnT d w) := by
  unfold takesP rnT
  rw [shP_iff.2 h, Bool.true_and]
  exact h.tk w 0 (Int.le_refl _)
theorem unM_some {a b : Df} (ha : Shp a) (hb : Shp b) {t : List UInt8} (h : unM a b = some t) : takesP a t ≠ takesP b t ∧ ∀ w, code w < code t → takesP a w = takesP b w := by
  unfold unM at h
  rw [shP_iff.2 ha, shP_iff.2 hb, Bool.true_and, if_pos rfl] at h
  obtain ⟨h1, h2⟩ := (UnJ.run ha hb 66051 0 _ _ (UnJ.zero ha hb) (by decide) (by decide)).1 t h
  exact ⟨by rw [takesP_rn ha, takesP_rn hb]; exact h1, fun w hw => by rw [takesP_rn ha, takesP_rn hb]; exact h2 w hw⟩
theorem unM_none {a b : Df} (ha : Shp a) (hb : Shp b) (h : unM a b = none) (w : List UInt8) : takesP a w = takesP b w := by
  unfold unM at h
  rw [shP_iff.2 ha, shP_iff.2 hb, Bool.true_and, if_pos rfl] at h
  have h1 := (UnJ.run ha hb 66051 0 _ _ (UnJ.zero ha hb) (by decide) (by decide)).2 h w
  rw [takesP_rn ha, takesP_rn hb]; exact h1
theorem unM_comm {a b : Df} (ha : Shp a) (hb : Shp b) : unM a b = unM b a := by
  cases h1 : unM a b with
  | none =>
    cases h2 : unM b a with
    | none => rfl
    | some t => exact absurd (unM_none ha hb h1 t).symm (unM_some hb ha h2).1
  | some t =>
    obtain ⟨g1, g2⟩ := unM_some ha hb h1
    cases h2 : unM b a with
    | none => exact absurd (unM_none hb ha h2 t).symm g1
    | some u =>
      obtain ⟨k1, k2⟩ := unM_some hb ha h2
      rcases Nat.lt_trichotomy (code t) (code u) with h3 | h3 | h3
      · exact absurd (k2 t h3).symm g1
      · rw [code_inj h3]
      · exact absurd (g2 u h3).symm k1
def LmT (w : Wd) (P : List Nat) (lv : List Bool) (K q : Nat) (mi m : Lm) : Prop := LmI w P lv K q mi ∧ ∃ f, lmRun w P lv f q mi = some m
def ClD (d : Df) (L : List Bool) : Prop := ∀ (p j : Nat) (row : List Int) (v : Int), d.next[p]? = some row → row[j]? = some v → 0 ≤ v → L[v.toNat]? = some true → L[p]? = some true
structure RdI (d : Df) (L0 L : List Bool) (q k : Nat) : Prop where
  fix : ClD d L0 → L = L0
  len : L.length = d.ends.length
  len0 : L0.length = d.ends.length
  mono : ∀ x : Nat, L0[x]? = some true → L[x]? = some true
  done : ∀ (p j : Nat) (row : List Int) (v : Int), (p < q ∨ (p = q ∧ j < k)) → d.next[p]? = some row → row[j]? = some v → 0 ≤ v → L0[v.toNat]? = some true → L[p]? = some true
def goE (d : Df) (p k : Nat) : Nat := if p = d.ends.length ∨ nxt d (p : Int) k < 0 then d.ends.length else (nxt d (p : Int) k).toNat
def endE (d : Df) (p : Nat) : Bool := decide (p < d.ends.length) && d.ends[p]?.getD false
def uG (U : List (List Bool)) (p q : Nat) : Bool := (U[p]?.getD [])[q]?.getD false
def ClU (d : Df) (U : List (List Bool)) : Prop := ∀ p q k, p ≤ d.ends.length → q ≤ d.ends.length → k < d.atoms.length → uG U (goE d p k) (goE d q k) = true → uG U p q = true
def IniU (d : Df) (U : List (List Bool)) : Prop := ∀ p q, p ≤ d.ends.length → q ≤ d.ends.length → endE d p ≠ endE d q → uG U p q = true
def qI (d : Df) (p : Nat) : Int := if p = d.ends.length then -1 else (p : Int)
structure Hd where
  a : Option Addr
  n : Nat
  c : Nat
def Hd.v (h : Hd) : Value := .slice h.a h.n h.c
def Ehd (h : Hd) : List Value := [h.v]
instance : Enc Ehd 1 := ⟨fun _ => rfl, fun h v hv => by simp [Ehd, Hd.v] at hv; subst hv; rfl⟩
inductive OwnH : List Hd → List (List Bool) → Hp → Prop
  | nil : OwnH [] [] []
  | cons {h : Hd} {xs : List Bool} {hs : List Hd} {U : List (List Bool)} {S R : Hp} (ho : OwnS Ebo 1 4 h.v xs S) (hr : OwnH hs U R) : OwnH (h :: hs) (xs :: U) (S ++ R)
theorem OwnH.snoc {hs : List Hd} {U : List (List Bool)} {S S' : Hp} {h : Hd} {xs : List Bool} (ho : OwnH hs U S) (h' : OwnS Ebo 1 4 h.v xs S') : OwnH (hs ++ [h]) (U ++ [xs]) (S ++ S') := by
  induction ho with
  | nil => simpa using OwnH.cons h' .nil
  | cons h1 h2 ih => simpa using OwnH.cons h1 ih
theorem OwnH.at {hs : List Hd} {U : List (List Bool)} {S : Hp} (ho : OwnH hs U S) : ∀ {n : Nat} {h : Hd}, hs[n]? = some h →
    ∃ xs S1 Sn S2, U[n]? = some xs ∧ S = S1 ++ (Sn ++ S2) ∧ OwnS Ebo 1 4 h.v xs Sn ∧ ∀ xs' Sn', OwnS Ebo 1 4 h.v xs' Sn' → OwnH hs (U.set n xs') (S1 ++ (Sn' ++ S2)) := by
  induction ho with
  | nil => intro n h hn; simp at hn
  | @cons h xs hs U S R h1 h2 ih =>
    intro n h' hn
    cases n with
    | zero =>
      simp at hn; subst hn
      exact ⟨xs, [], S, R, rfl, rfl, h1, fun xs' Sn' h' => by simpa using OwnH.cons h' h2⟩
    | succ n =>
      obtain ⟨xs', S1, Sn, S2, e1, rfl, e3, e4⟩ := ih (by simpa using hn)
      exact ⟨xs', S ++ S1, Sn, S2, by simpa using e1, by simp, e3, fun y Sy hy => by simpa using OwnH.cons h1 (e4 y Sy hy)⟩
theorem OwnH.len {hs : List Hd} {U : List (List Bool)} {S : Hp} (ho : OwnH hs U S) : hs.length = U.length := by
  induction ho with
  | nil => rfl
  | cons h1 h2 ih => simp [ih]
theorem OwnH.rdk {hs : List Hd} {U : List (List Bool)} {S H : Hp} {κ : Cx} (ho : OwnH hs U S) (hin : HIn S H) {n : Nat} {h : Hd} {xs : List Bool} (hn : hs[n]? = some h) (hx : U[n]? = some xs) : RdK Ebo κ H h.v xs := by
  obtain ⟨ys, S1, Sn, S2, e1, rfl, e3, _⟩ := ho.at hn
  rw [hx] at e1
  obtain rfl := Option.some.inj e1
  exact e3.rdk fun p hp => hin p (by simp [hp])
theorem own_n {α : Type} {E : α → List Value} {k : Nat} {T : TypeId} {a : Option Addr} {n c : Nat} {xs : List α} {S : Hp} (h : OwnS E k T (.slice a n c) xs S) : n = xs.length := by
  cases h with
  | nil => rfl
  | blk hc hn hm h1 hf => rfl
theorem OwnH.sl {hs : List Hd} {U : List (List Bool)} {S : Hp} (ho : OwnH hs U S) {n : Nat} {h : Hd} {xs : List Bool} (hn : hs[n]? = some h) (hx : U[n]? = some xs) : IsSl (.slice h.a h.n h.c) h.n ∧ h.n = xs.length := by
  obtain ⟨ys, S1, Sn, S2, e1, _, e3, _⟩ := ho.at hn
  rw [hx] at e1
  obtain rfl := Option.some.inj e1
  have h1 : h.n = xs.length := own_n e3
  have h2 := e3.sl
  rw [← h1] at h2
  exact ⟨h2, h1⟩
/-! the first row, by the ends -/
def iniRow (d : Df) (p : Nat) : List Bool := (List.range (d.ends.length + 1)).map fun q => decide (endE d p ≠ endE d q)
def iniT (d : Df) (p : Nat) : List (List Bool) := (List.range p).map (iniRow d)
structure MatI (d : Df) (U : List (List Bool)) : Prop where
  len : U.length = d.ends.length + 1
  rows : ∀ r ∈ U, r.length = d.ends.length + 1
def deadU : List (List Bool) → Nat
  | [] => 0
  | r :: U => dead r + deadU U
structure SwI (d : Df) (U0 U : List (List Bool)) (more : Bool) (p q k : Nat) : Prop where
  mat : MatI d U
  mono : ∀ p q, uG U0 p q = true → uG U p q = true
  none : more = false → U = U0 ∧ ∀ p' q' k', p' ≤ d.ends.length → q' ≤ d.ends.length → k' < d.atoms.length → (p' < p ∨ (p' = p ∧ (q' < q ∨ (q' = q ∧ k' < k)))) → uG U0 (goE d p' k') (goE d q' k') = true → uG U0 p' q' = true
  some : more = true → deadU U < deadU U0
structure Rb where
  p : Int
  q : Int
  t : Sl UInt8
def ERb (x : Rb) : List Value := [.int .i64 x.p, .int .i64 x.q, x.t.v]
instance : Enc ERb 3 := ⟨fun _ => rfl, fun x v h => by simp [ERb, Sl.v] at h; rcases h with rfl | rfl | rfl <;> rfl⟩
def Rb.pq (x : Rb) : Int × Int := (x.p, x.q)
def txs (rows : List Rb) : List (List UInt8) := rows.map fun r => r.t.xs
def TxO (Pool : Hp) (s : Sl UInt8) : Prop := ∃ S0, HIn S0 Pool ∧ OwnS Eb 1 5 s.v s.xs S0
theorem TxO.mono {P P' : Hp} {s : Sl UInt8} (h : TxO P s) (hs : HIn P P') : TxO P' s := by
  obtain ⟨S0, h1, h2⟩ := h
  exact ⟨S0, fun p hp => hs p (h1 p hp), h2⟩
structure RbU (a b : Df) (i c : Nat) (rows : List Rb) (l : List Bo) : Prop where
  j : UnJ a b i c l (txs rows)
  pq : rows.map Rb.pq = l.map Bo.pq
theorem RbU.len {a b : Df} {i c : Nat} {rows : List Rb} {l : List Bo} (h : RbU a b i c rows l) : rows.length = l.length := by
  have := congrArg List.length h.pq
  simpa using this
theorem RbU.get {a b : Df} {i c k : Nat} {rows : List Rb} {l : List Bo} (h : RbU a b i c rows l) {r : Rb} (hr : rows[k]? = some r) : ∃ x, l[k]? = some x ∧ x.p = r.p ∧ x.q = r.q ∧ (txs rows)[k]? = some r.t.xs := by
  have h1 : (l.map Bo.pq)[k]? = some r.pq := by rw [← h.pq, List.getElem?_map, hr]; rfl
  rw [List.getElem?_map] at h1
  obtain ⟨x, hx, he⟩ := Option.map_eq_some_iff.1 h1
  exact ⟨x, hx, congrArg Prod.fst he, congrArg Prod.snd he, by unfold txs; rw [List.getElem?_map, hr]; rfl⟩
theorem UnJ.tlen {a b : Df} {i c : Nat} {l : List Bo} {ts : List (List UInt8)} (h : UnJ a b i c l ts) : ∀ (n k : Nat) (t : List UInt8), k < n → ts[k]? = some t → t.length ≤ k
  | 0, _, _, hk, _ => absurd hk (Nat.not_lt_zero _)
  | n + 1, k, t, hk, ht => by
    have hkl := (List.getElem?_eq_some_iff.1 ht).1
    rw [h.ln] at hkl
    obtain ⟨x, hx⟩ : ∃ x, l[k]? = some x := ⟨_, List.getElem?_eq_getElem hkl⟩
    have h3 := h.u.fr k x hx
    rcases h.fr k x t hx ht with ⟨_, rfl⟩ | ⟨j, tj, h1, h2, rfl⟩
    · exact Nat.zero_le _
    · have := UnJ.tlen h n j tj (by omega) h2
      simp only [List.length_append, List.length_singleton]
      omega
theorem RbU.tlen {a b : Df} {i c k : Nat} {rows : List Rb} {l : List Bo} (h : RbU a b i c rows l) {r : Rb} (hr : rows[k]? = some r) : r.t.xs.length ≤ k := by
  obtain ⟨_, _, _, _, ht⟩ := h.get hr
  exact h.j.tlen (k + 1) k _ (Nat.lt_succ_self _) ht
theorem RbU.zero {a b : Df} (ha : Shp a) (hb : Shp b) : RbU a b 0 0 [⟨0, 0, ⟨none, 0, []⟩⟩] [⟨0, 0, -1, 0⟩] := ⟨UnJ.zero ha hb, rfl⟩
theorem RbU.old {a b : Df} (ha : Shp a) (hb : Shp b) {i c : Nat} {rows : List Rb} {l : List Bo} (h : RbU a b i c rows l) (hc : c < 256) {x : Bo} (hx : l[i]? = some x) (ho : (gP a x.p c, gP b x.q c) ∈ l.map Bo.pq) : RbU a b i (c + 1) rows l := ⟨h.j.old ha hb hc hx ho, h.pq⟩
theorem RbU.new {a b : Df} (ha : Shp a) (hb : Shp b) {i c : Nat} {rows : List Rb} {l : List Bo} (h : RbU a b i c rows l) (hc : c < 256) {x : Bo} (hx : l[i]? = some x) {r : Rb} (hr : rows[i]? = some r) (ho : (gP a x.p c, gP b x.q c) ∉ l.map Bo.pq) {s : Sl UInt8} (hs : s.xs = r.t.xs ++ [UInt8.ofNat c]) {p q : Int} (hp : p = gP a x.p c) (hq : q = gP b x.q c) :
    RbU a b i (c + 1) (rows ++ [⟨p, q, s⟩]) (l ++ [⟨gP a x.p c, gP b x.q c, i, c⟩]) := by
  obtain ⟨_, _, _, _, ht⟩ := h.get hr
  have h1 := h.j.new ha hb hc hx ht ho
  refine ⟨?_, by rw [List.map_append, List.map_append, h.pq, hp, hq]; rfl⟩
  have : txs (rows ++ [⟨p, q, s⟩]) = txs rows ++ [r.t.xs ++ [UInt8.ofNat c]] := by unfold txs; rw [List.map_append]; simp [hs]
  rw [this]; exact h1
structure MtI (m n : Nat) (l : List Bo) (U : List (List Bool)) : Prop where
  len : U.length = m + 1
  rows : ∀ r ∈ U, r.length = n + 1
  get : ∀ (p q : Int) (P Q : Nat), (P : Int) = p + 1 → (Q : Int) = q + 1 → P ≤ m → Q ≤ n → (uG U P Q = true ↔ (p, q) ∈ l.map Bo.pq)
theorem MtI.at {m n : Nat} {l : List Bo} {U : List (List Bool)} (h : MtI m n l U) {P Q : Nat} (hP : P ≤ m) (hQ : Q ≤ n) : ∃ row, U[P]? = some row ∧ row.length = n + 1 ∧ row[Q]? = some (uG U P Q) := by
  obtain ⟨row, h1⟩ : ∃ row, U[P]? = some row := ⟨_, List.getElem?_eq_getElem (by rw [h.len]; omega)⟩
  have h2 := h.rows row (List.mem_of_getElem? h1)
  refine ⟨row, h1, h2, ?_⟩
  unfold uG
  rw [h1, Option.getD_some, List.getElem?_eq_getElem (by omega : Q < row.length)]; rfl
theorem uG_put {U : List (List Bool)} {P Q P' Q' : Nat} {row : List Bool} (hr : U[P]? = some row) (hQ : Q < row.length) : uG (U.set P (row.set Q true)) P' Q' = (decide (P' = P ∧ Q' = Q) || uG U P' Q') := by
  have hP := (List.getElem?_eq_some_iff.1 hr).1
  unfold uG
  by_cases e : P = P'
  · subst e
    rw [List.getElem?_set_self hP, hr]
    simp only [Option.getD_some, true_and]
    by_cases e2 : Q = Q'
    · subst e2
      rw [List.getElem?_set_self hQ]; simp
    · rw [List.getElem?_set_ne e2, decide_eq_false (fun h => e2 h.symm), Bool.false_or]
  · rw [List.getElem?_set_ne e, decide_eq_false (fun h => e h.1.symm), Bool.false_or]
theorem MtI.put {m n : Nat} {l : List Bo} {U : List (List Bool)} (h : MtI m n l U) {P Q : Nat} {row : List Bool} (hr : U[P]? = some row) (hQ : Q ≤ n) {x : Bo} (hp : (P : Int) = x.p + 1) (hq : (Q : Int) = x.q + 1) : MtI m n (l ++ [x]) (U.set P (row.set Q true)) := by
  have hrl := h.rows row (List.mem_of_getElem? hr)
  refine ⟨by rw [List.length_set]; exact h.len, fun r hm => ?_, fun p q P' Q' h1 h2 h3 h4 => ?_⟩
  · rcases List.mem_or_eq_of_mem_set hm with hm | rfl
    · exact h.rows r hm
    · rw [List.length_set]; exact hrl
  · rw [uG_put hr (by omega), Bool.or_eq_true, decide_eq_true_eq, h.get p q P' Q' h1 h2 h3 h4, List.map_append, List.mem_append, List.map_singleton, List.mem_singleton]
    constructor
    · rintro (⟨rfl, rfl⟩ | h5)
      · refine .inr (Prod.ext ?_ ?_)
        · show p = x.p; omega
        · show q = x.q; omega
      · exact .inl h5
    · rintro (h5 | h5)
      · exact .inr h5
      · have e1 : p = x.p := congrArg Prod.fst h5
        have e2 : q = x.q := congrArg Prod.snd h5
        exact .inl ⟨by omega, by omega⟩
theorem MtI.nil (m n : Nat) : MtI m n [] (List.replicate (m + 1) (List.replicate (n + 1) false)) := by
  refine ⟨by simp, fun r hr => by rw [(List.mem_replicate.1 hr).2]; simp, fun p q P Q _ _ _ _ => ?_⟩
  constructor
  · intro h
    exfalso
    unfold uG at h
    cases h1 : (List.replicate (m + 1) (List.replicate (n + 1) false))[P]? with
    | none => rw [h1] at h; simp at h
    | some row =>
      rw [h1, Option.getD_some] at h
      have := (List.mem_replicate.1 (List.mem_of_getElem? h1)).2
      subst this
      cases h2 : (List.replicate (n + 1) false)[Q]? with
      | none => rw [h2] at h; simp at h
      | some v =>
        rw [h2, Option.getD_some] at h
        have := (List.mem_replicate.1 (List.mem_of_getElem? h2)).2
        rw [this] at h; cases h
  · intro h; cases h
def RUn (o : Option (List UInt8)) (v : Value) (S : Hp) : Prop := (o = none ∧ v = .tuple #[.slice none 0 0, .bool false]) ∨ ∃ (t : List UInt8) (a : Option Addr) (c : Nat), o = some t ∧ v = .tuple #[.slice a t.length c, .bool true] ∧ RdS Eb (.slice a t.length c) t S
theorem RbU.hit {a b : Df} {i : Nat} {rows : List Rb} {l : List Bo} (h : RbU a b i 0 rows l) {r : Rb} (hr : rows[i]? = some r) (he : endsR a r.p ≠ endsR b r.q) {f : Nat} (hf : 0 < f) : unRun a b f i l = some r.t.xs := by
  obtain ⟨x, hx, hp, hq, ht⟩ := h.get hr
  rw [unRun_hit hf hx (by rw [hp, hq]; exact he), h.j.back_eq (i + 1) i x r.t.xs (Nat.lt_succ_self _) hx ht]
end Go.HL.Sts
namespace Go.Proofs.YtmompllplidphaaGreatDoor
open Go Go.HL Go.Proofs Go.HL.Kl Go.HL.Kl.Mc Go.HL.Sts
def EkQ (t : Int × Int) : Value := .agg (intsV .i64 [t.1, t.2]).toArray
instance kQ109 : QK Tryz.prog 118 true 2 2 := QK.arr (m := 2) (e := 3) (se := 1) (QK.int (t := 3))
instance keQ : KE Tryz.prog 118 EkQ := KE.ofA (Ei := fun p : Int × Int => [p.1, p.2]) (fun _ => rfl) (fun a b h => by
  simp only [List.cons.injEq, and_true] at h
  exact Prod.ext h.1 h.2) (by decide) ⟨_, _, Tryz.underlying118⟩
def UnP (r : Option (List UInt8)) (v : Value) (S : Hp) : Prop := (r = none ∧ v = .tuple #[.slice none 0 0, .bool false]) ∨ ∃ (t : List UInt8) (a : Option Addr) (c : Nat), r = some t ∧ v = .tuple #[.slice a t.length c, .bool true] ∧ OwnS Eb 1 5 (.slice a t.length c) t S
theorem endsU_fn (d : Df) (aa : Option Addr) (ac : Nat) (na : Option Addr) (nc : Nat) (rows : List (Sl Int)) (ea : Option Addr) (ec : Nat) (hx : d.next = rows.map Sl.xs) (q : Int) (hq : q < d.ends.length) : HL.Fn Tryz.prog 78 [.agg [.slice aa d.atoms.length ac, .slice na rows.length nc, .slice ea d.ends.length ec].toArray, .int .i64 q] (fun w => RdD d aa ac na nc rows ea ec w) [] (fun v _ => v = .bool (endsR d q)) := by
  refine fn_of Tryz.func78 rfl rfl rfl fun w0 hw => ?_
  have hse := hw.en.sl
  refine cR fun _ hK1 => ?_; refine o_box rfl rfl rfl fun b2 => ?_; refine oA (oZ hK1 (cR fun _ hK2 => ?_)); refine oM ?_
  by_cases hpos : q ≥ 0
  ·obtain ⟨q, rfl⟩ := Int.eq_ofNat_of_zero_le hpos
   obtain ⟨e, he⟩ : ∃ e, d.ends[q]? = some e := gE
   refine oS (step_cast (v' := .bool true) (s_geq rfl rfl) (congrArg Value.bool (decide_eq_true hpos))) ?_; refine oM ?_; refine oY ?_; refine oS sF ?_; refine oY ?_; refine oS sL ?_; refine oY (oM ?_); refine oY ?_; refine oS (s_idx rfl rfl hse (by omega)) ?_; refine oY ?_; refine oS (s_ld rfl ((RdK.old0 hw.en).ld q 0 he rfl (by decide) (by omega))) ?_; refine oS sT (oA (oZ hK2 (c_ret ?_))); refine ?_; exact xR rfl rfl (congrArg Value.bool (by simp [endsR, he]))
  ·refine oS (step_cast (v' := .bool false) (s_geq rfl rfl) (congrArg Value.bool (decide_eq_false hpos))) ?_; refine oM ?_; refine oN ?_; refine oN ?_; refine oN ?_; refine oN ?_; refine oN ?_; refine oS sP (oA (oZ hK2 (c_ret ?_))); refine ?_; exact xR rfl rfl (congrArg Value.bool (by unfold endsR; rw [decide_eq_false (by omega)]; rfl))
theorem goesU_fn (d : Df) (aa : Option Addr) (ac : Nat) (na : Option Addr) (nc : Nat) (rows : List (Sl Int)) (ea : Option Addr) (ec : Nat) (hx : d.next = rows.map Sl.xs) (q : Int) (hq : q < rows.length) (k : Nat) (hK : ∀ s ∈ rows, k < s.xs.length) : HL.Fn Tryz.prog 77 [.agg [.slice aa d.atoms.length ac, .slice na rows.length nc, .slice ea d.ends.length ec].toArray, .int .i64 q, .int .i64 k] (fun w => RdD d aa ac na nc rows ea ec w) [] (fun v _ => v = .int .i64 (if q < 0 then -1 else nxt d q k)) := by
  refine fn_of Tryz.func77 rfl rfl rfl fun w0 hw => ?_
  have hsn := hw.nx.sl
  refine cR fun _ hK1 => ?_; refine o_box rfl rfl rfl fun b3 => ?_; refine oA (oZ hK1 (c_seq fun _ hK2 => ?_)); refine cR fun _ hK3 => ?_; refine oM ?_
  by_cases hneg : q < 0
  ·refine oS (step_cast (v' := .bool true) (s_lss rfl rfl) (congrArg Value.bool (decide_eq_true hneg))) ?_; refine oZ hK3 ?_; refine cT (cR fun _ hK4 => ?_); refine oA (oZ hK4 (c_ret ?_)); refine x_then_ret (?_); exact xR rfl rfl (congrArg (Value.int .i64) (by rw [if_pos hneg]))
  ·obtain ⟨q, rfl⟩ := Int.eq_ofNat_of_zero_le (show 0 ≤ q by omega)
   obtain ⟨s, hs⟩ : ∃ s, rows[q]? = some s := gE
   have hsm := List.mem_of_getElem? hs
   have hsx := (hw.rw_ s hsm).sl
   have hsk := hK s hsm
   have hrow : d.next[q]? = some s.xs := by rw [hx, List.getElem?_map, hs]; rfl
   obtain ⟨v, hv⟩ : ∃ v, s.xs[k]? = some v := gE
   refine oS (step_cast (v' := .bool false) (s_lss rfl rfl) (congrArg Value.bool (decide_eq_false hneg))) ?_; refine oZ hK3 ?_; refine cFZ hK2 (cR fun _ hK5 => ?_); refine oS sF ?_; refine oS sL (oM ?_); refine oS (s_idx rfl rfl hsn (by omega)) ?_; refine oS (s_ld rfl ((RdK.old0 hw.nx).ld q 0 hs rfl (by decide) (by omega))) ?_; refine oM ?_; refine oS (s_idx rfl rfl hsx (by omega)) ?_; refine oS (s_ld rfl ((RdK.old0 (hw.rw_ s hsm)).ld k 0 hv rfl (by decide) (by simp only [Sl.v]; omega))) ?_; refine oA (oZ hK5 (c_ret ?_)); refine ?_; exact xR rfl rfl (congrArg (Value.int .i64) (by rw [if_neg hneg, nxt_get hrow hv]))
set_option maxHeartbeats 1000000 in
theorem reverse_fn (a : Option Addr) (c : Nat) (xs : List UInt8) (S : Hp) (hO : OwnS Eb 1 5 (.slice a xs.length c) xs S) : HL.Fn Tryz.prog 79 [.slice a xs.length c] (fun _ => True) S (fun _ S' => OwnS Eb 1 5 (.slice a xs.length c) xs.reverse S') := by
  refine fn_of Tryz.func79 rfl rfl rfl fun w0 hw => ?_
  have hsx := hO.sl
  have hbx := hsx.le
  refine cR fun _ hK1 => ?_; refine oM ?_; refine oS sC ?_; refine oS sU (oA (oA (oZ hK1 (c_block ?_)))); refine c_loop4 (fun (i : Nat) (jj : Int) (l : List UInt8) (Sl0 : Hp) => jj = (xs.length : Int) - 1 - i ∧ i ≤ xs.length ∧ 2 * i ≤ xs.length + 1 ∧ RvI xs l i ∧ OwnS Eb 1 5 (.slice a xs.length c) l Sl0) (fun (i : Nat) (jj : Int) (l : List UInt8) (Sl0 : Hp) => [(2, .int .i64 i), (3, .int .i64 jj)]) [(0, _)] (fun (i : Nat) (jj : Int) (l : List UInt8) (Sl0 : Hp) => Sl0) (fun (i : Nat) (jj : Int) (l : List UInt8) (Sl0 : Hp) => xs.length - i) 0 ((xs.length : Int) - 1) xs S ⟨by omega, Nat.zero_le _, by omega, RvI.zero _, hO⟩ sbA sbA hzB ?_
  rintro i jj l Sl0 ⟨hjj, hi, hi2, hR, hL⟩
  have hll := hR.len
  have hsl0 := hL.sl
  rw [hll] at hsl0
  refine c_seq fun _ hK2 => ?_; refine cR fun _ hK3 => ?_; refine oM (oM ?_)
  by_cases hlt : 2 * i + 1 < xs.length
  ·obtain ⟨x, hxi⟩ : ∃ x, l[i]? = some x := gE
   obtain ⟨y, hyj⟩ : ∃ y, l[xs.length - 1 - i]? = some y := gE
   refine oS (step_cast (v' := .bool true) (s_lss rfl rfl) (congrArg Value.bool (decide_eq_true (by omega)))) ?_; refine oZ hK3 ?_; refine cTZ hK2 (c_seq fun _ hK4 => ?_); refine c_block ?_; refine c_drawE (Sl0) (fun i => Nat.beq i 13 || Nat.beq i 15) ?_; refine eP 0 rfl sM ?_; refine eP 1 rfl sM ?_; refine eP 2 rfl sM ?_; refine eP 3 rfl sM ?_; refine eP 4 rfl sM ?_; refine eP 5 rfl sM ?_; refine eP 6 rfl (s_idx rfl rfl hsl0 (by omega)) ?_; refine eK 7 rfl (s_ld rfl ((hL.rdk hiA).ld (xs.length - 1 - i) 0 hyj rfl (by decide) (by omega))) ?_; refine eP 8 rfl sM ?_; refine eP 9 rfl sM ?_; refine eP 10 rfl (s_idx rfl rfl hsl0 (by omega)) ?_; refine eK 11 rfl (s_ld rfl ((hL.rdk hiA).ld i 0 hxi rfl (by decide) (by omega))) ?_; refine eP 12 rfl (s_idx rfl rfl hsl0 (by omega)) ?_; refine eO 13 rfl ?_; refine o_stS1 i y hL pkA rfl rfl rfl (by omega) (by omega) fun S26 hS26 => ?_; refine o_nil ?_; refine x_oneL rfl ?_; refine eP 14 rfl (s_idx rfl rfl hsl0 (by omega)) ?_; refine eO 15 rfl ?_; refine o_stS1 (xs.length - 1 - i) x hS26 pkA rfl rfl rfl (by rw [List.length_set]; omega) (by omega) fun S27 hS27 => ?_; refine o_nil ?_; refine x_oneL rfl ?_; refine e_done (by kernel_rfl) ?_; refine x_block (xZ hK4 (c_region (oM ?_))); refine oS sD (oM ?_); refine oS sU (oA (oA (o_nil ?_))); exact xI (i + 1, jj - 1, _, _) ⟨by dsimp only; omega, by omega, by omega, hR.step (by omega) hxi hyj, hS27⟩
  ·rw [hR.done (by omega)] at hL
   refine oS (step_cast (v' := .bool false) (s_lss rfl rfl) (congrArg Value.bool (decide_eq_false (by omega)))) ?_; refine oZ hK3 ?_; refine cF ?_; refine c_exit ?_; refine x_then_exit (x_then_exit (x_block_exit ?_)); exact x_end rfl (.nil) (hL)
end Go.Proofs.YtmompllplidphaaGreatDoor
