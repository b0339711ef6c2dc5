/- Part of the proofs over this seat: see the text that holds the theorem. Conditions: each theorem bears its own. -/
import Derived.Test.YtafbigmneipkiaaDoorMB5
namespace Go.HL.Kl.Bk
open Go Go.HL Go.Tab

theorem itemP_bad {l : List Mk} {a i : Nat} {f : Bool} {e : Int} {p : Nat} (h : itemP l a i f = .bad e p) : (e = 32 ∧ p = a) ∨ (e = 30 ∨ e = 31) ∧ i ≤ p ∧ p < l.length := by
  have hth : ∀ j e p, thP l a j = .bad e p → (e = 32 ∧ p = a) ∨ (e = 31 ∧ p = j ∧ j < l.length) := by
    intro j e p hj
    unfold thP at hj
    split at hj
    · cases hj; exact .inl ⟨rfl, rfl⟩
    · rename_i hl
      split at hj
      · split at hj
        · unfold nameP at hj
          split at hj
          · cases hj; exact .inl ⟨rfl, rfl⟩
          · split at hj
            · cases hj; exact .inr ⟨rfl, rfl, by omega⟩
            · cases hj
        · split at hj
          · unfold encP at hj
            split at hj
            · cases hj; exact .inl ⟨rfl, rfl⟩
            · split at hj
              · cases hj; exact .inr ⟨rfl, rfl, by omega⟩
              · split at hj
                · cases hj; exact .inl ⟨rfl, rfl⟩
                · split at hj
                  · cases hj; exact .inr ⟨rfl, rfl, by omega⟩
                  · cases hj
          · cases hj
      · cases hj
  unfold itemP at h
  cases h1 : thP l a i with
  | bad e' p' =>
    rw [h1] at h
    cases h
    rcases hth i e p h1 with r | ⟨r1, r2, r3⟩
    · exact .inl r
    · exact .inr ⟨.inr r1, by omega, by omega⟩
  | ok x =>
    have hx := thP_next h1
    rw [h1] at h
    simp only at h
    split at h
    · split at h
      · cases h; exact .inl ⟨rfl, rfl⟩
      · cases h; exact .inr ⟨.inl rfl, Nat.le_refl _, by omega⟩
    · split at h
      · cases h
      · split at h
        · cases h; exact .inr ⟨.inl rfl, Nat.le_refl _, by omega⟩
        · cases h2 : thP l a (x.next + 1) with
          | bad e' p' =>
            rw [h2] at h
            cases h
            rcases hth _ e p h2 with r | ⟨r1, r2, r3⟩
            · exact .inl r
            · exact .inr ⟨.inr r1, by omega, by omega⟩
          | ok y =>
            rw [h2] at h
            simp only at h
            split at h
            · cases h; exact .inr ⟨.inl rfl, Nat.le_refl _, by omega⟩
            · cases h
theorem loopP_bad {l : List Mk} {a : Nat} : ∀ {n i : Nat} {f : Bool} {c : Cl} {e : Int} {p : Nat}, loopP l a n i f c = .bad e p → (e = 32 ∧ p = a) ∨ (e = 30 ∨ e = 31) ∧ i ≤ p ∧ p < l.length
  | 0, _, _, _, _, _, h => by cases h; exact .inl ⟨rfl, rfl⟩
  | n + 1, i, f, c, e, p, h => by
    simp only [loopP] at h
    cases h1 : itemP l a i f with
    | bad e' p' => rw [h1] at h; cases h; exact itemP_bad h1
    | ok t =>
      have h2 := itemP_next h1
      rw [h1] at h
      simp only at h
      split at h
      · cases h
      · rcases loopP_bad h with r | ⟨r1, r2, r3⟩
        · exact .inl r
        · exact .inr ⟨r1, by omega, r3⟩
/-- what a reading comes to -/
inductive ParseHow (l : List Mk) (at' : Int) (r : Cl × Int × Int) : Prop
  | arg (h : r = (0, 0, 1))
  | bad (h0 : 0 ≤ at') (hs : sg l at'.toNat 91 = true) (e : Int) (p : Nat) (hr : r = (0, (p : Int), e)) (he : e = 30 ∨ e = 31 ∨ e = 32) (hp : at'.toNat ≤ p ∧ p < l.length)
  | ok (h0 : 0 ≤ at') (hs : sg l at'.toNat 91 = true) (c : Cl) (i : Nat) (hl : loopP l at'.toNat (l.length + 1) (at'.toNat + 1 + if sg l (at'.toNat + 1) 94 then 1 else 0) true 0 = .ok c i) (hr : r = ((if sg l (at'.toNat + 1) 94 = true then ~~~c else c), (i : Int) + 1, 0)) (hi : at'.toNat + 2 ≤ i) (he : sg l i 93 = true)
theorem parse_how (l : List Mk) (at' : Int) : ParseHow l at' (parseP l at') := by
  unfold parseP
  split
  · exact .arg rfl
  · rename_i h
    have h := _root_.not_or.1 h
    have hs : sg l at'.toNat 91 = true := by simpa using h.2
    have hlt := sg_lt hs
    cases hl : loopP l at'.toNat (l.length + 1) (at'.toNat + 1 + if sg l (at'.toNat + 1) 94 then 1 else 0) true 0 with
    | bad e p =>
      rcases loopP_bad hl with ⟨rfl, rfl⟩ | ⟨he, hi, hp⟩
      · exact .bad (by omega) hs 32 _ rfl (.inr (.inr rfl)) ⟨Nat.le_refl _, hlt⟩
      · exact .bad (by omega) hs e p rfl (by omega) ⟨by omega, hp⟩
    | ok c i =>
      have := loop_end hl
      exact .ok (by omega) hs c i hl rfl (by omega) this.1
theorem loopP_more {l : List Mk} {a : Nat} : ∀ {n n' i : Nat} {f : Bool} {c c' : Cl} {e : Nat}, loopP l a n i f c = .ok c' e → n ≤ n' → loopP l a n' i f c = .ok c' e
  | 0, _, _, _, _, _, _, h, _ => by cases h
  | n + 1, 0, _, _, _, _, _, _, hn => by omega
  | n + 1, n' + 1, i, f, c, c', e, h, hn => by
    simp only [loopP] at h ⊢
    cases h1 : itemP l a i f with
    | bad e' p' => rw [h1] at h; cases h
    | ok t =>
      rw [h1] at h
      simp only at h ⊢
      split at h
      · rename_i hs; rw [if_pos hs]; exact h
      · rename_i hs; rw [if_neg hs]; exact loopP_more h (by omega)
/-- the bracket alone, with other marks behind it -/
theorem cut_alone {l : List Mk} {d : Nat} {c : Cl} {i : Nat} (hs : sg l d 91 = true) (hl : loopP l d (l.length + 1) (d + 1 + if sg l (d + 1) 94 then 1 else 0) true 0 = .ok c i) (hi : d + 2 ≤ i) (he : sg l i 93 = true) (B : List Mk) :
    parseP ((l.drop d).take (i + 1 - d) ++ B) 0 = ((if sg l (d + 1) 94 = true then ~~~c else c), (i : Int) + 1 - d, 0) := by
  have hil := sg_lt he
  obtain ⟨A, m, rfl, rfl⟩ : ∃ A m, A ++ m = l ∧ A.length = d := ⟨l.take d, l.drop d, List.take_append_drop d l, by simp; omega⟩
  have hm : (A ++ m).drop A.length = m := by simp
  rw [hm]
  obtain ⟨e, rfl⟩ : ∃ e, i = A.length + e := ⟨i - A.length, by omega⟩
  have s0 : sg m 0 91 = true := by rw [← sg_app (A := A)]; exact hs
  have s1 : sg (A ++ m) (A.length + 1) 94 = sg m 1 94 := sg_app
  have s2 : sg m e 93 = true := by rw [← sg_app (A := A)]; exact he
  rw [s1] at hl ⊢
  have hk : (if sg m 1 94 = true then 1 else 0 : Nat) ≤ 1 := by split <;> omega
  have hml := sg_lt s2
  have h1 := loopP_app (A := A) (l := m) (a := 0) (n := (A ++ m).length + 1) (i := 1 + (if sg m 1 94 = true then 1 else 0)) (f := true) (c := 0)
  rw [Nat.add_zero, show A.length + (1 + (if sg m 1 94 = true then 1 else 0)) = A.length + 1 + (if sg m 1 94 = true then 1 else 0) by omega, hl] at h1
  have h2 : loopP m 0 ((A ++ m).length + 1) (1 + (if sg m 1 94 = true then 1 else 0)) true 0 = .ok c e := by
    cases h3 : loopP m 0 ((A ++ m).length + 1) (1 + (if sg m 1 94 = true then 1 else 0)) true 0 with
    | bad e' p => rw [h3] at h1; cases h1
    | ok c' e' =>
      rw [h3] at h1
      simp only [PR.sh, PR.ok.injEq] at h1
      rw [h1.1, show e = e' by omega]
  have hw : A.length + e + 1 - A.length = e + 1 := by omega
  rw [hw]
  have hag : Agree m (m.take (e + 1) ++ B) (e + 1) := ⟨fun j hj => by rw [List.getElem?_append_left (by simp; omega), List.getElem?_take, if_pos hj], by omega, by simp; omega⟩
  have h4 := loop_agree hag h2 rfl
  have g0 : sg (m.take (e + 1) ++ B) 0 91 = true := by rw [hag.sg (by omega)]; exact s0
  have g1 : sg (m.take (e + 1) ++ B) 1 94 = sg m 1 94 := hag.sg (by omega) _
  have hlen := hag.hm
  have h5 := parseP_ok (A := []) (l := m.take (e + 1) ++ B) (c := c) (i := e) g0 (by
    rw [g1]
    have h7 := loopP_more h4 (n' := max ((A ++ m).length + 1) ((m.take (e + 1) ++ B).length + 1)) (by omega)
    rw [← h7]
    exact loopP_fuel (by omega) (by omega) (by omega))
  rw [g1] at h5
  have h6 : parseP (m.take (e + 1) ++ B) 0 = _ := h5
  rw [h6]
  refine Prod.ext rfl (Prod.ext ?_ rfl)
  dsimp only [List.length_nil]
  omega
/-- each beginning of it is not closed, or a range that can't be -/
theorem cut_early {l : List Mk} {d : Nat} {c : Cl} {i : Nat} (hs : sg l d 91 = true) (hl : loopP l d (l.length + 1) (d + 1 + if sg l (d + 1) 94 then 1 else 0) true 0 = .ok c i) (he : sg l i 93 = true) (v : Nat) (hv : d < v) (hvi : v ≤ i) :
    parseP (l.take v) (d : Int) = (0, (d : Int), 32) ∨ ∃ p : Nat, parseP (l.take v) (d : Int) = (0, (p : Int), 30) ∧ d < p ∧ p + 2 < v ∧ sg l (v - 1) 91 = true ∧ sg l (v - 2) 45 = true := by
  have hil := sg_lt he
  have hm : (l.take v).length = v := by simp; omega
  have hag : Agree l (l.take v) v := ⟨fun j hj => by rw [List.getElem?_take, if_pos hj], by omega, by omega⟩
  have s0 : sg (l.take v) d 91 = true := by rw [hag.sg hv]; exact hs
  have key : CutBad l v d (d + 1) (loopP (l.take v) d ((l.take v).length + 1) (d + 1 + if sg (l.take v) (d + 1) 94 = true then 1 else 0) true 0) := by
    rcases Nat.lt_or_ge (d + 1) v with h1 | h1
    · rw [hag.sg h1]
      have hk : (if sg l (d + 1) 94 = true then 1 else 0 : Nat) ≤ 1 := by split <;> omega
      rcases loop_cut hag hm (c2 := 0) ((l.take v).length + 1) hl hvi (by omega) with r | ⟨p, r1, r2, r3⟩
      · exact .inl r
      · exact .inr ⟨p, r1, by omega, r3⟩
    · have : sg (l.take v) (d + 1) 94 = false := sg_ge (by omega)
      rw [this, if_neg (by decide), show d + 1 + 0 = v by omega, loop_full hm]
      exact .inl rfl
  have hn : ¬ (((d : Nat) : Int) < 0 ∨ sg (l.take v) d 91 = false) := by
    rintro (r | r)
    · omega
    · rw [s0] at r; cases r
  unfold parseP
  simp only [Int.toNat_natCast]
  rw [if_neg hn]
  rcases key with r | ⟨p, r1, r2, r3, r4, r5⟩
  · rw [r]; exact .inl rfl
  · rw [r1]; exact .inr ⟨p, rfl, by omega, r3, r4, r5⟩
end Go.HL.Kl.Bk
