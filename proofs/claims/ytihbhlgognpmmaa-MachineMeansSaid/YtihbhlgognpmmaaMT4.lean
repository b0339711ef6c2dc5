/- Mathematics of machines: runs place by place; the machine of a regex is well shaped. Conditions: none. -/
import Derived.Test.YtihbhlgognpmmaaMT3
namespace Go.HL.Kl.Mc
open Go Go.HL Go.HL.Kl
variable {m : List In} {w : List UInt8}
/-- a step without a byte, at a place -/
def Eps (m : List In) (n p i j : Nat) : Prop := ∃ t, m[i]? = some t ∧ ((t.op = 2 ∧ p = 0 ∧ j = i + 1) ∨ (t.op = 3 ∧ p = n ∧ j = i + 1) ∨ (t.op = 4 ∧ t.x = (j : Int)) ∨ (t.op = 5 ∧ (t.x = (j : Int) ∨ t.y = (j : Int))))
inductive EpsS (m : List In) (n p : Nat) : Nat → Nat → Prop
  | refl {i : Nat} : EpsS m n p i i
  | head {i j k : Nat} (h : Eps m n p i j) (hs : EpsS m n p j k) : EpsS m n p i k
theorem EpsS.trans {n p i j k : Nat} (h : EpsS m n p i j) (h' : EpsS m n p j k) : EpsS m n p i k := by
  induction h with
  | refl => exact h'
  | head e _ ih => exact .head e (ih h')
theorem EpsS.tail {n p i j k : Nat} (h : EpsS m n p i j) (h' : Eps m n p j k) : EpsS m n p i k := h.trans (.head h' .refl)
def Eat (m : List In) (w : List UInt8) (i p : Nat) : Prop := ∃ t b, m[i]? = some t ∧ t.op = 1 ∧ w[p]? = some b ∧ t.set.getLsbD b.toNat = true
theorem stp_iff {i p j q : Nat} : Stp m w (i, p) (j, q) ↔ (q = p ∧ Eps m w.length p i j) ∨ (q = p + 1 ∧ j = i + 1 ∧ Eat m w i p) := by
  constructor
  · intro h
    cases h with
    | set h ho hb hs => exact .inr ⟨rfl, rfl, _, _, h, ho, hb, hs⟩
    | bol h ho => exact .inl ⟨rfl, _, h, .inl ⟨ho, rfl, rfl⟩⟩
    | eol h ho => exact .inl ⟨rfl, _, h, .inr (.inl ⟨ho, rfl, rfl⟩)⟩
    | jmp h ho hx => exact .inl ⟨rfl, _, h, .inr (.inr (.inl ⟨ho, hx⟩))⟩
    | spx h ho hx => exact .inl ⟨rfl, _, h, .inr (.inr (.inr ⟨ho, .inl hx⟩))⟩
    | spy h ho hx => exact .inl ⟨rfl, _, h, .inr (.inr (.inr ⟨ho, .inr hx⟩))⟩
  · rintro (⟨rfl, t, h, h1⟩ | ⟨rfl, rfl, t, b, h, ho, hb, hs⟩)
    · rcases h1 with ⟨ho, rfl, rfl⟩ | ⟨ho, rfl, rfl⟩ | ⟨ho, hx⟩ | ⟨ho, hx | hx⟩
      · exact .bol h ho
      · exact .eol h ho
      · exact .jmp h ho hx
      · exact .spx h ho hx
      · exact .spy h ho hx
    · exact .set h ho hb hs
theorem EpsS.run {p i j : Nat} (h : EpsS m w.length p i j) : Run m w (i, p) (j, p) := by
  induction h with
  | refl => exact .refl
  | head e _ ih => exact .cons (stp_iff.2 (.inl ⟨rfl, e⟩)) ih
theorem runN_le {n : Nat} {c c' : Nat × Nat} (h : RunN m w n c c') : c.2 ≤ c'.2 := by
  induction h with
  | zero => exact Nat.le_refl _
  | @step n c c' c'' s _ ih =>
    obtain ⟨i, p⟩ := c; obtain ⟨j, q⟩ := c'
    rcases stp_iff.1 s with ⟨rfl, _⟩ | ⟨rfl, _⟩ <;> simp only at ih ⊢ <;> omega
theorem run_le {c c' : Nat × Nat} (h : Run m w c c') : c.2 ≤ c'.2 := by obtain ⟨n, h⟩ := h; exact runN_le h
theorem run_same {p : Nat} : ∀ {n i j : Nat}, RunN m w n (i, p) (j, p) → EpsS m w.length p i j := by
  intro n
  induction n with
  | zero => intro i j h; cases h; exact .refl
  | succ n ih =>
    intro i j h
    cases h with
    | step s r =>
      rename_i c
      obtain ⟨k, q⟩ := c
      rcases stp_iff.1 s with ⟨rfl, e⟩ | ⟨rfl, _⟩
      · exact .head e (ih r)
      · have := runN_le r; simp only at this; omega
theorem run_base {p i j : Nat} : Run m w (i, p) (j, p) ↔ EpsS m w.length p i j := ⟨fun ⟨_, h⟩ => run_same h, EpsS.run⟩
theorem run_succ {a f p i : Nat} (hf : f ≤ p) : Run m w (a, f) (i, p + 1) ↔ ∃ j, Run m w (a, f) (j, p) ∧ Eat m w j p ∧ EpsS m w.length (p + 1) (j + 1) i := by
  constructor
  · rintro ⟨n, h⟩
    induction n generalizing a f with
    | zero => cases h; omega
    | succ n ih =>
      cases h with
      | step s r =>
        rename_i c
        obtain ⟨k, q⟩ := c
        rcases stp_iff.1 s with ⟨rfl, e⟩ | ⟨rfl, rfl, he⟩
        · obtain ⟨j, h1, h2, h3⟩ := ih hf r
          exact ⟨j, .cons s h1, h2, h3⟩
        · rcases Nat.lt_or_ge f p with hlt | hge
          · obtain ⟨j, h1, h2, h3⟩ := ih hlt r
            exact ⟨j, .cons s h1, h2, h3⟩
          · obtain rfl : f = p := by omega
            exact ⟨a, .refl, he, run_same r⟩
  · rintro ⟨j, h1, h2, h3⟩
    exact h1.trans (.cons (stp_iff.2 (.inr ⟨rfl, rfl, h2⟩)) h3.run)
/-- is there a run from a place to another? -/
def Hit (m : List In) (w : List UInt8) (f p : Nat) : Prop := ∃ i t, Run m w (0, f) (i, p) ∧ m[i]? = some t ∧ t.op = 6
/-- well shaped machines -/
def InOk (E : Nat) (t : In) : Prop := (1 ≤ t.op ∧ t.op ≤ 6) ∧ (t.op = 1 ∨ t.set = 0) ∧ (0 ≤ t.x ∧ t.x ≤ (if t.op = 4 ∨ t.op = 5 then (E : Int) else 0)) ∧ (0 ≤ t.y ∧ t.y ≤ (if t.op = 5 then (E : Int) else 0))
instance (E : Nat) (t : In) : Decidable (InOk E t) := by unfold InOk; infer_instance
def MOk (m : List In) : Prop := 1 ≤ m.length ∧ m.length ≤ 65540 ∧ ∀ i t, m[i]? = some t → InOk (m.length - 1) t ∧ (t.op ≤ 3 → i + 1 < m.length)
theorem MOk.lt {i j p n : Nat} (h : MOk m) (he : Eps m n p i j) : j < m.length := by
  obtain ⟨t, ht, h1⟩ := he
  obtain ⟨⟨⟨_, _⟩, _, hx, hy⟩, h3⟩ := h.2.2 i t ht
  have := h.1
  rcases h1 with ⟨ho, _, rfl⟩ | ⟨ho, _, rfl⟩ | ⟨ho, e⟩ | ⟨ho, e | e⟩
  · exact h3 (by omega)
  · exact h3 (by omega)
  · rw [if_pos (.inl ho)] at hx; omega
  · rw [if_pos (.inr ho)] at hx; omega
  · rw [if_pos ho] at hy; omega
theorem ok_mk {E : Nat} {o : Int} {s : Cl} {x y : Int} (h1 : 1 ≤ o) (h2 : o ≤ 6) (h3 : o = 1 ∨ s = 0) (h4 : 0 ≤ x) (h5 : x ≤ if o = 4 ∨ o = 5 then (E : Int) else 0) (h6 : 0 ≤ y) (h7 : y ≤ if o = 5 then (E : Int) else 0) : InOk E ⟨o, s, x, y⟩ := ⟨⟨h1, h2⟩, h3, ⟨h4, h5⟩, ⟨h6, h7⟩⟩
/-- the code of a regex keeps to its bounds -/
def CodeOk (E : Nat) (c : List In) : Prop := ∀ t ∈ c, InOk E t ∧ t.op ≤ 5
theorem CodeOk.app {E : Nat} {c d : List In} (h : CodeOk E c) (h' : CodeOk E d) : CodeOk E (c ++ d) := fun t ht => (List.mem_append.1 ht).elim (h t) (h' t)
theorem CodeOk.cons {E : Nat} {t : In} {d : List In} (h : InOk E t ∧ t.op ≤ 5) (h' : CodeOk E d) : CodeOk E (t :: d) := fun u hu => by
  rcases List.mem_cons.1 hu with rfl | hu
  · exact h
  · exact h' u hu
theorem CodeOk.nil {E : Nat} : CodeOk E [] := fun t ht => by cases ht
theorem ok_split {E x y : Nat} (hx : x ≤ E) (hy : y ≤ E) : InOk E ⟨5, 0, x, y⟩ ∧ (5 : Int) ≤ 5 :=
  ⟨ok_mk (by decide) (by decide) (.inr rfl) (by omega) (by simp; omega) (by omega) (by simp; omega), by decide⟩
theorem ok_jump {E x : Nat} (hx : x ≤ E) : InOk E ⟨4, 0, x, 0⟩ ∧ (4 : Int) ≤ 5 :=
  ⟨ok_mk (by decide) (by decide) (.inr rfl) (by omega) (by simp; omega) (by decide) (by split <;> omega), by decide⟩
theorem ok_leaf {E : Nat} {o : Int} {s : Cl} (h1 : 1 ≤ o) (h2 : o ≤ 3) (h3 : o = 1 ∨ s = 0) : InOk E ⟨o, s, 0, 0⟩ ∧ o ≤ 5 :=
  ⟨ok_mk h1 (by omega) h3 (by decide) (by split <;> omega) (by decide) (by split <;> omega), by omega⟩
theorem copies_ok {E : Nat} {c : Nat → List In} {L : Nat} (h : ∀ b, b + L ≤ E → CodeOk E (c b)) : ∀ k b, b + k * L ≤ E → CodeOk E (copies c L k b)
  | 0, b, _ => .nil
  | k + 1, b, hb => by
    rw [Nat.succ_mul] at hb
    exact (h b (by omega)).app (copies_ok h k (b + L) (by omega))
theorem opts_ok {E e : Nat} {c : Nat → List In} {L : Nat} (h : ∀ b, b + L ≤ E → CodeOk E (c b)) (he : e ≤ E) : ∀ k b, b + k * (L + 1) ≤ E → CodeOk E (opts c L e k b)
  | 0, b, _ => .nil
  | k + 1, b, hb => by
    rw [Nat.succ_mul] at hb
    exact .cons (ok_split (by omega) he) ((h (b + 1) (by omega)).app (opts_ok h he k (b + 1 + L) (by omega)))
theorem oneC_ok {E : Nat} {x : Nd} {c a : Nat → List In} {L A b : Nat} (hx : ndOk x = true) (hc : ∀ b, b + L ≤ E → CodeOk E (c b)) (ha : ∀ b, b + A ≤ E → CodeOk E (a b)) (hb : b + lenOne x L A ≤ E) : CodeOk E (oneC x c a L b) := by
  unfold oneC
  unfold lenOne at hb
  by_cases h1 : x.op = 1
  · rw [if_pos h1]
    exact .cons (ok_leaf (by decide) (by decide) (.inl rfl)) .nil
  rw [if_neg h1]
  by_cases h2 : x.op = 2
  · rw [if_pos h2]
    exact .cons (ok_leaf (by decide) (by decide) (.inr rfl)) .nil
  rw [if_neg h2]
  by_cases h3 : x.op = 3
  · rw [if_pos h3]
    exact .cons (ok_leaf (by decide) (by decide) (.inr rfl)) .nil
  rw [if_neg h3]
  rw [if_neg (by omega)] at hb
  by_cases h5 : x.op = 5
  · rw [if_pos h5] at hb ⊢
    exact ha b hb
  rw [if_neg h5] at hb ⊢
  by_cases h6 : x.op = 6
  · rw [if_pos h6] at hb ⊢
    unfold repC
    by_cases hm : x.mx = -1
    · rw [if_pos hm] at hb
      simp only [hm, if_true]
      exact (copies_ok hc _ _ (by omega)).app (.cons (ok_split (by omega) (by omega)) ((hc _ (by omega)).app (.cons (ok_jump (by omega)) .nil)))
    · rw [if_neg hm] at hb
      simp only [hm, if_false]
      exact (copies_ok hc _ _ (by omega)).app (opts_ok hc (by omega) _ _ (by omega))
  · rw [if_neg h6] at hb ⊢
    exact hc b hb
theorem code_ok {E : Nat} : ∀ (f : F) (md : Bool) (b e : Nat), f.wf → b + lenM f md ≤ E → e ≤ E → CodeOk E (code f md b e)
  | .nil, _, _, _, _, _, _ => .nil
  | .nd x ks r, md, b, e, hw, hb, he => by
    have hc : ∀ b, b + lenM ks false ≤ E → CodeOk E (code ks false b 0) := fun b hb => code_ok ks false b 0 hw.2.2.1 hb (by omega)
    have ha : ∀ b, b + lenM ks true ≤ E → CodeOk E (code ks true b (b + lenM ks true)) := fun b hb => code_ok ks true b _ hw.2.2.1 hb hb
    cases md with
    | false =>
      simp only [lenM, Bool.false_eq_true, if_false] at hb
      simp only [code, Bool.false_eq_true, if_false]
      exact (oneC_ok hw.1 hc ha (by omega)).app (code_ok r false _ 0 hw.2.2.2 (by omega) (by omega))
    | true =>
      cases r with
      | nil =>
        simp only [lenM, if_true] at hb
        simp only [code, if_true]
        exact oneC_ok hw.1 hc ha (by omega)
      | nd y ks' r' =>
        have hL : lenM (.nd x ks (.nd y ks' r')) true = lenOne x (lenM ks false) (lenM ks true) + 2 + lenM (.nd y ks' r') true := rfl
        rw [hL] at hb
        show CodeOk E (⟨5, 0, (b + 1 : Nat), (b + lenOne x (lenM ks false) (lenM ks true) + 2 : Nat)⟩ :: (oneC x (fun b => code ks false b 0) (fun b => code ks true b (b + lenM ks true)) (lenM ks false) (b + 1) ++ (⟨4, 0, e, 0⟩ :: code (.nd y ks' r') true (b + lenOne x (lenM ks false) (lenM ks true) + 2) e)))
        exact .cons (ok_split (by omega) (by omega)) ((oneC_ok hw.1 hc ha (by omega)).app (.cons (ok_jump he) (code_ok (.nd y ks' r') true _ e hw.2.2.2 (by omega) he)))
/-- how long the code is -/
theorem one_len {x : Nd} {L A W k : Nat} (hx : ndOk x = true) (hL : L + 3 * k ≤ 4 * W) (hA : A + k + 2 ≤ 4 * W ∨ k = 0) (hk : x.kids = (k : Int)) : lenOne x L A + 3 ≤ 4 * (1 + times x * W) := by
  unfold lenOne times
  by_cases h1 : x.op = 1 ∨ x.op = 2 ∨ x.op = 3
  · rw [if_pos h1]; omega
  rw [if_neg h1]
  by_cases h5 : x.op = 5
  · have := alt_kids hx h5
    rw [if_pos h5, if_neg (by omega)]; omega
  rw [if_neg h5]
  by_cases h6 : x.op = 6
  · have hr := rep_flds hx h6
    have hk1 : k = 1 := by
      simp only [ndOk, Bool.and_eq_true, kidsOk] at hx
      have h := hx.2
      rw [if_pos (.inl h6)] at h
      simp at h; omega
    subst hk1
    rw [if_pos h6, if_pos h6]
    by_cases hm : x.mx = -1
    · rw [if_pos hm, if_pos (by omega)]
      have : (x.mn.toNat + 1) * L + (x.mn.toNat + 1) * 3 ≤ 4 * ((x.mn.toNat + 1) * W) := by
        have := Nat.mul_le_mul_left (x.mn.toNat + 1) hL
        rw [Nat.mul_add] at this
        rw [← Nat.mul_assoc, Nat.mul_comm 4, Nat.mul_assoc]; omega
      rw [Nat.succ_mul] at this
      omega
    · rw [if_neg hm, if_neg (by omega)]
      have h1 : x.mn.toNat * L + (x.mx - x.mn).toNat * (L + 1) ≤ x.mx.toNat * (L + 1) := by
        have : x.mx.toNat = x.mn.toNat + (x.mx - x.mn).toNat := by omega
        rw [this, Nat.add_mul]
        have := Nat.mul_le_mul_left x.mn.toNat (show L ≤ L + 1 by omega)
        omega
      have h2 : x.mx.toNat * (L + 1) ≤ max x.mx.toNat 1 * (4 * W) := Nat.mul_le_mul (Nat.le_max_left _ _) (by omega)
      have h3 : max x.mx.toNat 1 * (4 * W) = 4 * (max x.mx.toNat 1 * W) := by rw [Nat.mul_left_comm]
      omega
  · rw [if_neg h6, if_neg h6]; omega
theorem code_weight : ∀ (f : F), f.wf → lenM f false + 3 * f.num ≤ 4 * f.weight ∧ (lenM f true + f.num + 2 ≤ 4 * f.weight ∨ f.num = 0)
  | .nil, _ => by simp [lenM, F.num, F.weight]
  | .nd x ks r, hw => by
    obtain ⟨h1, h2⟩ := code_weight ks hw.2.2.1
    obtain ⟨h3, h4⟩ := code_weight r hw.2.2.2
    have h5 := one_len hw.1 h1 h2 hw.2.1.symm
    constructor
    · simp only [lenM, Bool.false_eq_true, if_false, F.num, F.weight]; omega
    · left
      cases r with
      | nil => simp only [lenM, if_true, F.num, F.weight]; omega
      | nd y ks' r' =>
        have hL : lenM (.nd x ks (.nd y ks' r')) true = lenOne x (lenM ks false) (lenM ks true) + 2 + lenM (.nd y ks' r') true := rfl
        have h4 := h4.resolve_right (by simp [F.num])
        rw [hL]
        simp only [F.num, F.weight] at h4 ⊢
        omega
/-- the machine of a forest -/
def mach (f : F) : List In := code f false 0 0 ++ [⟨6, 0, 0, 0⟩]
theorem mach_len (f : F) : (mach f).length = lenM f false + 1 := by simp [mach, code_len]
theorem mach_ok {f : F} (hw : f.wf) (hW : f.weight ≤ 16384) : MOk (mach f) := by
  have h1 := (code_weight f hw).1
  refine ⟨by rw [mach_len]; omega, by rw [mach_len]; omega, fun i t hi => ?_⟩
  have hl := (List.getElem?_eq_some_iff.1 hi).1
  rw [mach_len] at hl ⊢
  rw [Nat.add_sub_cancel]
  unfold mach at hi
  rcases Nat.lt_or_ge i (code f false 0 0).length with h | h
  · rw [List.getElem?_append_left h] at hi
    have := code_ok (E := lenM f false) f false 0 0 hw (by omega) (by omega) t (List.mem_of_getElem? hi)
    rw [code_len] at h
    exact ⟨this.1, fun _ => by omega⟩
  · rw [List.getElem?_append_right h] at hi
    rw [code_len] at h
    have : i - (code f false 0 0).length = 0 := by rw [code_len]; omega
    rw [this] at hi
    simp at hi
    subst hi
    exact ⟨⟨⟨by decide, by decide⟩, .inr rfl, ⟨by decide, by simp⟩, ⟨by decide, by simp⟩⟩, fun h => by simp at h⟩
theorem mach_hit {f : F} (hw : f.wf) {w : List UInt8} {p q : Nat} : Hit (mach f) w p q ↔ der w f false p q := by
  rw [← means_all hw]
  constructor
  · rintro ⟨i, t, hr, ht, ho⟩
    have hl := (List.getElem?_eq_some_iff.1 ht).1
    rw [mach_len] at hl
    have hi : i = lenM f false := by
      rcases Nat.lt_or_ge i (lenM f false) with h | h
      · unfold mach at ht
        rw [List.getElem?_append_left (by rw [code_len]; exact h)] at ht
        have := code_ok (E := lenM f false) f false 0 0 hw (by omega) (by omega) t (List.mem_of_getElem? ht)
        omega
      · omega
    subst hi
    exact hr
  · intro h
    refine ⟨_, ⟨6, 0, 0, 0⟩, h, ?_, rfl⟩
    unfold mach
    rw [List.getElem?_append_right (by rw [code_len]; omega), code_len]; simp
end Go.HL.Kl.Mc
