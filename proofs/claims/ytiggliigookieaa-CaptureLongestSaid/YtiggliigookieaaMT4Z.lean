/- Mathematics of machines: runs place by place; the machine of a regex is well shaped. Conditions: none. -/
import Derived.Test.YtiggliigookieaaMC3Z
import Derived.Test.YtiggliigookieaaHlB
import Derived.Test.YtiggliigookieaaKF1Z
namespace Go.HL.Kl.Mc
open Go Go.HL Go.HL.Kl
variable {m : List In} {w : List UInt8}
/-- a step without a byte, at a place -/
def Eps (m : List In) (n p i j : Nat) : Prop := ∃ t, m[i]? = some t ∧ ((t.op = 2 ∧ p = 0 ∧ j = i + 1) ∨ (t.op = 3 ∧ p = n ∧ j = i + 1) ∨ (t.op = 4 ∧ t.x = (j : Int)) ∨ (t.op = 5 ∧ (t.x = (j : Int) ∨ t.y = (j : Int))))
inductive EpsS (m : List In) (n p : Nat) : Nat → Nat → Prop
  | refl {i : Nat} : EpsS m n p i i
  | head {i j k : Nat} (h : Eps m n p i j) (hs : EpsS m n p j k) : EpsS m n p i k
theorem EpsS.trans {n p i j k : Nat} (h : EpsS m n p i j) (h' : EpsS m n p j k) : EpsS m n p i k := by
  induction h with
  | refl => exact h'
  | head e _ ih => exact .head e (ih h')
theorem EpsS.tail {n p i j k : Nat} (h : EpsS m n p i j) (h' : Eps m n p j k) : EpsS m n p i k := h.trans (.head h' .refl)
def Eat (m : List In) (w : List UInt8) (i p : Nat) : Prop := ∃ t b, m[i]? = some t ∧ t.op = 1 ∧ w[p]? = some b ∧ t.set.getLsbD b.toNat = true
theorem stp_iff {i p j q : Nat} : Stp m w (i, p) (j, q) ↔ (q = p ∧ Eps m w.length p i j) ∨ (q = p + 1 ∧ j = i + 1 ∧ Eat m w i p) := by
  constructor
  · intro h
    cases h with
    | set h ho hb hs => exact .inr ⟨rfl, rfl, _, _, h, ho, hb, hs⟩
    | bol h ho => exact .inl ⟨rfl, _, h, .inl ⟨ho, rfl, rfl⟩⟩
    | eol h ho => exact .inl ⟨rfl, _, h, .inr (.inl ⟨ho, rfl, rfl⟩)⟩
    | jmp h ho hx => exact .inl ⟨rfl, _, h, .inr (.inr (.inl ⟨ho, hx⟩))⟩
    | spx h ho hx => exact .inl ⟨rfl, _, h, .inr (.inr (.inr ⟨ho, .inl hx⟩))⟩
    | spy h ho hx => exact .inl ⟨rfl, _, h, .inr (.inr (.inr ⟨ho, .inr hx⟩))⟩
  · rintro (⟨rfl, t, h, h1⟩ | ⟨rfl, rfl, t, b, h, ho, hb, hs⟩)
    · rcases h1 with ⟨ho, rfl, rfl⟩ | ⟨ho, rfl, rfl⟩ | ⟨ho, hx⟩ | ⟨ho, hx | hx⟩
      · exact .bol h ho
      · exact .eol h ho
      · exact .jmp h ho hx
      · exact .spx h ho hx
      · exact .spy h ho hx
    · exact .set h ho hb hs
theorem EpsS.run {p i j : Nat} (h : EpsS m w.length p i j) : Run m w (i, p) (j, p) := by
  induction h with
  | refl => exact .refl
  | head e _ ih => exact .cons (stp_iff.2 (.inl ⟨rfl, e⟩)) ih
theorem runN_le {n : Nat} {c c' : Nat × Nat} (h : RunN m w n c c') : c.2 ≤ c'.2 := by
  induction h with
  | zero => exact Nat.le_refl _
  | @step n c c' c'' s _ ih =>
    obtain ⟨i, p⟩ := c; obtain ⟨j, q⟩ := c'
    rcases stp_iff.1 s with ⟨rfl, _⟩ | ⟨rfl, _⟩ <;> simp only at ih ⊢ <;> omega
theorem run_le {c c' : Nat × Nat} (h : Run m w c c') : c.2 ≤ c'.2 := by obtain ⟨n, h⟩ := h; exact runN_le h
theorem run_same {p : Nat} : ∀ {n i j : Nat}, RunN m w n (i, p) (j, p) → EpsS m w.length p i j := by
  intro n
  induction n with
  | zero => intro i j h; cases h; exact .refl
  | succ n ih =>
    intro i j h
    cases h with
    | step s r =>
      rename_i c
      obtain ⟨k, q⟩ := c
      rcases stp_iff.1 s with ⟨rfl, e⟩ | ⟨rfl, _⟩
      · exact .head e (ih r)
      · have := runN_le r; simp only at this; omega
theorem run_base {p i j : Nat} : Run m w (i, p) (j, p) ↔ EpsS m w.length p i j := ⟨fun ⟨_, h⟩ => run_same h, EpsS.run⟩
theorem run_succ {a f p i : Nat} (hf : f ≤ p) : Run m w (a, f) (i, p + 1) ↔ ∃ j, Run m w (a, f) (j, p) ∧ Eat m w j p ∧ EpsS m w.length (p + 1) (j + 1) i := by
  constructor
  · rintro ⟨n, h⟩
    induction n generalizing a f with
    | zero => cases h; omega
    | succ n ih =>
      cases h with
      | step s r =>
        rename_i c
        obtain ⟨k, q⟩ := c
        rcases stp_iff.1 s with ⟨rfl, e⟩ | ⟨rfl, rfl, he⟩
        · obtain ⟨j, h1, h2, h3⟩ := ih hf r
          exact ⟨j, .cons s h1, h2, h3⟩
        · rcases Nat.lt_or_ge f p with hlt | hge
          · obtain ⟨j, h1, h2, h3⟩ := ih hlt r
            exact ⟨j, .cons s h1, h2, h3⟩
          · obtain rfl : f = p := by omega
            exact ⟨a, .refl, he, run_same r⟩
  · rintro ⟨j, h1, h2, h3⟩
    exact h1.trans (.cons (stp_iff.2 (.inr ⟨rfl, rfl, h2⟩)) h3.run)
/-- is there a run from a place to another? -/
def Hit (m : List In) (w : List UInt8) (f p : Nat) : Prop := ∃ i t, Run m w (0, f) (i, p) ∧ m[i]? = some t ∧ t.op = 6
/-- well shaped machines -/
def InOk (E : Nat) (t : In) : Prop := (1 ≤ t.op ∧ t.op ≤ 6) ∧ (t.op = 1 ∨ t.set = 0) ∧ (0 ≤ t.x ∧ t.x ≤ (if t.op = 4 ∨ t.op = 5 then (E : Int) else 0)) ∧ (0 ≤ t.y ∧ t.y ≤ (if t.op = 5 then (E : Int) else 0))
instance (E : Nat) (t : In) : Decidable (InOk E t) := by unfold InOk; infer_instance
def MOk (m : List In) : Prop := 1 ≤ m.length ∧ m.length ≤ 65540 ∧ ∀ i t, m[i]? = some t → InOk (m.length - 1) t ∧ (t.op ≤ 3 → i + 1 < m.length)
theorem MOk.lt {i j p n : Nat} (h : MOk m) (he : Eps m n p i j) : j < m.length := by
  obtain ⟨t, ht, h1⟩ := he
  obtain ⟨⟨⟨_, _⟩, _, hx, hy⟩, h3⟩ := h.2.2 i t ht
  have := h.1
  rcases h1 with ⟨ho, _, rfl⟩ | ⟨ho, _, rfl⟩ | ⟨ho, e⟩ | ⟨ho, e | e⟩
  · exact h3 (by omega)
  · exact h3 (by omega)
  · rw [if_pos (.inl ho)] at hx; omega
  · rw [if_pos (.inr ho)] at hx; omega
  · rw [if_pos ho] at hy; omega
theorem ok_mk {E : Nat} {o : Int} {s : Cl} {x y : Int} (h1 : 1 ≤ o) (h2 : o ≤ 6) (h3 : o = 1 ∨ s = 0) (h4 : 0 ≤ x) (h5 : x ≤ if o = 4 ∨ o = 5 then (E : Int) else 0) (h6 : 0 ≤ y) (h7 : y ≤ if o = 5 then (E : Int) else 0) : InOk E ⟨o, s, x, y⟩ := ⟨⟨h1, h2⟩, h3, ⟨h4, h5⟩, ⟨h6, h7⟩⟩
/-- the code of a regex keeps to its bounds -/
def CodeOk (E : Nat) (c : List In) : Prop := ∀ t ∈ c, InOk E t ∧ t.op ≤ 5
theorem CodeOk.app {E : Nat} {c d : List In} (h : CodeOk E c) (h' : CodeOk E d) : CodeOk E (c ++ d) := fun t ht => (List.mem_append.1 ht).elim (h t) (h' t)
theorem CodeOk.cons {E : Nat} {t : In} {d : List In} (h : InOk E t ∧ t.op ≤ 5) (h' : CodeOk E d) : CodeOk E (t :: d) := fun u hu => by
  rcases List.mem_cons.1 hu with rfl | hu
  · exact h
  · exact h' u hu
theorem CodeOk.nil {E : Nat} : CodeOk E [] := fun t ht => by cases ht
theorem ok_split {E x y : Nat} (hx : x ≤ E) (hy : y ≤ E) : InOk E ⟨5, 0, x, y⟩ ∧ (5 : Int) ≤ 5 :=
  ⟨ok_mk (by decide) (by decide) (.inr rfl) (by omega) (by simp; omega) (by omega) (by simp; omega), by decide⟩
theorem ok_jump {E x : Nat} (hx : x ≤ E) : InOk E ⟨4, 0, x, 0⟩ ∧ (4 : Int) ≤ 5 :=
  ⟨ok_mk (by decide) (by decide) (.inr rfl) (by omega) (by simp; omega) (by decide) (by split <;> omega), by decide⟩
theorem ok_leaf {E : Nat} {o : Int} {s : Cl} (h1 : 1 ≤ o) (h2 : o ≤ 3) (h3 : o = 1 ∨ s = 0) : InOk E ⟨o, s, 0, 0⟩ ∧ o ≤ 5 :=
  ⟨ok_mk h1 (by omega) h3 (by decide) (by split <;> omega) (by decide) (by split <;> omega), by omega⟩
theorem copies_ok {E : Nat} {c : Nat → List In} {L : Nat} (h : ∀ b, b + L ≤ E → CodeOk E (c b)) : ∀ k b, b + k * L ≤ E → CodeOk E (copies c L k b)
  | 0, b, _ => .nil
  | k + 1, b, hb => by
    rw [Nat.succ_mul] at hb
    exact (h b (by omega)).app (copies_ok h k (b + L) (by omega))
theorem opts_ok {E e : Nat} {c : Nat → List In} {L : Nat} (h : ∀ b, b + L ≤ E → CodeOk E (c b)) (he : e ≤ E) : ∀ k b, b + k * (L + 1) ≤ E → CodeOk E (opts c L e k b)
  | 0, b, _ => .nil
  | k + 1, b, hb => by
    rw [Nat.succ_mul] at hb
    exact .cons (ok_split (by omega) he) ((h (b + 1) (by omega)).app (opts_ok h he k (b + 1 + L) (by omega)))
theorem oneC_ok {E : Nat} {x : Nd} {c a : Nat → List In} {L A b : Nat} (hx : ndOk x = true) (hc : ∀ b, b + L ≤ E → CodeOk E (c b)) (ha : ∀ b, b + A ≤ E → CodeOk E (a b)) (hb : b + lenOne x L A ≤ E) : CodeOk E (oneC x c a L b) := by
  unfold oneC
  unfold lenOne at hb
  by_cases h1 : x.op = 1
  · rw [if_pos h1]
    exact .cons (ok_leaf (by decide) (by decide) (.inl rfl)) .nil
  rw [if_neg h1]
  by_cases h2 : x.op = 2
  · rw [if_pos h2]
    exact .cons (ok_leaf (by decide) (by decide) (.inr rfl)) .nil
  rw [if_neg h2]
  by_cases h3 : x.op = 3
  · rw [if_pos h3]
    exact .cons (ok_leaf (by decide) (by decide) (.inr rfl)) .nil
  rw [if_neg h3]
  rw [if_neg (by omega)] at hb
  by_cases h5 : x.op = 5
  · rw [if_pos h5] at hb ⊢
    exact ha b hb
  rw [if_neg h5] at hb ⊢
  by_cases h6 : x.op = 6
  · rw [if_pos h6] at hb ⊢
    unfold repC
    by_cases hm : x.mx = -1
    · rw [if_pos hm] at hb
      simp only [hm, if_true]
      exact (copies_ok hc _ _ (by omega)).app (.cons (ok_split (by omega) (by omega)) ((hc _ (by omega)).app (.cons (ok_jump (by omega)) .nil)))
    · rw [if_neg hm] at hb
      simp only [hm, if_false]
      exact (copies_ok hc _ _ (by omega)).app (opts_ok hc (by omega) _ _ (by omega))
  · rw [if_neg h6] at hb ⊢
    exact hc b hb
theorem code_ok {E : Nat} : ∀ (f : F) (md : Bool) (b e : Nat), f.wf → b + lenM f md ≤ E → e ≤ E → CodeOk E (code f md b e)
  | .nil, _, _, _, _, _, _ => .nil
  | .nd x ks r, md, b, e, hw, hb, he => by
    have hc : ∀ b, b + lenM ks false ≤ E → CodeOk E (code ks false b 0) := fun b hb => code_ok ks false b 0 hw.2.2.1 hb (by omega)
    have ha : ∀ b, b + lenM ks true ≤ E → CodeOk E (code ks true b (b + lenM ks true)) := fun b hb => code_ok ks true b _ hw.2.2.1 hb hb
    cases md with
    | false =>
      simp only [lenM, Bool.false_eq_true, if_false] at hb
      simp only [code, Bool.false_eq_true, if_false]
      exact (oneC_ok hw.1 hc ha (by omega)).app (code_ok r false _ 0 hw.2.2.2 (by omega) (by omega))
    | true =>
      cases r with
      | nil =>
        simp only [lenM, if_true] at hb
        simp only [code, if_true]
        exact oneC_ok hw.1 hc ha (by omega)
      | nd y ks' r' =>
        have hL : lenM (.nd x ks (.nd y ks' r')) true = lenOne x (lenM ks false) (lenM ks true) + 2 + lenM (.nd y ks' r') true := rfl
        rw [hL] at hb
        show CodeOk E (⟨5, 0, (b + 1 : Nat), (b + lenOne x (lenM ks false) (lenM ks true) + 2 : Nat)⟩ :: (oneC x (fun b => code ks false b 0) (fun b => code ks true b (b + lenM ks true)) (lenM ks false) (b + 1) ++ (⟨4, 0, e, 0⟩ :: code (.nd y ks' r') true (b + lenOne x (lenM ks false) (lenM ks true) + 2) e)))
        exact .cons (ok_split (by omega) (by omega)) ((oneC_ok hw.1 hc ha (by omega)).app (.cons (ok_jump he) (code_ok (.nd y ks' r') true _ e hw.2.2.2 (by omega) he)))
/-- how long the code is -/
theorem one_len {x : Nd} {L A W k : Nat} (hx : ndOk x = true) (hL : L + 3 * k ≤ 4 * W) (hA : A + k + 2 ≤ 4 * W ∨ k = 0) (hk : x.kids = (k : Int)) : lenOne x L A + 3 ≤ 4 * (1 + times x * W) := by
  unfold lenOne times
  by_cases h1 : x.op = 1 ∨ x.op = 2 ∨ x.op = 3
  · rw [if_pos h1]; omega
  rw [if_neg h1]
  by_cases h5 : x.op = 5
  · have := alt_kids hx h5
    rw [if_pos h5, if_neg (by omega)]; omega
  rw [if_neg h5]
  by_cases h6 : x.op = 6
  · have hr := rep_flds hx h6
    have hk1 : k = 1 := by
      simp only [ndOk, Bool.and_eq_true, kidsOk] at hx
      have h := hx.2
      rw [if_pos (.inl h6)] at h
      simp at h; omega
    subst hk1
    rw [if_pos h6, if_pos h6]
    by_cases hm : x.mx = -1
    · rw [if_pos hm, if_pos (by omega)]
      have : (x.mn.toNat + 1) * L + (x.mn.toNat + 1) * 3 ≤ 4 * ((x.mn.toNat + 1) * W) := by
        have := Nat.mul_le_mul_left (x.mn.toNat + 1) hL
        rw [Nat.mul_add] at this
        rw [← Nat.mul_assoc, Nat.mul_comm 4, Nat.mul_assoc]; omega
      rw [Nat.succ_mul] at this
      omega
    · rw [if_neg hm, if_neg (by omega)]
      have h1 : x.mn.toNat * L + (x.mx - x.mn).toNat * (L + 1) ≤ x.mx.toNat * (L + 1) := by
        have : x.mx.toNat = x.mn.toNat + (x.mx - x.mn).toNat := by omega
        rw [this, Nat.add_mul]
        have := Nat.mul_le_mul_left x.mn.toNat (show L ≤ L + 1 by omega)
        omega
      have h2 : x.mx.toNat * (L + 1) ≤ max x.mx.toNat 1 * (4 * W) := Nat.mul_le_mul (Nat.le_max_left _ _) (by omega)
      have h3 : max x.mx.toNat 1 * (4 * W) = 4 * (max x.mx.toNat 1 * W) := by rw [Nat.mul_left_comm]
      omega
  · rw [if_neg h6, if_neg h6]; omega
theorem code_weight : ∀ (f : F), f.wf → lenM f false + 3 * f.num ≤ 4 * f.weight ∧ (lenM f true + f.num + 2 ≤ 4 * f.weight ∨ f.num = 0)
  | .nil, _ => by simp [lenM, F.num, F.weight]
  | .nd x ks r, hw => by
    obtain ⟨h1, h2⟩ := code_weight ks hw.2.2.1
    obtain ⟨h3, h4⟩ := code_weight r hw.2.2.2
    have h5 := one_len hw.1 h1 h2 hw.2.1.symm
    constructor
    · simp only [lenM, Bool.false_eq_true, if_false, F.num, F.weight]; omega
    · left
      cases r with
      | nil => simp only [lenM, if_true, F.num, F.weight]; omega
      | nd y ks' r' =>
        have hL : lenM (.nd x ks (.nd y ks' r')) true = lenOne x (lenM ks false) (lenM ks true) + 2 + lenM (.nd y ks' r') true := rfl
        have h4 := h4.resolve_right (by simp [F.num])
        rw [hL]
        simp only [F.num, F.weight] at h4 ⊢
        omega
/-- the machine of a forest -/
def mach (f : F) : List In := code f false 0 0 ++ [⟨6, 0, 0, 0⟩]
theorem mach_len (f : F) : (mach f).length = lenM f false + 1 := by simp [mach, code_len]
theorem mach_ok {f : F} (hw : f.wf) (hW : f.weight ≤ 16384) : MOk (mach f) := by
  have h1 := (code_weight f hw).1
  refine ⟨by rw [mach_len]; omega, by rw [mach_len]; omega, fun i t hi => ?_⟩
  have hl := (List.getElem?_eq_some_iff.1 hi).1
  rw [mach_len] at hl ⊢
  rw [Nat.add_sub_cancel]
  unfold mach at hi
  rcases Nat.lt_or_ge i (code f false 0 0).length with h | h
  · rw [List.getElem?_append_left h] at hi
    have := code_ok (E := lenM f false) f false 0 0 hw (by omega) (by omega) t (List.mem_of_getElem? hi)
    rw [code_len] at h
    exact ⟨this.1, fun _ => by omega⟩
  · rw [List.getElem?_append_right h] at hi
    rw [code_len] at h
    have : i - (code f false 0 0).length = 0 := by rw [code_len]; omega
    rw [this] at hi
    simp at hi
    subst hi
    exact ⟨⟨⟨by decide, by decide⟩, .inr rfl, ⟨by decide, by simp⟩, ⟨by decide, by simp⟩⟩, fun h => by simp at h⟩
theorem mach_hit {f : F} (hw : f.wf) {w : List UInt8} {p q : Nat} : Hit (mach f) w p q ↔ der w f false p q := by
  rw [← means_all hw]
  constructor
  · rintro ⟨i, t, hr, ht, ho⟩
    have hl := (List.getElem?_eq_some_iff.1 ht).1
    rw [mach_len] at hl
    have hi : i = lenM f false := by
      rcases Nat.lt_or_ge i (lenM f false) with h | h
      · unfold mach at ht
        rw [List.getElem?_append_left (by rw [code_len]; exact h)] at ht
        have := code_ok (E := lenM f false) f false 0 0 hw (by omega) (by omega) t (List.mem_of_getElem? ht)
        omega
      · omega
    subst hi
    exact hr
  · intro h
    refine ⟨_, ⟨6, 0, 0, 0⟩, h, ?_, rfl⟩
    unfold mach
    rw [List.getElem?_append_right (by rw [code_len]; omega), code_len]; simp
end Go.HL.Kl.Mc

/- Mathematics of sets of places. Conditions: none. -/
namespace Go.HL.Kl.Mc
open Go Go.HL Go.HL.Kl
/-- a list of booleans that tells a set of places -/
structure IsS (l : List Bool) (N : Nat) (S : Nat → Prop) : Prop where
  len : l.length = N + 1
  get : ∀ p, p ≤ N → (l[p]? = some true ↔ S p)
theorem IsS.iff {l : List Bool} {N : Nat} {S S' : Nat → Prop} (h : IsS l N S) (hs : ∀ p, p ≤ N → (S p ↔ S' p)) : IsS l N S' := ⟨h.len, fun p hp => (h.get p hp).trans (hs p hp)⟩
theorem IsS.eq {l l' : List Bool} {N : Nat} {S : Nat → Prop} (h : IsS l N S) (h' : IsS l' N S) : l = l' := by
  apply List.ext_getElem?
  intro i
  by_cases hi : i ≤ N
  · have e1 := (h.get i hi).trans (h'.get i hi).symm
    have l1 : i < l.length := by rw [h.len]; omega
    have l2 : i < l'.length := by rw [h'.len]; omega
    rw [List.getElem?_eq_getElem l1, List.getElem?_eq_getElem l2] at e1 ⊢
    cases h1 : l[i] <;> cases h2 : l'[i] <;> simp [h1, h2] at e1 ⊢
  · rw [List.getElem?_eq_none (by rw [h.len]; omega), List.getElem?_eq_none (by rw [h'.len]; omega)]
def img (D : Nat → Nat → Prop) (S : Nat → Prop) (q : Nat) : Prop := ∃ p, S p ∧ D p q
/-- derivations keep to the text -/
def Inn (N : Nat) (D : Nat → Nat → Prop) : Prop := ∀ p q, p ≤ N → D p q → q ≤ N
/-- those of one node with all in it -/
def der1 (w : List UInt8) (x : Nd) (ks : F) (p q : Nat) : Prop := der w (.nd x ks .nil) false p q
theorem der1_def {w : List UInt8} {x : Nd} {ks : F} {p q : Nat} : der1 w x ks p q ↔
    (if x.op = 1 then q = p + 1 ∧ ∃ b, w[p]? = some b ∧ x.set.getLsbD b.toNat = true
      else if x.op = 2 then p = 0 ∧ q = 0
      else if x.op = 3 then p = w.length ∧ q = p
      else if x.op = 5 then der w ks true p q
      else if x.op = 6 then rounds x (der w ks false) p q
      else der w ks false p q) := by
  unfold der1
  rw [der]
  simp [der]
theorem der_cat {w : List UInt8} {x : Nd} {ks r : F} {p q : Nat} : der w (.nd x ks r) false p q ↔ ∃ t, der1 w x ks p t ∧ der w r false t q := by
  conv => lhs; rw [der]
  simp only [Bool.false_eq_true, if_false, der1_def]
theorem der_alt {w : List UInt8} {x : Nd} {ks r : F} {p q : Nat} : der w (.nd x ks r) true p q ↔ der1 w x ks p q ∨ der w r true p q := by
  conv => lhs; rw [der]
  simp only [if_true, der1_def]
theorem der_nil {w : List UInt8} {p q : Nat} : der w .nil false p q ↔ p = q := by simp [der]
theorem der_nil' {w : List UInt8} {p q : Nat} : der w .nil true p q ↔ False := by simp [der]
theorem pow_inn {N : Nat} {D : Nat → Nat → Prop} (h : Inn N D) : ∀ k, Inn N (pow D k)
  | 0, p, q, hp, e => by obtain rfl : p = q := e
                         exact hp
  | k + 1, p, q, hp, ⟨t, h1, h2⟩ => pow_inn h k t q (h p t hp h1) h2
theorem rounds_inn {N : Nat} {x : Nd} {D : Nat → Nat → Prop} (h : Inn N D) : Inn N (rounds x D) := fun p q hp ⟨k, _, _, hk⟩ => pow_inn h k p q hp hk
theorem der_inn {w : List UInt8} : ∀ (f : F) (md : Bool), Inn w.length (der w f md)
  | .nil, md, p, q, hp, h => by
    obtain ⟨_, rfl⟩ : md = false ∧ p = q := by simpa [der] using h
    exact hp
  | .nd x ks r, md, p, q, hp, h => by
    have h1 : ∀ p q, p ≤ w.length → der1 w x ks p q → q ≤ w.length := by
      intro p q hp h
      rw [der1_def] at h
      split at h
      · obtain ⟨rfl, b, hb, _⟩ := h
        exact (List.getElem?_eq_some_iff.1 hb).1
      split at h
      · omega
      split at h
      · omega
      split at h
      · exact der_inn ks true p q hp h
      split at h
      · exact rounds_inn (der_inn ks false) p q hp h
      · exact der_inn ks false p q hp h
    cases md with
    | false =>
      obtain ⟨t, h2, h3⟩ := der_cat.1 h
      exact der_inn r false t q (h1 p t hp h2) h3
    | true =>
      rcases der_alt.1 h with h2 | h2
      · exact h1 p q hp h2
      · exact der_inn r true p q hp h2
theorem der1_inn {w : List UInt8} {x : Nd} {ks : F} : Inn w.length (der1 w x ks) := der_inn _ _
theorem pow_succ' {D : Nat → Nat → Prop} {k p q : Nat} : pow D (k + 1) p q ↔ ∃ t, pow D k p t ∧ D t q := by
  rw [pow_add]
  simp [pow]
/-- so many rounds or more, up to k -/
def upTo (D : Nat → Nat → Prop) (S : Nat → Prop) (mn k q : Nat) : Prop := ∃ j, mn ≤ j ∧ j ≤ k ∧ img (pow D j) S q
theorem img_succ {D : Nat → Nat → Prop} {S : Nat → Prop} {k q : Nat} : img D (img (pow D k) S) q ↔ img (pow D (k + 1)) S q := by
  constructor
  · rintro ⟨t, ⟨p, hp, h1⟩, h2⟩; exact ⟨p, hp, pow_succ'.2 ⟨t, h1, h2⟩⟩
  · rintro ⟨p, hp, h⟩; obtain ⟨t, h1, h2⟩ := pow_succ'.1 h; exact ⟨t, ⟨p, hp, h1⟩, h2⟩
theorem upTo_succ {D : Nat → Nat → Prop} {S : Nat → Prop} {mn k q : Nat} (hk : mn ≤ k) : upTo D S mn (k + 1) q ↔ upTo D S mn k q ∨ img (pow D (k + 1)) S q := by
  constructor
  · rintro ⟨j, h1, h2, h3⟩
    by_cases e : j = k + 1
    · subst e; exact .inr h3
    · exact .inl ⟨j, h1, by omega, h3⟩
  · rintro (⟨j, h1, h2, h3⟩ | h)
    · exact ⟨j, h1, by omega, h3⟩
    · exact ⟨k + 1, by omega, by omega, h⟩
theorem upTo_start {D : Nat → Nat → Prop} {S : Nat → Prop} {mn q : Nat} : upTo D S mn mn q ↔ img (pow D mn) S q := by
  constructor
  · rintro ⟨j, h1, h2, h3⟩
    obtain rfl : j = mn := by omega
    exact h3
  · exact fun h => ⟨mn, Nat.le_refl _, Nat.le_refl _, h⟩
/-- nothing new: never anything new -/
theorem upTo_fix {D : Nat → Nat → Prop} {S : Nat → Prop} {mn k : Nat} {N : Nat} (hS : ∀ p, S p → p ≤ N) (hD : Inn N D) (hk : mn ≤ k) (h : ∀ q, q ≤ N → img (pow D (k + 1)) S q → upTo D S mn k q) : ∀ q, (∃ j, mn ≤ j ∧ img (pow D j) S q) → upTo D S mn k q := by
  have key : ∀ i q, img (pow D (k + i)) S q → upTo D S mn k q := by
    intro i
    induction i with
    | zero => intro q hq; exact ⟨k, hk, Nat.le_refl _, hq⟩
    | succ i ih =>
      intro q hq
      rw [← Nat.add_assoc] at hq
      obtain ⟨t, ht, h2⟩ := img_succ.2 hq
      obtain ⟨j, h3, h4, h5⟩ := ih t ht
      have h6 : img (pow D (j + 1)) S q := img_succ.1 ⟨t, h5, h2⟩
      by_cases e : j = k
      · subst e
        obtain ⟨p, hp, h7⟩ := h6
        exact h q (pow_inn hD _ p q (hS p hp) h7) ⟨p, hp, h7⟩
      · exact ⟨j + 1, by omega, by omega, h6⟩
  rintro q ⟨j, hj, hq⟩
  by_cases e : j ≤ k
  · exact ⟨j, hj, e, hq⟩
  · exact key (j - k) q (by rwa [show k + (j - k) = j by omega])
theorem img_rounds {x : Nd} {D : Nat → Nat → Prop} {S : Nat → Prop} {q : Nat} (h0 : 0 ≤ x.mn) : img (rounds x D) S q ↔ ∃ j, x.mn.toNat ≤ j ∧ (x.mx = -1 ∨ (j : Int) ≤ x.mx) ∧ img (pow D j) S q := by
  constructor
  · rintro ⟨p, hp, k, h1, h2, h3⟩; exact ⟨k, by omega, h2, p, hp, h3⟩
  · rintro ⟨j, h1, h2, p, hp, h3⟩; exact ⟨p, hp, j, by omega, h2, h3⟩
end Go.HL.Kl.Mc

/- Nodes and instructions as structs: compared. Conditions: none. -/
namespace Go.HL.Kl.Mc
open Go Go.HL Go.HL.Kl
section
variable {P : Program} {κ : Cx} {L : Loc} {H : Hp} {ty t t' : TypeId} {x y : Operand}
theorem fq_cls {w : World} {n e b e1 b1 : Nat} {k' : IntKind} {xs ys : Array Value} {l : List (Nat × Nat)} {c d : Kl.Cl} {r : Bool} [TU P e (.array 4 e1)] [TG P e false] [TI P e 4 b] [TU P e1 (.int k')] [TG P e1 true] [TI P e1 1 b1]
    (hx : xs.extract 1 5 = (Ec c).toArray) (hy : ys.extract 1 5 = (Ec d).toArray) (h : FQ P w (n + 1) xs ys l r) : FQ P w (n + 1) xs ys ((e, 1) :: l) (decide (c = d) && r) := by
  refine .cons (part_agg hx) (part_agg hy) ?_ h
  have := re_arr (P := P) (t := e) w n (j := .u64) (Ic c) (Ic d) (Ic_len c) (Ic_len d)
  rw [← Ec_ints, ← Ec_ints] at this
  rw [this]
  congr 1
  exact decide_eq_decide.2 Ic_inj
theorem nd_fq {a c i e b be : Nat} {k1 k2 ke : IntKind} [TU P a (.int k1)] [TG P a true] [TU P i (.int k2)] [TG P i true] [TU P c (.array 4 e)] [TG P c false] [TI P c 4 b] [TU P e (.int ke)] [TG P e true] [TI P e 1 be] (w : World) (p q : Nd) : FQ P w 9998 (En p).toArray (En q).toArray [(a, 0), (c, 1), (i, 5), (i, 6), (i, 7), (i, 8)] (decide (p = q)) := by
  have h : FQ P w 9998 (En p).toArray (En q).toArray [(a, 0), (c, 1), (i, 5), (i, 6), (i, 7), (i, 8)] _ :=
    .int (j := .i8) (p := p.op) (q := q.op) rfl rfl (fq_cls (c := p.set) (d := q.set) rfl rfl (.int (j := .i64) (p := p.n) (q := q.n) rfl rfl (.int (j := .i64) (p := p.mn) (q := q.mn) rfl rfl (.int (j := .i64) (p := p.mx) (q := q.mx) rfl rfl (.int (j := .i64) (p := p.kids) (q := q.kids) rfl rfl .nil)))))
  have e : (p.op == q.op && (decide (p.set = q.set) && (p.n == q.n && (p.mn == q.mn && (p.mx == q.mx && (p.kids == q.kids && true)))))) = decide (p = q) := by
    cases p; cases q
    simp only [Nd.mk.injEq, Bool.and_true]
    rw [Bool.eq_iff_iff]
    simp
  rw [← e]; exact h
theorem s_neq_nd {a c i e b be : Nat} {k1 k2 ke : IntKind} [EG P t] [TU P a (.int k1)] [TG P a true] [TU P i (.int k2)] [TG P i true] [TU P c (.array 4 e)] [TG P c false] [TI P c 4 b] [TU P e (.int ke)] [TG P e true] [TI P e 1 be] [TQ P t [(a, 0), (c, 1), (i, 5), (i, 6), (i, 7), (i, 8)]] {p q : Nd} (hx : ev L x = some (.agg (En p).toArray)) (hy : ev L y = some (.agg (En q).toArray)) : Step P κ (.binOp .neq t x y t') ty L H (.bool (!decide (p = q))) :=
  s_neq_st hx hy fun w => nd_fq w p q
theorem s_eql_nd {a c i e b be : Nat} {k1 k2 ke : IntKind} [EG P t] [TU P a (.int k1)] [TG P a true] [TU P i (.int k2)] [TG P i true] [TU P c (.array 4 e)] [TG P c false] [TI P c 4 b] [TU P e (.int ke)] [TG P e true] [TI P e 1 be] [TQ P t [(a, 0), (c, 1), (i, 5), (i, 6), (i, 7), (i, 8)]] {p q : Nd} (hx : ev L x = some (.agg (En p).toArray)) (hy : ev L y = some (.agg (En q).toArray)) : Step P κ (.binOp .eql t x y t') ty L H (.bool (decide (p = q))) :=
  s_eql_st hx hy fun w => nd_fq w p q
theorem in_fq {a c i e b be : Nat} {k1 k2 ke : IntKind} [TU P a (.int k1)] [TG P a true] [TU P i (.int k2)] [TG P i true] [TU P c (.array 4 e)] [TG P c false] [TI P c 4 b] [TU P e (.int ke)] [TG P e true] [TI P e 1 be] (w : World) (p q : In) : FQ P w 9998 (Ein p).toArray (Ein q).toArray [(a, 0), (c, 1), (i, 5), (i, 6)] (decide (p = q)) := by
  have h : FQ P w 9998 (Ein p).toArray (Ein q).toArray [(a, 0), (c, 1), (i, 5), (i, 6)] _ :=
    .int (j := .i8) (p := p.op) (q := q.op) rfl rfl (fq_cls (c := p.set) (d := q.set) rfl rfl (.int (j := .i64) (p := p.x) (q := q.x) rfl rfl (.int (j := .i64) (p := p.y) (q := q.y) rfl rfl .nil)))
  have e : (p.op == q.op && (decide (p.set = q.set) && (p.x == q.x && (p.y == q.y && true)))) = decide (p = q) := by
    cases p; cases q
    simp only [In.mk.injEq, Bool.and_true]
    rw [Bool.eq_iff_iff]
    simp
  rw [← e]; exact h
theorem s_neq_in {a c i e b be : Nat} {k1 k2 ke : IntKind} [EG P t] [TU P a (.int k1)] [TG P a true] [TU P i (.int k2)] [TG P i true] [TU P c (.array 4 e)] [TG P c false] [TI P c 4 b] [TU P e (.int ke)] [TG P e true] [TI P e 1 be] [TQ P t [(a, 0), (c, 1), (i, 5), (i, 6)]] {p q : In} (hx : ev L x = some (.agg (Ein p).toArray)) (hy : ev L y = some (.agg (Ein q).toArray)) : Step P κ (.binOp .neq t x y t') ty L H (.bool (!decide (p = q))) :=
  s_neq_st hx hy fun w => in_fq w p q
theorem s_eql_in {a c i e b be : Nat} {k1 k2 ke : IntKind} [EG P t] [TU P a (.int k1)] [TG P a true] [TU P i (.int k2)] [TG P i true] [TU P c (.array 4 e)] [TG P c false] [TI P c 4 b] [TU P e (.int ke)] [TG P e true] [TI P e 1 be] [TQ P t [(a, 0), (c, 1), (i, 5), (i, 6)]] {p q : In} (hx : ev L x = some (.agg (Ein p).toArray)) (hy : ev L y = some (.agg (Ein q).toArray)) : Step P κ (.binOp .eql t x y t') ty L H (.bool (decide (p = q))) :=
  s_eql_st hx hy fun w => in_fq w p q
end
end Go.HL.Kl.Mc

/- Part of the proofs over this seat: see the text that holds the theorem. Conditions: each theorem bears its own. -/
namespace Go.HL.Kl.Mc
open Go Go.HL Go.HL.Kl
def zN : Nd := ⟨0, 0, 0, 0, 0, 0⟩
theorem En_zero : En zN = [.int .i8 0, .int .u64 0, .int .u64 0, .int .u64 0, .int .u64 0, .int .i64 0, .int .i64 0, .int .i64 0, .int .i64 0] := by
  show _ :: (Ec 0#256 ++ _) = _
  rw [Ec_zero]; rfl
/-- a node without what its kind names -/
def zr (x : Nd) : Nd := ⟨0, if x.op = 1 then 0 else x.set, if x.op = 7 ∨ x.op = 8 then 0 else x.n, if x.op = 6 then 0 else x.mn, if x.op = 6 then 0 else x.mx, 0⟩
theorem zr_iff {x : Nd} : zr x = zN ↔ (x.op = 1 ∨ x.set = 0) ∧ (x.op = 7 ∨ x.op = 8 ∨ x.n = 0) ∧ (x.op = 6 ∨ x.mn = 0 ∧ x.mx = 0) := by
  simp only [zr, zN, Nd.mk.injEq, true_and, and_true]
  by_cases h1 : x.op = 1
  · simp [h1]
  by_cases h6 : x.op = 6
  · simp [h6]
  by_cases h7 : x.op = 7
  · simp [h7]
  by_cases h8 : x.op = 8
  · simp [h8]
  · simp [h1, h6, h7, h8]
theorem ndOk_zr {x : Nd} (h : zr x ≠ zN) : ndOk x = false := by
  cases hb : ndOk x
  · rfl
  exfalso
  apply h
  rw [zr_iff]
  simp only [ndOk, flds, Bool.and_eq_true, Bool.or_eq_true, decide_eq_true_eq] at hb
  obtain ⟨⟨⟨⟨_, h1⟩, h2⟩, h3⟩, _⟩ := hb
  refine ⟨h1, by rcases h2 with h2 | h2 <;> omega, ?_⟩
  by_cases h6 : x.op = 6
  · exact .inl h6
  · rw [if_neg h6] at h3; simp at h3; exact .inr h3
theorem ndOk_kidsOk {x : Nd} (h1 : 1 ≤ x.op ∧ x.op ≤ 8) (h2 : x.op = 6 → 0 ≤ x.mn ∧ x.mn ≤ 255 ∧ (x.mx = -1 ∨ x.mn ≤ x.mx ∧ x.mx ≤ 255)) (hz : zr x = zN) : ndOk x = kidsOk x := by
  rw [zr_iff] at hz
  obtain ⟨a, b, c⟩ := hz
  have : flds x = true := by
    simp only [flds, Bool.and_eq_true, Bool.or_eq_true, decide_eq_true_eq]
    refine ⟨⟨⟨h1, a⟩, by omega⟩, ?_⟩
    by_cases h6 : x.op = 6
    · rw [if_pos h6]; simpa using h2 h6
    · rw [if_neg h6]; simp; omega
  rw [ndOk, this, Bool.true_and]
theorem ndOk_rep {x : Nd} (h6 : x.op = 6) (h : ¬ (0 ≤ x.mn ∧ x.mn ≤ 255 ∧ (x.mx = -1 ∨ x.mn ≤ x.mx ∧ x.mx ≤ 255))) : ndOk x = false := by
  cases hb : ndOk x
  · rfl
  · exact absurd (rep_flds hb h6) h
theorem ndOk_op {x : Nd} (h : ¬ (1 ≤ x.op ∧ x.op ≤ 8)) : ndOk x = false := by
  rw [ndOk, flds, decide_eq_false h]; simp
end Go.HL.Kl.Mc
namespace Go.Proofs.Ytiggliigookieaa
open Go Go.HL Go.Proofs Go.HL.Kl Go.HL.Kl.Mc
set_option maxHeartbeats 1000000 in
theorem ndOk_fn (x : Nd) : HL.Fn Try.prog 52 [.agg (En x).toArray] (fun _ => True) [] (fun v _ => v = .bool (ndOk x)) := by
  refine fn_of Try.func52 rfl rfl rfl fun w0 hw => ?_
  refine c_seq fun _ hK1 => ?_
  refine c_region ?_
  refine o_box rfl rfl rfl fun b1 => ?_
  refine o_step rfl (s_assign rfl) ?_
  refine o_nil ?_
  refine x_then (hK1 _ _ ?_)
  refine c_seq fun _ hK2 => ?_
  refine c_region ?_
  refine o_step rfl (s_ldB rfl (RdPK.cels (.own meA)) lnA) ?_
  refine o_alloc (l := En zN) (by rw [En_zero]; rfl) rfl fun b3 => ?_
  refine o_stW rfl rfl upA lnA lnA onA ?_
  refine o_nil ?_
  refine x_then (hK2 _ _ ?_)
  refine c_seq fun _ hK3 => ?_
  refine c_region ?_
  refine o_step rfl (s_field rfl rfl (by decide)) ?_
  refine o_store rfl rfl rfl upA ltA rfl ?_
  rw [show (En x).set 0 (.int .i8 0) = En (⟨0, x.set, x.n, x.mn, x.mx, x.kids⟩ : Nd) from rfl]
  refine o_step rfl (s_field rfl rfl (by decide)) ?_
  refine o_store rfl rfl rfl upA ltA rfl ?_
  rw [show (En (⟨0, x.set, x.n, x.mn, x.mx, x.kids⟩ : Nd)).set 8 (.int .i64 0) = En (⟨0, x.set, x.n, x.mn, x.mx, 0⟩ : Nd) from rfl]
  refine o_nil ?_
  refine x_then (hK3 _ _ ?_)
  refine c_seqJ (ι := Unit) (fun g => (1 ≤ x.op ∧ x.op ≤ 8) ∧ (x.op = 6 → 0 ≤ x.mn ∧ x.mn ≤ 255 ∧ (x.mx = -1 ∨ x.mn ≤ x.mx ∧ x.mx ≤ 255))) (fun g => []) [(1, _), (3, _)] (fun g => [(b3, .cells (En (zr x)).toArray 51 (0, 0)), (b1, .cells (En x).toArray 51 (0, 0))]) sbA ?_ ?_
  ·
   rintro g hI
   refine c_seq fun _ hK5 => ?_
   refine c_seq fun _ hK6 => ?_
   refine c_region ?_
   refine o_step rfl (s_ldB rfl (RdPK.cels (.own meA)) lnA) ?_
   refine o_step rfl (step_cast (v' := .agg (En zN).toArray) (s_build (cs := [_, _, _, _, _, _, _, _, _]) (vs := []) rfl rfl .nil) (by rw [En_zero])) ?_
   by_cases hz : zr x ≠ zN
   ·
    refine o_step rfl (step_cast (v' := .bool true) (s_neq_nd rfl rfl) (by rw [decide_eq_false hz]; rfl)) ?_
    refine o_nil ?_
    refine x_then (hK6 _ _ ?_)
    refine c_true rfl ?_
    refine c_seq fun _ hK7 => ?_
    refine c_region ?_
    refine o_step rfl (s_assign rfl) ?_
    refine o_nil ?_
    refine x_then (hK7 _ _ ?_)
    refine c_ret ?_
    refine x_then_ret (?_)
    exact x_ret rfl (.tmp rfl (.nil)) ((congrArg Value.bool (ndOk_zr hz).symm))
   ·
    have hk := ndOk_kidsOk hI.1 hI.2 (Decidable.not_not.1 hz)
    unfold kidsOk at hk
    refine o_step rfl (step_cast (v' := .bool false) (s_neq_nd rfl rfl) (by rw [decide_eq_true (Decidable.not_not.1 hz)]; rfl)) ?_
    refine o_nil ?_
    refine x_then (hK6 _ _ ?_)
    refine c_false rfl ?_
    refine c_skip ?_
    refine x_then (hK5 _ _ ?_)
    refine c_seq fun _ hK8 => ?_
    refine c_seq fun _ hK9 => ?_
    refine c_region ?_
    refine o_step rfl (s_field rfl rfl (by decide)) ?_
    refine o_step rfl (s_ld rfl (.own meA rfl)) ?_
    refine o_nil ?_
    refine x_then (hK9 _ _ ?_)
    refine c_block ?_
    refine c_seq fun _ hK10 => ?_
    refine c_seq fun _ hK11 => ?_
    refine c_region ?_
    by_cases k6 : x.op = 6
    ·
     refine o_step rfl (step_cast (v' := .bool true) (s_eql rfl rfl) (by rw [decide_eq_true k6])) ?_
     refine o_step rfl (s_assign rfl) ?_
     refine o_nil ?_
     refine x_then (hK11 _ _ ?_)
     refine c_true rfl ?_
     refine c_skip ?_
     refine x_then (hK10 _ _ ?_)
     refine c_true rfl ?_
     refine c_seq fun _ hK12 => ?_
     refine c_region ?_
     refine o_step rfl (s_field rfl rfl (by decide)) ?_
     refine o_step rfl (s_ld rfl (.own meA rfl)) ?_
     refine o_step rfl (s_eql rfl rfl) ?_
     refine o_step rfl (s_assign rfl) ?_
     refine o_nil ?_
     refine x_then (hK12 _ _ ?_)
     refine c_ret ?_
     refine x_block_ret (x_then_ret (?_))
     exact x_ret rfl (.tmp rfl (.nil)) ((congrArg Value.bool (by rw [hk, if_pos (.inl k6)])))
    ·
     refine o_step rfl (step_cast (v' := .bool false) (s_eql rfl rfl) (by rw [decide_eq_false k6])) ?_
     refine o_step rfl (s_assign rfl) ?_
     refine o_nil ?_
     refine x_then (hK11 _ _ ?_)
     refine c_false rfl ?_
     refine c_region ?_
     by_cases k7 : x.op = 7
     ·
      refine o_step rfl (step_cast (v' := .bool true) (s_eql rfl rfl) (by rw [decide_eq_true k7])) ?_
      refine o_step rfl (s_assign rfl) ?_
      refine o_nil ?_
      refine x_then (hK10 _ _ ?_)
      refine c_true rfl ?_
      refine c_seq fun _ hK13 => ?_
      refine c_region ?_
      refine o_step rfl (s_field rfl rfl (by decide)) ?_
      refine o_step rfl (s_ld rfl (.own meA rfl)) ?_
      refine o_step rfl (s_eql rfl rfl) ?_
      refine o_step rfl (s_assign rfl) ?_
      refine o_nil ?_
      refine x_then (hK13 _ _ ?_)
      refine c_ret ?_
      refine x_block_ret (x_then_ret (?_))
      exact x_ret rfl (.tmp rfl (.nil)) ((congrArg Value.bool (by rw [hk, if_pos (.inr k7)])))
     ·
      refine o_step rfl (step_cast (v' := .bool false) (s_eql rfl rfl) (by rw [decide_eq_false k7])) ?_
      refine o_step rfl (s_assign rfl) ?_
      refine o_nil ?_
      refine x_then (hK10 _ _ ?_)
      refine c_false rfl ?_
      refine c_seq fun _ hK14 => ?_
      refine c_region ?_
      by_cases k5 : x.op = 5
      ·
       refine o_step rfl (step_cast (v' := .bool true) (s_eql rfl rfl) (by rw [decide_eq_true k5])) ?_
       refine o_step rfl (s_assign rfl) ?_
       refine o_nil ?_
       refine x_then (hK14 _ _ ?_)
       refine c_true rfl ?_
       refine c_seq fun _ hK15 => ?_
       refine c_region ?_
       refine o_step rfl (s_field rfl rfl (by decide)) ?_
       refine o_step rfl (s_ld rfl (.own meA rfl)) ?_
       refine o_step rfl (s_geq rfl rfl) ?_
       refine o_step rfl (s_assign rfl) ?_
       refine o_nil ?_
       refine x_then (hK15 _ _ ?_)
       refine c_ret ?_
       refine x_block_ret (x_then_ret (?_))
       exact x_ret rfl (.tmp rfl (.nil)) ((congrArg Value.bool (by rw [hk, if_neg (by omega), if_neg (by omega), if_pos k5])))
      ·
       refine o_step rfl (step_cast (v' := .bool false) (s_eql rfl rfl) (by rw [decide_eq_false k5])) ?_
       refine o_step rfl (s_assign rfl) ?_
       refine o_nil ?_
       refine x_then (hK14 _ _ ?_)
       refine c_false rfl ?_
       refine c_seq fun _ hK16 => ?_
       refine c_region ?_
       by_cases k4 : x.op = 4
       ·
        refine o_step rfl (step_cast (v' := .bool true) (s_eql rfl rfl) (by rw [decide_eq_true k4])) ?_
        refine o_step rfl (s_assign rfl) ?_
        refine o_nil ?_
        refine x_then (hK16 _ _ ?_)
        refine c_true rfl ?_
        refine c_seq fun _ hK17 => ?_
        refine c_region ?_
        refine o_step rfl (s_field rfl rfl (by decide)) ?_
        refine o_step rfl (s_ld rfl (.own meA rfl)) ?_
        by_cases k0 : x.kids = 0
        ·
         refine o_step rfl (step_cast (v' := .bool true) (s_eql rfl rfl) (by rw [decide_eq_true (by omega)])) ?_
         refine o_step rfl (s_move rfl) ?_
         refine o_no rfl rfl rfl rfl ?_
         refine o_no rfl rfl rfl rfl ?_
         refine o_no rfl rfl rfl rfl ?_
         refine o_step rfl (s_pick_t rfl rfl) ?_
         refine o_step rfl (s_assign rfl) ?_
         refine o_nil ?_
         refine x_then (hK17 _ _ ?_)
         refine c_ret ?_
         refine x_block_ret (x_then_ret (?_))
         exact x_ret rfl (.tmp rfl (.nil)) ((congrArg Value.bool (by rw [hk, if_neg (by omega), if_pos k4, decide_eq_true (by omega)])))
        ·
         refine o_step rfl (step_cast (v' := .bool false) (s_eql rfl rfl) (by rw [decide_eq_false (by omega)])) ?_
         refine o_step rfl (s_move rfl) ?_
         refine o_yes rfl rfl ?_
         refine o_step rfl (s_field rfl rfl (by decide)) ?_
         refine o_yes rfl rfl ?_
         refine o_step rfl (s_ld rfl (.own meA rfl)) ?_
         refine o_yes rfl rfl ?_
         refine o_step rfl (s_geq rfl rfl) ?_
         refine o_step rfl (s_pick_f rfl rfl) ?_
         refine o_step rfl (s_assign rfl) ?_
         refine o_nil ?_
         refine x_then (hK17 _ _ ?_)
         refine c_ret ?_
         refine x_block_ret (x_then_ret (?_))
         exact x_ret rfl (.tmp rfl (.nil)) ((congrArg Value.bool (by rw [hk, if_neg (by omega), if_pos k4]; exact decide_eq_decide.2 (by omega))))
       ·
        refine o_step rfl (step_cast (v' := .bool false) (s_eql rfl rfl) (by rw [decide_eq_false k4])) ?_
        refine o_step rfl (s_assign rfl) ?_
        refine o_nil ?_
        refine x_then (hK16 _ _ ?_)
        refine c_false rfl ?_
        refine c_skip ?_
        refine x_block ?_
        refine x_then (hK8 _ _ ?_)
        refine c_seq fun _ hK18 => ?_
        refine c_region ?_
        refine o_step rfl (s_field rfl rfl (by decide)) ?_
        refine o_step rfl (s_ld rfl (.own meA rfl)) ?_
        refine o_step rfl (s_eql rfl rfl) ?_
        refine o_step rfl (s_assign rfl) ?_
        refine o_nil ?_
        refine x_then (hK18 _ _ ?_)
        refine c_ret ?_
        refine ?_
        exact x_ret rfl (.tmp rfl (.nil)) ((congrArg Value.bool (by rw [hk, if_neg (by omega), if_neg (by omega), if_neg (by omega)])))
  ·
   intro _ hJ4
   refine c_seq fun _ hK19 => ?_
   refine c_region ?_
   refine o_step rfl (s_field rfl rfl (by decide)) ?_
   refine o_step rfl (s_ld rfl (.own meA rfl)) ?_
   refine o_nil ?_
   refine x_then (hK19 _ _ ?_)
   refine c_block ?_
   refine c_seq fun _ hK20 => ?_
   refine c_region ?_
   by_cases h1 : x.op = 1
   ·
    refine o_step rfl (step_cast (v' := .bool true) (s_eql rfl rfl) (by rw [decide_eq_true h1])) ?_
    refine o_step rfl (s_assign rfl) ?_
    refine o_nil ?_
    refine x_then (hK20 _ _ ?_)
    refine c_true rfl ?_
    refine c_region ?_
    refine o_step rfl (step_cast (v' := .agg (Ec 0#256).toArray) (s_build0 rfl) (by rw [Ec_zero]; rfl)) ?_
    refine o_step rfl (s_field rfl rfl (by decide)) ?_
    refine o_storeA (l := En (⟨0, x.set, x.n, x.mn, x.mx, 0⟩ : Nd)) (cs := Ec 0#256) rfl rfl rfl (Enc.one _) upA (Nat.le_of_ble_eq_true rfl) (fun _ _ => frz0) ?_
    rw [show splice (En (⟨0, x.set, x.n, x.mn, x.mx, 0⟩ : Nd)) 1 (Ec 0#256) = En (⟨0, 0, x.n, x.mn, x.mx, 0⟩ : Nd) from rfl]
    refine o_nil ?_
    refine x_block ?_
    rw [show (⟨0, 0, x.n, x.mn, x.mx, 0⟩ : Nd) = zr x by rw [zr, if_pos h1, if_neg (by omega), if_neg (by omega), if_neg (by omega)]]
    exact x_then (hJ4 () _ _ ⟨by omega, fun h => absurd h (by omega)⟩ sbA sbA hzB)
   ·
    refine o_step rfl (step_cast (v' := .bool false) (s_eql rfl rfl) (by rw [decide_eq_false h1])) ?_
    refine o_step rfl (s_assign rfl) ?_
    refine o_nil ?_
    refine x_then (hK20 _ _ ?_)
    refine c_false rfl ?_
    refine c_seq fun _ hK21 => ?_
    refine c_seq fun _ hK22 => ?_
    refine c_region ?_
    by_cases h7 : x.op = 7
    ·
     refine o_step rfl (step_cast (v' := .bool true) (s_eql rfl rfl) (by rw [decide_eq_true h7])) ?_
     refine o_step rfl (s_assign rfl) ?_
     refine o_nil ?_
     refine x_then (hK22 _ _ ?_)
     refine c_true rfl ?_
     refine c_skip ?_
     refine x_then (hK21 _ _ ?_)
     refine c_true rfl ?_
     refine c_region ?_
     refine o_step rfl (s_field rfl rfl (by decide)) ?_
     refine o_store rfl rfl rfl upA ltA rfl ?_
     rw [show (En (⟨0, x.set, x.n, x.mn, x.mx, 0⟩ : Nd)).set 5 (.int .i64 0) = En (⟨0, x.set, 0, x.mn, x.mx, 0⟩ : Nd) from rfl]
     refine o_nil ?_
     refine x_block ?_
     rw [show (⟨0, x.set, 0, x.mn, x.mx, 0⟩ : Nd) = zr x by rw [zr, if_neg (by omega), if_pos (.inl h7), if_neg (by omega), if_neg (by omega)]]
     exact x_then (hJ4 () _ _ ⟨by omega, fun h => absurd h (by omega)⟩ sbA sbA hzB)
    ·
     refine o_step rfl (step_cast (v' := .bool false) (s_eql rfl rfl) (by rw [decide_eq_false h7])) ?_
     refine o_step rfl (s_assign rfl) ?_
     refine o_nil ?_
     refine x_then (hK22 _ _ ?_)
     refine c_false rfl ?_
     refine c_region ?_
     by_cases h8 : x.op = 8
     ·
      refine o_step rfl (step_cast (v' := .bool true) (s_eql rfl rfl) (by rw [decide_eq_true h8])) ?_
      refine o_step rfl (s_assign rfl) ?_
      refine o_nil ?_
      refine x_then (hK21 _ _ ?_)
      refine c_true rfl ?_
      refine c_region ?_
      refine o_step rfl (s_field rfl rfl (by decide)) ?_
      refine o_store rfl rfl rfl upA ltA rfl ?_
      rw [show (En (⟨0, x.set, x.n, x.mn, x.mx, 0⟩ : Nd)).set 5 (.int .i64 0) = En (⟨0, x.set, 0, x.mn, x.mx, 0⟩ : Nd) from rfl]
      refine o_nil ?_
      refine x_block ?_
      rw [show (⟨0, x.set, 0, x.mn, x.mx, 0⟩ : Nd) = zr x by rw [zr, if_neg (by omega), if_pos (.inr h8), if_neg (by omega), if_neg (by omega)]]
      exact x_then (hJ4 () _ _ ⟨by omega, fun h => absurd h (by omega)⟩ sbA sbA hzB)
     ·
      refine o_step rfl (step_cast (v' := .bool false) (s_eql rfl rfl) (by rw [decide_eq_false h8])) ?_
      refine o_step rfl (s_assign rfl) ?_
      refine o_nil ?_
      refine x_then (hK21 _ _ ?_)
      refine c_false rfl ?_
      refine c_seq fun _ hK23 => ?_
      refine c_region ?_
      by_cases h6 : x.op = 6
      ·
       refine o_step rfl (step_cast (v' := .bool true) (s_eql rfl rfl) (by rw [decide_eq_true h6])) ?_
       refine o_step rfl (s_assign rfl) ?_
       refine o_nil ?_
       refine x_then (hK23 _ _ ?_)
       refine c_true rfl ?_
       refine c_seq fun _ hK24 => ?_
       refine c_seq fun _ hK25 => ?_
       refine c_region ?_
       refine o_step rfl (s_field rfl rfl (by decide)) ?_
       refine o_step rfl (s_ld rfl (.own meA rfl)) ?_
       by_cases hm1 : x.mn < 0
       ·
        refine o_step rfl (step_cast (v' := .bool true) (s_lss rfl rfl) (by rw [decide_eq_true (by omega)])) ?_
        refine o_step rfl (s_move rfl) ?_
        refine o_no rfl rfl rfl rfl ?_
        refine o_no rfl rfl rfl rfl ?_
        refine o_no rfl rfl rfl rfl ?_
        refine o_step rfl (s_pick_t rfl rfl) ?_
        refine o_step rfl (s_move rfl) ?_
        refine o_no rfl rfl rfl rfl ?_
        refine o_no rfl rfl rfl rfl ?_
        refine o_no rfl rfl rfl rfl ?_
        refine o_no rfl rfl rfl rfl ?_
        refine o_noU rfl rfl rfl ?_
        refine o_noU rfl rfl rfl ?_
        refine o_noU rfl rfl rfl ?_
        refine o_noU rfl rfl rfl ?_
        refine o_noU rfl rfl rfl ?_
        refine o_noU rfl rfl rfl ?_
        refine o_noU rfl rfl rfl ?_
        refine o_noU rfl rfl rfl ?_
        refine o_noU rfl rfl rfl ?_
        refine o_noU rfl rfl rfl ?_
        refine o_no rfl rfl rfl rfl ?_
        refine o_step rfl (s_pick_t rfl rfl) ?_
        refine o_nil ?_
        refine x_then (hK25 _ _ ?_)
        refine c_true rfl ?_
        refine c_seq fun _ hK26 => ?_
        refine c_region ?_
        refine o_step rfl (s_assign rfl) ?_
        refine o_nil ?_
        refine x_then (hK26 _ _ ?_)
        refine c_ret ?_
        refine x_then_ret (x_block_ret (x_then_ret (?_)))
        exact x_ret rfl (.tmp rfl (.nil)) ((congrArg Value.bool (ndOk_rep h6 (by omega)).symm))
       ·
        refine o_step rfl (step_cast (v' := .bool false) (s_lss rfl rfl) (by rw [decide_eq_false (by omega)])) ?_
        refine o_step rfl (s_move rfl) ?_
        refine o_yes rfl rfl ?_
        refine o_step rfl (s_field rfl rfl (by decide)) ?_
        refine o_yes rfl rfl ?_
        refine o_step rfl (s_ld rfl (.own meA rfl)) ?_
        refine o_yes rfl rfl ?_
        by_cases hm2 : x.mn > 255
        ·
         refine o_step rfl (step_cast (v' := .bool true) (s_gtr rfl rfl) (by rw [decide_eq_true (by omega)])) ?_
         refine o_step rfl (s_pick_f rfl rfl) ?_
         refine o_step rfl (s_move rfl) ?_
         refine o_no rfl rfl rfl rfl ?_
         refine o_no rfl rfl rfl rfl ?_
         refine o_no rfl rfl rfl rfl ?_
         refine o_no rfl rfl rfl rfl ?_
         refine o_noU rfl rfl rfl ?_
         refine o_noU rfl rfl rfl ?_
         refine o_noU rfl rfl rfl ?_
         refine o_noU rfl rfl rfl ?_
         refine o_noU rfl rfl rfl ?_
         refine o_noU rfl rfl rfl ?_
         refine o_noU rfl rfl rfl ?_
         refine o_noU rfl rfl rfl ?_
         refine o_noU rfl rfl rfl ?_
         refine o_noU rfl rfl rfl ?_
         refine o_no rfl rfl rfl rfl ?_
         refine o_step rfl (s_pick_t rfl rfl) ?_
         refine o_nil ?_
         refine x_then (hK25 _ _ ?_)
         refine c_true rfl ?_
         refine c_seq fun _ hK27 => ?_
         refine c_region ?_
         refine o_step rfl (s_assign rfl) ?_
         refine o_nil ?_
         refine x_then (hK27 _ _ ?_)
         refine c_ret ?_
         refine x_then_ret (x_block_ret (x_then_ret (?_)))
         exact x_ret rfl (.tmp rfl (.nil)) ((congrArg Value.bool (ndOk_rep h6 (by omega)).symm))
        ·
         refine o_step rfl (step_cast (v' := .bool false) (s_gtr rfl rfl) (by rw [decide_eq_false (by omega)])) ?_
         refine o_step rfl (s_pick_f rfl rfl) ?_
         refine o_step rfl (s_move rfl) ?_
         refine o_yes rfl rfl ?_
         refine o_step rfl (s_field rfl rfl (by decide)) ?_
         refine o_yes rfl rfl ?_
         refine o_step rfl (s_ld rfl (.own meA rfl)) ?_
         refine o_yes rfl rfl ?_
         by_cases hm3 : x.mx ≠ -1
         ·
          refine o_step rfl (step_cast (v' := .bool true) (s_neq rfl rfl) (by rw [decide_eq_true (by omega)])) ?_
          refine o_yes rfl rfl ?_
          refine o_step rfl (s_move rfl) ?_
          refine o_yes rfl rfl ?_
          refine o_step rfl (s_field rfl rfl (by decide)) ?_
          refine o_yes rfl rfl ?_
          refine o_step rfl (s_ld rfl (.own meA rfl)) ?_
          refine o_yes rfl rfl ?_
          refine o_step rfl (s_field rfl rfl (by decide)) ?_
          refine o_yes rfl rfl ?_
          refine o_step rfl (s_ld rfl (.own meA rfl)) ?_
          refine o_yes rfl rfl ?_
          by_cases hm4 : x.mx < x.mn
          ·
           refine o_step rfl (step_cast (v' := .bool true) (s_lss rfl rfl) (by rw [decide_eq_true (by omega)])) ?_
           refine o_yes rfl rfl ?_
           refine o_step rfl (s_move rfl) ?_
           refine o_no rfl rfl rfl rfl ?_
           refine o_no rfl rfl rfl rfl ?_
           refine o_no rfl rfl rfl rfl ?_
           refine o_yes rfl rfl ?_
           refine o_step rfl (s_pick_t rfl rfl) ?_
           refine o_yes rfl rfl ?_
           refine o_step rfl (s_pick_t rfl rfl) ?_
           refine o_step rfl (s_pick_f rfl rfl) ?_
           refine o_nil ?_
           refine x_then (hK25 _ _ ?_)
           refine c_true rfl ?_
           refine c_seq fun _ hK28 => ?_
           refine c_region ?_
           refine o_step rfl (s_assign rfl) ?_
           refine o_nil ?_
           refine x_then (hK28 _ _ ?_)
           refine c_ret ?_
           refine x_then_ret (x_block_ret (x_then_ret (?_)))
           exact x_ret rfl (.tmp rfl (.nil)) ((congrArg Value.bool (ndOk_rep h6 (by omega)).symm))
          ·
           refine o_step rfl (step_cast (v' := .bool false) (s_lss rfl rfl) (by rw [decide_eq_false (by omega)])) ?_
           refine o_yes rfl rfl ?_
           refine o_step rfl (s_move rfl) ?_
           refine o_yes rfl rfl ?_
           refine o_step rfl (s_field rfl rfl (by decide)) ?_
           refine o_yes rfl rfl ?_
           refine o_step rfl (s_ld rfl (.own meA rfl)) ?_
           refine o_yes rfl rfl ?_
           by_cases hm5 : x.mx > 255
           ·
            refine o_step rfl (step_cast (v' := .bool true) (s_gtr rfl rfl) (by rw [decide_eq_true (by omega)])) ?_
            refine o_yes rfl rfl ?_
            refine o_step rfl (s_pick_f rfl rfl) ?_
            refine o_yes rfl rfl ?_
            refine o_step rfl (s_pick_t rfl rfl) ?_
            refine o_step rfl (s_pick_f rfl rfl) ?_
            refine o_nil ?_
            refine x_then (hK25 _ _ ?_)
            refine c_true rfl ?_
            refine c_seq fun _ hK29 => ?_
            refine c_region ?_
            refine o_step rfl (s_assign rfl) ?_
            refine o_nil ?_
            refine x_then (hK29 _ _ ?_)
            refine c_ret ?_
            refine x_then_ret (x_block_ret (x_then_ret (?_)))
            exact x_ret rfl (.tmp rfl (.nil)) ((congrArg Value.bool (ndOk_rep h6 (by omega)).symm))
           ·
            refine o_step rfl (step_cast (v' := .bool false) (s_gtr rfl rfl) (by rw [decide_eq_false (by omega)])) ?_
            refine o_yes rfl rfl ?_
            refine o_step rfl (s_pick_f rfl rfl) ?_
            refine o_yes rfl rfl ?_
            refine o_step rfl (s_pick_t rfl rfl) ?_
            refine o_step rfl (s_pick_f rfl rfl) ?_
            refine o_nil ?_
            refine x_then (hK25 _ _ ?_)
            refine c_false rfl ?_
            refine c_skip ?_
            refine x_then (hK24 _ _ ?_)
            refine c_region ?_
            refine o_step rfl (s_field rfl rfl (by decide)) ?_
            refine o_store rfl rfl rfl upA ltA rfl ?_
            rw [show (En (⟨0, x.set, x.n, x.mn, x.mx, 0⟩ : Nd)).set 6 (.int .i64 0) = En (⟨0, x.set, x.n, 0, x.mx, 0⟩ : Nd) from rfl]
            refine o_step rfl (s_field rfl rfl (by decide)) ?_
            refine o_store rfl rfl rfl upA ltA rfl ?_
            rw [show (En (⟨0, x.set, x.n, 0, x.mx, 0⟩ : Nd)).set 7 (.int .i64 0) = En (⟨0, x.set, x.n, 0, 0, 0⟩ : Nd) from rfl]
            refine o_nil ?_
            refine x_block ?_
            rw [show (⟨0, x.set, x.n, 0, 0, 0⟩ : Nd) = zr x by rw [zr, if_neg (by omega), if_neg (by omega), if_pos h6, if_pos h6]]
            exact x_then (hJ4 () _ _ ⟨by omega, fun h => by omega⟩ sbA sbA hzB)
         ·
          refine o_step rfl (step_cast (v' := .bool false) (s_neq rfl rfl) (by rw [decide_eq_false (by omega)])) ?_
          refine o_yes rfl rfl ?_
          refine o_step rfl (s_move rfl) ?_
          refine o_no rfl rfl rfl rfl ?_
          refine o_no rfl rfl rfl rfl ?_
          refine o_no rfl rfl rfl rfl ?_
          refine o_no rfl rfl rfl rfl ?_
          refine o_no rfl rfl rfl rfl ?_
          refine o_no rfl rfl rfl rfl ?_
          refine o_noU rfl rfl rfl ?_
          refine o_noU rfl rfl rfl ?_
          refine o_noU rfl rfl rfl ?_
          refine o_no rfl rfl rfl rfl ?_
          refine o_yes rfl rfl ?_
          refine o_step rfl (s_pick_f rfl rfl) ?_
          refine o_step rfl (s_pick_f rfl rfl) ?_
          refine o_nil ?_
          refine x_then (hK25 _ _ ?_)
          refine c_false rfl ?_
          refine c_skip ?_
          refine x_then (hK24 _ _ ?_)
          refine c_region ?_
          refine o_step rfl (s_field rfl rfl (by decide)) ?_
          refine o_store rfl rfl rfl upA ltA rfl ?_
          rw [show (En (⟨0, x.set, x.n, x.mn, x.mx, 0⟩ : Nd)).set 6 (.int .i64 0) = En (⟨0, x.set, x.n, 0, x.mx, 0⟩ : Nd) from rfl]
          refine o_step rfl (s_field rfl rfl (by decide)) ?_
          refine o_store rfl rfl rfl upA ltA rfl ?_
          rw [show (En (⟨0, x.set, x.n, 0, x.mx, 0⟩ : Nd)).set 7 (.int .i64 0) = En (⟨0, x.set, x.n, 0, 0, 0⟩ : Nd) from rfl]
          refine o_nil ?_
          refine x_block ?_
          rw [show (⟨0, x.set, x.n, 0, 0, 0⟩ : Nd) = zr x by rw [zr, if_neg (by omega), if_neg (by omega), if_pos h6, if_pos h6]]
          exact x_then (hJ4 () _ _ ⟨by omega, fun h => by omega⟩ sbA sbA hzB)
      ·
       refine o_step rfl (step_cast (v' := .bool false) (s_eql rfl rfl) (by rw [decide_eq_false h6])) ?_
       refine o_step rfl (s_assign rfl) ?_
       refine o_nil ?_
       refine x_then (hK23 _ _ ?_)
       refine c_false rfl ?_
       refine c_seq fun _ hK30 => ?_
       refine c_seq fun _ hK31 => ?_
       refine c_region ?_
       by_cases h2 : x.op = 2
       ·
        refine o_step rfl (step_cast (v' := .bool true) (s_eql rfl rfl) (by rw [decide_eq_true h2])) ?_
        refine o_step rfl (s_assign rfl) ?_
        refine o_nil ?_
        refine x_then (hK31 _ _ ?_)
        refine c_true rfl ?_
        refine c_skip ?_
        refine x_then (hK30 _ _ ?_)
        refine c_true rfl ?_
        refine c_skip ?_
        refine x_block ?_
        rw [show (⟨0, x.set, x.n, x.mn, x.mx, 0⟩ : Nd) = zr x by rw [zr, if_neg (by omega), if_neg (by omega), if_neg (by omega), if_neg (by omega)]]
        exact x_then (hJ4 () _ _ ⟨by omega, fun h => absurd h (by omega)⟩ sbA sbA hzB)
       ·
        refine o_step rfl (step_cast (v' := .bool false) (s_eql rfl rfl) (by rw [decide_eq_false h2])) ?_
        refine o_step rfl (s_assign rfl) ?_
        refine o_nil ?_
        refine x_then (hK31 _ _ ?_)
        refine c_false rfl ?_
        refine c_seq fun _ hK32 => ?_
        refine c_region ?_
        by_cases h3 : x.op = 3
        ·
         refine o_step rfl (step_cast (v' := .bool true) (s_eql rfl rfl) (by rw [decide_eq_true h3])) ?_
         refine o_step rfl (s_assign rfl) ?_
         refine o_nil ?_
         refine x_then (hK32 _ _ ?_)
         refine c_true rfl ?_
         refine c_skip ?_
         refine x_then (hK30 _ _ ?_)
         refine c_true rfl ?_
         refine c_skip ?_
         refine x_block ?_
         rw [show (⟨0, x.set, x.n, x.mn, x.mx, 0⟩ : Nd) = zr x by rw [zr, if_neg (by omega), if_neg (by omega), if_neg (by omega), if_neg (by omega)]]
         exact x_then (hJ4 () _ _ ⟨by omega, fun h => absurd h (by omega)⟩ sbA sbA hzB)
        ·
         refine o_step rfl (step_cast (v' := .bool false) (s_eql rfl rfl) (by rw [decide_eq_false h3])) ?_
         refine o_step rfl (s_assign rfl) ?_
         refine o_nil ?_
         refine x_then (hK32 _ _ ?_)
         refine c_false rfl ?_
         refine c_seq fun _ hK33 => ?_
         refine c_region ?_
         by_cases h4 : x.op = 4
         ·
          refine o_step rfl (step_cast (v' := .bool true) (s_eql rfl rfl) (by rw [decide_eq_true h4])) ?_
          refine o_step rfl (s_assign rfl) ?_
          refine o_nil ?_
          refine x_then (hK33 _ _ ?_)
          refine c_true rfl ?_
          refine c_skip ?_
          refine x_then (hK30 _ _ ?_)
          refine c_true rfl ?_
          refine c_skip ?_
          refine x_block ?_
          rw [show (⟨0, x.set, x.n, x.mn, x.mx, 0⟩ : Nd) = zr x by rw [zr, if_neg (by omega), if_neg (by omega), if_neg (by omega), if_neg (by omega)]]
          exact x_then (hJ4 () _ _ ⟨by omega, fun h => absurd h (by omega)⟩ sbA sbA hzB)
         ·
          refine o_step rfl (step_cast (v' := .bool false) (s_eql rfl rfl) (by rw [decide_eq_false h4])) ?_
          refine o_step rfl (s_assign rfl) ?_
          refine o_nil ?_
          refine x_then (hK33 _ _ ?_)
          refine c_false rfl ?_
          refine c_region ?_
          by_cases h5 : x.op = 5
          ·
           refine o_step rfl (step_cast (v' := .bool true) (s_eql rfl rfl) (by rw [decide_eq_true h5])) ?_
           refine o_step rfl (s_assign rfl) ?_
           refine o_nil ?_
           refine x_then (hK30 _ _ ?_)
           refine c_true rfl ?_
           refine c_skip ?_
           refine x_block ?_
           rw [show (⟨0, x.set, x.n, x.mn, x.mx, 0⟩ : Nd) = zr x by rw [zr, if_neg (by omega), if_neg (by omega), if_neg (by omega), if_neg (by omega)]]
           exact x_then (hJ4 () _ _ ⟨by omega, fun h => absurd h (by omega)⟩ sbA sbA hzB)
          ·
           refine o_step rfl (step_cast (v' := .bool false) (s_eql rfl rfl) (by rw [decide_eq_false h5])) ?_
           refine o_step rfl (s_assign rfl) ?_
           refine o_nil ?_
           refine x_then (hK30 _ _ ?_)
           refine c_false rfl ?_
           refine c_seq fun _ hK34 => ?_
           refine c_region ?_
           refine o_step rfl (s_assign rfl) ?_
           refine o_nil ?_
           refine x_then (hK34 _ _ ?_)
           refine c_ret ?_
           refine x_block_ret (x_then_ret (?_))
           exact x_ret rfl (.tmp rfl (.nil)) ((congrArg Value.bool (ndOk_op (by omega)).symm))
end Go.Proofs.Ytiggliigookieaa

/- Part of the proofs over this seat: see the text that holds the theorem. Conditions: each theorem bears its own. -/
namespace Go.Proofs.Ytiggliigookieaa
open Go Go.HL Go.Proofs Go.HL.Kl
theorem has_fn (c : Cl) (x : Nat) (hx : x < 256) : HL.Fn Try.prog 40 [.agg (Ec c).toArray, .int .u8 x] (fun _ => True) [] (fun v _ => v = .bool (c.getLsbD x)) := by
  refine fn_of Try.func40 rfl rfl rfl fun w0 hw => ?_
  refine c_seq fun _ hK1 => ?_
  refine c_region ?_
  refine o_box rfl rfl rfl fun b2 => ?_
  refine o_step rfl (s_assign rfl) ?_
  refine o_nil ?_
  refine x_then (hK1 _ _ ?_)
  refine c_seq fun _ hK2 => ?_
  refine c_region ?_
  refine o_step rfl (s_move rfl) ?_
  refine o_step rfl (step_cast (v' := .int .u8 ((x / 64 : Nat) : Int)) (s_shr rfl rfl (by decide)) (congrArg _ (shr6_u8 hx))) ?_
  refine o_step rfl (s_idx1 rfl rfl (by omega)) ?_
  refine o_step rfl (s_ld rfl ((RdPK.own meA).cel (j := x / 64) (Ec_get _ (by omega)) (by omega))) ?_
  refine o_step rfl (s_move rfl) ?_
  refine o_step rfl (step_cast (v' := .int .u8 ((x % 64 : Nat) : Int)) (s_and rfl rfl) (congrArg _ (v_and63 hx))) ?_
  refine o_step rfl (s_shr rfl rfl (by omega)) ?_
  refine o_step rfl (s_and rfl rfl) ?_
  refine o_step rfl (step_cast (v' := .bool (c.getLsbD x)) (s_eql rfl rfl) (congrArg Value.bool (hasB c hx))) ?_
  refine o_step rfl (s_assign rfl) ?_
  refine o_nil ?_
  refine x_then (hK2 _ _ ?_)
  refine c_ret ?_
  refine ?_
  exact x_ret rfl (.tmp rfl (.nil)) (rfl)

end Go.Proofs.Ytiggliigookieaa
