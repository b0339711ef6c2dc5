/- Part of the proofs over this seat: see the text that holds the theorem. Conditions: each theorem bears its own. -/
import Derived.Test.YthbnkifjplbhgaaM13
import Derived.Test.YthbnkifjplbhgaaF3
namespace Go.Proofs.Ythbnkifjplbhgaa
open Go Go.HL Go.Proofs

/-- what waits in a queue -/
inductive QI where
  | text (b : List UInt8)
  | file (n : ByteArray)
def iv0 (ql : List IV) (j : Nat) : IV := ql.getD j ⟨0, .nilIface⟩
theorem iv0_get {ql : List IV} {j : Nat} (h : j < ql.length) : ql[j]? = some (iv0 ql j) := by simp [iv0, List.getD, List.getElem?_eq_getElem h]
def ItemOk (Si : Hp) (x : IV) : QI → Prop
  | .text b => ∃ s : Sl UInt8, x = ⟨103, s.v⟩ ∧ s.xs = b ∧ RdS Eb s.v s.xs Si
  | .file n => x = ⟨104, .string n⟩
structure Items (ql : List IV) (l : List QI) (Si : Hp) : Prop where
  len : ql.length = l.length
  ok : ∀ (j : Nat) (q : QI), l[j]? = some q → ItemOk Si (iv0 ql j) q
theorem Items.at {ql : List IV} {l : List QI} {Si : Hp} (h : Items ql l Si) {j : Nat} (hj : j < ql.length) : (∃ (x : Sl UInt8) (b : List UInt8), iv0 ql j = ⟨103, x.v⟩ ∧ x.xs = b ∧ RdS Eb x.v x.xs Si ∧ l.drop j = .text b :: l.drop (j + 1)) ∨ (∃ n : ByteArray, iv0 ql j = ⟨104, .string n⟩ ∧ l.drop j = .file n :: l.drop (j + 1)) := by
  have hl : j < l.length := by have := h.len; omega
  have h1 := h.ok j l[j] (List.getElem?_eq_getElem hl)
  have h2 := List.drop_eq_getElem_cons hl
  cases hq : l[j] with
  | text b =>
    rw [hq] at h1 h2
    obtain ⟨s, e1, e2, e3⟩ := h1
    exact .inl ⟨s, b, e1, e2, e3, h2⟩
  | file n =>
    rw [hq] at h1 h2
    exact .inr ⟨n, h1, h2⟩
section
variable {σ : Type} (rd : σ → ByteArray → List UInt8 × σ) (out : σ → List UInt8 → Int × σ) (okR : σ → ByteArray → Prop) (okO : σ → List UInt8 → Prop)
def stepQ : QI → σ → Int × σ
  | .text b, s => out s (b ++ [10])
  | .file n, s => if (rd s n).1 = [] then (0, (rd s n).2) else out (rd s n).2 (rd s n).1
def flushQ : List QI → σ → Int × σ
  | [], s => (0, s)
  | q :: l, s => if (stepQ rd out q s).1 ≠ 0 then stepQ rd out q s else flushQ l (stepQ rd out q s).2
def fitQ : QI → σ → Prop
  | .text b, s => b.length ≤ 1099511627776 ∧ okO s (b ++ [10])
  | .file n, s => okR s n ∧ ((rd s n).1 ≠ [] → okO (rd s n).2 (rd s n).1)
def fitsQ : List QI → σ → Prop
  | [], _ => True
  | q :: l, s => fitQ rd okR okO q s ∧ ((stepQ rd out q s).1 = 0 → fitsQ l (stepQ rd out q s).2)
end
section
variable {σ : Type} {rd : σ → ByteArray → List UInt8 × σ} {out : σ → List UInt8 → Int × σ} {okR : σ → ByteArray → Prop} {okO : σ → List UInt8 → Prop} {l r : List QI} {s : σ} {b : List UInt8} {n : ByteArray} {x : List UInt8}
theorem flush_text : flushQ rd out (.text b :: r) s = if (out s (b ++ [10])).1 ≠ 0 then out s (b ++ [10]) else flushQ rd out r (out s (b ++ [10])).2 := rfl
theorem fits_text (h : l = .text b :: r) (hx : x = b) (hf : fitsQ rd out okR okO l s) : x.length ≤ 1099511627776 ∧ okO s (x ++ [10]) ∧ ((out s (x ++ [10])).1 = 0 → fitsQ rd out okR okO r (out s (x ++ [10])).2) := by
  subst h; subst hx
  exact ⟨hf.1.1, hf.1.2, hf.2⟩
theorem fits_fileR (h : l = .file n :: r) (hf : fitsQ rd out okR okO l s) : okR s n := by
  subst h; exact hf.1.1
theorem nil_of (h : ((rd s n).1.length : Int) = 0) : (rd s n).1 = [] := List.eq_nil_of_length_eq_zero (by omega)
theorem ne_of (h : ¬ ((rd s n).1.length : Int) = 0) : (rd s n).1 ≠ [] := fun e => h (by rw [e]; rfl)
theorem fits_file0 (h : l = .file n :: r) (h0 : ((rd s n).1.length : Int) = 0) (hf : fitsQ rd out okR okO l s) : fitsQ rd out okR okO r (rd s n).2 := by
  subst h
  have := hf.2
  simp only [stepQ, if_pos (nil_of h0)] at this
  exact this trivial
theorem flush_file0 (h0 : ((rd s n).1.length : Int) = 0) : flushQ rd out (.file n :: r) s = flushQ rd out r (rd s n).2 := by
  simp only [flushQ, stepQ, if_pos (nil_of h0), ne_eq, not_true_eq_false, if_false]
theorem flush_file (h0 : ¬ ((rd s n).1.length : Int) = 0) : flushQ rd out (.file n :: r) s = if (out (rd s n).2 (rd s n).1).1 ≠ 0 then out (rd s n).2 (rd s n).1 else flushQ rd out r (out (rd s n).2 (rd s n).1).2 := by
  simp only [flushQ, stepQ, if_neg (ne_of h0)]
theorem fits_file (h : l = .file n :: r) (h0 : ¬ ((rd s n).1.length : Int) = 0) (hf : fitsQ rd out okR okO l s) : okO (rd s n).2 (rd s n).1 ∧ ((out (rd s n).2 (rd s n).1).1 = 0 → fitsQ rd out okR okO r (out (rd s n).2 (rd s n).1).2) := by
  subst h
  have h2 := hf.2
  simp only [stepQ, if_neg (ne_of h0)] at h2
  exact ⟨hf.1.2 (ne_of h0), h2⟩
end
end Go.Proofs.Ythbnkifjplbhgaa
