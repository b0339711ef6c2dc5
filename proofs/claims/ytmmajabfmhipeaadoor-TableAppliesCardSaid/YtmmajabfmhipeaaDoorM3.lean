/- Part of the proofs over this seat: see the text that holds the theorem. Conditions: each theorem bears its own. -/
import Derived.Test.YtmmajabfmhipeaaDoorM2
namespace Go.Tab
open Go Go.HL

def wideF (xs : List UInt8) (i : Nat) : UInt8 := if i < xs.length then at0 xs i else UInt8.ofNat (279 + 7 * i + 3)
def wide (xs : List UInt8) : List UInt8 := (List.range (xs.length + 64)).map (wideF xs)
theorem wide_len (xs : List UInt8) : (wide xs).length = xs.length + 64 := by simp [wide]
theorem wide_at {xs : List UInt8} {i : Nat} (h : i < xs.length + 64) : at0 (wide xs) i = wideF xs i := at0_range h
theorem wide_take (xs : List UInt8) : (wide xs).take xs.length = xs := by
  refine at0_ext (by rw [List.length_take, wide_len]; omega) fun i hi => ?_
  rw [List.length_take, wide_len] at hi
  have h : at0 ((wide xs).take xs.length) i = at0 (wide xs) i := by
    unfold at0
    rw [List.getD_eq_getElem?_getD, List.getD_eq_getElem?_getD, List.getElem?_take, if_pos (by omega)]
  rw [h, wide_at (by omega), wideF, if_pos (by omega)]
theorem fill_wide {xs : List UInt8} {j : Nat} {l : List UInt8} (h : Fill (wideF xs) (xs.length + 64) j l) (hj : xs.length + 64 ≤ j) : l = wide xs := h.done hj
theorem wideF_in {xs : List UInt8} {i : Nat} (h : i < xs.length) : at0 xs i = wideF xs i := by rw [wideF, if_pos h]
theorem wideF_out {xs : List UInt8} {i : Nat} (h : ¬ i < xs.length) : UInt8.ofNat (279 + 7 * i + 3) = wideF xs i := by rw [wideF, if_neg h]

theorem nodup_lt : ∀ (n : Nat) (l : List Nat), l.Nodup → (∀ x ∈ l, x < n) → l.length ≤ n
  | 0, l, _, h => by
    cases l with
    | nil => simp
    | cons x l => exact absurd (h x List.mem_cons_self) (Nat.not_lt_zero _)
  | n + 1, l, hd, h => by
    have h1 := nodup_lt n (l.erase n) (hd.erase n) (fun x hx => by
      have h2 := h x (List.mem_of_mem_erase hx)
      have h3 : x ≠ n := fun e => by
        subst e
        exact absurd hx (List.Nodup.not_mem_erase hd)
      omega)
    have h4 := List.length_erase (a := n) (l := l)
    split at h4 <;> omega
theorem nodup_u8 {l : List UInt8} (h : l.Nodup) : l.length ≤ 256 := by
  have := nodup_lt 256 (l.map UInt8.toNat) (by
    rw [List.Nodup, List.pairwise_map]
    exact List.Pairwise.imp (fun hne e => hne (UInt8.toNat_inj.1 e)) h) (fun x hx => by
    obtain ⟨b, _, rfl⟩ := List.mem_map.1 hx
    exact UInt8.toNat_lt b)
  simpa using this
theorem newR_long {f t : List UInt8} (h : 256 < f.length) : newR f t = none := by
  rw [newR]
  split
  · cases hn : newAt f t f.length with
    | none => rfl
    | some l =>
      have h1 := (newAt_isSome (f := f) (t := t) (Nat.le_refl _)).1 (by rw [hn]; rfl)
      rw [List.take_of_length_le (Nat.le_refl _)] at h1
      have := nodup_u8 h1
      omega
  · rfl
theorem notin_take {f : List UInt8} {j k : Nat} (hj : j < f.length) (hk : j ≤ k) (h : ∀ i, i < k → at0 f i ≠ at0 f j) : ¬ at0 f j ∈ f.take j := by
  rw [mem_take_iff (by omega)]
  rintro ⟨i, hi, he⟩
  exact h i (by omega) he
theorem in_take {f : List UInt8} {j k : Nat} (hj : j < f.length) (hk : k < j) (h : at0 f k = at0 f j) : at0 f j ∈ f.take j := by
  rw [mem_take_iff (by omega)]
  exact ⟨k, hk, h⟩
attribute [irreducible] wide wideF
end Go.Tab
