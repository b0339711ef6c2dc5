/- Lists with room behind them, of any kind. Conditions: none. -/
import Derived.Test.YtihbhlgognpmmaaHlB
import Derived.Test.YtihbhlgognpmmaaM1
namespace Go.HL
open Go Go.Tab
section
variable {α : Type}
def wdlF (d : Nat → α) (xs : List α) (i : Nat) : α := (xs[i]?).getD (d i)
def wdl (d : Nat → α) (xs : List α) : List α := (List.range (xs.length + 64)).map (wdlF d xs)
theorem wdl_len (d : Nat → α) (xs : List α) : (wdl d xs).length = xs.length + 64 := by simp [wdl]
theorem wdl_at {d : Nat → α} {xs : List α} {i : Nat} (h : i < xs.length + 64) : (wdl d xs)[i]? = some (wdlF d xs i) := by
  unfold wdl
  rw [List.getElem?_map, List.getElem?_range h]; rfl
theorem wdl_in {d : Nat → α} {xs : List α} {i : Nat} {x : α} (h : xs[i]? = some x) : x = wdlF d xs i := by rw [wdlF, h]; rfl
theorem wdl_out {d : Nat → α} {xs : List α} {i : Nat} (h : ¬ i < xs.length) : d i = wdlF d xs i := by rw [wdlF, List.getElem?_eq_none (by omega)]; rfl
theorem wdl_spare {d : Nat → α} {xs : List α} {i : Nat} (h1 : ¬ i < xs.length) (h2 : i < xs.length + 64) : (wdl d xs)[i]? = some (d i) := by rw [wdl_at h2, wdl_out (d := d) h1]
theorem wdl_take (d : Nat → α) (xs : List α) : (wdl d xs).take xs.length = xs := by
  apply List.ext_getElem?
  intro i
  by_cases hi : i < xs.length
  · rw [List.getElem?_take, if_pos hi, wdl_at (by omega), ← wdl_in (List.getElem?_eq_getElem hi), List.getElem?_eq_getElem hi]
  · rw [List.getElem?_eq_none (by rw [List.length_take]; omega), List.getElem?_eq_none (by omega)]
theorem fill_wdl {d : Nat → α} {xs : List α} {j : Nat} {l : List α} (h : Fill (wdlF d xs) (xs.length + 64) j l) (hj : xs.length + 64 ≤ j) : l = wdl d xs := h.done hj
theorem ext_upto {a b : List α} (hl : a.length = b.length) (h : ∀ i, i < a.length → a[i]? = b[i]?) : a = b := by
  apply List.ext_getElem?
  intro i
  by_cases hi : i < a.length
  · exact h i hi
  · rw [List.getElem?_eq_none (by omega), List.getElem?_eq_none (by omega)]
theorem Rd.pref {α : Type} {E : α → List Value} {k : Nat} [he : Enc E k] {w : World} {a : Option Addr} {c : Nat} {xs : List α} (h : Rd E w (.slice a xs.length c) xs) (m : Nat) : Rd E w (.slice a (xs.take m).length c) (xs.take m) := by
  obtain ⟨⟨a', c', hv, hn, h0, hsp⟩, hle⟩ := h.sl
  simp only [Value.slice.injEq] at hv
  obtain ⟨rfl, _, rfl⟩ := hv
  have hlen : (xs.take m).length ≤ xs.length := by simp; omega
  refine ⟨⟨⟨_, _, rfl, by omega, h0, fun A hA hz => hsp A hA (by omega)⟩, by omega⟩, fun j u hu => ?_⟩
  refine h.get j u ?_
  rw [← List.take_append_drop m xs, flat_append, List.getElem?_append_left (List.getElem?_eq_some_iff.1 hu).1]
  exact hu
attribute [irreducible] wdl wdlF
end
end Go.HL
