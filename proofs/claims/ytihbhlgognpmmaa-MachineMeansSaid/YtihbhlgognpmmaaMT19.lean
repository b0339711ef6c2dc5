/- The known run: the machine of a* over aab. Conditions: none. -/
import Derived.Test.YtihbhlgognpmmaaMT17
import Derived.Test.YtihbhlgognpmmaaMT18
import Derived.Test.YtihbhlgognpmmaaMT9
import Derived.Test.YtihbhlgognpmmaaMT13
namespace Go.HL.Kl.Mc
open Go Go.HL Go.HL.Kl
def starN : Nd := ⟨6, 0, 0, 0, -1, 1⟩
def reW : List Nd := [starN, letN 97]
def ksW : F := .nd (letN 97) .nil .nil
def mW : List In := mach (.nd starN ksW .nil)
theorem let_ok : ndOk (letN 97) = true := by decide +kernel
theorem wfW : (F.nd starN ksW .nil).wf := ⟨by decide +kernel, rfl, ⟨let_ok, rfl, trivial, trivial⟩, trivial⟩
theorem shpW : Shp reW starN ksW := ⟨wfW, rfl, by decide, by decide +kernel⟩
theorem shapedW : shapedB reW = true := shapedB_iff.2 ⟨⟨[], by decide +kernel⟩, _, _, shpW⟩
theorem refsW : refsB reW = false := refs_no fun j x hj hx h8 => by
  have := List.mem_of_getElem? hx
  rcases List.mem_cons.1 this with rfl | this
  · cases h8
  · rcases List.mem_cons.1 this with rfl | this
    · cases h8
    · cases this
theorem Shp.uniq {re : List Nd} {x y : Nd} {ks js : F} (h : Shp re x ks) (h' : Shp re y js) : x = y ∧ ks = js := by
  have := flat_inj (.nd x ks .nil) (.nd y js .nil) [] [] h.wf h'.wf rfl (by simp only [F.flat, List.append_nil]; rw [← h.flat, ← h'.flat])
  simpa using this.1
theorem mokW : MOk mW := mach_ok wfW (by decide +kernel)
theorem compW {v : Value} {S : Hp} (h : CompP reW v S) : ∃ a, v = .tuple #[.slice a mW.length mW.length, .int .i64 0] ∧ RdS Ein (.slice a mW.length mW.length) mW S := by
  cases h with
  | shape hs => rw [shapedW] at hs; cases hs
  | ref _ hr => rw [refsW] at hr; cases hr
  | ok _ _ h hv hm =>
    obtain ⟨rfl, rfl⟩ := h.uniq shpW
    exact ⟨_, hv, hm⟩
theorem MOk.rng {m : List In} (h : MOk m) : ∀ t ∈ m, -128 ≤ t.op ∧ t.op < 128 := fun t ht => by
  obtain ⟨i, hi⟩ := List.getElem?_of_mem ht
  have := (h.2.2 i t hi).1.1
  omega
def wW : List UInt8 := [97, 97, 98]
theorem derW {p q : Nat} : der wW (.nd starN ksW .nil) false p q ↔ ∃ k, pow (fun p q => q = p + 1 ∧ wW[p]? = some 97) k p q := by
  have h1 : ∀ p q, der wW ksW false p q ↔ (q = p + 1 ∧ wW[p]? = some 97) := by
    intro p q
    have : der wW ksW false p q ↔ ∃ t, (t = p + 1 ∧ ∃ b, wW[p]? = some b ∧ (letN 97).set.getLsbD b.toNat = true) ∧ (false = false ∧ t = q) := Iff.rfl
    rw [this]
    constructor
    · rintro ⟨t, ⟨rfl, b, hb, hs⟩, _, rfl⟩
      refine ⟨rfl, ?_⟩
      rw [show (letN 97).set = bit (97 : UInt8).toNat from rfl, bit_get b.toNat_lt, decide_eq_true_eq] at hs
      rw [hb, UInt8.toNat_inj.1 hs]
    · rintro ⟨rfl, h⟩
      exact ⟨_, ⟨rfl, 97, h, by decide +kernel⟩, rfl, rfl⟩
  have h2 : der wW (.nd starN ksW .nil) false p q ↔ ∃ t, rounds starN (der wW ksW false) p t ∧ (false = false ∧ t = q) := Iff.rfl
  have h3 : (der wW ksW false) = fun p q => q = p + 1 ∧ wW[p]? = some 97 := by funext p q; exact propext (h1 p q)
  rw [h2, h3]
  constructor
  · rintro ⟨t, ⟨k, _, _, h⟩, _, rfl⟩; exact ⟨k, h⟩
  · rintro ⟨k, h⟩; exact ⟨q, ⟨k, Int.natCast_nonneg k, .inl rfl, h⟩, rfl, rfl⟩
theorem powW : ∀ {k p q : Nat}, pow (fun p q => q = p + 1 ∧ wW[p]? = some 97) k p q → q = p ∨ q ≤ 2
  | 0, p, q, h => .inl h.symm
  | k + 1, p, q, ⟨m, ⟨h1, h2⟩, h3⟩ => by
    have hp : p < 2 := by
      rcases Nat.lt_or_ge p 2 with h | h
      · exact h
      · rcases Nat.eq_or_lt_of_le h with h | h
        · subst h; cases h2
        · have : wW.length = 3 := rfl
          have := (List.getElem?_eq_some_iff.1 h2).1
          obtain rfl : p = 2 := by omega
          omega
    rcases powW h3 with h | h <;> omega
theorem endsW {out : List Bool} (h : EndsP mW wW (0 : Int) out) : out[0]? = some true ∧ out[1]? = some true ∧ out[2]? = some true ∧ out[3]? = some false := by
  have hy : ∀ t : Nat, (∃ k, pow (fun p q => q = p + 1 ∧ wW[p]? = some 97) k 0 t) → out[t]? = some true := fun t hk => (h.2 t).2 ⟨mokW, 0, rfl, by decide, (mach_hit wfW).2 (derW.2 hk)⟩
  refine ⟨hy 0 ⟨0, rfl⟩, hy 1 ⟨1, 1, ⟨rfl, rfl⟩, rfl⟩, hy 2 ⟨2, 1, ⟨rfl, rfl⟩, 2, ⟨rfl, rfl⟩, rfl⟩, ?_⟩
  have hl : out.length = 4 := h.1
  rw [List.getElem?_eq_getElem (by omega)]
  cases hb : out[3]'(by omega) with
  | false => rfl
  | true =>
    obtain ⟨_, g, hg, _, hh⟩ := (h.2 3).1 (by rw [List.getElem?_eq_getElem (by omega), hb])
    obtain rfl : g = 0 := by omega
    obtain ⟨k, hk⟩ := derW.1 ((mach_hit wfW).1 hh)
    rcases powW hk with h | h <;> omega
theorem reW_rng : ∀ x ∈ reW, -128 ≤ x.op ∧ x.op < 128 := fun x hx => by
  rcases List.mem_cons.1 hx with rfl | hx
  · decide
  · rcases List.mem_cons.1 hx with rfl | hx
    · exact ⟨by decide, by decide⟩
    · cases hx
theorem En_star : En starN = [.int .i8 6, .int .u64 0, .int .u64 0, .int .u64 0, .int .u64 0, .int .i64 0, .int .i64 0, .int .i64 (-1), .int .i64 1] := by
  show _ :: (Ec 0#256 ++ _) = _
  rw [Ec_zero]; rfl
attribute [irreducible] mW
end Go.HL.Kl.Mc
