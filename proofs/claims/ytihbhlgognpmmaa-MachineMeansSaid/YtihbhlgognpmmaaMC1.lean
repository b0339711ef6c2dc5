/- Part of the proofs over this seat: see the text that holds the theorem. Conditions: each theorem bears its own. -/
import Derived.Test.YtihbhlgognpmmaaHlB
namespace Go.HL.Kl
open Go Go.HL

/-! classes: sets of bytes, as numbers of 256 bits -/
abbrev Cl := BitVec 256
def wd (c : Cl) (i : Nat) : BitVec 64 := c.extractLsb' (64 * i) 64
def Ew (w : BitVec 64) : Value := .int .u64 w.toNat
def Ec (c : Cl) : List Value := [Ew (wd c 0), Ew (wd c 1), Ew (wd c 2), Ew (wd c 3)]
instance : Enc Ec 4 := ⟨fun _ => rfl, fun c v hv => by simp [Ec, Ew] at hv; rcases hv with rfl | rfl | rfl | rfl <;> rfl⟩
theorem Ec_one (c : Cl) : ∀ v ∈ Ec c, v.oneCell' = true := Enc.one c
theorem Ec_get (c : Cl) {i : Nat} (h : i < 4) : (Ec c)[i]? = some (Ew (wd c i)) := by
  match i, h with
  | 0, _ => rfl
  | 1, _ => rfl
  | 2, _ => rfl
  | 3, _ => rfl
def setw (c : Cl) (i : Nat) (w : BitVec 64) : Cl := (c &&& ~~~ ((BitVec.allOnes 64).setWidth 256 <<< (64 * i))) ||| (w.setWidth 256 <<< (64 * i))
theorem setw_get (c : Cl) {i : Nat} (w : BitVec 64) (_hi : i < 4) {j : Nat} (hj : j < 256) : (setw c i w).getLsbD j = if 64 * i ≤ j ∧ j < 64 * i + 64 then w.getLsbD (j - 64 * i) else c.getLsbD j := by
  simp only [setw, BitVec.getLsbD_or, BitVec.getLsbD_and, BitVec.getLsbD_not, BitVec.getLsbD_shiftLeft, BitVec.getLsbD_setWidth, BitVec.getLsbD_allOnes, hj, decide_true, Bool.true_and]
  by_cases h1 : j < 64 * i
  · simp [h1]; omega
  · have h2 : 64 * i ≤ j := by omega
    by_cases h3 : j < 64 * i + 64
    · have h4 : j - 64 * i < 64 := by omega
      have h5 : j - 64 * i < 256 := by omega
      simp [h1, h2, h3, h4, h5]
    · have h4 : ¬ (j - 64 * i < 64) := by omega
      have h5 : w.getLsbD (j - 64 * i) = false := BitVec.getLsbD_of_ge _ _ (by omega)
      simp [h1, h3, h4, h5]
theorem wd_get (c : Cl) (i : Nat) {j : Nat} (hj : j < 64) : (wd c i).getLsbD j = c.getLsbD (64 * i + j) := by
  simp [wd, hj]
theorem wd_setw (c : Cl) {i k : Nat} (w : BitVec 64) (hi : i < 4) (hk : k < 4) : wd (setw c i w) k = if i = k then w else wd c k := by
  apply BitVec.eq_of_getLsbD_eq
  intro j hj
  rw [wd_get _ _ hj, setw_get _ _ hi (by omega)]
  by_cases e : i = k
  · subst e
    have : 64 * i + j - 64 * i = j := by omega
    rw [if_pos (by omega), if_pos rfl, this]
  · rw [if_neg (by omega), if_neg e, wd_get _ _ hj]
theorem Ec_set (c : Cl) {i : Nat} (w : BitVec 64) (hi : i < 4) : (Ec c).set i (Ew w) = Ec (setw c i w) := by
  simp only [Ec, wd_setw c w hi (by decide : 0 < 4), wd_setw c w hi (by decide : 1 < 4), wd_setw c w hi (by decide : 2 < 4), wd_setw c w hi (by decide : 3 < 4)]
  match i, hi with
  | 0, _ => rfl
  | 1, _ => rfl
  | 2, _ => rfl
  | 3, _ => rfl
theorem ext_wd {c d : Cl} (h : ∀ i, i < 4 → wd c i = wd d i) : c = d := by
  apply BitVec.eq_of_getLsbD_eq
  intro j hj
  have h1 := congrArg (fun w => BitVec.getLsbD w (j % 64)) (h (j / 64) (by omega))
  simp only [wd_get _ _ (show j % 64 < 64 by omega)] at h1
  have : 64 * (j / 64) + j % 64 = j := by omega
  rwa [this] at h1
theorem Ec_inj {c d : Cl} (h : Ec c = Ec d) : c = d := by
  simp only [Ec, Ew, List.cons.injEq, Value.int.injEq, true_and, and_true] at h
  obtain ⟨h0, h1, h2, h3⟩ := h
  refine ext_wd fun i hi => ?_
  match i, hi with
  | 0, _ => exact BitVec.eq_of_toNat_eq (by omega)
  | 1, _ => exact BitVec.eq_of_toNat_eq (by omega)
  | 2, _ => exact BitVec.eq_of_toNat_eq (by omega)
  | 3, _ => exact BitVec.eq_of_toNat_eq (by omega)
/-- the numbers of a class, as the comparison sees them -/
def Ic (c : Cl) : List Int := [((wd c 0).toNat : Int), ((wd c 1).toNat : Int), ((wd c 2).toNat : Int), ((wd c 3).toNat : Int)]
theorem Ec_ints (c : Cl) : Ec c = intsV .u64 (Ic c) := rfl
theorem Ic_inj {c d : Cl} : Ic c = Ic d ↔ c = d := ⟨fun h => Ec_inj (by rw [Ec_ints, Ec_ints, h]), fun h => by rw [h]⟩

/-! one byte -/
def bit (x : Nat) : Cl := 1#256 <<< x
theorem bit_get {x j : Nat} (hj : j < 256) : (bit x).getLsbD j = decide (j = x) := by
  simp only [bit, BitVec.getLsbD_shiftLeft, hj, decide_true, Bool.true_and, BitVec.getLsbD_one]
  by_cases h : j = x
  · subst h; simp
  · by_cases h2 : j < x
    · simp [h, h2]
    · have : ¬ (j - x = 0) := by omega
      simp [h, h2]; omega
theorem with_eq (c : Cl) {x : Nat} (hx : x < 256) : setw c (x / 64) (wd c (x / 64) ||| (1#64 <<< (x % 64))) = c ||| bit x := by
  apply BitVec.eq_of_getLsbD_eq
  intro j hj
  rw [setw_get _ _ (by omega) hj, BitVec.getLsbD_or (x := c), bit_get hj]
  by_cases h : 64 * (x / 64) ≤ j ∧ j < 64 * (x / 64) + 64
  · rw [if_pos h, BitVec.getLsbD_or, wd_get _ _ (by omega)]
    have e : 64 * (x / 64) + (j - 64 * (x / 64)) = j := by omega
    rw [e]
    congr 1
    simp only [BitVec.getLsbD_shiftLeft, BitVec.getLsbD_one]
    by_cases h2 : j = x
    · have h3 : j - 64 * (x / 64) = x % 64 := by omega
      simp [h2]; omega
    · have h3 : ¬ (j - 64 * (x / 64) = x % 64) := by omega
      by_cases h4 : j - 64 * (x / 64) < x % 64
      · simp [h2, h4]
      · have h5 : ¬ (j - 64 * (x / 64) - x % 64 = 0) := by omega
        simp [h2, h4]; omega
  · rw [if_neg h]
    have h2 : ¬ (j = x) := by omega
    simp [h2]

/-! the program's arithmetic on bytes and words -/
theorem wrap_u64 (n : Int) : IntKind.u64.wrap n = n % 18446744073709551616 := by simp [IntKind.wrap, IntKind.signed, IntKind.bits]
theorem wrap64 (w : BitVec 64) : IntKind.u64.wrap (w.toNat : Int) = w.toNat := by
  have := w.isLt
  rw [wrap_u64]; omega
theorem of64 (w : BitVec 64) : BitVec.ofInt IntKind.u64.bits (w.toNat : Int) = w := by
  apply BitVec.eq_of_toNat_eq
  have := w.isLt
  simp [IntKind.bits]
theorem v_or (a b : BitVec 64) : Value.int .u64 (IntKind.u64.wrap (BitVec.ofInt IntKind.u64.bits (a.toNat : Int) ||| BitVec.ofInt IntKind.u64.bits (b.toNat : Int)).toNat) = Ew (a ||| b) := by
  rw [of64, of64]; exact congrArg _ (wrap64 _)
theorem v_and (a b : BitVec 64) : Value.int .u64 (IntKind.u64.wrap (BitVec.ofInt IntKind.u64.bits (a.toNat : Int) &&& BitVec.ofInt IntKind.u64.bits (b.toNat : Int)).toNat) = Ew (a &&& b) := by
  rw [of64, of64]; exact congrArg _ (wrap64 _)
/-- x & 63, x % 64 -/
theorem v_and63 {x : Nat} (hx : x < 256) : IntKind.u8.wrap (BitVec.ofInt IntKind.u8.bits (x : Int) &&& BitVec.ofInt IntKind.u8.bits 63).toNat = ((x % 64 : Nat) : Int) := by
  have : ∀ x : Fin 256, IntKind.u8.wrap (BitVec.ofInt IntKind.u8.bits (x.val : Int) &&& BitVec.ofInt IntKind.u8.bits 63).toNat = ((x.val % 64 : Nat) : Int) := by decide +kernel
  exact this ⟨x, hx⟩
theorem v_shl1 {k : Nat} (hk : k < 64) : Value.int .u64 (IntKind.u64.wrap (1 * 2 ^ (min ((k : Nat) : Int).toNat IntKind.u64.bits))) = Ew (1#64 <<< k) := by
  have e : min ((k : Nat) : Int).toNat IntKind.u64.bits = k := by simp [IntKind.bits]; omega
  rw [e]
  have h1 : (2 : Nat) ^ k < 2 ^ 64 := Nat.pow_lt_pow_right (by decide) hk
  have h2 : ((2 : Int) ^ k) = ((2 ^ k : Nat) : Int) := by simp
  simp only [Ew, Value.int.injEq, true_and, Int.one_mul]
  rw [h2, wrap_u64]
  have h3 : (1#64 <<< k).toNat = 2 ^ k := by
    rw [BitVec.toNat_shiftLeft, BitVec.toNat_ofNat, Nat.shiftLeft_eq]
    simp
    exact h1
  rw [h3]; omega
/-- a word's bit, as Has reads it -/
theorem has_eq (w : BitVec 64) {k : Nat} (hk : k < 64) : decide (IntKind.u64.wrap (BitVec.ofInt IntKind.u64.bits ((w.toNat : Int).fdiv (2 ^ (min ((k : Nat) : Int).toNat IntKind.u64.bits))) &&& BitVec.ofInt IntKind.u64.bits 1).toNat = 1) = w.getLsbD k := by
  have e : min ((k : Nat) : Int).toNat IntKind.u64.bits = k := by simp [IntKind.bits]; omega
  rw [e]
  have h2 : ((2 : Int) ^ k) = ((2 ^ k : Nat) : Int) := by simp
  have h3 : (w.toNat : Int).fdiv (2 ^ k) = ((w >>> k).toNat : Int) := by
    rw [h2, Int.fdiv_eq_ediv_of_nonneg _ (Int.natCast_nonneg _), BitVec.toNat_ushiftRight, Nat.shiftRight_eq_div_pow]; rfl
  have h4 : BitVec.ofInt IntKind.u64.bits 1 = 1#64 := rfl
  rw [h3, of64, h4]
  have h6 : IntKind.u64.wrap ((w >>> k &&& 1#64).toNat : Int) = ((w >>> k &&& 1#64).toNat : Int) := wrap64 _
  refine (congrArg (fun z => decide (z = 1)) h6).trans ?_
  have h5 : (w >>> k &&& 1#64).toNat = if w.getLsbD k then 1 else 0 := by
    have := BitVec.and_one_eq_setWidth_ofBool_getLsbD (x := w >>> k)
    rw [this, BitVec.getLsbD_ushiftRight, Nat.add_zero]
    cases w.getLsbD k <;> rfl
  rw [h5]
  cases w.getLsbD k <;> simp
end Go.HL.Kl
