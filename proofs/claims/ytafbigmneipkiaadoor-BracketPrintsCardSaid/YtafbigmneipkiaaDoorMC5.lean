/- Part of the proofs over this seat: see the text that holds the theorem. Conditions: each theorem bears its own. -/
import Derived.Test.YtafbigmneipkiaaDoorMC4
namespace Go.HL.Kl
open Go Go.HL
theorem v_shr (w : BitVec 64) {n : Int} (k : Nat) (h : min n.toNat IntKind.u64.bits = k) : Value.int .u64 ((w.toNat : Int).fdiv (2 ^ (min n.toNat IntKind.u64.bits))) = Ew (w >>> k) := by
  rw [h]
  have h2 : ((2 : Int) ^ k) = ((2 ^ k : Nat) : Int) := by simp
  rw [h2, Int.fdiv_eq_ediv_of_nonneg _ (Int.natCast_nonneg _)]
  simp only [Ew, BitVec.toNat_ushiftRight, Nat.shiftRight_eq_div_pow]
  rfl
theorem v_andc (w : BitVec 64) (n : Nat) (h : n < 18446744073709551616) : Value.int .u64 (IntKind.u64.wrap (BitVec.ofInt IntKind.u64.bits (w.toNat : Int) &&& BitVec.ofInt IntKind.u64.bits (n : Int)).toNat) = Ew (w &&& BitVec.ofNat 64 n) := by
  have e : ((BitVec.ofNat 64 n).toNat : Int) = (n : Int) := by rw [BitVec.toNat_ofNat]; simp; omega
  rw [← e]; exact v_and _ _
theorem v_add (a b : BitVec 64) : Value.int .u64 (IntKind.u64.wrap ((a.toNat : Int) + (b.toNat : Int))) = Ew (a + b) := by
  simp only [Ew, Value.int.injEq, true_and, BitVec.toNat_add]
  rw [wrap_u64]; omega
theorem v_sub1 (a : BitVec 64) : Value.int .u64 (IntKind.u64.wrap ((a.toNat : Int) - 1)) = Ew (a - 1#64) := by
  simp only [Ew, Value.int.injEq, true_and, BitVec.toNat_sub]
  have := a.isLt
  rw [wrap_u64]; simp; omega
theorem wrap_i64n {x : Nat} (h : x < 9223372036854775808) : IntKind.i64.wrap (x : Int) = x := by
  simp [IntKind.wrap, IntKind.signed, IntKind.bits]; omega
theorem v_and127 {x : Nat} (h : x < 9223372036854775808) : IntKind.i64.wrap (BitVec.ofInt IntKind.i64.bits (x : Int) &&& BitVec.ofInt IntKind.i64.bits 127).toNat = ((x % 128 : Nat) : Int) := by
  have e1 : BitVec.ofInt IntKind.i64.bits (x : Int) = BitVec.ofNat 64 x := by rw [BitVec.ofInt_natCast]; rfl
  have e2 : BitVec.ofInt IntKind.i64.bits 127 = 127#64 := rfl
  have e3 : (BitVec.ofNat 64 x &&& 127#64).toNat = x % 128 := by
    rw [BitVec.toNat_and, BitVec.toNat_ofNat, BitVec.toNat_ofNat]
    have : x % 2 ^ 64 = x := Nat.mod_eq_of_lt (by omega)
    rw [this]
    exact Nat.and_two_pow_sub_one_eq_mod x 7
  have e4 : (BitVec.ofInt IntKind.i64.bits (x : Int) &&& BitVec.ofInt IntKind.i64.bits 127).toNat = x % 128 := by rw [e1, e2]; exact e3
  rw [e4]
  exact wrap_i64n (by omega)
end Go.HL.Kl
