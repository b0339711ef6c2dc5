/- Spare instructions; the node of one byte. Conditions: none. -/
import Derived.Test.YtihbhlgognpmmaaMT12
import Derived.Test.YtihbhlgognpmmaaMC2
import Derived.Test.YtihbhlgognpmmaaMTW
namespace Go.HL.Kl.Mc
open Go Go.HL Go.HL.Kl
def spI (i : Nat) : In := ⟨0, 0, ((1048576 * 9 + i + 1 : Nat) : Int), -7⟩
/-- the node of one byte -/
def letN (b : UInt8) : Nd := ⟨1, bit b.toNat, 0, 0, 0, 0⟩
theorem En_one : En ⟨1, 0, 0, 0, 0, 0⟩ = [.int .i8 1, .int .u64 0, .int .u64 0, .int .u64 0, .int .u64 0, .int .i64 0, .int .i64 0, .int .i64 0, .int .i64 0] := by
  show _ :: (Ec 0#256 ++ _) = _
  rw [Ec_zero]; rfl
theorem letN_set (b : UInt8) : (En (⟨1, 0, 0, 0, 0, 0⟩ : Nd)).set (0 + 1 + (((b.toNat / 64 : Nat) : Int)).toNat * 1) (Ew (1#64 <<< (b.toNat % 64))) = En (letN b) := by
  have hb := b.toNat_lt
  have h := with_eq (0#256) (x := b.toNat) hb
  have h0 : ∀ i, wd 0#256 i = 0#64 := fun i => by simp [wd]
  rw [h0, BitVec.zero_or, BitVec.zero_or] at h
  show (_ :: (Ec 0#256 ++ _)).set _ _ = _ :: (Ec (bit b.toNat) ++ _)
  rw [← h, ← Ec_set _ _ (by omega), Int.toNat_natCast, show 0 + 1 + b.toNat / 64 * 1 = b.toNat / 64 + 1 by omega, List.set_cons_succ, List.set_append_left _ _ (by show b.toNat / 64 < 4; omega)]; rfl
end Go.HL.Kl.Mc
