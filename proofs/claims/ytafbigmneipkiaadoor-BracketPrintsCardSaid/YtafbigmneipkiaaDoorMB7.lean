/- Part of the proofs over this seat: see the text that holds the theorem. Conditions: each theorem bears its own. -/
import Derived.Test.YtafbigmneipkiaaDoorMB3
namespace Go.HL.Kl.Bk
open Go Go.HL Go.Tab
/-- what works reads and writes -/
def wRow : List Mk := [120, 91, 94, 98, 45, 122, 93, 121].map sgn
def wCls : Cl := ~~~(rng 98 122)
theorem wParse : parseP wRow 1 = (wCls, 7, 0) := by decide +kernel
theorem wPrint : printP (bit 97) = [91, 97, 93].map sgn := by decide +kernel
theorem wCls_cells : Ec wCls = [.int .u64 18446744073709551615, .int .u64 17870283338585997311, .int .u64 18446744073709551615, .int .u64 18446744073709551615] := by
  have h0 : wd wCls 0 = 18446744073709551615#64 := by decide +kernel
  have h1 : wd wCls 1 = 17870283338585997311#64 := by decide +kernel
  have h2 : wd wCls 2 = 18446744073709551615#64 := by decide +kernel
  have h3 : wd wCls 3 = 18446744073709551615#64 := by decide +kernel
  simp only [Ec, h0, h1, h2, h3]; rfl
theorem w97_cells : Ec (bit 97) = [.int .u64 0, .int .u64 8589934592, .int .u64 0, .int .u64 0] := by
  have h0 : wd (bit 97) 0 = 0#64 := by decide +kernel
  have h1 : wd (bit 97) 1 = 8589934592#64 := by decide +kernel
  have h2 : wd (bit 97) 2 = 0#64 := by decide +kernel
  have h3 : wd (bit 97) 3 = 0#64 := by decide +kernel
  simp only [Ec, h0, h1, h2, h3]; rfl
theorem print_len (c : Cl) : (printP c).length ≤ 3000 := by
  have h1 : ∀ l : List (Nat × Nat), (l.flatMap runM).length ≤ 11 * l.length := by
    intro l
    induction l with
    | nil => simp
    | cons r l ih =>
      have hr : (runM r).length ≤ 11 := by
        have he : ∀ b, (endM b).length ≤ 5 := fun b => by unfold endM; split <;> simp
        have h1 := he (UInt8.ofNat r.1)
        have h2 := he (UInt8.ofNat r.2)
        unfold runM
        split <;> simp <;> omega
      simp only [List.flatMap_cons, List.length_append, List.length_cons]
      omega
  have h2 := h1 (runs (body c))
  have h3 := runs_le (body c)
  unfold printP
  generalize (runs (body c)).flatMap runM = FM at h2 ⊢
  split <;> simp <;> omega
end Go.HL.Kl.Bk
