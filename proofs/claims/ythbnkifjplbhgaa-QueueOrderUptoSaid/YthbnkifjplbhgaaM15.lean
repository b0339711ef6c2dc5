/- Part of the proofs over this seat: see the text that holds the theorem. Conditions: each theorem bears its own. -/
import Derived.Test.YthbnkifjplbhgaaM14
import Derived.Test.YthbnkifjplbhgaaHlB
namespace Go.Proofs.Ythbnkifjplbhgaa
open Go Go.HL Go.Proofs

/-- what lives hands to Flush -/
def lvR (s : Int × List UInt8) (n : ByteArray) : List UInt8 × (Int × List UInt8) := ((n ++ n).data.toList, s)
def lvO (s : Int × List UInt8) (b : List UInt8) : Int × (Int × List UInt8) := (0, (s.1 + 1, s.2 ++ b))
def lvKR (_ : Int × List UInt8) (n : ByteArray) : Prop := n.size ≤ 1099511627776
def lvKO (s : Int × List UInt8) (b : List UInt8) : Prop := 0 ≤ s.1 ∧ s.1 ≤ 1000 ∧ s.2.length + b.length ≤ 1099511627776
theorem lvEnds : flushQ lvR lvO [.text [97], .file ⟨#[102]⟩] (0, []) = (0, (2, [97, 10, 102, 102])) := by decide
theorem lvFits : fitsQ lvR lvO lvKR lvKO [.text [97], .file ⟨#[102]⟩] (0, []) := by
  simp [fitsQ, fitQ, stepQ, lvR, lvO, lvKR, lvKO, ByteArray.size]
theorem items2 {a : Option Addr} {c : Nat} {Sx : Hp} (h : OwnS Eb 1 5 (.slice a [(97 : UInt8)].length c) [97] Sx) : Items ([] ++ [(⟨103, .slice a [(97 : UInt8)].length c⟩ : IV)] ++ [(⟨104, .string ⟨#[102]⟩⟩ : IV)]) [.text [97], .file ⟨#[102]⟩] Sx := by
  refine ⟨rfl, fun j q hj => ?_⟩
  match j, hj with
  | 0, hj => cases hj; exact ⟨⟨a, c, [97]⟩, rfl, rfl, h.rds⟩
  | 1, hj => cases hj; exact rfl
  | j + 2, hj => simp at hj
end Go.Proofs.Ythbnkifjplbhgaa
