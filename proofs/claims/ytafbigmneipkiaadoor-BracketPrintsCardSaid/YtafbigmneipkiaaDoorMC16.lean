/- Part of the proofs over this seat: see the text that holds the theorem. Conditions: each theorem bears its own. -/
import Derived.Test.YtafbigmneipkiaaDoorMC15
namespace Go.HL.Kl
open Go Go.HL
def nmU : Cl := rng 65 90
def nmL : Cl := rng 97 122
def nmD : Cl := rng 48 57
def nmAN : Cl := (nmU ||| nmL) ||| nmD
/-- the named classes -/
def named (s : ByteArray) : Option Cl :=
  if s = ⟨#[97, 108, 110, 117, 109]⟩ then some (nmAN) else
  if s = ⟨#[97, 108, 112, 104, 97]⟩ then some (nmU ||| nmL) else
  if s = ⟨#[98, 108, 97, 110, 107]⟩ then some (ofL [32, 9]) else
  if s = ⟨#[99, 110, 116, 114, 108]⟩ then some (rng 0 31 ||| ofL [127]) else
  if s = ⟨#[100, 105, 103, 105, 116]⟩ then some (nmD) else
  if s = ⟨#[103, 114, 97, 112, 104]⟩ then some (rng 33 126) else
  if s = ⟨#[108, 111, 119, 101, 114]⟩ then some (nmL) else
  if s = ⟨#[112, 114, 105, 110, 116]⟩ then some (rng 32 126) else
  if s = ⟨#[112, 117, 110, 99, 116]⟩ then some (rng 33 126 &&& ~~~nmAN) else
  if s = ⟨#[115, 112, 97, 99, 101]⟩ then some (rng 9 13 ||| ofL [32]) else
  if s = ⟨#[117, 112, 112, 101, 114]⟩ then some (nmU) else
  if s = ⟨#[120, 100, 105, 103, 105, 116]⟩ then some (nmD ||| (rng 65 70 ||| rng 97 102)) else
  none
/-- what Named answers -/
def nmV (r : Option Cl) : Value := .tuple #[.agg (Ec (r.getD 0)).toArray, .bool r.isSome]
theorem named_alnum : named ⟨#[97, 108, 110, 117, 109]⟩ = some (nmAN) := by
  unfold named; rw [if_pos rfl]
theorem named_alpha : named ⟨#[97, 108, 112, 104, 97]⟩ = some (nmU ||| nmL) := by
  unfold named; rw [if_neg (by decide +kernel), if_pos rfl]
theorem named_blank : named ⟨#[98, 108, 97, 110, 107]⟩ = some (ofL [32, 9]) := by
  unfold named; rw [if_neg (by decide +kernel), if_neg (by decide +kernel), if_pos rfl]
theorem named_cntrl : named ⟨#[99, 110, 116, 114, 108]⟩ = some (rng 0 31 ||| ofL [127]) := by
  unfold named; rw [if_neg (by decide +kernel), if_neg (by decide +kernel), if_neg (by decide +kernel), if_pos rfl]
theorem named_digit : named ⟨#[100, 105, 103, 105, 116]⟩ = some (nmD) := by
  unfold named; rw [if_neg (by decide +kernel), if_neg (by decide +kernel), if_neg (by decide +kernel), if_neg (by decide +kernel), if_pos rfl]
theorem named_graph : named ⟨#[103, 114, 97, 112, 104]⟩ = some (rng 33 126) := by
  unfold named; rw [if_neg (by decide +kernel), if_neg (by decide +kernel), if_neg (by decide +kernel), if_neg (by decide +kernel), if_neg (by decide +kernel), if_pos rfl]
theorem named_lower : named ⟨#[108, 111, 119, 101, 114]⟩ = some (nmL) := by
  unfold named; rw [if_neg (by decide +kernel), if_neg (by decide +kernel), if_neg (by decide +kernel), if_neg (by decide +kernel), if_neg (by decide +kernel), if_neg (by decide +kernel), if_pos rfl]
theorem named_print : named ⟨#[112, 114, 105, 110, 116]⟩ = some (rng 32 126) := by
  unfold named; rw [if_neg (by decide +kernel), if_neg (by decide +kernel), if_neg (by decide +kernel), if_neg (by decide +kernel), if_neg (by decide +kernel), if_neg (by decide +kernel), if_neg (by decide +kernel), if_pos rfl]
theorem named_punct : named ⟨#[112, 117, 110, 99, 116]⟩ = some (rng 33 126 &&& ~~~nmAN) := by
  unfold named; rw [if_neg (by decide +kernel), if_neg (by decide +kernel), if_neg (by decide +kernel), if_neg (by decide +kernel), if_neg (by decide +kernel), if_neg (by decide +kernel), if_neg (by decide +kernel), if_neg (by decide +kernel), if_pos rfl]
theorem named_space : named ⟨#[115, 112, 97, 99, 101]⟩ = some (rng 9 13 ||| ofL [32]) := by
  unfold named; rw [if_neg (by decide +kernel), if_neg (by decide +kernel), if_neg (by decide +kernel), if_neg (by decide +kernel), if_neg (by decide +kernel), if_neg (by decide +kernel), if_neg (by decide +kernel), if_neg (by decide +kernel), if_neg (by decide +kernel), if_pos rfl]
theorem named_upper : named ⟨#[117, 112, 112, 101, 114]⟩ = some (nmU) := by
  unfold named; rw [if_neg (by decide +kernel), if_neg (by decide +kernel), if_neg (by decide +kernel), if_neg (by decide +kernel), if_neg (by decide +kernel), if_neg (by decide +kernel), if_neg (by decide +kernel), if_neg (by decide +kernel), if_neg (by decide +kernel), if_neg (by decide +kernel), if_pos rfl]
theorem named_xdigit : named ⟨#[120, 100, 105, 103, 105, 116]⟩ = some (nmD ||| (rng 65 70 ||| rng 97 102)) := by
  unfold named; rw [if_neg (by decide +kernel), if_neg (by decide +kernel), if_neg (by decide +kernel), if_neg (by decide +kernel), if_neg (by decide +kernel), if_neg (by decide +kernel), if_neg (by decide +kernel), if_neg (by decide +kernel), if_neg (by decide +kernel), if_neg (by decide +kernel), if_neg (by decide +kernel), if_pos rfl]
end Go.HL.Kl
