/- Part of the proofs over this seat: see the text that holds the theorem. Conditions: each theorem bears its own. -/
import Derived.Test.YtafbigmneipkiaaDoorMB1
namespace Go.HL.Kl.Bk
open Go Go.HL Go.Tab
/-- the reference's thing -/
structure Rt where
  f : Int
  t : Int
  e : Bool
  ba : Bool
  y : UInt8
  c : Cl
  r : Int
def Ert (x : Rt) : List Value := [.int .i64 x.f, .int .i64 x.t, .bool x.e, .bool x.ba, .int .u8 x.y.toNat] ++ (Ec x.c ++ [.int .i64 x.r])
theorem ert_len (x : Rt) : (Ert x).length = 10 := by simp [Ert, Enc.len (E := Ec) x.c]
theorem ert_one (x : Rt) : ∀ v ∈ Ert x, v.oneCell' = true := by
  intro v hv
  simp only [Ert, List.mem_append, List.mem_cons, List.not_mem_nil, or_false] at hv
  rcases hv with (rfl | rfl | rfl | rfl | rfl) | hv | rfl <;> first | rfl | exact Ec_one _ _ hv
def zRt : Rt := ⟨0, 0, false, false, 0, 0, 0⟩
theorem ert_zero : Ert zRt = [.int .i64 0, .int .i64 0, .bool false, .bool false, .int .u8 0, .int .u64 0, .int .u64 0, .int .u64 0, .int .u64 0, .int .i64 0] := by
  show _ ++ (Ec 0#256 ++ _) = _
  rw [Ec_zero]; rfl
def badR (i : Int) (e : Int) : Rt := ⟨i, 0, false, false, 0, 0, e⟩
def okR (i : Int) (ba : Bool) (t : Th) : Rt := ⟨i, t.next, t.e, ba, t.b, t.set, 0⟩
def thV (l : List Mk) (i : Nat) : Rt := match thP l i i with | .ok t => okR i (sg l i 45) t | .bad e _ => badR i e
theorem sg_mk {l : List Mk} {i : Nat} {b : UInt8} (h : sg l i b = true) : mk0 l i = ⟨b, false⟩ := by
  have := sg_lt h
  rw [sg_at this] at h
  exact of_decide_eq_true h
theorem sg_nmk {l : List Mk} {i : Nat} {b : UInt8} (h : sg l i b = false) (hl : i < l.length) (hp : (mk0 l i).p = false) : (mk0 l i).b ≠ b := by
  intro e
  rw [sg_at hl] at h
  refine of_decide_eq_false h ?_
  cases hm : mk0 l i
  rw [hm] at e hp
  simp only at e hp
  rw [e, hp]
theorem thP_past {l : List Mk} {a i : Nat} (h : l.length ≤ i) : thP l a i = .bad 32 a := by unfold thP; rw [if_pos h]
theorem thP_plain {l : List Mk} {a i : Nat} (h : i < l.length) (h91 : sg l i 91 = false) : thP l a i = .ok (oneP l i) := by
  unfold thP; rw [if_neg (by omega), if_neg (by rintro ⟨r, _⟩; rw [h91] at r; cases r)]
theorem thP_name {l : List Mk} {a i : Nat} (h91 : sg l i 91 = true) (h58 : sg l (i + 1) 58 = true) : thP l a i = nameP l a i := by
  have := sg_lt h91; have h2 := sg_lt h58
  unfold thP; rw [if_neg (by omega), if_pos ⟨h91, h2, by rw [sg_mk h58]⟩, if_pos (by rw [sg_mk h58])]
theorem thP_encl {l : List Mk} {a i : Nat} {y : UInt8} (h91 : sg l i 91 = true) (hy : sg l (i + 1) y = true) (hy2 : y = 61 ∨ y = 46) : thP l a i = encP l a i y := by
  have := sg_lt h91; have h2 := sg_lt hy
  unfold thP
  rw [if_neg (by omega), if_pos ⟨h91, h2, by rw [sg_mk hy]⟩, sg_mk hy]
  rcases hy2 with rfl | rfl
  · rw [if_neg (by decide), if_pos (.inl rfl)]
  · rw [if_neg (by decide), if_pos (.inr rfl)]
theorem thP_else {l : List Mk} {a i : Nat} (h91 : sg l i 91 = true) (h1 : sg l (i + 1) 58 = false) (h2 : sg l (i + 1) 61 = false) (h3 : sg l (i + 1) 46 = false) : thP l a i = .ok (oneP l i) := by
  have := sg_lt h91
  unfold thP
  rw [if_neg (by omega)]
  by_cases hc : i + 1 < l.length ∧ (mk0 l (i + 1)).p = false
  · rw [if_pos ⟨h91, hc.1, hc.2⟩, if_neg (sg_nmk h1 hc.1 hc.2), if_neg (by rintro (r | r); exact sg_nmk h2 hc.1 hc.2 r; exact sg_nmk h3 hc.1 hc.2 r)]
  · rw [if_neg (fun r => hc r.2)]
end Go.HL.Kl.Bk
