/- Part of the proofs over this seat: see the text that holds the theorem. Conditions: each theorem bears its own. -/
import Derived.Test.YtafbigmneipkiaaDoorMC14
import Derived.Test.YtafbigmneipkiaaDoorHlB
namespace Go.HL.Kl
open Go Go.HL
/-- the mark -/
def mkC : Cl := mk4 7#64 7#64 7#64 7#64
/-- the first i filled in: the classes, then marks -/
def fl (l : List Cl) (i : Nat) : List Cl := (l ++ [mkC, mkC, mkC]).take i ++ List.replicate (l.length + 3 - i) 0#256
theorem fl_len {l : List Cl} {i : Nat} (h : i ≤ l.length + 3) : (fl l i).length = l.length + 3 := by simp [fl]; omega
theorem fl_zero (l : List Cl) : fl l 0 = List.replicate (l.length + 3) 0#256 := by simp [fl]
theorem fl_all (l : List Cl) : fl l (l.length + 3) = l ++ [mkC, mkC, mkC] := by
  unfold fl; rw [List.take_of_length_le (by simp)]; simp
theorem fl_put {l : List Cl} {i : Nat} {c : Cl} (h : (l ++ [mkC, mkC, mkC])[i]? = some c) : fl l (i + 1) = (fl l i).set i c := by
  have hi : i < l.length + 3 := by
    rcases Nat.lt_or_ge i (l.length + 3) with h' | h'
    · exact h'
    · rw [List.getElem?_eq_none (by simp; omega)] at h; cases h
  have hl : ((l ++ [mkC, mkC, mkC]).take i).length = i := by simp; omega
  unfold fl
  rw [List.set_append_right _ _ (by omega), hl, Nat.sub_self, List.take_add_one, h, show l.length + 3 - i = (l.length + 3 - (i + 1)) + 1 by omega, List.replicate_succ]
  simp
theorem fl_no {l : List Cl} {i : Nat} (h : l.length ≤ i) (h3 : i < l.length + 3) : fl l (i + 1) = (fl l i).set i mkC := by
  refine fl_put ?_
  rw [List.getElem?_append_right h]
  match e : i - l.length, (show i - l.length < 3 by omega) with
  | 0, _ => rfl
  | 1, _ => rfl
  | 2, _ => rfl
theorem fl_yes {l : List Cl} {i : Nat} {c : Cl} (h : l[i]? = some c) : fl l (i + 1) = ((fl l i).set i mkC).set i c := by
  rw [List.set_set]
  have hi : i < l.length := (List.getElem?_eq_some_iff.1 h).1
  exact fl_put (by rw [List.getElem?_append_left hi]; exact h)
theorem tl_get (l : List Cl) (j : Nat) (h : j < 3) : (l ++ [mkC, mkC, mkC])[l.length + j]? = some mkC := by
  rw [List.getElem?_append_right (by omega), Nat.add_sub_cancel_left]
  match j, h with
  | 0, _ => rfl
  | 1, _ => rfl
  | 2, _ => rfl
/-- a class with a word turned over -/
def xr (c : Cl) (i : Nat) : Cl := setw c (i % 4) (wd c (i % 4) ^^^ 16711935#64)
theorem Ec_splice (c : Cl) {i : Nat} (w : BitVec 64) (h : i < 4) : Ec (setw c i w) = splice (Ec c) i [Ew w] := by
  rw [← Ec_set c w h]
  match i, h with
  | 0, _ => rfl
  | 1, _ => rfl
  | 2, _ => rfl
  | 3, _ => rfl
theorem mid_get {l M B : List Cl} {i : Nat} {c : Cl} (hM : M.length = i) (h : l[i]? = some c) : (M ++ l.drop i ++ B)[i]? = some c := by
  have hi : i < l.length := (List.getElem?_eq_some_iff.1 h).1
  rw [List.getElem?_append_left (by simp; omega), List.getElem?_append_right (by omega), List.getElem?_drop, hM]
  simpa using h
theorem mid_set {l M B : List Cl} {i : Nat} {c : Cl} (x : Cl) (hM : M.length = i) (h : l[i]? = some c) : (M ++ l.drop i ++ B).set i x = M ++ [x] ++ l.drop (i + 1) ++ B := by
  have hi : i < l.length := (List.getElem?_eq_some_iff.1 h).1
  rw [List.append_assoc, List.set_append_right _ _ (by omega), hM, Nat.sub_self, List.drop_eq_getElem_cons hi]
  simp only [List.cons_append, List.set_cons_zero, List.append_assoc, List.nil_append]
theorem mid_get2 {l M B : List Cl} {i : Nat} {c : Cl} (x : Cl) (hM : M.length = i) (h : l[i]? = some c) : ((M ++ l.drop i ++ B).set i x)[i]? = some x := by
  have hi : i < l.length := (List.getElem?_eq_some_iff.1 h).1
  rw [List.getElem?_set_self (by simp; omega)]
theorem v_xor (a b : BitVec 64) : Value.int .u64 (IntKind.u64.wrap (BitVec.ofInt IntKind.u64.bits (a.toNat : Int) ^^^ BitVec.ofInt IntKind.u64.bits (b.toNat : Int)).toNat) = Ew (a ^^^ b) := by
  rw [of64, of64]; exact congrArg _ (wrap64 _)
theorem v_xorc (w : BitVec 64) (n : Nat) (h : n < 18446744073709551616) : Value.int .u64 (IntKind.u64.wrap (BitVec.ofInt IntKind.u64.bits (w.toNat : Int) ^^^ BitVec.ofInt IntKind.u64.bits (n : Int)).toNat) = Ew (w ^^^ BitVec.ofNat 64 n) := by
  have e : ((BitVec.ofNat 64 n).toNat : Int) = (n : Int) := by rw [BitVec.toNat_ofNat]; simp; omega
  rw [← e]; exact v_xor _ _
theorem conv_u64 {i : Nat} (h : i < 18446744073709551616) : IntKind.u64.wrap (i : Int) = ((BitVec.ofNat 64 i).toNat : Int) := by
  rw [wrap_u64, BitVec.toNat_ofNat]; omega
end Go.HL.Kl
