/- Part of the proofs over this seat: see the text that holds the theorem. Conditions: each theorem bears its own. -/
import Derived.Test.YthbnkifjplbhgaaM7
namespace Go.Proofs.Ythbnkifjplbhgaa
open Go Go.HL Go.Proofs

def keepS (s : OS) (b : List UInt8) : OS := ⟨s.kept ++ b, s.err, s.cnt, s.said⟩
def writeS (lim fail serr : Int) (s : OS) (b : List UInt8) : OS := if s.err ≠ 0 then s else if ((s.kept ++ b).length : Int) < lim then keepS s b else handS fail serr (keepS s b)
def writeE (lim fail serr : Int) (s : OS) (b : List UInt8) : Int := if s.err ≠ 0 then s.err else if ((s.kept ++ b).length : Int) < lim then 0 else handE fail serr (keepS s b)
def flushS (fail serr : Int) (s : OS) : OS := if s.err ≠ 0 then s else handS fail serr s
def flushE (fail serr : Int) (s : OS) : Int := if s.err ≠ 0 then s.err else handE fail serr s
def catK (kept : List UInt8) (sls : List (Sl UInt8)) (j : Nat) : List UInt8 := kept ++ ((sls.take j).map Sl.xs).flatten
theorem catK_zero {kept : List UInt8} {sls : List (Sl UInt8)} : catK kept sls 0 = kept := by simp [catK]
theorem catK_all {kept : List UInt8} {sls : List (Sl UInt8)} : catK kept sls sls.length = kept ++ (sls.map Sl.xs).flatten := by rw [catK, List.take_length]
theorem catK_succ {kept : List UInt8} {sls : List (Sl UInt8)} {j : Nat} (h : j < sls.length) : catK kept sls (j + 1) = catK kept sls j ++ (row0 sls j).xs := by
  rw [catK, catK, List.take_add_one, row0_get h, List.map_append, List.flatten_append, List.append_assoc]
  simp
theorem catK_mono {kept : List UInt8} {sls : List (Sl UInt8)} {i : Nat} (h : i ≤ sls.length) : (catK kept sls i).length ≤ (catK kept sls sls.length).length := by
  rw [catK_all, catK]
  conv => rhs; rw [← List.take_append_drop i sls, List.map_append, List.flatten_append]
  simp only [List.length_append]
  omega
theorem catK_lt {kept : List UInt8} {sls : List (Sl UInt8)} {lim : Int} : ((catK kept sls sls.length).length : Int) < lim ↔ ((kept ++ (sls.map Sl.xs).flatten).length : Int) < lim := by rw [catK_all]
theorem catK_own {kept : List UInt8} {sls : List (Sl UInt8)} {ka : Option Addr} {kc : Nat} {S : Hp} (h : OwnS Eb 1 5 (.slice ka (catK kept sls sls.length).length kc) (catK kept sls sls.length) S) :
    OwnS Eb 1 5 (.slice ka (catK kept sls sls.length).length kc) (kept ++ (sls.map Sl.xs).flatten) S := by rw [catK_all] at h ⊢; exact h
end Go.Proofs.Ythbnkifjplbhgaa
