/- Part of the proofs over this seat: see the text that holds the theorem. Conditions: each theorem bears its own. -/
import Derived.Test.YtafbigmneipkiaaDoorMC7
namespace Go.HL.Kl
open Go Go.HL
def lastR (l : List (Nat × Nat)) : Nat × Nat := l.getD (l.length - 1) (0, 0)
theorem last_get {l : List (Nat × Nat)} (h : 0 < l.length) : l[l.length - 1]? = some (lastR l) := by
  unfold lastR
  rw [List.getD_eq_getElem?_getD, List.getElem?_eq_getElem (by omega)]; rfl
theorem last_app (l : List (Nat × Nat)) (r : Nat × Nat) : lastR (l ++ [r]) = r := by simp [lastR]
theorem last_set (l : List (Nat × Nat)) (r : Nat × Nat) (h : 0 < l.length) : lastR (l.set (l.length - 1) r) = r := by
  unfold lastR
  rw [List.length_set, List.getD_eq_getElem?_getD, List.getElem?_set_self (by omega)]; rfl
/-- the runs, byte by byte -/
def stepB (l : List (Nat × Nat)) (b : Nat) : List (Nat × Nat) := if 0 < l.length ∧ (lastR l).2 + 1 = b then l.set (l.length - 1) ((lastR l).1, b) else l ++ [(b, b)]
def runsB (p : List Nat) : List (Nat × Nat) := p.foldl stepB []
def runs (c : Cl) : List (Nat × Nat) := runsB (mems c)
theorem runsB_snoc (p : List Nat) (x : Nat) : runsB (p ++ [x]) = stepB (runsB p) x := by simp [runsB]
theorem runsB_set {p : List Nat} {x : Nat} (h : 0 < (runsB p).length) (he : (lastR (runsB p)).2 + 1 = x) : runsB (p ++ [x]) = (runsB p).set ((runsB p).length - 1) ((lastR (runsB p)).1, x) := by
  rw [runsB_snoc, stepB, if_pos ⟨h, he⟩]
theorem runsB_new {p : List Nat} {x : Nat} (h : ¬ 0 < (runsB p).length ∨ ¬ (lastR (runsB p)).2 + 1 = x) : runsB (p ++ [x]) = runsB p ++ [(x, x)] := by
  rw [runsB_snoc, stepB, if_neg (fun e => h.elim (fun h => h e.1) (fun h => h e.2))]
theorem runsB_last (p : List Nat) (x : Nat) : 0 < (runsB (p ++ [x])).length ∧ (lastR (runsB (p ++ [x]))).2 = x := by
  rw [runsB_snoc, stepB]
  split
  · rename_i h
    rw [List.length_set, last_set _ _ h.1]
    exact ⟨h.1, rfl⟩
  · rw [last_app]; simp
theorem snoc_cases {α : Type} (l : List α) : l = [] ∨ ∃ q y, l = q ++ [y] := by
  rcases List.eq_nil_or_concat l with h | ⟨q, y, h⟩
  · exact .inl h
  · exact .inr ⟨q, y, by simpa using h⟩
theorem runsB_le (p : List Nat) : (runsB p).length ≤ p.length := by
  have key : ∀ (p : List Nat) (l : List (Nat × Nat)), (p.foldl stepB l).length ≤ l.length + p.length := by
    intro p
    induction p with
    | nil => intro l; simp
    | cons x p ih =>
      intro l
      have h1 := ih (stepB l x)
      have h2 : (stepB l x).length ≤ l.length + 1 := by unfold stepB; split <;> simp
      simp only [List.foldl_cons, List.length_cons]; omega
  simpa [runsB] using key p []
theorem prefix_len {c : Cl} {p : List Nat} {x : Nat} (h : p ++ [x] <+: mems c) : p.length ≤ 256 := by
  have h1 := h.length_le
  have h2 := memsTo_len c 256
  simp [mems] at h1
  omega
theorem last_mem {p : List Nat} (h : 0 < (runsB p).length) : ∃ q y, p = q ++ [y] ∧ (lastR (runsB p)).2 = y := by
  rcases snoc_cases p with rfl | ⟨q, y, rfl⟩
  · simp [runsB] at h
  · exact ⟨q, y, rfl, (runsB_last q y).2⟩
theorem last_lt {c : Cl} {p : List Nat} {x : Nat} (h : p ++ [x] <+: mems c) (hk : 0 < (runsB p).length) : (lastR (runsB p)).2 < 256 := by
  obtain ⟨q, y, rfl, hy⟩ := last_mem hk
  rw [hy]
  have : y ∈ mems c := h.subset (by simp)
  exact (memsTo_lt this).1
theorem runs_adj {c : Cl} {i : Nat} (h0 : 0 < i) (hb : BitVec.getLsbD c (i - 1) = true) : 0 < (runsB (memsTo c i)).length ∧ (lastR (runsB (memsTo c i))).2 + 1 = i := by
  have e := memsTo_yes hb
  rw [show i - 1 + 1 = i by omega] at e
  rw [e]
  have := runsB_last (memsTo c (i - 1)) (i - 1)
  exact ⟨this.1, by omega⟩
theorem runs_gap {c : Cl} {i : Nat} (h : i = 0 ∨ BitVec.getLsbD c (i - 1) = false) : ¬ 0 < (runsB (memsTo c i)).length ∨ ¬ (lastR (runsB (memsTo c i))).2 + 1 = i := by
  by_cases hk : 0 < (runsB (memsTo c i)).length
  · refine .inr fun e => ?_
    obtain ⟨q, y, hp, hy⟩ := last_mem hk
    rw [hy] at e
    have hm : y ∈ memsTo c i := by rw [hp]; simp
    have := memsTo_lt hm
    rcases h with rfl | h
    · omega
    · rw [show i - 1 = y by omega, this.2] at h; cases h
  · exact .inl hk
end Go.HL.Kl
