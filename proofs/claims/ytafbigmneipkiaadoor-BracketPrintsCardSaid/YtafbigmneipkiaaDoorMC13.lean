/- Part of the proofs over this seat: see the text that holds the theorem. Conditions: each theorem bears its own. -/
import Derived.Test.YtafbigmneipkiaaDoorMC12
namespace Go.HL.Kl
open Go Go.HL
theorem mems_up (c : Cl) : (mems c).Pairwise (· < ·) := List.Pairwise.filter _ List.pairwise_lt_range
theorem mems_size (c : Cl) : (mems c).length = size c := by
  unfold mems memsTo size sizeTo; rw [List.countP_eq_length_filter]
/-- the bytes, put together -/
def bitsN (p : List Nat) : Cl := p.foldl (fun c b => c ||| bit b) 0
theorem bitsN_snoc (p : List Nat) (x : Nat) : bitsN (p ++ [x]) = bitsN p ||| bit x := by simp [bitsN]
theorem ofL_one (u : UInt8) : ofL [u] = bit u.toNat := by simp [ofL]
theorem bitsN_get (p : List Nat) : ∀ j, j < 256 → (bitsN p).getLsbD j = decide (j ∈ p) := by
  have key : ∀ (p : List Nat) (c : Cl) (j : Nat), j < 256 → (p.foldl (fun c b => c ||| bit b) c).getLsbD j = (c.getLsbD j || decide (j ∈ p)) := by
    intro p
    induction p with
    | nil => intro c j _; simp
    | cons x p ih =>
      intro c j hj
      rw [List.foldl_cons, ih _ j hj, BitVec.getLsbD_or, bit_get hj]
      by_cases e : j = x <;> simp [e]
  intro j hj
  have := key p 0 j hj
  simpa [bitsN] using this
theorem bitsN_mems (c : Cl) : bitsN (mems c) = c := by
  apply cl_ext
  intro j hj
  rw [bitsN_get _ j hj]
  simp [mems, memsTo, hj]
/-- the runs, put together -/
def orR (l : List (Nat × Nat)) : Cl := l.foldl (fun c r => c ||| rng r.1 r.2) 0
def sumR (l : List (Nat × Nat)) : Nat := (l.map fun r => r.2 + 1 - r.1).sum
theorem orR_snoc (l : List (Nat × Nat)) (r : Nat × Nat) : orR (l ++ [r]) = orR l ||| rng r.1 r.2 := by simp [orR]
theorem sumR_snoc (l : List (Nat × Nat)) (r : Nat × Nat) : sumR (l ++ [r]) = sumR l + (r.2 + 1 - r.1) := by simp [sumR]
theorem orR_step {l : List (Nat × Nat)} {i : Nat} {g : Nat × Nat} (h : l[i]? = some g) : orR (l.take (i + 1)) = orR (l.take i) ||| rng g.1 g.2 := by
  rw [List.take_add_one, h]; exact orR_snoc _ _
theorem sumR_step {l : List (Nat × Nat)} {i : Nat} {g : Nat × Nat} (h : l[i]? = some g) : sumR (l.take (i + 1)) = sumR (l.take i) + (g.2 + 1 - g.1) := by
  rw [List.take_add_one, h]; exact sumR_snoc _ _
/-- rising runs that do not touch -/
def Rise (l : List (Nat × Nat)) : Prop := ∀ i g, l[i]? = some g → g.1 ≤ g.2 ∧ g.2 < 256 ∧ ∀ q, 0 < i → l[i - 1]? = some q → q.2 + 1 < g.1
theorem Rise.snoc {l : List (Nat × Nat)} {g : Nat × Nat} (h : Rise l) (h1 : g.1 ≤ g.2) (h2 : g.2 < 256) (h3 : ∀ q, 0 < l.length → l[l.length - 1]? = some q → q.2 + 1 < g.1) : Rise (l ++ [g]) := by
  intro i e he
  rcases Nat.lt_trichotomy i l.length with hi | hi | hi
  · rw [List.getElem?_append_left hi] at he
    obtain ⟨a, b, d⟩ := h i e he
    exact ⟨a, b, fun q h0 hq => d q h0 (by rw [List.getElem?_append_left (by omega)] at hq; exact hq)⟩
  · subst hi
    have : e = g := by simpa using he.symm
    subst this
    exact ⟨h1, h2, fun q h0 hq => h3 q h0 (by rw [List.getElem?_append_left (by omega)] at hq; exact hq)⟩
  · rw [List.getElem?_eq_none (by simp; omega)] at he; cases he
theorem Rise.init {l : List (Nat × Nat)} {g : Nat × Nat} (h : Rise (l ++ [g])) : Rise l := by
  intro i e he
  have hi : i < l.length := by
    rcases Nat.lt_or_ge i l.length with h' | h'
    · exact h'
    · rw [List.getElem?_eq_none h'] at he; cases he
  obtain ⟨a, b, d⟩ := h i e (by rw [List.getElem?_append_left hi]; exact he)
  exact ⟨a, b, fun q h0 hq => d q h0 (by rw [List.getElem?_append_left (by omega)]; exact hq)⟩
theorem rng_one (x : Nat) : rng x x = bit x := by
  rw [rng, rngTo_step (Nat.le_refl _), rngTo_low (Nat.le_refl _)]; simp
theorem runsB_good (p : List Nat) : p.Pairwise (· < ·) → (∀ x ∈ p, x < 256) → Rise (runsB p) ∧ orR (runsB p) = bitsN p ∧ sumR (runsB p) = p.length := by
  induction hn : p.length generalizing p with
  | zero =>
    intro _ _
    obtain rfl : p = [] := List.length_eq_zero_iff.1 hn
    exact ⟨fun i g h => by simp [runsB] at h, rfl, rfl⟩
  | succ n ih =>
    intro hp hx
    rcases snoc_cases p with rfl | ⟨q, x, rfl⟩
    · simp at hn
    have hnq : q.length = n := by simpa using hn
    obtain ⟨hq1, _, hq2⟩ := List.pairwise_append.1 hp
    obtain ⟨hr, ho, hs⟩ := ih q hnq hq1 (fun y hy => hx y (List.mem_append_left _ hy))
    have hx' : x < 256 := hx x (by simp)
    rw [bitsN_snoc, ← ho]
    by_cases hc : 0 < (runsB q).length ∧ (lastR (runsB q)).2 + 1 = x
    · obtain ⟨hk, he⟩ := hc
      rw [runsB_set hk he]
      rcases snoc_cases (runsB q) with e | ⟨l, g, e⟩
      · rw [e] at hk; simp at hk
      rw [e] at hr hs he ⊢
      rw [last_app] at he ⊢
      have hg := hr l.length g (by simp)
      have e2 : (l ++ [g]).set ((l ++ [g]).length - 1) (g.1, x) = l ++ [(g.1, x)] := by simp
      rw [e2, orR_snoc, orR_snoc, sumR_snoc]
      rw [sumR_snoc] at hs
      refine ⟨hr.init.snoc (by show g.1 ≤ x; omega) hx' (fun q' h0 hq' => ?_), ?_, ?_⟩
      · exact hg.2.2 q' h0 (by rw [List.getElem?_append_left (by omega)]; exact hq')
      · subst he
        show orR l ||| rng g.1 (g.2 + 1) = _
        rw [rng, rngTo_step (by omega), ← BitVec.or_assoc]; rfl
      · show sumR l + (x + 1 - g.1) = n + 1
        omega
    · rw [runsB_new (by rcases Nat.lt_or_ge 0 (runsB q).length with h | h; exact .inr fun e => hc ⟨h, e⟩; exact .inl (by omega)), orR_snoc, sumR_snoc]
      refine ⟨hr.snoc (Nat.le_refl _) hx' (fun g h0 hg => ?_), by rw [rng_one], ?_⟩
      · rw [last_get h0] at hg
        cases hg
        obtain ⟨q', y, rfl, hy⟩ := last_mem h0
        have h1 : y < x := hq2 y (by simp) x (by simp)
        have h2 : ¬ (lastR (runsB (q' ++ [y]))).2 + 1 = x := fun e => hc ⟨h0, e⟩
        show _ < x
        omega
      · show sumR (runsB q) + (x + 1 - x) = n + 1
        omega
theorem runs_good (c : Cl) : Rise (runs c) ∧ orR (runs c) = bitsN (mems c) ∧ sumR (runs c) = (mems c).length := runsB_good _ (mems_up c) (fun _ hx => (memsTo_lt hx).1)
theorem runs_rise (c : Cl) : Rise (runs c) := (runs_good c).1
theorem orR_runs (c : Cl) : orR (runs c) = c := (runs_good c).2.1.trans (bitsN_mems c)
theorem sumR_runs (c : Cl) : sumR (runs c) = size c := (runs_good c).2.2.trans (mems_size c)
theorem runs_le (c : Cl) : (runs c).length ≤ 256 := Nat.le_trans (runsB_le _) (memsTo_len c 256)
theorem sumR_take (l : List (Nat × Nat)) (i : Nat) : sumR (l.take i) ≤ sumR l := by
  have := congrArg sumR (List.take_append_drop i l)
  have e : ∀ a b, sumR (a ++ b) = sumR a + sumR b := by intro a b; simp [sumR]
  rw [e] at this; omega
theorem sumR_le (c : Cl) (i : Nat) : sumR ((runs c).take i) ≤ size c := by
  have := sumR_take (runs c) i
  rw [sumR_runs] at this; exact this
end Go.HL.Kl
