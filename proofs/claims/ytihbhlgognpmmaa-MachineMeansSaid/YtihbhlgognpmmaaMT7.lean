/- The contract of the functions that look whether a list of nodes is well shaped. Conditions: none. -/
import Derived.Test.YtihbhlgognpmmaaMT6
import Derived.Test.YtihbhlgognpmmaaHlB
namespace Go.HL
open Go
theorem St.apart_M {α : Type} {E : α → List Value} {k : Nat} [he : Enc E k] {a : Option Addr} {c : Nat} {xs : List α} {w0 w : World} {M : List Nat} {S H : Hp} (st : St w0 w M H) (hin : HIn S H) (hr : Rd E w0 (.slice a xs.length c) xs) (ha : Apart M (.slice a xs.length c)) (hk : 0 < k) : Apart (keys S) (.slice a xs.length c) := by
  intro A n c' hv hn hm
  have ha' := ha A n c' hv hn
  cases hv
  obtain ⟨⟨b', o⟩, hmS, hb⟩ := List.mem_map.1 hm
  have hb : b' = A.block := hb
  subst hb
  rcases st.own _ _ (hin _ hmS) with h1 | h1
  · exact ha' h1
  have hl : 0 < xs.length := by omega
  obtain ⟨u, hu⟩ : ∃ u, (flat E xs)[0]? = some u := by
    have : 0 < (flat E xs).length := by rw [flat_len]; exact Nat.mul_pos hl hk
    exact ⟨_, List.getElem?_eq_getElem this⟩
  have h2 := hr.get 0 u hu
  have h3 : A.block < w0.heap.size := by
    rcases Nat.lt_or_ge A.block w0.heap.size with h' | h'
    · exact h'
    · simp [World.cell?, ea, sblk, oblk, Array.getElem?_eq_none h'] at h2
  omega
end Go.HL
namespace Go.HL.Kl.Mc
open Go Go.HL Go.HL.Kl
/-- what is known of a list so far, as a block -/
def LookB (T bx : Nat) (ra : Option Addr) (rc : Nat) (re : List Nd) (i : Nat) (ea : Option Addr) (ec : Nat) (en : List Bool) : Nat × Obj := (bx, .cells [.slice ra re.length rc, .int .i64 i, .slice ea en.length ec].toArray T (0, 0))
def NodeP (T bx : Nat) (ra : Option Addr) (rc : Nat) (re : List Nd) (r : Option (Nat × List Bool)) (v : Value) (S' : Hp) : Prop :=
  match r with
  | none => v = .bool false
  | some (i', en') => v = .bool true ∧ ∃ ea' ec' Se', S' = LookB T bx ra rc re i' ea' ec' en' :: Se' ∧ OwnS Ebo 1 4 (.slice ea' en'.length ec') en' Se'
def NodeC (P : Program) (fn T : Nat) (f : Nat) : Prop := ∀ (bx : Nat) (ra : Option Addr) (rc : Nat) (re : List Nd) (i wi g : Nat) (ea : Option Addr) (ec : Nat) (en : List Bool) (Se : Hp), (∀ x ∈ re, -128 ≤ x.op ∧ x.op < 128) → wi + f = 260 → i ≤ re.length → en.length ≤ 255 → g ≤ 64 → OwnS Ebo 1 4 (.slice ea en.length ec) en Se →
  Fn P fn [.pointer (some ⟨bx, 0, none⟩), .int .i64 wi, .int .i64 g] (fun w => Rd En w (.slice ra re.length rc) re ∧ Apart (keys (LookB T bx ra rc re i ea ec en :: Se)) (.slice ra re.length rc)) (LookB T bx ra rc re i ea ec en :: Se) (NodeP T bx ra rc re (shN re f i en g))
theorem hin_node {p q : Nat × Obj} {S : Hp} : HIn (p :: S) (p :: q :: S) := fun r hr => by
  rcases List.mem_cons.1 hr with rfl | h
  · exact List.mem_cons_self
  · exact List.mem_cons_of_mem _ (List.mem_cons_of_mem _ h)
theorem shN_end {re : List Nd} {f i g : Nat} {en : List Bool} (h : re.length ≤ i) : shN re f i en g = none := by
  cases f with
  | zero => rfl
  | succ f => simp only [shN]; rw [List.getElem?_eq_none h]
theorem shN_bad {re : List Nd} {f i g : Nat} {en : List Bool} {x : Nd} (hx : re[i]? = some x) (h : ndOk x = false) : shN re (f + 1) i en g = none := by
  simp only [shN, hx]; rw [if_neg (by rw [h]; decide)]
theorem shN_gate {re : List Nd} {f i g : Nat} {en : List Bool} {x : Nd} (hx : re[i]? = some x) (h : gate x en g = none) : shN re (f + 1) i en g = none := by
  simp only [shN, hx, h]; split <;> rfl
theorem shN_kids {re : List Nd} {f i g g1 : Nat} {en en1 : List Bool} {x : Nd} (hx : re[i]? = some x) (hg : gate x en g = some (en1, g1)) (h : kidsN (fun i en => shN re f i en g1) x.kids.toNat (i + 1) en1 = none) : shN re (f + 1) i en g = none := by
  simp only [shN, hx, hg, h]; split <;> rfl
theorem shN_some {re : List Nd} {f i g g1 i2 : Nat} {en en1 en2 : List Bool} {x : Nd} (hx : re[i]? = some x) (hok : ndOk x = true) (hg : gate x en g = some (en1, g1)) (h : kidsN (fun i en => shN re f i en g1) x.kids.toNat (i + 1) en1 = some (i2, en2)) :
    shN re (f + 1) i en g = some (i2, if x.op = 7 then en2.set (x.n.toNat - 1) true else en2) := by
  simp only [shN, hx, hg, h]; rw [if_pos hok]
theorem kidsN_snoc {step : Nat → List Bool → Option (Nat × List Bool)} : ∀ {k i : Nat} {en : List Bool} {i2 : Nat} {en2 : List Bool} {r : Option (Nat × List Bool)}, kidsN step k i en = some (i2, en2) → step i2 en2 = r → kidsN step (k + 1) i en = r
  | 0, i, en, i2, en2, r, h, hs => by
    simp only [kidsN, Option.some.injEq, Prod.mk.injEq] at h
    obtain ⟨rfl, rfl⟩ := h
    simp only [kidsN, hs]
    cases r <;> rfl
  | k + 1, i, en, i2, en2, r, h, hs => by
    simp only [kidsN] at h
    split at h
    · cases h
    · rename_i i' en' hst
      have := kidsN_snoc h hs
      rw [kidsN, hst]
      exact this
theorem kidsN_none {step : Nat → List Bool → Option (Nat × List Bool)} : ∀ {n k i : Nat} {en : List Bool}, kidsN step k i en = none → k ≤ n → kidsN step n i en = none
  | n, 0, i, en, h, _ => by simp [kidsN] at h
  | 0, k + 1, i, en, h, hk => by omega
  | n + 1, k + 1, i, en, h, hk => by
    simp only [kidsN] at h ⊢
    split at h
    · rfl
    · exact kidsN_none h (by omega)
theorem gate_len {x : Nd} {en en1 : List Bool} {g g1 : Nat} (h : gate x en g = some (en1, g1)) (he : en.length ≤ 255) (hg : g ≤ 64) : en.length ≤ en1.length ∧ en1.length ≤ 255 ∧ g1 ≤ 64 ∧ (x.op = 7 → x.n = en.length + 1 ∧ en1.length = en.length + 1) := by
  unfold gate at h
  split at h
  · split at h
    · cases h; exact ⟨Nat.le_refl _, he, hg, fun h7 => by omega⟩
    · cases h
  · split at h
    · split at h
      · rename_i h8 h7 hh
        cases h
        simp only [List.length_append, List.length_singleton]
        exact ⟨by omega, by omega, by omega, fun _ => ⟨hh.1, trivial⟩⟩
      · cases h
    · cases h; exact ⟨Nat.le_refl _, he, hg, fun h7 => absurd h7 ‹_›⟩
theorem kidsN_len {step : Nat → List Bool → Option (Nat × List Bool)} (hs : ∀ i en i' en', en.length ≤ 255 → step i en = some (i', en') → en.length ≤ en'.length ∧ en'.length ≤ 255) : ∀ {k i : Nat} {en : List Bool} {i2 : Nat} {en2 : List Bool}, en.length ≤ 255 → kidsN step k i en = some (i2, en2) → en.length ≤ en2.length ∧ en2.length ≤ 255
  | 0, i, en, i2, en2, he, h => by
    simp only [kidsN, Option.some.injEq, Prod.mk.injEq] at h
    obtain ⟨_, rfl⟩ := h
    exact ⟨Nat.le_refl _, he⟩
  | k + 1, i, en, i2, en2, he, h => by
    simp only [kidsN] at h
    split at h
    · cases h
    · rename_i i' en' hst
      have h1 := hs _ _ _ _ he hst
      have h2 := kidsN_len hs h1.2 h
      omega
theorem shN_len {re : List Nd} : ∀ {f i g : Nat} {en : List Bool} {i' : Nat} {en' : List Bool}, en.length ≤ 255 → g ≤ 64 → shN re f i en g = some (i', en') → en.length ≤ en'.length ∧ en'.length ≤ 255
  | 0, i, g, en, i', en', _, _, h => by cases h
  | f + 1, i, g, en, i', en', he, hg, h => by
    simp only [shN] at h
    split at h
    · cases h
    · split at h
      · split at h
        · cases h
        · rename_i en1 g1 hgt
          split at h
          · cases h
          · rename_i i2 en2 hk
            simp only [Option.some.injEq, Prod.mk.injEq] at h
            obtain ⟨-, rfl⟩ := h
            obtain ⟨h1, h2, h3, _⟩ := gate_len hgt he hg
            have h4 := kidsN_len (fun i en i' en' he h => shN_len he h3 h) h2 hk
            split
            · simp only [List.length_set]; omega
            · omega
      · cases h
theorem shN_le {re : List Nd} {f i g : Nat} {en : List Bool} {i' : Nat} {en' : List Bool} (h : shN re f i en g = some (i', en')) : i' ≤ re.length := by
  obtain ⟨x, ks, ht⟩ := shN_tree _ _ _ _ _ _ h
  exact ht.le
theorem shN_lt {re : List Nd} {f i g : Nat} {en : List Bool} {i' : Nat} {en' : List Bool} (h : shN re f i en g = some (i', en')) : i < i' := by
  obtain ⟨x, ks, ht⟩ := shN_tree _ _ _ _ _ _ h
  have := ht.len
  omega
theorem get_false {en : List Bool} {j : Nat} (h : ¬ en[j]? = some true) (hj : j < en.length) : en[j]? = some false := by
  rw [List.getElem?_eq_getElem hj] at h ⊢
  cases hb : en[j]
  · rfl
  · rw [hb] at h; exact absurd rfl h
theorem gate_other {x : Nd} {en : List Bool} {g : Nat} (h8 : ¬ x.op = 8) (h7 : ¬ x.op = 7) : gate x en g = some (en, g) := by rw [gate, if_neg h8, if_neg h7]
theorem gate_ref {x : Nd} {en : List Bool} {g : Nat} (h8 : x.op = 8) (h1 : 1 ≤ x.n) (h2 : x.n ≤ en.length) (h3 : en[x.n.toNat - 1]? = some true) : gate x en g = some (en, g) := by rw [gate, if_pos h8, if_pos ⟨h1, h2, h3⟩]
theorem gate_no8 {x : Nd} {en : List Bool} {g : Nat} (h8 : x.op = 8) (h : ¬ (1 ≤ x.n ∧ x.n ≤ en.length ∧ en[x.n.toNat - 1]? = some true)) : gate x en g = none := by rw [gate, if_pos h8, if_neg h]
theorem gate_grp {x : Nd} {en : List Bool} {g : Nat} (h7 : x.op = 7) (h : x.n = en.length + 1 ∧ x.n ≤ 255 ∧ g < 64) : gate x en g = some (en ++ [false], g + 1) := by rw [gate, if_neg (by omega), if_pos h7, if_pos h]
theorem gate_no7 {x : Nd} {en : List Bool} {g : Nat} (h7 : x.op = 7) (h : ¬ (x.n = en.length + 1 ∧ x.n ≤ 255 ∧ g < 64)) : gate x en g = none := by rw [gate, if_neg (by omega), if_pos h7, if_neg h]
end Go.HL.Kl.Mc
