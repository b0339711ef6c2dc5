/- Part of the proofs over this seat: see the text that holds the theorem. Conditions: each theorem bears its own. -/
import Derived.Test.YtiggliigookieaaKF1Z
import Derived.Lib.TrailingZeros
namespace Go.HL.Kl
open Go Go.HL

/-! OnesCount64: the sums of the lanes -/
theorem and_lanes {m a b c d : Nat} (ha : a < 2 ^ m) (hc : c < 2 ^ m) : (2 ^ m * b + a) &&& (2 ^ m * d + c) = 2 ^ m * (b &&& d) + (a &&& c) := by
  have hac : a &&& c < 2 ^ m := Nat.and_lt_two_pow _ hc
  apply Nat.eq_of_testBit_eq
  intro i
  rw [Nat.testBit_and, Nat.testBit_two_pow_mul_add _ ha, Nat.testBit_two_pow_mul_add _ hc, Nat.testBit_two_pow_mul_add _ hac]
  split
  · rw [Nat.testBit_and]
  · rw [Nat.testBit_and]
/-- n lanes of k bits -/
def pk (k : Nat) : Nat → (Nat → Nat) → Nat
  | 0, _ => 0
  | n + 1, f => 2 ^ k * pk k n (fun i => f (i + 1)) + f 0
theorem pk_ext (k : Nat) : ∀ (n : Nat) (f g : Nat → Nat), (∀ i, i < n → f i = g i) → pk k n f = pk k n g
  | 0, _, _, _ => rfl
  | n + 1, f, g, h => by
    simp only [pk]
    rw [pk_ext k n _ _ fun i hi => h (i + 1) (by omega), h 0 (by omega)]
theorem pk_add (k : Nat) : ∀ (n : Nat) (f g : Nat → Nat), pk k n f + pk k n g = pk k n (fun i => f i + g i)
  | 0, _, _ => rfl
  | n + 1, f, g => by
    simp only [pk]
    rw [← pk_add k n, Nat.mul_add]; omega
theorem pk_lt (k : Nat) : ∀ (n : Nat) (f : Nat → Nat), (∀ i, i < n → f i < 2 ^ k) → pk k n f < 2 ^ (k * n)
  | 0, _, _ => by simp [pk]
  | n + 1, f, h => by
    simp only [pk]
    have h1 := pk_lt k n (fun i => f (i + 1)) fun i hi => h (i + 1) (by omega)
    have h2 := h 0 (by omega)
    rw [Nat.mul_add, Nat.mul_one, Nat.add_comm (k * n) k, Nat.pow_add]
    have h3 : 2 ^ k * (pk k n (fun i => f (i + 1)) + 1) ≤ 2 ^ k * 2 ^ (k * n) := Nat.mul_le_mul_left _ h1
    rw [Nat.mul_add] at h3; omega
/-- the lanes moved down by s -/
theorem pk_shr1 (k : Nat) (n : Nat) (f : Nat → Nat) (h : f 0 < 2 ^ k) : pk k (n + 1) f / 2 ^ k = pk k n (fun i => f (i + 1)) := by
  simp only [pk]
  rw [Nat.mul_add_div (Nat.two_pow_pos k), Nat.div_eq_of_lt h, Nat.add_zero]
theorem pk_top (k : Nat) : ∀ (n : Nat) (f : Nat → Nat), f n = 0 → pk k (n + 1) f = pk k n f
  | 0, f, h => by simp [pk, h]
  | n + 1, f, h => by
    rw [pk, pk_top k n (fun i => f (i + 1)) h]; rfl
theorem pk_shr (k n : Nat) : ∀ (s : Nat) (f : Nat → Nat), (∀ i, f i < 2 ^ k) → (∀ i, n ≤ i → f i = 0) → pk k n f / 2 ^ (k * s) = pk k n (fun i => f (i + s))
  | 0, f, _, _ => by simp
  | s + 1, f, h, h0 => by
    rw [Nat.mul_add, Nat.mul_one, Nat.pow_add, ← Nat.div_div_eq_div_mul, pk_shr k n s f h h0]
    cases n with
    | zero => simp [pk]
    | succ n =>
      rw [pk_shr1 k n (fun i => f (i + s)) (h _)]
      rw [← pk_top k n]
      · exact pk_ext _ _ _ _ fun i _ => by congr 1; omega
      · exact h0 _ (by omega)
/-- every second lane -/
theorem pk_half (k : Nat) : ∀ (n : Nat) (f : Nat → Nat), (∀ i, f i < 2 ^ k) → pk k (2 * n) f &&& pk (2 * k) n (fun _ => 2 ^ k - 1) = pk (2 * k) n (fun i => f (2 * i))
  | 0, _, _ => by simp [pk]
  | n + 1, f, h => by
    have e : 2 * (n + 1) = (2 * n + 1) + 1 := by omega
    rw [e]
    simp only [pk]
    have h0 := h 0; have h1 := h 1
    have e2 : 2 ^ k * (2 ^ k * pk k (2 * n) (fun i => f (i + 1 + 1)) + f (0 + 1)) + f 0 = 2 ^ (2 * k) * pk k (2 * n) (fun i => f (i + 1 + 1)) + (2 ^ k * f 1 + f 0) := by
      rw [Nat.two_mul k, Nat.pow_add, Nat.mul_add, Nat.mul_assoc]; simp [Nat.add_assoc]
    rw [e2]
    have hp : 0 < 2 ^ k := Nat.two_pow_pos k
    have h3 : 2 ^ k * f 1 + f 0 < 2 ^ (2 * k) := by
      rw [Nat.two_mul k, Nat.pow_add]
      have : 2 ^ k * (f 1 + 1) ≤ 2 ^ k * 2 ^ k := Nat.mul_le_mul_left _ h1
      rw [Nat.mul_add] at this; omega
    have h4 : 2 ^ k - 1 < 2 ^ (2 * k) := by
      have : 2 ^ k ≤ 2 ^ (2 * k) := Nat.pow_le_pow_right (by decide) (by omega)
      omega
    rw [and_lanes h3 h4, pk_half k n _ fun i => h _]
    rw [Nat.and_two_pow_sub_one_eq_mod, Nat.mul_add_mod, Nat.mod_eq_of_lt h0]
    congr 1
/-- the bits, as lanes -/
def bt (w : BitVec 64) (i : Nat) : Nat := if w.getLsbD i then 1 else 0
theorem bt_lt (w : BitVec 64) (i : Nat) : bt w i < 2 := by unfold bt; split <;> omega
theorem bt_top (w : BitVec 64) {i : Nat} (h : 64 ≤ i) : bt w i = 0 := by simp [bt, BitVec.getLsbD_of_ge w i h]
theorem pk_bits : ∀ (n x : Nat), x < 2 ^ n → pk 1 n (fun i => if x.testBit i then 1 else 0) = x
  | 0, x, h => by simp [pk]; simp at h; omega
  | n + 1, x, h => by
    simp only [pk]
    have h1 : x / 2 < 2 ^ n := by rw [Nat.pow_succ] at h; omega
    have := pk_bits n (x / 2) h1
    have e : (fun i => if x.testBit (i + 1) then 1 else 0) = (fun i => if (x / 2).testBit i then 1 else 0) := by
      funext i; rw [Nat.testBit_succ]
    rw [e, this]
    simp only [Nat.testBit_zero]
    by_cases hx : x % 2 = 1
    · simp [hx]; omega
    · simp [hx]; omega
theorem pk_word (w : BitVec 64) : pk 1 64 (bt w) = w.toNat := by
  have := pk_bits 64 w.toNat w.isLt
  rw [← this]
  exact pk_ext _ _ _ _ fun i _ => by simp [bt, BitVec.getLsbD]
def popW (w : BitVec 64) : Nat := (List.range 64).countP w.getLsbD
def sums (f : Nat → Nat) (i : Nat) : Nat := f (2 * i) + f (2 * i + 1)
/-- OnesCount64's sums, as the text has them -/
def oc1 (w : BitVec 64) : BitVec 64 := ((w >>> 1) &&& 6148914691236517205#64) + (w &&& 6148914691236517205#64)
def oc2 (w : BitVec 64) : BitVec 64 := ((w >>> 2) &&& 3689348814741910323#64) + (w &&& 3689348814741910323#64)
def oc3 (w : BitVec 64) : BitVec 64 := ((w >>> 4) + w) &&& 1085102592571150095#64
def oc4 (k : Nat) (w : BitVec 64) : BitVec 64 := w + (w >>> k)
theorem toNat_add_of {a b : BitVec 64} {x y : Nat} (ha : a.toNat = x) (hb : b.toNat = y) (h : x + y < 18446744073709551616) : (a + b).toNat = x + y := by
  rw [BitVec.toNat_add, ha, hb]; exact Nat.mod_eq_of_lt h
theorem toNat_shr {a : BitVec 64} {x k : Nat} (ha : a.toNat = x) : (a >>> k).toNat = x / 2 ^ k := by
  rw [BitVec.toNat_ushiftRight, ha, Nat.shiftRight_eq_div_pow]
theorem pk_small {k n : Nat} {f : Nat → Nat} (hk : k * n = 64) (h : ∀ i, f i < 2 ^ k) : pk k n f < 18446744073709551616 := by
  have := pk_lt k n f fun i _ => h i
  rw [hk] at this; exact this
theorem lanes_step {k n : Nat} {f : Nat → Nat} {w m : BitVec 64} (hn : k * (2 * n) = 64) (hm : m.toNat = pk (2 * k) n (fun _ => 2 ^ k - 1)) (hw : w.toNat = pk k (2 * n) f) (hf : ∀ i, f i < 2 ^ k) (h0 : ∀ i, 2 * n ≤ i → f i = 0)
    (hs : ∀ i, sums f i < 2 ^ (2 * k)) : (((w >>> k) &&& m) + (w &&& m)).toNat = pk (2 * k) n (sums f) := by
  have e1 : (w >>> k).toNat = pk k (2 * n) (fun i => f (i + 1)) := by
    rw [toNat_shr hw]
    have := pk_shr k (2 * n) 1 f hf h0
    rw [Nat.mul_one] at this; exact this
  have e2 : ((w >>> k) &&& m).toNat = pk (2 * k) n (fun i => f (2 * i + 1)) := by
    rw [BitVec.toNat_and, e1, hm, pk_half k n _ fun i => hf _]
  have e3 : (w &&& m).toNat = pk (2 * k) n (fun i => f (2 * i)) := by rw [BitVec.toNat_and, hw, hm, pk_half k n _ hf]
  have e4 : pk (2 * k) n (fun i => f (2 * i + 1)) + pk (2 * k) n (fun i => f (2 * i)) = pk (2 * k) n (sums f) := by
    rw [pk_add]; exact pk_ext _ _ _ _ fun i _ => by simp [sums]; omega
  rw [toNat_add_of e2 e3 (by rw [e4]; exact pk_small (by rw [← hn]; simp [Nat.mul_assoc, Nat.mul_left_comm]) hs), e4]
theorem sums_le {f : Nat → Nat} {b : Nat} (h : ∀ i, f i ≤ b) (i : Nat) : sums f i ≤ 2 * b := by have := h (2 * i); have := h (2 * i + 1); unfold sums; omega
theorem sums_top {f : Nat → Nat} {n : Nat} (h : ∀ i, 2 * n ≤ i → f i = 0) (i : Nat) (hi : n ≤ i) : sums f i = 0 := by simp [sums, h (2 * i) (by omega), h (2 * i + 1) (by omega)]
theorem fold_step {s : Nat} {f : Nat → Nat} {w : BitVec 64} (hw : w.toNat = pk 8 8 f) (hf : ∀ i, f i < 128) (h0 : ∀ i, 8 ≤ i → f i = 0) : (oc4 (8 * s) w).toNat = pk 8 8 (fun i => f i + f (i + s)) := by
  have e1 : (w >>> (8 * s)).toNat = pk 8 8 (fun i => f (i + s)) := by
    rw [toNat_shr hw]; exact pk_shr 8 8 s f (fun i => by have := hf i; omega) h0
  have e4 : pk 8 8 f + pk 8 8 (fun i => f (i + s)) = pk 8 8 (fun i => f i + f (i + s)) := pk_add 8 8 f _
  unfold oc4
  rw [toNat_add_of hw e1 (by rw [e4]; exact pk_small rfl fun i => by have := hf i; have := hf (i + s); omega), e4]
def sm (f : Nat → Nat) : Nat → Nat
  | 0 => 0
  | n + 1 => sm f n + f n
theorem pop_sum (w : BitVec 64) : popW w = sums (sums (sums (bt w))) 0 + sums (sums (sums (bt w))) 1 + sums (sums (sums (bt w))) 2 + sums (sums (sums (bt w))) 3 + sums (sums (sums (bt w))) 4 + sums (sums (sums (bt w))) 5 + sums (sums (sums (bt w))) 6 + sums (sums (sums (bt w))) 7 := by
  have e : ∀ n, (List.range n).countP w.getLsbD = sm (bt w) n := by
    intro n
    induction n with
    | zero => rfl
    | succ n ih =>
      rw [List.range_succ, List.countP_append, ih]
      simp [List.countP_cons, bt, sm]
  unfold popW
  rw [e]
  simp only [sm, sums, Nat.mul_zero, Nat.mul_one, Nat.zero_add, Nat.reduceMul, Nat.reduceAdd]
  omega
theorem pop_eq (w : BitVec 64) : (oc4 32 (oc4 16 (oc4 8 (oc3 (oc2 (oc1 w)))))).toNat % 128 = popW w ∧ (oc4 32 (oc4 16 (oc4 8 (oc3 (oc2 (oc1 w)))))).toNat < 9223372036854775808 := by
  have b0 : ∀ i, bt w i ≤ 1 := fun i => by have := bt_lt w i; omega
  have t0 : ∀ i, 2 * 32 ≤ i → bt w i = 0 := fun i hi => bt_top w hi
  have s1 := lanes_step (k := 1) (n := 32) (f := bt w) (w := w) (m := 6148914691236517205#64) rfl (by decide) (pk_word w).symm (bt_lt w) t0 fun i => by have := sums_le b0 i; omega
  have b1 := sums_le b0
  have t1 : ∀ i, 2 * 16 ≤ i → sums (bt w) i = 0 := fun i hi => sums_top t0 i hi
  have s2 := lanes_step (k := 2) (n := 16) (f := sums (bt w)) (w := oc1 w) (m := 3689348814741910323#64) rfl (by decide) s1 (fun i => by have := b1 i; omega) t1 fun i => by have := sums_le b1 i; omega
  have s2 : (oc2 (oc1 w)).toNat = pk 4 16 (sums (sums (bt w))) := s2
  have b2 := sums_le b1
  have t2 : ∀ i, 16 ≤ i → sums (sums (bt w)) i = 0 := fun i hi => sums_top t1 i hi
  have s3 : (oc3 (oc2 (oc1 w))).toNat = pk 8 8 (sums (sums (sums (bt w)))) := by
    have e1 : (oc2 (oc1 w) >>> 4).toNat = pk 4 16 (fun i => sums (sums (bt w)) (i + 1)) := by
      rw [toNat_shr s2]; exact pk_shr 4 16 1 _ (fun i => by have := b2 i; omega) t2
    have e4 : pk 4 16 (fun i => sums (sums (bt w)) (i + 1)) + pk 4 16 (sums (sums (bt w))) = pk 4 16 (fun i => sums (sums (bt w)) (i + 1) + sums (sums (bt w)) i) := pk_add _ _ _ _
    have e5 : ∀ i, sums (sums (bt w)) (i + 1) + sums (sums (bt w)) i < 2 ^ 4 := fun i => by have := b2 i; have := b2 (i + 1); omega
    have e6 := toNat_add_of e1 s2 (by rw [e4]; exact pk_small rfl e5)
    unfold oc3
    rw [BitVec.toNat_and]
    have e7 : (oc2 (oc1 w) >>> 4 + oc2 (oc1 w)).toNat = pk 4 (2 * 8) (fun i => sums (sums (bt w)) (i + 1) + sums (sums (bt w)) i) := by
      refine e6.trans ?_
      exact e4
    have e8 : (1085102592571150095#64).toNat = pk (2 * 4) 8 (fun _ => 2 ^ 4 - 1) := by decide
    rw [e7, e8, pk_half 4 8 _ e5]
    exact pk_ext _ _ _ _ fun i _ => by simp [sums]; omega
  have b3 := sums_le b2
  have t3 : ∀ i, 8 ≤ i → sums (sums (sums (bt w))) i = 0 := fun i hi => sums_top t2 i hi
  obtain ⟨h, hh⟩ : ∃ h, h = sums (sums (sums (bt w))) := ⟨_, rfl⟩
  rw [← hh] at s3 b3 t3
  have s4 := fold_step (s := 1) s3 (fun i => by have := b3 i; omega) t3
  have s5 := fold_step (s := 2) s4 (fun i => by have := b3 i; have := b3 (i + 1); omega) (fun i hi => by simp [t3 i hi, t3 (i + 1) (by omega)])
  have s6 := fold_step (s := 4) s5 (fun i => by have := b3 i; have := b3 (i + 1); have := b3 (i + 2); have := b3 (i + 2 + 1); omega) (fun i hi => by simp [t3 i hi, t3 (i + 1) (by omega), t3 (i + 2) (by omega), t3 (i + 2 + 1) (by omega)])
  have e : oc4 32 (oc4 16 (oc4 8 (oc3 (oc2 (oc1 w))))) = oc4 (8 * 4) (oc4 (8 * 2) (oc4 (8 * 1) (oc3 (oc2 (oc1 w))))) := rfl
  rw [e, s6]
  have hp := pop_sum w
  rw [← hh] at hp
  have l0 := b3 0; have l1 := b3 1; have l2 := b3 2; have l3 := b3 3; have l4 := b3 4; have l5 := b3 5; have l6 := b3 6; have l7 := b3 7
  have z8 := t3 8 (by omega); have z9 := t3 9 (by omega); have z10 := t3 10 (by omega); have z11 := t3 11 (by omega); have z12 := t3 12 (by omega); have z13 := t3 13 (by omega); have z14 := t3 14 (by omega)
  constructor
  · simp only [pk, Nat.zero_add, Nat.reduceAdd, Nat.reducePow]
    omega
  · simp only [pk, Nat.zero_add, Nat.reduceAdd, Nat.reducePow]
    omega
end Go.HL.Kl

/- Part of the proofs over this seat: see the text that holds the theorem. Conditions: each theorem bears its own. -/
namespace Go.HL.Kl
open Go Go.HL

/-! the size, word by word -/
theorem range_split (a b : Nat) : List.range (a + b) = List.range a ++ (List.range b).map (fun i => a + i) := by
  rw [List.range_eq_range', List.range_eq_range', List.range_eq_range', ← List.range'_append_1 (s := 0)]
  simp [List.map_add_range']
theorem sizeTo_word (c : Cl) (i : Nat) : sizeTo c (64 * i + 64) = sizeTo c (64 * i) + popW (wd c i) := by
  unfold sizeTo popW
  rw [range_split, List.countP_append, List.countP_map]
  congr 1
  apply List.countP_congr
  intro j hj
  have hj' : j < 64 := by simpa using hj
  simp [wd_get c i hj']
theorem popW_le (w : BitVec 64) : popW w ≤ 64 := by
  have := List.countP_le_length (p := w.getLsbD) (l := List.range 64)
  simpa [popW] using this

/-! the lowest bit of a word -/
theorem ctz_lt (w : BitVec 64) (h : w ≠ 0#64) : Lib.ctz 64 w.toNat < 64 ∧ w.getLsbD (Lib.ctz 64 w.toNat) = true ∧ (∀ j, j < Lib.ctz 64 w.toNat → w.getLsbD j = false) ∧ ∀ j, (w &&& (w - 1#64)).getLsbD j = (w.getLsbD j && decide (j ≠ Lib.ctz 64 w.toNat)) := by
  have h0 : w.toNat ≠ 0 := fun e => h (BitVec.eq_of_toNat_eq (by simpa using e))
  obtain ⟨m, hm, hk⟩ := Lib.ctzFrom_spec 64 w.toNat (by omega) w.isLt
  have hc : Lib.ctz 64 w.toNat = Lib.ctzFrom 64 w.toNat := by simp [Lib.ctz, h0]
  rw [hc]
  obtain ⟨k, hkk⟩ : ∃ k, k = Lib.ctzFrom 64 w.toNat := ⟨_, rfl⟩
  rw [← hkk] at hm hk ⊢
  have hp : 0 < 2 ^ k := Nat.two_pow_pos k
  have bitw : ∀ j, w.getLsbD j = if j < k then false else (2 * m + 1).testBit (j - k) := by
    intro j
    rw [BitVec.getLsbD, hm]
    have := Nat.testBit_two_pow_mul_add (2 * m + 1) (b := 0) hp j
    rw [Nat.add_zero] at this
    rw [this]
    simp
  have hs : (w - 1#64).toNat = 2 ^ k * (2 * m) + (2 ^ k - 1) := by
    have e1 : (w - 1#64).toNat = w.toNat - 1 := by
      rw [BitVec.toNat_sub]
      have := w.isLt
      simp; omega
    rw [e1, hm, Nat.mul_add]
    omega
  have bits : ∀ j, (w - 1#64).getLsbD j = if j < k then (2 ^ k - 1).testBit j else (2 * m).testBit (j - k) := by
    intro j
    rw [BitVec.getLsbD, hs]
    exact Nat.testBit_two_pow_mul_add (2 * m) (by omega) j
  refine ⟨hk, ?_, ?_, ?_⟩
  · rw [bitw]; simp
  · intro j hj; rw [bitw]; simp [hj]
  · intro j
    rw [BitVec.getLsbD_and, bitw, bits]
    by_cases h1 : j < k
    · simp [h1]
    · simp only [h1, if_false]
      by_cases h2 : j = k
      · subst h2; simp
      · obtain ⟨i, hi⟩ : ∃ i, j - k = i + 1 := ⟨j - k - 1, by omega⟩
        rw [hi, Nat.testBit_succ, Nat.testBit_succ]
        have e1 : (2 * m + 1) / 2 = m := by omega
        have e2 : 2 * m / 2 = m := by omega
        rw [e1, e2]; simp [h2]
/-- the members of a word, from 64 i on -/
def wmem (i : Nat) (w : BitVec 64) : List Nat := ((List.range 64).filter w.getLsbD).map fun j => 64 * i + j
theorem filter_range_lt {p q : Nat → Bool} {n k : Nat} (hk : k < n) (h1 : ∀ j, j < k → p j = false) (hpk : p k = true) (hq : ∀ j, q j = (p j && decide (j ≠ k))) : (List.range n).filter p = k :: (List.range n).filter q := by
  have e : n = k + (1 + (n - k - 1)) := by omega
  rw [e, range_split k, range_split 1, List.filter_append, List.filter_append, List.map_append, List.filter_append, List.filter_append]
  have a1 : (List.range k).filter p = [] := by
    rw [List.filter_eq_nil_iff]; intro j hj; simp [h1 j (by simpa using hj)]
  have a2 : (List.range k).filter q = [] := by
    rw [List.filter_eq_nil_iff]; intro j hj; simp [hq, h1 j (by simpa using hj)]
  have a3 : (List.map (fun i => k + i) (List.range 1)).filter p = [k] := by simp [hpk]
  have a4 : (List.map (fun i => k + i) (List.range 1)).filter q = [] := by simp [hq]
  rw [a1, a2, a3, a4]
  simp only [List.nil_append, List.singleton_append, List.cons.injEq, true_and]
  apply List.filter_congr
  intro j hj
  simp only [List.map_map, List.mem_map, List.mem_range, Function.comp] at hj
  obtain ⟨i, _, rfl⟩ := hj
  rw [hq]
  have : ¬ (k + (1 + i) = k) := by omega
  simp
theorem wmem_cons (i : Nat) (w : BitVec 64) (h : w ≠ 0#64) : wmem i w = (64 * i + Lib.ctz 64 w.toNat) :: wmem i (w &&& (w - 1#64)) := by
  obtain ⟨h1, h2, h3, h4⟩ := ctz_lt w h
  unfold wmem
  rw [filter_range_lt h1 h3 h2 h4]
  rfl
theorem wmem_zero (i : Nat) : wmem i 0#64 = [] := by simp [wmem]
theorem wmem_len (i : Nat) (w : BitVec 64) : (wmem i w).length ≤ 64 := by
  have := List.length_filter_le w.getLsbD (List.range 64)
  simpa [wmem] using this
theorem memsTo_word (c : Cl) (i : Nat) : memsTo c (64 * i + 64) = memsTo c (64 * i) ++ wmem i (wd c i) := by
  unfold memsTo wmem
  rw [range_split, List.filter_append, List.filter_map]
  congr 2
  apply List.filter_congr
  intro j hj
  have hj' : j < 64 := by simpa using hj
  simp [wd_get c i hj']
/-- what is still to come, at word i with w of it left -/
def restW (c : Cl) (i : Nat) (w : BitVec 64) : List Nat := wmem i w ++ (mems c).drop (memsTo c (64 * i + 64)).length
theorem memsTo_prefix (c : Cl) {i j : Nat} (h : i ≤ j) : memsTo c i <+: memsTo c j := by
  obtain ⟨d, rfl⟩ : ∃ d, j = i + d := ⟨j - i, by omega⟩
  unfold memsTo
  rw [range_split, List.filter_append]
  exact List.prefix_append _ _
theorem mems_from (c : Cl) {i : Nat} (hi : i < 4) : mems c = memsTo c (64 * i) ++ (wmem i (wd c i) ++ (mems c).drop (memsTo c (64 * i + 64)).length) := by
  obtain ⟨r, hr⟩ := memsTo_prefix c (i := 64 * i + 64) (j := 256) (by omega)
  have e : mems c = memsTo c (64 * i + 64) ++ r := hr.symm
  rw [e]
  rw [List.drop_left, memsTo_word, List.append_assoc]
end Go.HL.Kl

/- Mathematics of regexes as lists of nodes: forests, and what the layer 5 asks of them. Conditions: none. -/
namespace Go.HL.Kl.Mc
open Go Go.HL Go.HL.Kl
/-- a node -/
structure Nd where
  op : Int
  set : Cl
  n : Int
  mn : Int
  mx : Int
  kids : Int
  deriving DecidableEq
def En (x : Nd) : List Value := .int .i8 x.op :: (Ec x.set ++ [.int .i64 x.n, .int .i64 x.mn, .int .i64 x.mx, .int .i64 x.kids])
instance : Enc En 9 := ⟨fun x => by simp [En, Enc.len], fun x v hv => by
  simp only [En, List.mem_cons, List.mem_append, List.not_mem_nil, or_false] at hv
  rcases hv with rfl | hv | rfl | rfl | rfl | rfl
  · rfl
  · exact Ec_one _ v hv
  all_goals rfl⟩
/-- may a node have these numbers? -/
def flds (x : Nd) : Bool :=
  decide (1 ≤ x.op ∧ x.op ≤ 8) && (decide (x.op = 1) || decide (x.set = 0)) && (decide (x.op = 7 ∨ x.op = 8) || decide (x.n = 0)) &&
  (if x.op = 6 then decide (0 ≤ x.mn ∧ x.mn ≤ 255 ∧ (x.mx = -1 ∨ x.mn ≤ x.mx ∧ x.mx ≤ 255)) else decide (x.mn = 0 ∧ x.mx = 0))
def kidsOk (x : Nd) : Bool :=
  if x.op = 6 ∨ x.op = 7 then decide (x.kids = 1) else if x.op = 4 then decide (x.kids = 0 ∨ 2 ≤ x.kids) else if x.op = 5 then decide (2 ≤ x.kids) else decide (x.kids = 0)
def ndOk (x : Nd) : Bool := flds x && kidsOk x
/-- forests: the first tree's node, what is in it, the others -/
inductive F
  | nil
  | nd (x : Nd) (ks r : F)
namespace F
def flat : F → List Nd
  | nil => []
  | nd x ks r => x :: (ks.flat ++ r.flat)
/-- trees -/
def num : F → Nat
  | nil => 0
  | nd _ _ r => r.num + 1
def size : F → Nat
  | nil => 0
  | nd _ ks r => ks.size + r.size + 1
def wf : F → Prop
  | nil => True
  | nd x ks r => ndOk x = true ∧ (ks.num : Int) = x.kids ∧ ks.wf ∧ r.wf
def depth : F → Nat
  | nil => 0
  | nd _ ks r => max (ks.depth + 1) r.depth
theorem flat_size : ∀ f : F, f.flat.length = f.size
  | nil => rfl
  | nd x ks r => by simp only [flat, List.length_cons, List.length_append, flat_size ks, flat_size r, size]
end F
end Go.HL.Kl.Mc

/- Mathematics of regexes as lists of nodes: which are well shaped. Conditions: none. -/
namespace Go.HL.Kl.Mc
open Go Go.HL Go.HL.Kl
/-- what a group or a reference asks of the groups so far -/
def gate (x : Nd) (en : List Bool) (g : Nat) : Option (List Bool × Nat) :=
  if x.op = 8 then (if 1 ≤ x.n ∧ x.n ≤ en.length ∧ en[x.n.toNat - 1]? = some true then some (en, g) else none)
  else if x.op = 7 then (if x.n = en.length + 1 ∧ x.n ≤ 255 ∧ g < 64 then some (en ++ [false], g + 1) else none)
  else some (en, g)
def kidsN (step : Nat → List Bool → Option (Nat × List Bool)) : Nat → Nat → List Bool → Option (Nat × List Bool)
  | 0, i, en => some (i, en)
  | k + 1, i, en => match step i en with
    | none => none
    | some (i', en') => kidsN step k i' en'
def shN (re : List Nd) : Nat → Nat → List Bool → Nat → Option (Nat × List Bool)
  | 0, _, _, _ => none
  | f + 1, i, en, g => match re[i]? with
    | none => none
    | some x => if ndOk x = true then
        match gate x en g with
        | none => none
        | some (en1, g1) => match kidsN (fun i en => shN re f i en g1) x.kids.toNat (i + 1) en1 with
          | none => none
          | some (i2, en2) => some (i2, if x.op = 7 then en2.set (x.n.toNat - 1) true else en2)
      else none
theorem ndOk_kids {x : Nd} (h : ndOk x = true) : 0 ≤ x.kids := by
  simp only [ndOk, Bool.and_eq_true, kidsOk] at h
  have h := h.2
  split at h
  · simp at h; omega
  · split at h
    · simp at h; omega
    · split at h <;> simp at h <;> omega
/-- a tree of the list at a place -/
structure TreeAt (re : List Nd) (d i i' : Nat) (x : Nd) (ks : F) : Prop where
  wf : (F.nd x ks .nil).wf
  flat : re.drop i = x :: (ks.flat ++ re.drop i')
  dep : ks.depth + 1 ≤ d
  len : i' = i + 1 + ks.size
  le : i' ≤ re.length
structure ForAt (re : List Nd) (d k i i' : Nat) (ks : F) : Prop where
  wf : ks.wf
  num : ks.num = k
  flat : re.drop i = ks.flat ++ re.drop i'
  dep : ks.depth ≤ d
  len : i' = i + ks.size
  le : i ≤ re.length → i' ≤ re.length
theorem kidsN_for {re : List Nd} {d : Nat} {step : Nat → List Bool → Option (Nat × List Bool)} (hs : ∀ i en i' en', step i en = some (i', en') → ∃ x ks, TreeAt re d i i' x ks) :
    ∀ k i en i' en', kidsN step k i en = some (i', en') → ∃ ks, ForAt re d k i i' ks := by
  intro k
  induction k with
  | zero =>
    intro i en i' en' h
    simp only [kidsN, Option.some.injEq, Prod.mk.injEq] at h
    obtain ⟨rfl, rfl⟩ := h
    exact ⟨.nil, trivial, rfl, rfl, Nat.zero_le _, rfl, id⟩
  | succ k ih =>
    intro i en i' en' h
    simp only [kidsN] at h
    split at h
    · cases h
    · rename_i j en1 hst
      obtain ⟨x, ks, ht⟩ := hs _ _ _ _ hst
      obtain ⟨r, hr⟩ := ih _ _ _ _ h
      refine ⟨.nd x ks r, ⟨ht.wf.1, ht.wf.2.1, ht.wf.2.2.1, hr.wf⟩, by simp [F.num, hr.num], by rw [ht.flat, hr.flat]; simp [F.flat], ?_, by rw [hr.len, ht.len]; simp only [F.size]; omega, fun _ => hr.le ht.le⟩
      simp only [F.depth]
      have := ht.dep; have := hr.dep
      omega
theorem shN_tree {re : List Nd} : ∀ f i en g i' en', shN re f i en g = some (i', en') → ∃ x ks, TreeAt re f i i' x ks := by
  intro f
  induction f with
  | zero => intro i en g i' en' h; cases h
  | succ f ih =>
    intro i en g i' en' h
    simp only [shN] at h
    split at h
    · cases h
    · rename_i x hx
      have hlt : i < re.length := (List.getElem?_eq_some_iff.1 hx).1
      split at h
      · rename_i hok
        split at h
        · cases h
        · rename_i en1 g1 hg
          split at h
          · cases h
          · rename_i i2 en2 hk
            simp only [Option.some.injEq, Prod.mk.injEq] at h
            obtain ⟨rfl, -⟩ := h
            obtain ⟨ks, hks⟩ := kidsN_for (fun i en i' en' h => ih i en g1 i' en' h) _ _ _ _ _ hk
            have h0 := ndOk_kids hok
            refine ⟨x, ks, ⟨hok, by rw [hks.num]; omega, hks.wf, trivial⟩, ?_, by have := hks.dep; omega, by rw [hks.len], hks.le hlt⟩
            rw [List.drop_eq_getElem_cons hlt, hks.flat]
            rw [List.getElem?_eq_getElem hlt] at hx
            simp at hx
            rw [hx]
      · cases h
/-- weights -/
def times (x : Nd) : Nat := if x.op = 6 then (if x.mx < 0 then x.mn.toNat + 1 else max x.mx.toNat 1) else 1
namespace F
def weight : F → Nat
  | nil => 0
  | nd x ks r => (1 + times x * ks.weight) + r.weight
end F
def cut (n : Nat) : Nat := min n 16385
theorem cut_add (a b : Nat) : cut (cut a + cut b) = cut (a + b) := by unfold cut; omega
theorem cut_mul {t a : Nat} (ht : 1 ≤ t) : cut (1 + t * cut a) = cut (1 + t * a) := by
  unfold cut
  rcases Nat.le_total a 16385 with h | h
  · rw [Nat.min_eq_left h]
  · rw [Nat.min_eq_right h]
    have h1 : 16385 ≤ t * 16385 := Nat.le_mul_of_pos_left _ ht
    have h2 : t * 16385 ≤ t * a := Nat.mul_le_mul_left _ h
    omega
theorem times_pos (x : Nd) : 1 ≤ times x := by
  unfold times
  split
  · split <;> omega
  · exact Nat.le_refl _
theorem times_le {x : Nd} (h : ndOk x = true) : times x ≤ 256 := by
  simp only [ndOk, flds, Bool.and_eq_true] at h
  have h := h.1.2
  unfold times
  split
  · rename_i h6
    rw [if_pos h6] at h
    simp at h
    split <;> omega
  · omega
/-- a well shaped list: its forest is one tree -/
structure Shp (re : List Nd) (x : Nd) (ks : F) : Prop where
  wf : (F.nd x ks .nil).wf
  flat : re = x :: ks.flat
  dep : ks.depth + 1 ≤ 260
  weight : (F.nd x ks .nil).weight ≤ 16384
open Classical in
noncomputable def shapedP (re : List Nd) : Bool := decide (∃ en, shN re 260 0 [] 0 = some (re.length, en)) && decide (∃ x ks, Shp re x ks)
theorem shN_shp {re : List Nd} {en : List Bool} (h : shN re 260 0 [] 0 = some (re.length, en)) : ∃ x ks, (F.nd x ks .nil).wf ∧ re = x :: ks.flat ∧ ks.depth + 1 ≤ 260 ∧ re.length = 1 + ks.size := by
  obtain ⟨x, ks, ht⟩ := shN_tree _ _ _ _ _ _ h
  have := ht.flat
  simp at this
  exact ⟨x, ks, ht.wf, this, ht.dep, by have := ht.len; omega⟩
end Go.HL.Kl.Mc

/- Mathematics of machines: where derivations end, the code of a regex, its runs. Conditions: none. -/
namespace Go.HL.Kl.Mc
open Go Go.HL Go.HL.Kl
/-- so many rounds -/
def pow (D : Nat → Nat → Prop) : Nat → Nat → Nat → Prop
  | 0, p, q => p = q
  | k + 1, p, q => ∃ m, D p m ∧ pow D k m q
def rounds (x : Nd) (D : Nat → Nat → Prop) (p q : Nat) : Prop := ∃ k : Nat, x.mn ≤ (k : Int) ∧ (x.mx = -1 ∨ (k : Int) ≤ x.mx) ∧ pow D k p q
/-- the derivations of a forest: its trees one behind the other; or one of them -/
def der (w : List UInt8) : F → Bool → Nat → Nat → Prop
  | .nil, m, p, q => m = false ∧ p = q
  | .nd x ks r, m, p, q =>
    let one : Nat → Nat → Prop := fun p q =>
      if x.op = 1 then q = p + 1 ∧ ∃ b, w[p]? = some b ∧ x.set.getLsbD b.toNat = true
      else if x.op = 2 then p = 0 ∧ q = 0
      else if x.op = 3 then p = w.length ∧ q = p
      else if x.op = 5 then der w ks true p q
      else if x.op = 6 then rounds x (der w ks false) p q
      else der w ks false p q
    if m = true then one p q ∨ der w r true p q else ∃ t, one p t ∧ der w r false t q
/-- an instruction -/
structure In where
  op : Int
  set : Cl
  x : Int
  y : Int
  deriving DecidableEq
def Ein (i : In) : List Value := .int .i8 i.op :: (Ec i.set ++ [.int .i64 i.x, .int .i64 i.y])
instance : Enc Ein 7 := ⟨fun x => by simp [Ein, Enc.len], fun x v hv => by
  simp only [Ein, List.mem_cons, List.mem_append, List.not_mem_nil, or_false] at hv
  rcases hv with rfl | hv | rfl | rfl
  · rfl
  · exact Ec_one _ v hv
  all_goals rfl⟩
def lenOne (x : Nd) (cat alt : Nat) : Nat :=
  if x.op = 1 ∨ x.op = 2 ∨ x.op = 3 then 1 else if x.op = 5 then alt
  else if x.op = 6 then x.mn.toNat * cat + (if x.mx = -1 then cat + 2 else (x.mx - x.mn).toNat * (cat + 1)) else cat
def lenM : F → Bool → Nat
  | .nil, _ => 0
  | .nd x ks r, m => lenOne x (lenM ks false) (lenM ks true) + (if m = true then (match r with | .nil => 0 | _ => 2) else 0) + lenM r m
def copies (c : Nat → List In) (L : Nat) : Nat → Nat → List In
  | 0, _ => []
  | k + 1, b => c b ++ copies c L k (b + L)
def opts (c : Nat → List In) (L e : Nat) : Nat → Nat → List In
  | 0, _ => []
  | k + 1, b => ⟨5, 0, (b + 1 : Nat), e⟩ :: (c (b + 1) ++ opts c L e k (b + 1 + L))
def repC (x : Nd) (c : Nat → List In) (L b : Nat) : List In :=
  copies c L x.mn.toNat b ++
    (let b1 := b + x.mn.toNat * L
     if x.mx = -1 then ⟨5, 0, (b1 + 1 : Nat), (b1 + L + 2 : Nat)⟩ :: (c (b1 + 1) ++ [⟨4, 0, (b1 : Nat), 0⟩])
     else opts c L (b1 + (x.mx - x.mn).toNat * (L + 1)) (x.mx - x.mn).toNat b1)
def oneC (x : Nd) (c a : Nat → List In) (L b : Nat) : List In :=
  if x.op = 1 then [⟨1, x.set, 0, 0⟩] else if x.op = 2 then [⟨2, 0, 0, 0⟩] else if x.op = 3 then [⟨3, 0, 0, 0⟩]
  else if x.op = 5 then a b else if x.op = 6 then repC x c L b else c b
/-- the code of a forest, from the place b on; alternatives end at e -/
def code : F → Bool → Nat → Nat → List In
  | .nil, _, _, _ => []
  | .nd x ks r, m, b, e =>
    let one : Nat → List In := oneC x (fun b => code ks false b 0) (fun b => code ks true b (b + lenM ks true)) (lenM ks false)
    let L := lenOne x (lenM ks false) (lenM ks true)
    if m = true then (match r with
      | .nil => one b
      | _ => ⟨5, 0, (b + 1 : Nat), (b + L + 2 : Nat)⟩ :: (one (b + 1) ++ (⟨4, 0, e, 0⟩ :: code r true (b + L + 2) e)))
    else one b ++ code r false (b + L) 0
theorem copies_len {c : Nat → List In} {L : Nat} (h : ∀ b, (c b).length = L) : ∀ k b, (copies c L k b).length = k * L
  | 0, b => by simp [copies]
  | k + 1, b => by simp only [copies, List.length_append, h, copies_len h k, Nat.succ_mul]; omega
theorem opts_len {c : Nat → List In} {L e : Nat} (h : ∀ b, (c b).length = L) : ∀ k b, (opts c L e k b).length = k * (L + 1)
  | 0, b => by simp [opts]
  | k + 1, b => by simp only [opts, List.length_cons, List.length_append, h, opts_len h k, Nat.succ_mul]; omega
theorem oneC_len {x : Nd} {c a : Nat → List In} {L A : Nat} (hc : ∀ b, (c b).length = L) (ha : ∀ b, (a b).length = A) (b : Nat) : (oneC x c a L b).length = lenOne x L A := by
  unfold oneC lenOne
  by_cases h1 : x.op = 1
  · simp [h1]
  by_cases h2 : x.op = 2
  · simp [h2]
  by_cases h3 : x.op = 3
  · simp [h3]
  by_cases h5 : x.op = 5
  · simp [h5, ha]
  by_cases h6 : x.op = 6
  · simp only [h6, repC]
    by_cases hm : x.mx = -1
    · simp [hm, copies_len hc, hc]
    · simp [hm, copies_len hc, opts_len hc]
  · simp [h1, h2, h3, h5, h6, hc]
theorem code_len : ∀ (f : F) (m : Bool) (b e : Nat), (code f m b e).length = lenM f m
  | .nil, _, _, _ => rfl
  | .nd x ks r, m, b, e => by
    have hc : ∀ b, (code ks false b 0).length = lenM ks false := fun b => code_len ks false b 0
    have ha : ∀ b, (code ks true b (b + lenM ks true)).length = lenM ks true := fun b => code_len ks true b _
    have h1 := oneC_len (x := x) hc ha
    cases m with
    | false =>
      simp only [code, lenM, Bool.false_eq_true, if_false, List.length_append]
      rw [h1, code_len r false]; omega
    | true =>
      cases r with
      | nil => simp [code, lenM, h1]
      | nd y ks' r' =>
        have h2 := code_len (.nd y ks' r') true (b + lenOne x (lenM ks false) (lenM ks true) + 2) e
        show (_ :: (oneC x (fun b => code ks false b 0) (fun b => code ks true b (b + lenM ks true)) (lenM ks false) (b + 1) ++ (_ :: code (.nd y ks' r') true (b + lenOne x (lenM ks false) (lenM ks true) + 2) e)) : List In).length = lenOne x (lenM ks false) (lenM ks true) + 2 + lenM (.nd y ks' r') true
        rw [List.length_cons, List.length_append, List.length_cons, h1, h2]; omega
/-! runs -/
/-- a step of a machine in a text -/
inductive Stp (m : List In) (w : List UInt8) : Nat × Nat → Nat × Nat → Prop
  | set {i p : Nat} {t : In} {b : UInt8} (h : m[i]? = some t) (ho : t.op = 1) (hb : w[p]? = some b) (hs : t.set.getLsbD b.toNat = true) : Stp m w (i, p) (i + 1, p + 1)
  | bol {i : Nat} {t : In} (h : m[i]? = some t) (ho : t.op = 2) : Stp m w (i, 0) (i + 1, 0)
  | eol {i : Nat} {t : In} (h : m[i]? = some t) (ho : t.op = 3) : Stp m w (i, w.length) (i + 1, w.length)
  | jmp {i p j : Nat} {t : In} (h : m[i]? = some t) (ho : t.op = 4) (hx : t.x = (j : Int)) : Stp m w (i, p) (j, p)
  | spx {i p j : Nat} {t : In} (h : m[i]? = some t) (ho : t.op = 5) (hx : t.x = (j : Int)) : Stp m w (i, p) (j, p)
  | spy {i p j : Nat} {t : In} (h : m[i]? = some t) (ho : t.op = 5) (hy : t.y = (j : Int)) : Stp m w (i, p) (j, p)
inductive RunN (m : List In) (w : List UInt8) : Nat → Nat × Nat → Nat × Nat → Prop
  | zero {c : Nat × Nat} : RunN m w 0 c c
  | step {n : Nat} {c c' c'' : Nat × Nat} (h : Stp m w c c') (hr : RunN m w n c' c'') : RunN m w (n + 1) c c''
def Run (m : List In) (w : List UInt8) (c c' : Nat × Nat) : Prop := ∃ n, RunN m w n c c'
variable {m : List In} {w : List UInt8}
theorem RunN.trans {n k : Nat} {a b c : Nat × Nat} (h : RunN m w n a b) (h' : RunN m w k b c) : RunN m w (n + k) a c := by
  induction h with
  | zero => simpa using h'
  | step s _ ih => rw [show ∀ x, x + 1 + k = (x + k) + 1 by omega]; exact .step s (ih h')
theorem Run.refl {c : Nat × Nat} : Run m w c c := ⟨0, .zero⟩
theorem Run.trans {a b c : Nat × Nat} (h : Run m w a b) (h' : Run m w b c) : Run m w a c := by
  obtain ⟨n, h⟩ := h; obtain ⟨k, h'⟩ := h'; exact ⟨_, h.trans h'⟩
theorem Run.one {a b : Nat × Nat} (h : Stp m w a b) : Run m w a b := ⟨1, .step h .zero⟩
theorem Run.cons {a b c : Nat × Nat} (h : Stp m w a b) (h' : Run m w b c) : Run m w a c := (Run.one h).trans h'
/-- code that lies in a machine at a place -/
def At (m : List In) (b : Nat) (c : List In) : Prop := ∀ i t, c[i]? = some t → m[b + i]? = some t
theorem At.left {b : Nat} {c d : List In} (h : At m b (c ++ d)) : At m b c := fun i t hi => h i t (by rw [List.getElem?_append_left (List.getElem?_eq_some_iff.1 hi).1]; exact hi)
theorem At.right {b k : Nat} {c d : List In} (h : At m b (c ++ d)) (hk : c.length = k) : At m (b + k) d := fun i t hi => by
  subst hk
  have := h (c.length + i) t (by rw [List.getElem?_append_right (by omega)]; simpa using hi)
  rwa [← Nat.add_assoc] at this
theorem At.head {b : Nat} {t : In} {c : List In} (h : At m b (t :: c)) : m[b]? = some t := h 0 t rfl
theorem At.tail {b : Nat} {t : In} {c : List In} (h : At m b (t :: c)) : At m (b + 1) c := fun i t' hi => by
  have := h (i + 1) t' (by simpa using hi)
  rwa [show b + (i + 1) = b + 1 + i by omega] at this
/-- a part of the machine from b to b + L means D -/
structure Means (m : List In) (w : List UInt8) (b e : Nat) (D : Nat → Nat → Prop) : Prop where
  le : b ≤ e
  run : ∀ p q, D p q → Run m w (b, p) (e, q)
  out : ∀ n p c q, RunN m w n (b, p) (c, q) → ¬ (b ≤ c ∧ c < e) → ∃ k q', k ≤ n ∧ D p q' ∧ RunN m w k (e, q') (c, q)
theorem Means.nil {b : Nat} : Means m w b b (fun p q => p = q) := ⟨Nat.le_refl _, fun p q h => by subst h; exact .refl, fun n p c q h _ => ⟨n, p, Nat.le_refl _, rfl, h⟩⟩
theorem Means.iff {b e : Nat} {D D' : Nat → Nat → Prop} (h : Means m w b e D) (hd : ∀ p q, D p q ↔ D' p q) : Means m w b e D' := by
  have : D = D' := funext fun p => funext fun q => propext (hd p q)
  exact this ▸ h
theorem Means.seq {a b c : Nat} {D D' : Nat → Nat → Prop} (h : Means m w a b D) (h' : Means m w b c D') : Means m w a c (fun p q => ∃ t, D p t ∧ D' t q) := by
  refine ⟨Nat.le_trans h.le h'.le, fun p q ⟨t, h1, h2⟩ => (h.run _ _ h1).trans (h'.run _ _ h2), fun n p x q hr hx => ?_⟩
  obtain ⟨k, q', hk, hD, hr'⟩ := h.out n p x q hr (by have := h'.le; omega)
  obtain ⟨k2, q2, hk2, hD2, hr2⟩ := h'.out k q' x q hr' (by have := h.le; omega)
  exact ⟨k2, q2, by omega, ⟨q', hD, hD2⟩, hr2⟩
/-- one instruction -/
theorem Means.one {b : Nat} {D : Nat → Nat → Prop} (hr : ∀ p q, D p q → Stp m w (b, p) (b + 1, q)) (ho : ∀ p c q, Stp m w (b, p) (c, q) → c = b + 1 ∧ D p q) : Means m w b (b + 1) D := by
  refine ⟨by omega, fun p q h => .one (hr p q h), fun n p c q h hc => ?_⟩
  cases h with
  | zero => omega
  | step s r =>
    rename_i k c'
    obtain ⟨i, p'⟩ := c'
    obtain ⟨rfl, hD⟩ := ho _ _ _ s
    exact ⟨k, p', by omega, hD, r⟩
theorem Means.copies {c : Nat → List In} {L : Nat} {D : Nat → Nat → Prop} (hl : ∀ b, (c b).length = L) (hm : ∀ b, At m b (c b) → Means m w b (b + L) D) : ∀ k b, At m b (Mc.copies c L k b) → Means m w b (b + k * L) (pow D k)
  | 0, b, _ => by
    rw [Nat.zero_mul, Nat.add_zero]
    exact (Means.nil (b := b)).iff (fun p q => Iff.rfl)
  | k + 1, b, h => by
    have h1 := hm b h.left
    have h2 := Means.copies hl hm k (b + L) (h.right (hl b))
    have := h1.seq h2
    rw [show b + (k + 1) * L = b + L + k * L by rw [Nat.succ_mul]; omega]
    exact this
theorem Means.opts {c : Nat → List In} {L e : Nat} {D : Nat → Nat → Prop} (hl : ∀ b, (c b).length = L) (hm : ∀ b, At m b (c b) → Means m w b (b + L) D) : ∀ k b, b + k * (L + 1) = e → At m b (Mc.opts c L e k b) → Means m w b e (fun p q => ∃ j, j ≤ k ∧ pow D j p q)
  | 0, b, he, _ => by
    have : b = e := by simpa using he
    subst this
    refine (Means.nil (b := b)).iff (fun p q => ⟨fun h => ⟨0, Nat.le_refl _, h⟩, fun ⟨j, hj, h⟩ => ?_⟩)
    obtain rfl : j = 0 := by omega
    exact h
  | k + 1, b, he, h => by
    have he' : b + 1 + L + k * (L + 1) = e := by rw [Nat.succ_mul] at he; omega
    have h0 := h.head
    have h1 := hm (b + 1) h.tail.left
    have h2 := Means.opts hl hm k (b + 1 + L) he' (h.tail.right (hl _))
    have h3 := h1.seq h2
    refine ⟨by omega, fun p q ⟨j, hj, hp⟩ => ?_, fun n p x q hr hx => ?_⟩
    · cases j with
      | zero => obtain rfl : p = q := hp
                exact .one (.spy h0 rfl rfl)
      | succ j =>
        obtain ⟨t, hD, hp⟩ := hp
        exact .cons (.spx h0 rfl rfl) (h3.run p q ⟨t, hD, j, by omega, hp⟩)
    · cases hr with
      | zero => omega
      | step s r =>
        rename_i n' c'
        obtain ⟨i, p'⟩ := c'
        cases s with
        | set h ho hb hs => rw [h0] at h; cases h; simp at ho
        | bol h ho => rw [h0] at h; cases h; simp at ho
        | eol h ho => rw [h0] at h; cases h; simp at ho
        | jmp h ho hx => rw [h0] at h; cases h; simp at ho
        | spx h ho hx =>
          rw [h0] at h; cases h
          have : i = b + 1 := by simp at hx; omega
          subst this
          obtain ⟨k2, q2, hk2, ⟨t, hD, j, hj, hp⟩, hr2⟩ := h3.out _ _ _ _ r (by omega)
          exact ⟨k2, q2, by omega, ⟨j + 1, by omega, t, hD, hp⟩, hr2⟩
        | spy h ho hy =>
          rw [h0] at h; cases h
          have : i = e := by simp at hy; omega
          subst this
          exact ⟨n', _, by omega, ⟨0, by omega, rfl⟩, r⟩
theorem Means.star {b L : Nat} {D : Nat → Nat → Prop} (hs : m[b]? = some ⟨5, 0, (b + 1 : Nat), (b + L + 2 : Nat)⟩) (hj : m[b + 1 + L]? = some ⟨4, 0, (b : Nat), 0⟩) (hm : Means m w (b + 1) (b + 1 + L) D) :
    Means m w b (b + L + 2) (fun p q => ∃ j, pow D j p q) := by
  have hrun : ∀ j p q, pow D j p q → Run m w (b, p) (b + L + 2, q) := by
    intro j
    induction j with
    | zero =>
      intro p q hp
      obtain rfl : p = q := hp
      exact .one (.spy hs rfl rfl)
    | succ j ih =>
      intro p q hp
      obtain ⟨t, hD, hp⟩ := hp
      exact .cons (.spx hs rfl rfl) ((hm.run p t hD).trans (.cons (.jmp hj rfl rfl) (ih t q hp)))
  refine ⟨by omega, fun p q ⟨j, hp⟩ => hrun j p q hp, ?_⟩
  · intro n
    induction n using Nat.strongRecOn with
    | _ n ih =>
      intro p x q hr hx
      cases hr with
      | zero => omega
      | step s r =>
        rename_i n' c'
        obtain ⟨i, p'⟩ := c'
        cases s with
        | set h ho hb hs' => rw [hs] at h; cases h; simp at ho
        | bol h ho => rw [hs] at h; cases h; simp at ho
        | eol h ho => rw [hs] at h; cases h; simp at ho
        | jmp h ho hx => rw [hs] at h; cases h; simp at ho
        | spx h ho hx' =>
          rw [hs] at h; cases h
          have : i = b + 1 := by simp at hx'; omega
          subst this
          obtain ⟨k2, q2, hk2, hD, hr2⟩ := hm.out _ _ _ _ r (by omega)
          cases hr2 with
          | zero => omega
          | step s2 r2 =>
            rename_i n2 c2
            obtain ⟨i2, p2⟩ := c2
            cases s2 with
            | set h ho hb hs' => rw [hj] at h; cases h; simp at ho
            | bol h ho => rw [hj] at h; cases h; simp at ho
            | eol h ho => rw [hj] at h; cases h; simp at ho
            | spx h ho hx => rw [hj] at h; cases h; simp at ho
            | spy h ho hx => rw [hj] at h; cases h; simp at ho
            | jmp h ho hx2 =>
              rw [hj] at h; cases h
              have : i2 = b := by simp at hx2; omega
              subst this
              obtain ⟨k3, q3, hk3, ⟨j, hp⟩, hr3⟩ := ih n2 (by omega) _ _ _ r2 hx
              exact ⟨k3, q3, by omega, ⟨j + 1, _, hD, hp⟩, hr3⟩
        | spy h ho hy =>
          rw [hs] at h; cases h
          have : i = b + L + 2 := by simp at hy; omega
          subst this
          exact ⟨n', _, by omega, ⟨0, rfl⟩, r⟩
/-- one of two -/
theorem Means.alt {b L e : Nat} {D D' : Nat → Nat → Prop} (hs : m[b]? = some ⟨5, 0, (b + 1 : Nat), (b + L + 2 : Nat)⟩) (hj : m[b + 1 + L]? = some ⟨4, 0, (e : Nat), 0⟩) (hm : Means m w (b + 1) (b + 1 + L) D) (hm' : Means m w (b + L + 2) e D') :
    Means m w b e (fun p q => D p q ∨ D' p q) := by
  have hle := hm'.le
  refine ⟨by omega, fun p q h => ?_, fun n p x q hr hx => ?_⟩
  · rcases h with h | h
    · exact .cons (.spx hs rfl rfl) ((hm.run p q h).trans (.one (.jmp hj rfl rfl)))
    · exact .cons (.spy hs rfl rfl) (hm'.run p q h)
  · cases hr with
    | zero => omega
    | step s r =>
      rename_i n' c'
      obtain ⟨i, p'⟩ := c'
      cases s with
      | set h ho hb hs' => rw [hs] at h; cases h; simp at ho
      | bol h ho => rw [hs] at h; cases h; simp at ho
      | eol h ho => rw [hs] at h; cases h; simp at ho
      | jmp h ho hx => rw [hs] at h; cases h; simp at ho
      | spx h ho hx' =>
        rw [hs] at h; cases h
        have : i = b + 1 := by simp at hx'; omega
        subst this
        obtain ⟨k2, q2, hk2, hD, hr2⟩ := hm.out _ _ _ _ r (by omega)
        cases hr2 with
        | zero => omega
        | step s2 r2 =>
          rename_i n2 c2
          obtain ⟨i2, p2⟩ := c2
          cases s2 with
          | set h ho hb hs' => rw [hj] at h; cases h; simp at ho
          | bol h ho => rw [hj] at h; cases h; simp at ho
          | eol h ho => rw [hj] at h; cases h; simp at ho
          | spx h ho hx => rw [hj] at h; cases h; simp at ho
          | spy h ho hx => rw [hj] at h; cases h; simp at ho
          | jmp h ho hx2 =>
            rw [hj] at h; cases h
            have : i2 = e := by simp at hx2; omega
            subst this
            exact ⟨n2, _, by omega, .inl hD, r2⟩
      | spy h ho hy =>
        rw [hs] at h; cases h
        have : i = b + L + 2 := by simp at hy; omega
        subst this
        obtain ⟨k2, q2, hk2, hD, hr2⟩ := hm'.out _ _ _ _ r (by omega)
        exact ⟨k2, q2, by omega, .inr hD, hr2⟩
theorem pow_add {D : Nat → Nat → Prop} : ∀ a b p q, pow D (a + b) p q ↔ ∃ t, pow D a p t ∧ pow D b t q
  | 0, b, p, q => by simp [pow]
  | a + 1, b, p, q => by
    rw [show a + 1 + b = (a + b) + 1 by omega]
    simp only [pow, pow_add a b]
    constructor
    · rintro ⟨s, h, t, h1, h2⟩; exact ⟨t, ⟨s, h, h1⟩, h2⟩
    · rintro ⟨t, ⟨s, h, h1⟩, h2⟩; exact ⟨s, h, t, h1, h2⟩
/-- the fields of a repetition -/
theorem rep_flds {x : Nd} (h : ndOk x = true) (h6 : x.op = 6) : 0 ≤ x.mn ∧ x.mn ≤ 255 ∧ (x.mx = -1 ∨ x.mn ≤ x.mx ∧ x.mx ≤ 255) := by
  simp only [ndOk, flds, Bool.and_eq_true] at h
  have h := h.1.2
  rw [if_pos h6] at h
  simpa using h
theorem Means.rep {x : Nd} {c : Nat → List In} {L b : Nat} {D : Nat → Nat → Prop} (hx : 0 ≤ x.mn ∧ x.mn ≤ 255 ∧ (x.mx = -1 ∨ x.mn ≤ x.mx ∧ x.mx ≤ 255)) (hl : ∀ b, (c b).length = L) (hm : ∀ b, At m b (c b) → Means m w b (b + L) D) (h : At m b (repC x c L b)) :
    Means m w b (b + (x.mn.toNat * L + (if x.mx = -1 then L + 2 else (x.mx - x.mn).toNat * (L + 1)))) (rounds x D) := by
  have h1 := Means.copies hl hm x.mn.toNat b h.left
  have h2 := h.right (copies_len hl _ _)
  by_cases hmx : x.mx = -1
  · rw [if_pos hmx] at h2 ⊢
    have h3 := Means.star (L := L) h2.head (h2.tail.right (hl _)).head (hm _ h2.tail.left)
    rw [show b + (x.mn.toNat * L + (L + 2)) = b + x.mn.toNat * L + L + 2 by omega]
    refine (h1.seq h3).iff fun p q => ⟨fun ⟨t, ha, j, hb⟩ => ⟨x.mn.toNat + j, by omega, .inl hmx, (pow_add _ _ _ _).2 ⟨t, ha, hb⟩⟩, fun ⟨k, hk, _, hp⟩ => ?_⟩
    obtain ⟨t, ha, hb⟩ := (pow_add x.mn.toNat (k - x.mn.toNat) p q).1 (by rwa [show x.mn.toNat + (k - x.mn.toNat) = k by omega])
    exact ⟨t, ha, _, hb⟩
  · rw [if_neg hmx] at h2 ⊢
    have h3 := Means.opts hl hm (x.mx - x.mn).toNat (b + x.mn.toNat * L) rfl h2
    rw [show b + (x.mn.toNat * L + (x.mx - x.mn).toNat * (L + 1)) = b + x.mn.toNat * L + (x.mx - x.mn).toNat * (L + 1) by omega]
    refine (h1.seq h3).iff fun p q => ⟨fun ⟨t, ha, j, hj, hb⟩ => ⟨x.mn.toNat + j, by omega, .inr (by omega), (pow_add _ _ _ _).2 ⟨t, ha, hb⟩⟩, fun ⟨k, hk, hk2, hp⟩ => ?_⟩
    obtain ⟨t, ha, hb⟩ := (pow_add x.mn.toNat (k - x.mn.toNat) p q).1 (by rwa [show x.mn.toNat + (k - x.mn.toNat) = k by omega])
    exact ⟨t, ha, _, by omega, hb⟩
theorem alt_kids {x : Nd} (h : ndOk x = true) (h5 : x.op = 5) : 2 ≤ x.kids := by
  simp only [ndOk, Bool.and_eq_true, kidsOk] at h
  have h := h.2
  rw [if_neg (by omega), if_neg (by omega), if_pos h5] at h
  simpa using h
theorem means_code : ∀ (f : F) (md : Bool) (b e : Nat), f.wf → (md = true → f ≠ .nil ∧ e = b + lenM f true) → At m b (code f md b e) → Means m w b (b + lenM f md) (der w f md)
  | .nil, md, b, e, _, hmd, h => by
    cases md with
    | true => exact absurd rfl (hmd rfl).1
    | false => exact (Means.nil (b := b)).iff fun p q => by simp [der]
  | .nd x ks r, md, b, e, hw, hmd, h => by
    have hc : ∀ b, (code ks false b 0).length = lenM ks false := fun b => code_len ks false b 0
    have ha : ∀ b, (code ks true b (b + lenM ks true)).length = lenM ks true := fun b => code_len ks true b _
    have hone : ∀ b, At m b (oneC x (fun b => code ks false b 0) (fun b => code ks true b (b + lenM ks true)) (lenM ks false) b) → Means m w b (b + lenOne x (lenM ks false) (lenM ks true)) (fun p q =>
        if x.op = 1 then q = p + 1 ∧ ∃ b, w[p]? = some b ∧ x.set.getLsbD b.toNat = true
        else if x.op = 2 then p = 0 ∧ q = 0
        else if x.op = 3 then p = w.length ∧ q = p
        else if x.op = 5 then der w ks true p q
        else if x.op = 6 then rounds x (der w ks false) p q
        else der w ks false p q) := by
      intro b hb
      unfold oneC at hb
      unfold lenOne
      by_cases h1 : x.op = 1
      · simp only [h1, if_true, true_or] at hb ⊢
        refine Means.one (fun p q ⟨h2, y, h3, h4⟩ => by subst h2; exact .set hb.head rfl h3 h4) fun p c q hs => ?_
        cases hs with
        | set h ho hb' hs => rw [hb.head] at h; cases h; exact ⟨rfl, rfl, _, hb', hs⟩
        | bol h ho => rw [hb.head] at h; cases h; simp at ho
        | eol h ho => rw [hb.head] at h; cases h; simp at ho
        | jmp h ho hx => rw [hb.head] at h; cases h; simp at ho
        | spx h ho hx => rw [hb.head] at h; cases h; simp at ho
        | spy h ho hx => rw [hb.head] at h; cases h; simp at ho
      by_cases h2 : x.op = 2
      · simp only [h2, if_true, true_or, or_true, show ¬ ((2 : Int) = 1) by omega, if_false] at hb ⊢
        refine Means.one (fun p q ⟨h2, h3⟩ => by subst h2; subst h3; exact .bol hb.head rfl) fun p c q hs => ?_
        cases hs with
        | set h ho hb' hs => rw [hb.head] at h; cases h; simp at ho
        | bol h ho => exact ⟨rfl, rfl, rfl⟩
        | eol h ho => rw [hb.head] at h; cases h; simp at ho
        | jmp h ho hx => rw [hb.head] at h; cases h; simp at ho
        | spx h ho hx => rw [hb.head] at h; cases h; simp at ho
        | spy h ho hx => rw [hb.head] at h; cases h; simp at ho
      by_cases h3 : x.op = 3
      · simp only [h3, if_true, or_true, show ¬ ((3 : Int) = 1) by omega, show ¬ ((3 : Int) = 2) by omega, if_false] at hb ⊢
        refine Means.one (fun p q ⟨h2, h3⟩ => by subst h3; subst h2; exact .eol hb.head rfl) fun p c q hs => ?_
        cases hs with
        | set h ho hb' hs => rw [hb.head] at h; cases h; simp at ho
        | bol h ho => rw [hb.head] at h; cases h; simp at ho
        | eol h ho => exact ⟨rfl, rfl, rfl⟩
        | jmp h ho hx => rw [hb.head] at h; cases h; simp at ho
        | spx h ho hx => rw [hb.head] at h; cases h; simp at ho
        | spy h ho hx => rw [hb.head] at h; cases h; simp at ho
      by_cases h5 : x.op = 5
      · simp only [h5, if_true, show ¬ ((5 : Int) = 1) by omega, show ¬ ((5 : Int) = 2) by omega, show ¬ ((5 : Int) = 3) by omega, or_self, if_false] at hb ⊢
        refine means_code ks true b _ hw.2.2.1 (fun _ => ⟨?_, rfl⟩) hb
        rintro rfl
        have := alt_kids hw.1 h5
        have := hw.2.1
        simp [F.num] at this
        omega
      by_cases h6 : x.op = 6
      · simp only [h6, if_true, show ¬ ((6 : Int) = 1) by omega, show ¬ ((6 : Int) = 2) by omega, show ¬ ((6 : Int) = 3) by omega, show ¬ ((6 : Int) = 5) by omega, or_self, if_false] at hb ⊢
        exact Means.rep (rep_flds hw.1 h6) hc (fun b hb => means_code ks false b 0 hw.2.2.1 (fun h => by cases h) hb) hb
      · simp only [h1, h2, h3, h5, h6, or_self, if_false] at hb ⊢
        exact means_code ks false b 0 hw.2.2.1 (fun h => by cases h) hb
    cases md with
    | false =>
      simp only [code, Bool.false_eq_true, if_false] at h
      have h1 := hone b h.left
      have h2 := means_code r false _ 0 hw.2.2.2 (fun h => by cases h) (h.right (oneC_len hc ha b))
      have h3 := h1.seq h2
      simp only [lenM, der, Bool.false_eq_true, if_false]
      rw [show b + (lenOne x (lenM ks false) (lenM ks true) + 0 + lenM r false) = b + lenOne x (lenM ks false) (lenM ks true) + lenM r false by omega]
      exact h3
    | true =>
      cases r with
      | nil =>
        simp only [code, if_true] at h
        simp only [lenM, if_true, der]
        refine (hone b h).iff fun p q => ?_
        simp
      | nd y ks' r' =>
        obtain ⟨_, he⟩ := hmd rfl
        have h : At m b (⟨5, 0, (b + 1 : Nat), (b + lenOne x (lenM ks false) (lenM ks true) + 2 : Nat)⟩ :: (oneC x (fun b => code ks false b 0) (fun b => code ks true b (b + lenM ks true)) (lenM ks false) (b + 1) ++ (⟨4, 0, e, 0⟩ :: code (.nd y ks' r') true (b + lenOne x (lenM ks false) (lenM ks true) + 2) e))) := h
        have h1 := hone (b + 1) h.tail.left
        have h2 := h.tail.right (oneC_len hc ha _)
        have hL : lenM (.nd x ks (.nd y ks' r')) true = lenOne x (lenM ks false) (lenM ks true) + 2 + lenM (.nd y ks' r') true := rfl
        have h3 := means_code (.nd y ks' r') true (b + lenOne x (lenM ks false) (lenM ks true) + 2) e hw.2.2.2 (fun _ => ⟨(fun h => by cases h), by rw [he, hL]; omega⟩) (by
          have := h2.tail
          rwa [show b + 1 + lenOne x (lenM ks false) (lenM ks true) + 1 = b + lenOne x (lenM ks false) (lenM ks true) + 2 by omega] at this)
        have h4 := Means.alt (e := e) h.head h2.head h1 (by rw [he, hL]; rw [show b + (lenOne x (lenM ks false) (lenM ks true) + 2 + lenM (.nd y ks' r') true) = b + lenOne x (lenM ks false) (lenM ks true) + 2 + lenM (.nd y ks' r') true by omega]; exact h3)
        rw [← he]
        refine h4.iff fun p q => ?_
        conv => rhs; rw [der]
        simp
/-- the machine of a regex runs to its end just where derivations end -/
theorem means_all {f : F} (hw : f.wf) (p q : Nat) : Run (code f false 0 0 ++ [⟨6, 0, 0, 0⟩]) w (0, p) (lenM f false, q) ↔ der w f false p q := by
  have h : Means (code f false 0 0 ++ [⟨6, 0, 0, 0⟩]) w 0 (0 + lenM f false) (der w f false) := means_code f false 0 0 hw (fun h => by cases h) (fun i t hi => by
    rw [Nat.zero_add, List.getElem?_append_left (List.getElem?_eq_some_iff.1 hi).1]; exact hi)
  rw [Nat.zero_add] at h
  refine ⟨fun ⟨n, hr⟩ => ?_, h.run p q⟩
  obtain ⟨k, q', _, hD, hr'⟩ := h.out n p _ q hr (by omega)
  cases hr' with
  | zero => exact hD
  | step s _ =>
    have hd : (code f false 0 0 ++ [(⟨6, 0, 0, 0⟩ : In)])[lenM f false]? = some ⟨6, 0, 0, 0⟩ := by
      rw [List.getElem?_append_right (by rw [code_len]; omega), code_len]; simp
    exfalso
    cases s with
    | set h ho hb' hs => rw [hd] at h; cases h; simp at ho
    | bol h ho => rw [hd] at h; cases h; simp at ho
    | eol h ho => rw [hd] at h; cases h; simp at ho
    | jmp h ho hx => rw [hd] at h; cases h; simp at ho
    | spx h ho hx => rw [hd] at h; cases h; simp at ho
    | spy h ho hx => rw [hd] at h; cases h; simp at ho
end Go.HL.Kl.Mc
