/- Part of the proofs over this seat: see the text that holds the theorem. Conditions: each theorem bears its own. -/
import Derived.Test.YtihbhlgognpmmaaMC2
namespace Go.HL.Kl
open Go Go.HL

/-! OnesCount64: the sums of the lanes -/
theorem and_lanes {m a b c d : Nat} (ha : a < 2 ^ m) (hc : c < 2 ^ m) : (2 ^ m * b + a) &&& (2 ^ m * d + c) = 2 ^ m * (b &&& d) + (a &&& c) := by
  have hac : a &&& c < 2 ^ m := Nat.and_lt_two_pow _ hc
  apply Nat.eq_of_testBit_eq
  intro i
  rw [Nat.testBit_and, Nat.testBit_two_pow_mul_add _ ha, Nat.testBit_two_pow_mul_add _ hc, Nat.testBit_two_pow_mul_add _ hac]
  split
  · rw [Nat.testBit_and]
  · rw [Nat.testBit_and]
/-- n lanes of k bits -/
def pk (k : Nat) : Nat → (Nat → Nat) → Nat
  | 0, _ => 0
  | n + 1, f => 2 ^ k * pk k n (fun i => f (i + 1)) + f 0
theorem pk_ext (k : Nat) : ∀ (n : Nat) (f g : Nat → Nat), (∀ i, i < n → f i = g i) → pk k n f = pk k n g
  | 0, _, _, _ => rfl
  | n + 1, f, g, h => by
    simp only [pk]
    rw [pk_ext k n _ _ fun i hi => h (i + 1) (by omega), h 0 (by omega)]
theorem pk_add (k : Nat) : ∀ (n : Nat) (f g : Nat → Nat), pk k n f + pk k n g = pk k n (fun i => f i + g i)
  | 0, _, _ => rfl
  | n + 1, f, g => by
    simp only [pk]
    rw [← pk_add k n, Nat.mul_add]; omega
theorem pk_lt (k : Nat) : ∀ (n : Nat) (f : Nat → Nat), (∀ i, i < n → f i < 2 ^ k) → pk k n f < 2 ^ (k * n)
  | 0, _, _ => by simp [pk]
  | n + 1, f, h => by
    simp only [pk]
    have h1 := pk_lt k n (fun i => f (i + 1)) fun i hi => h (i + 1) (by omega)
    have h2 := h 0 (by omega)
    rw [Nat.mul_add, Nat.mul_one, Nat.add_comm (k * n) k, Nat.pow_add]
    have h3 : 2 ^ k * (pk k n (fun i => f (i + 1)) + 1) ≤ 2 ^ k * 2 ^ (k * n) := Nat.mul_le_mul_left _ h1
    rw [Nat.mul_add] at h3; omega
/-- the lanes moved down by s -/
theorem pk_shr1 (k : Nat) (n : Nat) (f : Nat → Nat) (h : f 0 < 2 ^ k) : pk k (n + 1) f / 2 ^ k = pk k n (fun i => f (i + 1)) := by
  simp only [pk]
  rw [Nat.mul_add_div (Nat.two_pow_pos k), Nat.div_eq_of_lt h, Nat.add_zero]
theorem pk_top (k : Nat) : ∀ (n : Nat) (f : Nat → Nat), f n = 0 → pk k (n + 1) f = pk k n f
  | 0, f, h => by simp [pk, h]
  | n + 1, f, h => by
    rw [pk, pk_top k n (fun i => f (i + 1)) h]; rfl
theorem pk_shr (k n : Nat) : ∀ (s : Nat) (f : Nat → Nat), (∀ i, f i < 2 ^ k) → (∀ i, n ≤ i → f i = 0) → pk k n f / 2 ^ (k * s) = pk k n (fun i => f (i + s))
  | 0, f, _, _ => by simp
  | s + 1, f, h, h0 => by
    rw [Nat.mul_add, Nat.mul_one, Nat.pow_add, ← Nat.div_div_eq_div_mul, pk_shr k n s f h h0]
    cases n with
    | zero => simp [pk]
    | succ n =>
      rw [pk_shr1 k n (fun i => f (i + s)) (h _)]
      rw [← pk_top k n]
      · exact pk_ext _ _ _ _ fun i _ => by congr 1; omega
      · exact h0 _ (by omega)
/-- every second lane -/
theorem pk_half (k : Nat) : ∀ (n : Nat) (f : Nat → Nat), (∀ i, f i < 2 ^ k) → pk k (2 * n) f &&& pk (2 * k) n (fun _ => 2 ^ k - 1) = pk (2 * k) n (fun i => f (2 * i))
  | 0, _, _ => by simp [pk]
  | n + 1, f, h => by
    have e : 2 * (n + 1) = (2 * n + 1) + 1 := by omega
    rw [e]
    simp only [pk]
    have h0 := h 0; have h1 := h 1
    have e2 : 2 ^ k * (2 ^ k * pk k (2 * n) (fun i => f (i + 1 + 1)) + f (0 + 1)) + f 0 = 2 ^ (2 * k) * pk k (2 * n) (fun i => f (i + 1 + 1)) + (2 ^ k * f 1 + f 0) := by
      rw [Nat.two_mul k, Nat.pow_add, Nat.mul_add, Nat.mul_assoc]; simp [Nat.add_assoc]
    rw [e2]
    have hp : 0 < 2 ^ k := Nat.two_pow_pos k
    have h3 : 2 ^ k * f 1 + f 0 < 2 ^ (2 * k) := by
      rw [Nat.two_mul k, Nat.pow_add]
      have : 2 ^ k * (f 1 + 1) ≤ 2 ^ k * 2 ^ k := Nat.mul_le_mul_left _ h1
      rw [Nat.mul_add] at this; omega
    have h4 : 2 ^ k - 1 < 2 ^ (2 * k) := by
      have : 2 ^ k ≤ 2 ^ (2 * k) := Nat.pow_le_pow_right (by decide) (by omega)
      omega
    rw [and_lanes h3 h4, pk_half k n _ fun i => h _]
    rw [Nat.and_two_pow_sub_one_eq_mod, Nat.mul_add_mod, Nat.mod_eq_of_lt h0]
    congr 1
/-- the bits, as lanes -/
def bt (w : BitVec 64) (i : Nat) : Nat := if w.getLsbD i then 1 else 0
theorem bt_lt (w : BitVec 64) (i : Nat) : bt w i < 2 := by unfold bt; split <;> omega
theorem bt_top (w : BitVec 64) {i : Nat} (h : 64 ≤ i) : bt w i = 0 := by simp [bt, BitVec.getLsbD_of_ge w i h]
theorem pk_bits : ∀ (n x : Nat), x < 2 ^ n → pk 1 n (fun i => if x.testBit i then 1 else 0) = x
  | 0, x, h => by simp [pk]; simp at h; omega
  | n + 1, x, h => by
    simp only [pk]
    have h1 : x / 2 < 2 ^ n := by rw [Nat.pow_succ] at h; omega
    have := pk_bits n (x / 2) h1
    have e : (fun i => if x.testBit (i + 1) then 1 else 0) = (fun i => if (x / 2).testBit i then 1 else 0) := by
      funext i; rw [Nat.testBit_succ]
    rw [e, this]
    simp only [Nat.testBit_zero]
    by_cases hx : x % 2 = 1
    · simp [hx]; omega
    · simp [hx]; omega
theorem pk_word (w : BitVec 64) : pk 1 64 (bt w) = w.toNat := by
  have := pk_bits 64 w.toNat w.isLt
  rw [← this]
  exact pk_ext _ _ _ _ fun i _ => by simp [bt, BitVec.getLsbD]
def popW (w : BitVec 64) : Nat := (List.range 64).countP w.getLsbD
def sums (f : Nat → Nat) (i : Nat) : Nat := f (2 * i) + f (2 * i + 1)
/-- OnesCount64's sums, as the text has them -/
def oc1 (w : BitVec 64) : BitVec 64 := ((w >>> 1) &&& 6148914691236517205#64) + (w &&& 6148914691236517205#64)
def oc2 (w : BitVec 64) : BitVec 64 := ((w >>> 2) &&& 3689348814741910323#64) + (w &&& 3689348814741910323#64)
def oc3 (w : BitVec 64) : BitVec 64 := ((w >>> 4) + w) &&& 1085102592571150095#64
def oc4 (k : Nat) (w : BitVec 64) : BitVec 64 := w + (w >>> k)
theorem toNat_add_of {a b : BitVec 64} {x y : Nat} (ha : a.toNat = x) (hb : b.toNat = y) (h : x + y < 18446744073709551616) : (a + b).toNat = x + y := by
  rw [BitVec.toNat_add, ha, hb]; exact Nat.mod_eq_of_lt h
theorem toNat_shr {a : BitVec 64} {x k : Nat} (ha : a.toNat = x) : (a >>> k).toNat = x / 2 ^ k := by
  rw [BitVec.toNat_ushiftRight, ha, Nat.shiftRight_eq_div_pow]
theorem pk_small {k n : Nat} {f : Nat → Nat} (hk : k * n = 64) (h : ∀ i, f i < 2 ^ k) : pk k n f < 18446744073709551616 := by
  have := pk_lt k n f fun i _ => h i
  rw [hk] at this; exact this
theorem lanes_step {k n : Nat} {f : Nat → Nat} {w m : BitVec 64} (hn : k * (2 * n) = 64) (hm : m.toNat = pk (2 * k) n (fun _ => 2 ^ k - 1)) (hw : w.toNat = pk k (2 * n) f) (hf : ∀ i, f i < 2 ^ k) (h0 : ∀ i, 2 * n ≤ i → f i = 0)
    (hs : ∀ i, sums f i < 2 ^ (2 * k)) : (((w >>> k) &&& m) + (w &&& m)).toNat = pk (2 * k) n (sums f) := by
  have e1 : (w >>> k).toNat = pk k (2 * n) (fun i => f (i + 1)) := by
    rw [toNat_shr hw]
    have := pk_shr k (2 * n) 1 f hf h0
    rw [Nat.mul_one] at this; exact this
  have e2 : ((w >>> k) &&& m).toNat = pk (2 * k) n (fun i => f (2 * i + 1)) := by
    rw [BitVec.toNat_and, e1, hm, pk_half k n _ fun i => hf _]
  have e3 : (w &&& m).toNat = pk (2 * k) n (fun i => f (2 * i)) := by rw [BitVec.toNat_and, hw, hm, pk_half k n _ hf]
  have e4 : pk (2 * k) n (fun i => f (2 * i + 1)) + pk (2 * k) n (fun i => f (2 * i)) = pk (2 * k) n (sums f) := by
    rw [pk_add]; exact pk_ext _ _ _ _ fun i _ => by simp [sums]; omega
  rw [toNat_add_of e2 e3 (by rw [e4]; exact pk_small (by rw [← hn]; simp [Nat.mul_assoc, Nat.mul_left_comm]) hs), e4]
theorem sums_le {f : Nat → Nat} {b : Nat} (h : ∀ i, f i ≤ b) (i : Nat) : sums f i ≤ 2 * b := by have := h (2 * i); have := h (2 * i + 1); unfold sums; omega
theorem sums_top {f : Nat → Nat} {n : Nat} (h : ∀ i, 2 * n ≤ i → f i = 0) (i : Nat) (hi : n ≤ i) : sums f i = 0 := by simp [sums, h (2 * i) (by omega), h (2 * i + 1) (by omega)]
theorem fold_step {s : Nat} {f : Nat → Nat} {w : BitVec 64} (hw : w.toNat = pk 8 8 f) (hf : ∀ i, f i < 128) (h0 : ∀ i, 8 ≤ i → f i = 0) : (oc4 (8 * s) w).toNat = pk 8 8 (fun i => f i + f (i + s)) := by
  have e1 : (w >>> (8 * s)).toNat = pk 8 8 (fun i => f (i + s)) := by
    rw [toNat_shr hw]; exact pk_shr 8 8 s f (fun i => by have := hf i; omega) h0
  have e4 : pk 8 8 f + pk 8 8 (fun i => f (i + s)) = pk 8 8 (fun i => f i + f (i + s)) := pk_add 8 8 f _
  unfold oc4
  rw [toNat_add_of hw e1 (by rw [e4]; exact pk_small rfl fun i => by have := hf i; have := hf (i + s); omega), e4]
def sm (f : Nat → Nat) : Nat → Nat
  | 0 => 0
  | n + 1 => sm f n + f n
theorem pop_sum (w : BitVec 64) : popW w = sums (sums (sums (bt w))) 0 + sums (sums (sums (bt w))) 1 + sums (sums (sums (bt w))) 2 + sums (sums (sums (bt w))) 3 + sums (sums (sums (bt w))) 4 + sums (sums (sums (bt w))) 5 + sums (sums (sums (bt w))) 6 + sums (sums (sums (bt w))) 7 := by
  have e : ∀ n, (List.range n).countP w.getLsbD = sm (bt w) n := by
    intro n
    induction n with
    | zero => rfl
    | succ n ih =>
      rw [List.range_succ, List.countP_append, ih]
      simp [List.countP_cons, bt, sm]
  unfold popW
  rw [e]
  simp only [sm, sums, Nat.mul_zero, Nat.mul_one, Nat.zero_add, Nat.reduceMul, Nat.reduceAdd]
  omega
theorem pop_eq (w : BitVec 64) : (oc4 32 (oc4 16 (oc4 8 (oc3 (oc2 (oc1 w)))))).toNat % 128 = popW w ∧ (oc4 32 (oc4 16 (oc4 8 (oc3 (oc2 (oc1 w)))))).toNat < 9223372036854775808 := by
  have b0 : ∀ i, bt w i ≤ 1 := fun i => by have := bt_lt w i; omega
  have t0 : ∀ i, 2 * 32 ≤ i → bt w i = 0 := fun i hi => bt_top w hi
  have s1 := lanes_step (k := 1) (n := 32) (f := bt w) (w := w) (m := 6148914691236517205#64) rfl (by decide) (pk_word w).symm (bt_lt w) t0 fun i => by have := sums_le b0 i; omega
  have b1 := sums_le b0
  have t1 : ∀ i, 2 * 16 ≤ i → sums (bt w) i = 0 := fun i hi => sums_top t0 i hi
  have s2 := lanes_step (k := 2) (n := 16) (f := sums (bt w)) (w := oc1 w) (m := 3689348814741910323#64) rfl (by decide) s1 (fun i => by have := b1 i; omega) t1 fun i => by have := sums_le b1 i; omega
  have s2 : (oc2 (oc1 w)).toNat = pk 4 16 (sums (sums (bt w))) := s2
  have b2 := sums_le b1
  have t2 : ∀ i, 16 ≤ i → sums (sums (bt w)) i = 0 := fun i hi => sums_top t1 i hi
  have s3 : (oc3 (oc2 (oc1 w))).toNat = pk 8 8 (sums (sums (sums (bt w)))) := by
    have e1 : (oc2 (oc1 w) >>> 4).toNat = pk 4 16 (fun i => sums (sums (bt w)) (i + 1)) := by
      rw [toNat_shr s2]; exact pk_shr 4 16 1 _ (fun i => by have := b2 i; omega) t2
    have e4 : pk 4 16 (fun i => sums (sums (bt w)) (i + 1)) + pk 4 16 (sums (sums (bt w))) = pk 4 16 (fun i => sums (sums (bt w)) (i + 1) + sums (sums (bt w)) i) := pk_add _ _ _ _
    have e5 : ∀ i, sums (sums (bt w)) (i + 1) + sums (sums (bt w)) i < 2 ^ 4 := fun i => by have := b2 i; have := b2 (i + 1); omega
    have e6 := toNat_add_of e1 s2 (by rw [e4]; exact pk_small rfl e5)
    unfold oc3
    rw [BitVec.toNat_and]
    have e7 : (oc2 (oc1 w) >>> 4 + oc2 (oc1 w)).toNat = pk 4 (2 * 8) (fun i => sums (sums (bt w)) (i + 1) + sums (sums (bt w)) i) := by
      refine e6.trans ?_
      exact e4
    have e8 : (1085102592571150095#64).toNat = pk (2 * 4) 8 (fun _ => 2 ^ 4 - 1) := by decide
    rw [e7, e8, pk_half 4 8 _ e5]
    exact pk_ext _ _ _ _ fun i _ => by simp [sums]; omega
  have b3 := sums_le b2
  have t3 : ∀ i, 8 ≤ i → sums (sums (sums (bt w))) i = 0 := fun i hi => sums_top t2 i hi
  obtain ⟨h, hh⟩ : ∃ h, h = sums (sums (sums (bt w))) := ⟨_, rfl⟩
  rw [← hh] at s3 b3 t3
  have s4 := fold_step (s := 1) s3 (fun i => by have := b3 i; omega) t3
  have s5 := fold_step (s := 2) s4 (fun i => by have := b3 i; have := b3 (i + 1); omega) (fun i hi => by simp [t3 i hi, t3 (i + 1) (by omega)])
  have s6 := fold_step (s := 4) s5 (fun i => by have := b3 i; have := b3 (i + 1); have := b3 (i + 2); have := b3 (i + 2 + 1); omega) (fun i hi => by simp [t3 i hi, t3 (i + 1) (by omega), t3 (i + 2) (by omega), t3 (i + 2 + 1) (by omega)])
  have e : oc4 32 (oc4 16 (oc4 8 (oc3 (oc2 (oc1 w))))) = oc4 (8 * 4) (oc4 (8 * 2) (oc4 (8 * 1) (oc3 (oc2 (oc1 w))))) := rfl
  rw [e, s6]
  have hp := pop_sum w
  rw [← hh] at hp
  have l0 := b3 0; have l1 := b3 1; have l2 := b3 2; have l3 := b3 3; have l4 := b3 4; have l5 := b3 5; have l6 := b3 6; have l7 := b3 7
  have z8 := t3 8 (by omega); have z9 := t3 9 (by omega); have z10 := t3 10 (by omega); have z11 := t3 11 (by omega); have z12 := t3 12 (by omega); have z13 := t3 13 (by omega); have z14 := t3 14 (by omega)
  constructor
  · simp only [pk, Nat.zero_add, Nat.reduceAdd, Nat.reducePow]
    omega
  · simp only [pk, Nat.zero_add, Nat.reduceAdd, Nat.reducePow]
    omega
end Go.HL.Kl
