/- Part of the proofs over this seat: see the text that holds the theorem. Conditions: each theorem bears its own. -/
import Derived.Test.YtmmajabfmhipeaaDoorQA3Z
import Derived.Test.YtmmajabfmhipeaaDoorHlB
import Derived.Lib.TrailingZeros
import Derived.Test.YtmmajabfmhipeaaDoorFM18Z
import Derived.Test.YtmmajabfmhipeaaDoorFW30
namespace Go.HL.Kl
open Go Go.HL
theorem shr6_u8 {x : Nat} (hx : x < 256) : ((x : Int)).fdiv (2 ^ (min (6 : Int).toNat IntKind.u8.bits)) = ((x / 64 : Nat) : Int) := by
  have : ∀ x : Fin 256, ((x.val : Int)).fdiv (2 ^ (min (6 : Int).toNat IntKind.u8.bits)) = ((x.val / 64 : Nat) : Int) := by decide +kernel
  exact this ⟨x, hx⟩
theorem shr6_i64 {x : Nat} (hx : x < 256) : ((x : Int)).fdiv (2 ^ (min (6 : Int).toNat IntKind.i64.bits)) = ((x / 64 : Nat) : Int) := by
  have : ∀ x : Fin 256, ((x.val : Int)).fdiv (2 ^ (min (6 : Int).toNat IntKind.i64.bits)) = ((x.val / 64 : Nat) : Int) := by decide +kernel
  exact this ⟨x, hx⟩
theorem and63_i64 {x : Nat} (hx : x < 256) : IntKind.i64.wrap (BitVec.ofInt IntKind.i64.bits (x : Int) &&& BitVec.ofInt IntKind.i64.bits 63).toNat = ((x % 64 : Nat) : Int) := by
  have : ∀ x : Fin 256, IntKind.i64.wrap (BitVec.ofInt IntKind.i64.bits (x.val : Int) &&& BitVec.ofInt IntKind.i64.bits 63).toNat = ((x.val % 64 : Nat) : Int) := by decide +kernel
  exact this ⟨x, hx⟩
theorem quo64 {x : Nat} (hx : x < 256) : IntKind.u8.wrap ((x : Int).tdiv 64) = ((x / 64 : Nat) : Int) := by
  have : ∀ x : Fin 256, IntKind.u8.wrap ((x.val : Int).tdiv 64) = ((x.val / 64 : Nat) : Int) := by decide +kernel
  exact this ⟨x, hx⟩
theorem rem64 {x : Nat} (hx : x < 256) : (x : Int).tmod 64 = ((x % 64 : Nat) : Int) := by
  have : ∀ x : Fin 256, (x.val : Int).tmod 64 = ((x.val % 64 : Nat) : Int) := by decide +kernel
  exact this ⟨x, hx⟩
theorem conv8 {x : Nat} (hx : x < 256) : IntKind.u8.wrap (x : Int) = (x : Int) := by
  have : ∀ x : Fin 256, IntKind.u8.wrap (x.val : Int) = (x.val : Int) := by decide +kernel
  exact this ⟨x, hx⟩
theorem conv64 {x : Nat} (hx : x < 256) : IntKind.i64.wrap (x : Int) = (x : Int) := by
  have : ∀ x : Fin 256, IntKind.i64.wrap (x.val : Int) = (x.val : Int) := by decide +kernel
  exact this ⟨x, hx⟩
theorem wd_bit (c : Cl) {x : Nat} (_hx : x < 256) : (wd c (x / 64)).getLsbD (x % 64) = c.getLsbD x := by
  rw [wd_get _ _ (by omega)]
  congr 1; omega
theorem hasB (c : Cl) {x : Nat} (hx : x < 256) : decide (IntKind.u64.wrap (BitVec.ofInt IntKind.u64.bits (((wd c (x / 64)).toNat : Int).fdiv (2 ^ (min (((x % 64 : Nat) : Nat) : Int).toNat IntKind.u64.bits))) &&& BitVec.ofInt IntKind.u64.bits 1).toNat = 1) = c.getLsbD x := by
  rw [has_eq _ (by omega), wd_bit c hx]
theorem v_com (w : BitVec 64) : Value.int .u64 (IntKind.u64.wrap (BitVec.ofInt IntKind.u64.bits (if IntKind.u64.signed then -1 else IntKind.u64.max) ^^^ BitVec.ofInt IntKind.u64.bits (w.toNat : Int)).toNat) = Ew (~~~w) := by
  rw [of64]
  have e : BitVec.ofInt IntKind.u64.bits (if IntKind.u64.signed then -1 else IntKind.u64.max) = BitVec.allOnes 64 := rfl
  rw [e]
  have e2 : BitVec.allOnes 64 ^^^ w = ~~~w := BitVec.allOnes_xor
  have := wrap64 (BitVec.allOnes 64 ^^^ w)
  refine (congrArg (Value.int .u64) this).trans ?_
  rw [e2]; rfl
theorem Ec_zero : Ec 0#256 = [.int .u64 0, .int .u64 0, .int .u64 0, .int .u64 0] := by simp [Ec, Ew, wd]
theorem Ic_len (c : Cl) : (Ic c).length = 4 := rfl
section
variable {P : Program} {κ : Cx} {L : Loc} {H : Hp} {ty t t' : TypeId} {x y : Operand}
theorem s_eql_cl {e b : Nat} {k' : IntKind} [TU P t (.array 4 e)] [TU P e (.int k')] [TG P e true] [TI P e 1 b] [EG P t] {c d : Cl} (hx : ev L x = some (.agg (Ec c).toArray)) (hy : ev L y = some (.agg (Ec d).toArray)) : Step P κ (.binOp .eql t x y t') ty L H (.bool (decide (c = d))) :=
  step_cast (s_eql_arr (j := .u64) (xs := Ic c) (ys := Ic d) (by rw [← Ec_ints]; exact hx) (by rw [← Ec_ints]; exact hy) (Ic_len c) (Ic_len d)) (congrArg Value.bool (decide_eq_decide.2 Ic_inj))
theorem s_neq_cl {e b : Nat} {k' : IntKind} [TU P t (.array 4 e)] [TU P e (.int k')] [TG P e true] [TI P e 1 b] [EG P t] {c d : Cl} (hx : ev L x = some (.agg (Ec c).toArray)) (hy : ev L y = some (.agg (Ec d).toArray)) : Step P κ (.binOp .neq t x y t') ty L H (.bool (decide (c ≠ d))) :=
  step_cast (s_neq_arr (j := .u64) (xs := Ic c) (ys := Ic d) (by rw [← Ec_ints]; exact hx) (by rw [← Ec_ints]; exact hy) (Ic_len c) (Ic_len d)) (congrArg Value.bool (decide_eq_decide.2 (not_congr Ic_inj)))
end
/-! word by word -/
def mapW (f : Nat → BitVec 64 → BitVec 64) (c : Cl) : Nat → Cl
  | 0 => c
  | i + 1 => setw (mapW f c i) i (f i (wd (mapW f c i) i))
theorem wd_mapW (f : Nat → BitVec 64 → BitVec 64) (c : Cl) : ∀ (i : Nat), i ≤ 4 → ∀ k, k < 4 → wd (mapW f c i) k = if k < i then f k (wd c k) else wd c k
  | 0, _, k, _ => by simp [mapW]
  | i + 1, hi, k, hk => by
    unfold mapW
    rw [wd_setw _ _ (by omega) hk]
    have ih := fun k hk => wd_mapW f c i (by omega) k hk
    by_cases e : i = k
    · subst e
      rw [if_pos rfl, if_pos (by omega), ih i (by omega), if_neg (by omega)]
    · rw [if_neg e, ih k hk]
      by_cases h : k < i
      · rw [if_pos h, if_pos (by omega)]
      · rw [if_neg h, if_neg (by omega)]
theorem wd_or (a b : Cl) (k : Nat) : wd (a ||| b) k = wd a k ||| wd b k := by
  apply BitVec.eq_of_getLsbD_eq
  intro j hj
  rw [wd_get _ _ hj, BitVec.getLsbD_or, BitVec.getLsbD_or, wd_get _ _ hj, wd_get _ _ hj]
theorem wd_and (a b : Cl) (k : Nat) : wd (a &&& b) k = wd a k &&& wd b k := by
  apply BitVec.eq_of_getLsbD_eq
  intro j hj
  rw [wd_get _ _ hj, BitVec.getLsbD_and, BitVec.getLsbD_and, wd_get _ _ hj, wd_get _ _ hj]
theorem wd_not (a : Cl) {k : Nat} (hk : k < 4) : wd (~~~a) k = ~~~(wd a k) := by
  apply BitVec.eq_of_getLsbD_eq
  intro j hj
  rw [wd_get _ _ hj, BitVec.getLsbD_not, BitVec.getLsbD_not, wd_get _ _ hj]
  have : 64 * k + j < 256 := by omega
  simp [hj, this]
theorem mapW_or (a b : Cl) : mapW (fun i w => w ||| wd b i) a 4 = a ||| b := ext_wd fun i hi => by rw [wd_mapW _ _ 4 (by omega) i hi, if_pos hi, wd_or]
theorem mapW_and (a b : Cl) : mapW (fun i w => w &&& wd b i) a 4 = a &&& b := ext_wd fun i hi => by rw [wd_mapW _ _ 4 (by omega) i hi, if_pos hi, wd_and]
theorem mapW_not (a : Cl) : mapW (fun _ w => ~~~w) a 4 = ~~~a := ext_wd fun i hi => by rw [wd_mapW _ _ 4 (by omega) i hi, if_pos hi, wd_not a hi]
/-! byte by byte -/
theorem cl_ext {c d : Cl} (h : ∀ j, j < 256 → c.getLsbD j = d.getLsbD j) : c = d := BitVec.eq_of_getLsbD_eq fun j hj => h j hj
/-- so far: the bytes below i of which p says yes -/
def Part (p : Nat → Bool) (i : Nat) (c : Cl) : Prop := ∀ j, j < 256 → c.getLsbD j = (decide (j < i) && p j)
theorem Part.zero {p : Nat → Bool} : Part p 0 0#256 := fun j _ => by simp
theorem Part.yes {p : Nat → Bool} {i : Nat} {c : Cl} (h : Part p i c) (hp : p i = true) : Part p (i + 1) (c ||| bit i) := fun j hj => by
  rw [BitVec.getLsbD_or, bit_get hj, h j hj]
  by_cases e : j = i
  · subst e; simp [hp]
  · have : (j < i + 1) = (j < i) := by simp; omega
    simp [e, this]
theorem Part.no {p : Nat → Bool} {i : Nat} {c : Cl} (h : Part p i c) (hp : p i = false) : Part p (i + 1) c := fun j hj => by
  rw [h j hj]
  by_cases e : j = i
  · subst e; simp [hp]
  · have : (j < i + 1) = (j < i) := by simp; omega
    simp [this]
theorem Part.eq {p : Nat → Bool} {i : Nat} {c d : Cl} (h : Part p i c) (hi : 256 ≤ i) (hd : ∀ j, j < 256 → d.getLsbD j = p j) : c = d := cl_ext fun j hj => by
  rw [h j hj, hd j hj]
  have : j < i := by omega
  simp [this]
theorem Part.or {a b c : Cl} {i : Nat} (h : Part (fun j => a.getLsbD j || b.getLsbD j) i c) (hi : 256 ≤ i) : c = a ||| b := h.eq hi fun j _ => by rw [BitVec.getLsbD_or]
theorem Part.and {a b c : Cl} {i : Nat} (h : Part (fun j => a.getLsbD j && b.getLsbD j) i c) (hi : 256 ≤ i) : c = a &&& b := h.eq hi fun j _ => by rw [BitVec.getLsbD_and]
theorem Part.not {a c : Cl} {i : Nat} (h : Part (fun j => !a.getLsbD j) i c) (hi : 256 ≤ i) : c = ~~~a := h.eq hi fun j hj => by rw [BitVec.getLsbD_not]; simp [hj]
/-- from lo on, below x -/
def rngTo (lo : Nat) : Nat → Cl
  | 0 => 0
  | x + 1 => if lo ≤ x then rngTo lo x ||| bit x else 0
def rng (lo hi : Nat) : Cl := rngTo lo (hi + 1)
theorem rngTo_low {lo x : Nat} (h : x ≤ lo) : rngTo lo x = 0 := by
  cases x with
  | zero => rfl
  | succ x => simp [rngTo]; omega
theorem rngTo_step {lo x : Nat} (h : lo ≤ x) : rngTo lo (x + 1) = rngTo lo x ||| bit x := by simp [rngTo, h]
theorem rngTo_get (lo : Nat) : ∀ (x j : Nat), j < 256 → (rngTo lo x).getLsbD j = (decide (lo ≤ j) && decide (j < x))
  | 0, j, _ => by simp [rngTo]
  | x + 1, j, hj => by
    unfold rngTo
    split
    · rename_i h
      rw [BitVec.getLsbD_or, bit_get hj, rngTo_get lo x j hj]
      by_cases e : j = x
      · subst e; simp [h]
      · have : (j < x + 1) = (j < x) := by simp; omega
        simp [e, this]
    · rename_i h
      have : ¬ (lo ≤ j ∧ j < x + 1) := by omega
      simp; omega
theorem rng_get {lo hi j : Nat} (hj : j < 256) : (rng lo hi).getLsbD j = (decide (lo ≤ j) && decide (j ≤ hi)) := by
  rw [rng, rngTo_get _ _ _ hj]
  have : (j < hi + 1) = (j ≤ hi) := by simp; omega
  simp only [this]
theorem rng_end {lo hi x : Nat} (h1 : lo ≤ x) (h2 : hi < x) (h3 : x ≤ max lo (hi + 1)) : rngTo lo x = rng lo hi := by
  apply cl_ext
  intro j hj
  rw [rngTo_get _ _ _ hj, rng_get hj]
  by_cases h : lo ≤ j
  · have : (j < x) = (j ≤ hi) := by simp; omega
    simp [h, this]
  · simp [h]
def ofL (l : List UInt8) : Cl := l.foldl (fun c b => c ||| bit b.toNat) 0
theorem ofL_step {l : List UInt8} {i : Nat} (h : i < l.length) : ofL (l.take (i + 1)) = ofL (l.take i) ||| bit l[i].toNat := by
  unfold ofL
  rw [List.take_add_one, List.getElem?_eq_getElem h, Option.toList_some, List.foldl_append]
  rfl
theorem ofL_all {l : List UInt8} {i : Nat} (h : l.length ≤ i) : ofL (l.take i) = ofL l := by rw [List.take_of_length_le h]
def sizeTo (c : Cl) (i : Nat) : Nat := (List.range i).countP c.getLsbD
def size (c : Cl) : Nat := sizeTo c 256
theorem sizeTo_step (c : Cl) (i : Nat) : sizeTo c (i + 1) = sizeTo c i + if c.getLsbD i then 1 else 0 := by
  unfold sizeTo
  rw [List.range_succ, List.countP_append]
  simp [List.countP_cons]
theorem sizeTo_le (c : Cl) (i : Nat) : sizeTo c i ≤ i := by
  have := List.countP_le_length (p := c.getLsbD) (l := List.range i)
  simpa [sizeTo] using this
def memsTo (c : Cl) (i : Nat) : List Nat := (List.range i).filter c.getLsbD
def mems (c : Cl) : List Nat := memsTo c 256
theorem memsTo_yes {c : Cl} {i : Nat} (h : c.getLsbD i = true) : memsTo c (i + 1) = memsTo c i ++ [i] := by
  unfold memsTo; rw [List.range_succ, List.filter_append]; simp [h]
theorem memsTo_no {c : Cl} {i : Nat} (h : c.getLsbD i = false) : memsTo c (i + 1) = memsTo c i := by
  unfold memsTo; rw [List.range_succ, List.filter_append]; simp [h]
theorem memsTo_lt {c : Cl} {i b : Nat} (h : b ∈ memsTo c i) : b < i ∧ c.getLsbD b = true := by
  simpa [memsTo] using h
theorem memsTo_len (c : Cl) (i : Nat) : (memsTo c i).length ≤ i := by
  have := List.length_filter_le c.getLsbD (List.range i)
  simpa [memsTo] using this
/-- a byte, encoded by its number -/
def Eby (b : Nat) : List Value := [.int .u8 b]
instance : Enc Eby 1 := ⟨fun _ => rfl, fun _ _ h => by simp [Eby] at h; subst h; rfl⟩
end Go.HL.Kl
namespace Go.HL.Kl
open Go Go.HL
/-! OnesCount64: the sums of the lanes -/
theorem and_lanes {m a b c d : Nat} (ha : a < 2 ^ m) (hc : c < 2 ^ m) : (2 ^ m * b + a) &&& (2 ^ m * d + c) = 2 ^ m * (b &&& d) + (a &&& c) := by
  have hac : a &&& c < 2 ^ m := Nat.and_lt_two_pow _ hc
  apply Nat.eq_of_testBit_eq
  intro i
  rw [Nat.testBit_and, Nat.testBit_two_pow_mul_add _ ha, Nat.testBit_two_pow_mul_add _ hc, Nat.testBit_two_pow_mul_add _ hac]
  split
  · rw [Nat.testBit_and]
  · rw [Nat.testBit_and]
/-- n lanes of k bits -/
def pk (k : Nat) : Nat → (Nat → Nat) → Nat
  | 0, _ => 0
  | n + 1, f => 2 ^ k * pk k n (fun i => f (i + 1)) + f 0
theorem pk_ext (k : Nat) : ∀ (n : Nat) (f g : Nat → Nat), (∀ i, i < n → f i = g i) → pk k n f = pk k n g
  | 0, _, _, _ => rfl
  | n + 1, f, g, h => by
    simp only [pk]
    rw [pk_ext k n _ _ fun i hi => h (i + 1) (by omega), h 0 (by omega)]
theorem pk_add (k : Nat) : ∀ (n : Nat) (f g : Nat → Nat), pk k n f + pk k n g = pk k n (fun i => f i + g i)
  | 0, _, _ => rfl
  | n + 1, f, g => by
    simp only [pk]
    rw [← pk_add k n, Nat.mul_add]; omega
theorem pk_lt (k : Nat) : ∀ (n : Nat) (f : Nat → Nat), (∀ i, i < n → f i < 2 ^ k) → pk k n f < 2 ^ (k * n)
  | 0, _, _ => by simp [pk]
  | n + 1, f, h => by
    simp only [pk]
    have h1 := pk_lt k n (fun i => f (i + 1)) fun i hi => h (i + 1) (by omega)
    have h2 := h 0 (by omega)
    rw [Nat.mul_add, Nat.mul_one, Nat.add_comm (k * n) k, Nat.pow_add]
    have h3 : 2 ^ k * (pk k n (fun i => f (i + 1)) + 1) ≤ 2 ^ k * 2 ^ (k * n) := Nat.mul_le_mul_left _ h1
    rw [Nat.mul_add] at h3; omega
/-- the lanes moved down by s -/
theorem pk_shr1 (k : Nat) (n : Nat) (f : Nat → Nat) (h : f 0 < 2 ^ k) : pk k (n + 1) f / 2 ^ k = pk k n (fun i => f (i + 1)) := by
  simp only [pk]
  rw [Nat.mul_add_div (Nat.two_pow_pos k), Nat.div_eq_of_lt h, Nat.add_zero]
theorem pk_top (k : Nat) : ∀ (n : Nat) (f : Nat → Nat), f n = 0 → pk k (n + 1) f = pk k n f
  | 0, f, h => by simp [pk, h]
  | n + 1, f, h => by
    rw [pk, pk_top k n (fun i => f (i + 1)) h]; rfl
theorem pk_shr (k n : Nat) : ∀ (s : Nat) (f : Nat → Nat), (∀ i, f i < 2 ^ k) → (∀ i, n ≤ i → f i = 0) → pk k n f / 2 ^ (k * s) = pk k n (fun i => f (i + s))
  | 0, f, _, _ => by simp
  | s + 1, f, h, h0 => by
    rw [Nat.mul_add, Nat.mul_one, Nat.pow_add, ← Nat.div_div_eq_div_mul, pk_shr k n s f h h0]
    cases n with
    | zero => simp [pk]
    | succ n =>
      rw [pk_shr1 k n (fun i => f (i + s)) (h _)]
      rw [← pk_top k n]
      · exact pk_ext _ _ _ _ fun i _ => by congr 1; omega
      · exact h0 _ (by omega)
/-- every second lane -/
theorem pk_half (k : Nat) : ∀ (n : Nat) (f : Nat → Nat), (∀ i, f i < 2 ^ k) → pk k (2 * n) f &&& pk (2 * k) n (fun _ => 2 ^ k - 1) = pk (2 * k) n (fun i => f (2 * i))
  | 0, _, _ => by simp [pk]
  | n + 1, f, h => by
    have e : 2 * (n + 1) = (2 * n + 1) + 1 := by omega
    rw [e]
    simp only [pk]
    have h0 := h 0; have h1 := h 1
    have e2 : 2 ^ k * (2 ^ k * pk k (2 * n) (fun i => f (i + 1 + 1)) + f (0 + 1)) + f 0 = 2 ^ (2 * k) * pk k (2 * n) (fun i => f (i + 1 + 1)) + (2 ^ k * f 1 + f 0) := by
      rw [Nat.two_mul k, Nat.pow_add, Nat.mul_add, Nat.mul_assoc]; simp [Nat.add_assoc]
    rw [e2]
    have hp : 0 < 2 ^ k := Nat.two_pow_pos k
    have h3 : 2 ^ k * f 1 + f 0 < 2 ^ (2 * k) := by
      rw [Nat.two_mul k, Nat.pow_add]
      have : 2 ^ k * (f 1 + 1) ≤ 2 ^ k * 2 ^ k := Nat.mul_le_mul_left _ h1
      rw [Nat.mul_add] at this; omega
    have h4 : 2 ^ k - 1 < 2 ^ (2 * k) := by
      have : 2 ^ k ≤ 2 ^ (2 * k) := Nat.pow_le_pow_right (by decide) (by omega)
      omega
    rw [and_lanes h3 h4, pk_half k n _ fun i => h _]
    rw [Nat.and_two_pow_sub_one_eq_mod, Nat.mul_add_mod, Nat.mod_eq_of_lt h0]
    congr 1
/-- the bits, as lanes -/
def bt (w : BitVec 64) (i : Nat) : Nat := if w.getLsbD i then 1 else 0
theorem bt_lt (w : BitVec 64) (i : Nat) : bt w i < 2 := by unfold bt; split <;> omega
theorem bt_top (w : BitVec 64) {i : Nat} (h : 64 ≤ i) : bt w i = 0 := by simp [bt, BitVec.getLsbD_of_ge w i h]
theorem pk_bits : ∀ (n x : Nat), x < 2 ^ n → pk 1 n (fun i => if x.testBit i then 1 else 0) = x
  | 0, x, h => by simp [pk]; simp at h; omega
  | n + 1, x, h => by
    simp only [pk]
    have h1 : x / 2 < 2 ^ n := by rw [Nat.pow_succ] at h; omega
    have := pk_bits n (x / 2) h1
    have e : (fun i => if x.testBit (i + 1) then 1 else 0) = (fun i => if (x / 2).testBit i then 1 else 0) := by
      funext i; rw [Nat.testBit_succ]
    rw [e, this]
    simp only [Nat.testBit_zero]
    by_cases hx : x % 2 = 1
    · simp [hx]; omega
    · simp [hx]; omega
theorem pk_word (w : BitVec 64) : pk 1 64 (bt w) = w.toNat := by
  have := pk_bits 64 w.toNat w.isLt
  rw [← this]
  exact pk_ext _ _ _ _ fun i _ => by simp [bt, BitVec.getLsbD]
def popW (w : BitVec 64) : Nat := (List.range 64).countP w.getLsbD
def sums (f : Nat → Nat) (i : Nat) : Nat := f (2 * i) + f (2 * i + 1)
/-- OnesCount64's sums, as the text has them -/
def oc1 (w : BitVec 64) : BitVec 64 := ((w >>> 1) &&& 6148914691236517205#64) + (w &&& 6148914691236517205#64)
def oc2 (w : BitVec 64) : BitVec 64 := ((w >>> 2) &&& 3689348814741910323#64) + (w &&& 3689348814741910323#64)
def oc3 (w : BitVec 64) : BitVec 64 := ((w >>> 4) + w) &&& 1085102592571150095#64
def oc4 (k : Nat) (w : BitVec 64) : BitVec 64 := w + (w >>> k)
theorem toNat_add_of {a b : BitVec 64} {x y : Nat} (ha : a.toNat = x) (hb : b.toNat = y) (h : x + y < 18446744073709551616) : (a + b).toNat = x + y := by
  rw [BitVec.toNat_add, ha, hb]; exact Nat.mod_eq_of_lt h
theorem toNat_shr {a : BitVec 64} {x k : Nat} (ha : a.toNat = x) : (a >>> k).toNat = x / 2 ^ k := by
  rw [BitVec.toNat_ushiftRight, ha, Nat.shiftRight_eq_div_pow]
theorem pk_small {k n : Nat} {f : Nat → Nat} (hk : k * n = 64) (h : ∀ i, f i < 2 ^ k) : pk k n f < 18446744073709551616 := by
  have := pk_lt k n f fun i _ => h i
  rw [hk] at this; exact this
theorem lanes_step {k n : Nat} {f : Nat → Nat} {w m : BitVec 64} (hn : k * (2 * n) = 64) (hm : m.toNat = pk (2 * k) n (fun _ => 2 ^ k - 1)) (hw : w.toNat = pk k (2 * n) f) (hf : ∀ i, f i < 2 ^ k) (h0 : ∀ i, 2 * n ≤ i → f i = 0)
    (hs : ∀ i, sums f i < 2 ^ (2 * k)) : (((w >>> k) &&& m) + (w &&& m)).toNat = pk (2 * k) n (sums f) := by
  have e1 : (w >>> k).toNat = pk k (2 * n) (fun i => f (i + 1)) := by
    rw [toNat_shr hw]
    have := pk_shr k (2 * n) 1 f hf h0
    rw [Nat.mul_one] at this; exact this
  have e2 : ((w >>> k) &&& m).toNat = pk (2 * k) n (fun i => f (2 * i + 1)) := by
    rw [BitVec.toNat_and, e1, hm, pk_half k n _ fun i => hf _]
  have e3 : (w &&& m).toNat = pk (2 * k) n (fun i => f (2 * i)) := by rw [BitVec.toNat_and, hw, hm, pk_half k n _ hf]
  have e4 : pk (2 * k) n (fun i => f (2 * i + 1)) + pk (2 * k) n (fun i => f (2 * i)) = pk (2 * k) n (sums f) := by
    rw [pk_add]; exact pk_ext _ _ _ _ fun i _ => by simp [sums]; omega
  rw [toNat_add_of e2 e3 (by rw [e4]; exact pk_small (by rw [← hn]; simp [Nat.mul_assoc, Nat.mul_left_comm]) hs), e4]
theorem sums_le {f : Nat → Nat} {b : Nat} (h : ∀ i, f i ≤ b) (i : Nat) : sums f i ≤ 2 * b := by have := h (2 * i); have := h (2 * i + 1); unfold sums; omega
theorem sums_top {f : Nat → Nat} {n : Nat} (h : ∀ i, 2 * n ≤ i → f i = 0) (i : Nat) (hi : n ≤ i) : sums f i = 0 := by simp [sums, h (2 * i) (by omega), h (2 * i + 1) (by omega)]
theorem fold_step {s : Nat} {f : Nat → Nat} {w : BitVec 64} (hw : w.toNat = pk 8 8 f) (hf : ∀ i, f i < 128) (h0 : ∀ i, 8 ≤ i → f i = 0) : (oc4 (8 * s) w).toNat = pk 8 8 (fun i => f i + f (i + s)) := by
  have e1 : (w >>> (8 * s)).toNat = pk 8 8 (fun i => f (i + s)) := by
    rw [toNat_shr hw]; exact pk_shr 8 8 s f (fun i => by have := hf i; omega) h0
  have e4 : pk 8 8 f + pk 8 8 (fun i => f (i + s)) = pk 8 8 (fun i => f i + f (i + s)) := pk_add 8 8 f _
  unfold oc4
  rw [toNat_add_of hw e1 (by rw [e4]; exact pk_small rfl fun i => by have := hf i; have := hf (i + s); omega), e4]
def sm (f : Nat → Nat) : Nat → Nat
  | 0 => 0
  | n + 1 => sm f n + f n
theorem pop_sum (w : BitVec 64) : popW w = sums (sums (sums (bt w))) 0 + sums (sums (sums (bt w))) 1 + sums (sums (sums (bt w))) 2 + sums (sums (sums (bt w))) 3 + sums (sums (sums (bt w))) 4 + sums (sums (sums (bt w))) 5 + sums (sums (sums (bt w))) 6 + sums (sums (sums (bt w))) 7 := by
  have e : ∀ n, (List.range n).countP w.getLsbD = sm (bt w) n := by
    intro n
    induction n with
    | zero => rfl
    | succ n ih =>
      rw [List.range_succ, List.countP_append, ih]
      simp [List.countP_cons, bt, sm]
  unfold popW
  rw [e]
  simp only [sm, sums, Nat.mul_zero, Nat.mul_one, Nat.zero_add, Nat.reduceMul, Nat.reduceAdd]
  omega
theorem pop_eq (w : BitVec 64) : (oc4 32 (oc4 16 (oc4 8 (oc3 (oc2 (oc1 w)))))).toNat % 128 = popW w ∧ (oc4 32 (oc4 16 (oc4 8 (oc3 (oc2 (oc1 w)))))).toNat < 9223372036854775808 := by
  have b0 : ∀ i, bt w i ≤ 1 := fun i => by have := bt_lt w i; omega
  have t0 : ∀ i, 2 * 32 ≤ i → bt w i = 0 := fun i hi => bt_top w hi
  have s1 := lanes_step (k := 1) (n := 32) (f := bt w) (w := w) (m := 6148914691236517205#64) rfl (by decide) (pk_word w).symm (bt_lt w) t0 fun i => by have := sums_le b0 i; omega
  have b1 := sums_le b0
  have t1 : ∀ i, 2 * 16 ≤ i → sums (bt w) i = 0 := fun i hi => sums_top t0 i hi
  have s2 := lanes_step (k := 2) (n := 16) (f := sums (bt w)) (w := oc1 w) (m := 3689348814741910323#64) rfl (by decide) s1 (fun i => by have := b1 i; omega) t1 fun i => by have := sums_le b1 i; omega
  have s2 : (oc2 (oc1 w)).toNat = pk 4 16 (sums (sums (bt w))) := s2
  have b2 := sums_le b1
  have t2 : ∀ i, 16 ≤ i → sums (sums (bt w)) i = 0 := fun i hi => sums_top t1 i hi
  have s3 : (oc3 (oc2 (oc1 w))).toNat = pk 8 8 (sums (sums (sums (bt w)))) := by
    have e1 : (oc2 (oc1 w) >>> 4).toNat = pk 4 16 (fun i => sums (sums (bt w)) (i + 1)) := by
      rw [toNat_shr s2]; exact pk_shr 4 16 1 _ (fun i => by have := b2 i; omega) t2
    have e4 : pk 4 16 (fun i => sums (sums (bt w)) (i + 1)) + pk 4 16 (sums (sums (bt w))) = pk 4 16 (fun i => sums (sums (bt w)) (i + 1) + sums (sums (bt w)) i) := pk_add _ _ _ _
    have e5 : ∀ i, sums (sums (bt w)) (i + 1) + sums (sums (bt w)) i < 2 ^ 4 := fun i => by have := b2 i; have := b2 (i + 1); omega
    have e6 := toNat_add_of e1 s2 (by rw [e4]; exact pk_small rfl e5)
    unfold oc3
    rw [BitVec.toNat_and]
    have e7 : (oc2 (oc1 w) >>> 4 + oc2 (oc1 w)).toNat = pk 4 (2 * 8) (fun i => sums (sums (bt w)) (i + 1) + sums (sums (bt w)) i) := by
      refine e6.trans ?_
      exact e4
    have e8 : (1085102592571150095#64).toNat = pk (2 * 4) 8 (fun _ => 2 ^ 4 - 1) := by decide
    rw [e7, e8, pk_half 4 8 _ e5]
    exact pk_ext _ _ _ _ fun i _ => by simp [sums]; omega
  have b3 := sums_le b2
  have t3 : ∀ i, 8 ≤ i → sums (sums (sums (bt w))) i = 0 := fun i hi => sums_top t2 i hi
  obtain ⟨h, hh⟩ : ∃ h, h = sums (sums (sums (bt w))) := ⟨_, rfl⟩
  rw [← hh] at s3 b3 t3
  have s4 := fold_step (s := 1) s3 (fun i => by have := b3 i; omega) t3
  have s5 := fold_step (s := 2) s4 (fun i => by have := b3 i; have := b3 (i + 1); omega) (fun i hi => by simp [t3 i hi, t3 (i + 1) (by omega)])
  have s6 := fold_step (s := 4) s5 (fun i => by have := b3 i; have := b3 (i + 1); have := b3 (i + 2); have := b3 (i + 2 + 1); omega) (fun i hi => by simp [t3 i hi, t3 (i + 1) (by omega), t3 (i + 2) (by omega), t3 (i + 2 + 1) (by omega)])
  have e : oc4 32 (oc4 16 (oc4 8 (oc3 (oc2 (oc1 w))))) = oc4 (8 * 4) (oc4 (8 * 2) (oc4 (8 * 1) (oc3 (oc2 (oc1 w))))) := rfl
  rw [e, s6]
  have hp := pop_sum w
  rw [← hh] at hp
  have l0 := b3 0; have l1 := b3 1; have l2 := b3 2; have l3 := b3 3; have l4 := b3 4; have l5 := b3 5; have l6 := b3 6; have l7 := b3 7
  have z8 := t3 8 (by omega); have z9 := t3 9 (by omega); have z10 := t3 10 (by omega); have z11 := t3 11 (by omega); have z12 := t3 12 (by omega); have z13 := t3 13 (by omega); have z14 := t3 14 (by omega)
  constructor
  · simp only [pk, Nat.zero_add, Nat.reduceAdd, Nat.reducePow]
    omega
  · simp only [pk, Nat.zero_add, Nat.reduceAdd, Nat.reducePow]
    omega
/-! the size, word by word -/
theorem range_split (a b : Nat) : List.range (a + b) = List.range a ++ (List.range b).map (fun i => a + i) := by
  rw [List.range_eq_range', List.range_eq_range', List.range_eq_range', ← List.range'_append_1 (s := 0)]
  simp [List.map_add_range']
theorem sizeTo_word (c : Cl) (i : Nat) : sizeTo c (64 * i + 64) = sizeTo c (64 * i) + popW (wd c i) := by
  unfold sizeTo popW
  rw [range_split, List.countP_append, List.countP_map]
  congr 1
  apply List.countP_congr
  intro j hj
  have hj' : j < 64 := by simpa using hj
  simp [wd_get c i hj']
theorem popW_le (w : BitVec 64) : popW w ≤ 64 := by
  have := List.countP_le_length (p := w.getLsbD) (l := List.range 64)
  simpa [popW] using this
/-! the lowest bit of a word -/
theorem ctz_lt (w : BitVec 64) (h : w ≠ 0#64) : Lib.ctz 64 w.toNat < 64 ∧ w.getLsbD (Lib.ctz 64 w.toNat) = true ∧ (∀ j, j < Lib.ctz 64 w.toNat → w.getLsbD j = false) ∧ ∀ j, (w &&& (w - 1#64)).getLsbD j = (w.getLsbD j && decide (j ≠ Lib.ctz 64 w.toNat)) := by
  have h0 : w.toNat ≠ 0 := fun e => h (BitVec.eq_of_toNat_eq (by simpa using e))
  obtain ⟨m, hm, hk⟩ := Lib.ctzFrom_spec 64 w.toNat (by omega) w.isLt
  have hc : Lib.ctz 64 w.toNat = Lib.ctzFrom 64 w.toNat := by simp [Lib.ctz, h0]
  rw [hc]
  obtain ⟨k, hkk⟩ : ∃ k, k = Lib.ctzFrom 64 w.toNat := ⟨_, rfl⟩
  rw [← hkk] at hm hk ⊢
  have hp : 0 < 2 ^ k := Nat.two_pow_pos k
  have bitw : ∀ j, w.getLsbD j = if j < k then false else (2 * m + 1).testBit (j - k) := by
    intro j
    rw [BitVec.getLsbD, hm]
    have := Nat.testBit_two_pow_mul_add (2 * m + 1) (b := 0) hp j
    rw [Nat.add_zero] at this
    rw [this]
    simp
  have hs : (w - 1#64).toNat = 2 ^ k * (2 * m) + (2 ^ k - 1) := by
    have e1 : (w - 1#64).toNat = w.toNat - 1 := by
      rw [BitVec.toNat_sub]
      have := w.isLt
      simp; omega
    rw [e1, hm, Nat.mul_add]
    omega
  have bits : ∀ j, (w - 1#64).getLsbD j = if j < k then (2 ^ k - 1).testBit j else (2 * m).testBit (j - k) := by
    intro j
    rw [BitVec.getLsbD, hs]
    exact Nat.testBit_two_pow_mul_add (2 * m) (by omega) j
  refine ⟨hk, ?_, ?_, ?_⟩
  · rw [bitw]; simp
  · intro j hj; rw [bitw]; simp [hj]
  · intro j
    rw [BitVec.getLsbD_and, bitw, bits]
    by_cases h1 : j < k
    · simp [h1]
    · simp only [h1, if_false]
      by_cases h2 : j = k
      · subst h2; simp
      · obtain ⟨i, hi⟩ : ∃ i, j - k = i + 1 := ⟨j - k - 1, by omega⟩
        rw [hi, Nat.testBit_succ, Nat.testBit_succ]
        have e1 : (2 * m + 1) / 2 = m := by omega
        have e2 : 2 * m / 2 = m := by omega
        rw [e1, e2]; simp [h2]
/-- the members of a word, from 64 i on -/
def wmem (i : Nat) (w : BitVec 64) : List Nat := ((List.range 64).filter w.getLsbD).map fun j => 64 * i + j
theorem filter_range_lt {p q : Nat → Bool} {n k : Nat} (hk : k < n) (h1 : ∀ j, j < k → p j = false) (hpk : p k = true) (hq : ∀ j, q j = (p j && decide (j ≠ k))) : (List.range n).filter p = k :: (List.range n).filter q := by
  have e : n = k + (1 + (n - k - 1)) := by omega
  rw [e, range_split k, range_split 1, List.filter_append, List.filter_append, List.map_append, List.filter_append, List.filter_append]
  have a1 : (List.range k).filter p = [] := by
    rw [List.filter_eq_nil_iff]; intro j hj; simp [h1 j (by simpa using hj)]
  have a2 : (List.range k).filter q = [] := by
    rw [List.filter_eq_nil_iff]; intro j hj; simp [hq, h1 j (by simpa using hj)]
  have a3 : (List.map (fun i => k + i) (List.range 1)).filter p = [k] := by simp [hpk]
  have a4 : (List.map (fun i => k + i) (List.range 1)).filter q = [] := by simp [hq]
  rw [a1, a2, a3, a4]
  simp only [List.nil_append, List.singleton_append, List.cons.injEq, true_and]
  apply List.filter_congr
  intro j hj
  simp only [List.map_map, List.mem_map, List.mem_range, Function.comp] at hj
  obtain ⟨i, _, rfl⟩ := hj
  rw [hq]
  have : ¬ (k + (1 + i) = k) := by omega
  simp
theorem wmem_cons (i : Nat) (w : BitVec 64) (h : w ≠ 0#64) : wmem i w = (64 * i + Lib.ctz 64 w.toNat) :: wmem i (w &&& (w - 1#64)) := by
  obtain ⟨h1, h2, h3, h4⟩ := ctz_lt w h
  unfold wmem
  rw [filter_range_lt h1 h3 h2 h4]
  rfl
theorem wmem_zero (i : Nat) : wmem i 0#64 = [] := by simp [wmem]
theorem wmem_len (i : Nat) (w : BitVec 64) : (wmem i w).length ≤ 64 := by
  have := List.length_filter_le w.getLsbD (List.range 64)
  simpa [wmem] using this
theorem memsTo_word (c : Cl) (i : Nat) : memsTo c (64 * i + 64) = memsTo c (64 * i) ++ wmem i (wd c i) := by
  unfold memsTo wmem
  rw [range_split, List.filter_append, List.filter_map]
  congr 2
  apply List.filter_congr
  intro j hj
  have hj' : j < 64 := by simpa using hj
  simp [wd_get c i hj']
/-- what is still to come, at word i with w of it left -/
def restW (c : Cl) (i : Nat) (w : BitVec 64) : List Nat := wmem i w ++ (mems c).drop (memsTo c (64 * i + 64)).length
theorem memsTo_prefix (c : Cl) {i j : Nat} (h : i ≤ j) : memsTo c i <+: memsTo c j := by
  obtain ⟨d, rfl⟩ : ∃ d, j = i + d := ⟨j - i, by omega⟩
  unfold memsTo
  rw [range_split, List.filter_append]
  exact List.prefix_append _ _
theorem mems_from (c : Cl) {i : Nat} (hi : i < 4) : mems c = memsTo c (64 * i) ++ (wmem i (wd c i) ++ (mems c).drop (memsTo c (64 * i + 64)).length) := by
  obtain ⟨r, hr⟩ := memsTo_prefix c (i := 64 * i + 64) (j := 256) (by omega)
  have e : mems c = memsTo c (64 * i + 64) ++ r := hr.symm
  rw [e]
  rw [List.drop_left, memsTo_word, List.append_assoc]
theorem v_shr (w : BitVec 64) {n : Int} (k : Nat) (h : min n.toNat IntKind.u64.bits = k) : Value.int .u64 ((w.toNat : Int).fdiv (2 ^ (min n.toNat IntKind.u64.bits))) = Ew (w >>> k) := by
  rw [h]
  have h2 : ((2 : Int) ^ k) = ((2 ^ k : Nat) : Int) := by simp
  rw [h2, Int.fdiv_eq_ediv_of_nonneg _ (Int.natCast_nonneg _)]
  simp only [Ew, BitVec.toNat_ushiftRight, Nat.shiftRight_eq_div_pow]
  rfl
theorem v_andc (w : BitVec 64) (n : Nat) (h : n < 18446744073709551616) : Value.int .u64 (IntKind.u64.wrap (BitVec.ofInt IntKind.u64.bits (w.toNat : Int) &&& BitVec.ofInt IntKind.u64.bits (n : Int)).toNat) = Ew (w &&& BitVec.ofNat 64 n) := by
  have e : ((BitVec.ofNat 64 n).toNat : Int) = (n : Int) := by rw [BitVec.toNat_ofNat]; simp; omega
  rw [← e]; exact v_and _ _
theorem v_add (a b : BitVec 64) : Value.int .u64 (IntKind.u64.wrap ((a.toNat : Int) + (b.toNat : Int))) = Ew (a + b) := by
  simp only [Ew, Value.int.injEq, true_and, BitVec.toNat_add]
  rw [wrap_u64]; omega
theorem v_sub1 (a : BitVec 64) : Value.int .u64 (IntKind.u64.wrap ((a.toNat : Int) - 1)) = Ew (a - 1#64) := by
  simp only [Ew, Value.int.injEq, true_and, BitVec.toNat_sub]
  have := a.isLt
  rw [wrap_u64]; simp; omega
theorem wrap_i64n {x : Nat} (h : x < 9223372036854775808) : IntKind.i64.wrap (x : Int) = x := by
  simp [IntKind.wrap, IntKind.signed, IntKind.bits]; omega
theorem v_and127 {x : Nat} (h : x < 9223372036854775808) : IntKind.i64.wrap (BitVec.ofInt IntKind.i64.bits (x : Int) &&& BitVec.ofInt IntKind.i64.bits 127).toNat = ((x % 128 : Nat) : Int) := by
  have e1 : BitVec.ofInt IntKind.i64.bits (x : Int) = BitVec.ofNat 64 x := by rw [BitVec.ofInt_natCast]; rfl
  have e2 : BitVec.ofInt IntKind.i64.bits 127 = 127#64 := rfl
  have e3 : (BitVec.ofNat 64 x &&& 127#64).toNat = x % 128 := by
    rw [BitVec.toNat_and, BitVec.toNat_ofNat, BitVec.toNat_ofNat]
    have : x % 2 ^ 64 = x := Nat.mod_eq_of_lt (by omega)
    rw [this]
    exact Nat.and_two_pow_sub_one_eq_mod x 7
  have e4 : (BitVec.ofInt IntKind.i64.bits (x : Int) &&& BitVec.ofInt IntKind.i64.bits 127).toNat = x % 128 := by rw [e1, e2]; exact e3
  rw [e4]
  exact wrap_i64n (by omega)
end Go.HL.Kl
namespace Go.Proofs.YtmmajabfmhipeaaDoor
open Go Go.HL Go.Proofs Go.Tab
theorem own_pre {a : Option Addr} {c : Nat} {b : List UInt8} {S : Hp} (h : OwnS Eb 1 5 (.slice a (wide b).length c) (wide b) S) : OwnS Eb 1 5 (.slice a b.length c) b S := by
  have h1 := h.pre b.length (by rw [wide_len]; omega)
  rwa [wide_take] at h1
theorem OwnL.rdAll {α : Type} {E : α → List Value} {k : Nat} {T : TypeId} [Enc E k] {sls : List (Sl α)} {xss : List (List α)} {S : Hp} (h : OwnL E k T sls xss S) : xss = sls.map Sl.xs → ∀ x ∈ sls, RdS E x.v x.xs S := by
  induction h with
  | nil => exact fun _ x hx => by cases hx
  | cons h1 h2 ih =>
    intro e x hx
    simp only [List.map_cons, List.cons.injEq] at e
    obtain ⟨rfl, rfl⟩ := e
    rcases List.mem_cons.1 hx with rfl | hx
    · exact h1.rds.mono HIn.appL
    · exact (ih rfl x hx).mono HIn.appR
theorem LentO.own : ∀ {ll : List (Sl UInt8)} {S : Hp}, LentO ll S → OwnL Eb 1 5 ll (ll.map Sl.xs) S
  | [], S, h => by
    unfold LentO at h
    cases h; exact .nil
  | s :: ll, S, h => by
    unfold LentO at h
    simp only [List.map_cons] at h
    cases h with
    | cons h1 h2 => exact .cons (own_pre h1) (LentO.own h2)
theorem LentO.rd {ll : List (Sl UInt8)} {S : Hp} (h : LentO ll S) : ∀ x ∈ ll, RdS Eb x.v x.xs S ∧ RdS Eb (.slice x.a (wide x.xs).length x.c) (wide x.xs) S := fun x hx =>
  ⟨OwnL.rdAll h.own rfl x hx, OwnL.rdAll (h : OwnL Eb 1 5 (ll.map widen) (ll.map fun s => wide s.xs) S) (by simp [widen]) (widen x) (List.mem_map_of_mem hx)⟩
def xorB (x : UInt8) : UInt8 := UInt8.ofNat (BitVec.ofInt 8 (x.toNat : Int) ^^^ BitVec.ofInt 8 85).toNat
theorem mapx_at {xs ys : List (Sl UInt8)} {i : Nat} {x y : Sl UInt8} (h : ys.map Sl.xs = xs.map Sl.xs) (hx : xs[i]? = some x) (hy : ys[i]? = some y) : x.xs = y.xs := by
  have h1 := congrArg (fun l => l[i]?) h
  simp only [List.getElem?_map, hx, hy, Option.map_some, Option.some.injEq] at h1
  exact h1.symm
set_option maxHeartbeats 1000000 in
theorem wkept_fn (bs : Nat) (x0 x1 x2 x3 x4 x5 x6 x7 x8 x9 x10 x11 x12 x13 x14 x15 x16 x17 x18 x19 x20 x21 x22 x25 x26 x27 x28 x29 : Value) (la wa : Option Addr) (lc wc : Nat) (ll wl : List (Sl UInt8)) (hwx : wl.map Sl.xs = ll.map Sl.xs) (hlbx : ∀ x ∈ ll, x.xs.length ≤ 1048576) : HL.Fn Tryd.prog 86 [.pointer (some ⟨bs, 0, none⟩)] (fun w => RdP w bs 0 [x0, x1, x2, x3, x4, x5, x6, x7, x8, x9, x10, x11, x12, x13, x14, x15, x16, x17, x18, x19, x20, x21, x22, .slice la ll.length lc, .slice wa wl.length wc, x25, x26, x27, x28, x29] ∧ Rd Esl w (.slice la ll.length lc) ll ∧ (∀ x ∈ ll, Rd Eb w x.v x.xs ∧ Rd Eb w (.slice x.a (wide x.xs).length x.c) (wide x.xs)) ∧ Rd Esl w (.slice wa wl.length wc) wl ∧ ∀ x ∈ wl, Rd Eb w x.v x.xs) [] (fun v _ => v = .bool true) := by
  refine fn_of Tryd.func86 rfl rfl rfl fun w0 hw => ?_
  have hll := hw.2.1.sl
  have hwl := hw.2.2.2.1.sl
  have hlb := hll.le
  have hlw : wl.length = ll.length := by have := congrArg List.length hwx; simpa using this
  refine c_seq fun _ hK1 => ?_
  refine c_region ?_
  refine o_step rfl (s_assign rfl) ?_
  refine o_nil ?_
  refine x_then (hK1 _ _ ?_)
  refine c_seq fun _ hK2 => ?_
  refine c_seq fun _ hK3 => ?_
  refine c_region ?_
  refine o_step rfl (s_assign rfl) ?_
  refine o_nil ?_
  refine x_then (hK3 _ _ ?_)
  refine c_block ?_
  -- not carried: 2
  refine c_loopB (fun (i : Nat) => i ≤ ll.length) (fun (i : Nat) => [(3, .int .i64 i)]) [(0, _)] (fun (i : Nat) => []) (fun (i : Nat) => ll.length - i) 0 (by omega) sbA sbA (by exact HSub.nil) ?_
  rintro i hi
  refine c_seq fun _ hK4 => ?_
  refine c_seq fun _ hK5 => ?_
  refine c_region ?_
  refine o_step rfl (s_move rfl) ?_
  refine o_step rfl (s_move rfl) ?_
  refine o_step rfl (s_nil rfl) ?_
  refine o_step rfl (s_field rfl rfl (by decide)) ?_
  refine o_step rfl (s_ld rfl ((RdPK.old0 hw.1).cel (j := 23) rfl rfl)) ?_
  refine o_step rfl (s_len rfl) ?_
  by_cases hlt : i < ll.length
  ·
   obtain ⟨x, hx⟩ : ∃ x, ll[i]? = some x := ⟨_, List.getElem?_eq_getElem hlt⟩
   obtain ⟨y, hy⟩ : ∃ y, wl[i]? = some y := ⟨_, List.getElem?_eq_getElem (by omega)⟩
   have hxy := mapx_at hwx hx hy
   have hxr := hw.2.2.1 x (List.mem_of_getElem? hx)
   have hyr := hw.2.2.2.2 y (List.mem_of_getElem? hy)
   have hxs := hlbx x (List.mem_of_getElem? hx)
   refine o_step rfl (step_cast (v' := .bool true) (s_lss rfl rfl) (by rw [decide_eq_true (by omega)])) ?_
   refine o_nil ?_
   refine x_then (hK5 _ _ ?_)
   refine c_true rfl ?_
   refine c_skip ?_
   refine x_then (hK4 _ _ ?_)
   refine c_seq fun _ hK6 => ?_
   refine c_block ?_
   refine c_seq fun _ hK7 => ?_
   refine c_drawE ([]) (fun i => false) ?_
   refine e_take 0 rfl (by kernel_rfl) (by kernel_rfl) (by kernel_rfl) (by kernel_rfl) (fun _ _ => rfl) rfl (by exact HSub.nil) (s_move rfl) ?_
   refine e_take 1 rfl (by kernel_rfl) (by kernel_rfl) (by kernel_rfl) (by kernel_rfl) (fun _ _ => rfl) rfl (by exact HSub.nil) (s_nil rfl) ?_
   refine e_take 2 rfl (by kernel_rfl) (by kernel_rfl) (by kernel_rfl) (by kernel_rfl) (fun _ _ => rfl) rfl (by exact HSub.nil) (s_field rfl rfl (by decide)) ?_
   refine e_take 3 rfl (by kernel_rfl) (by kernel_rfl) (by kernel_rfl) (by kernel_rfl) (fun _ _ => rfl) rfl (by exact HSub.nil) (s_ld rfl ((RdPK.old0 hw.1).cel (j := 23) rfl rfl)) ?_
   refine e_take 4 rfl (by kernel_rfl) (by kernel_rfl) (by kernel_rfl) (by kernel_rfl) (fun _ _ => rfl) rfl (by exact HSub.nil) (s_move rfl) ?_
   refine e_take 5 rfl (by kernel_rfl) (by kernel_rfl) (by kernel_rfl) (by kernel_rfl) (fun _ _ => rfl) rfl (by exact HSub.nil) (s_idx rfl rfl hll (by omega)) ?_
   refine e_take 6 rfl (by kernel_rfl) (by kernel_rfl) (by kernel_rfl) (by kernel_rfl) (fun _ _ => rfl) rfl (by exact HSub.nil) (s_ld rfl ((RdK.old0 hw.2.1).ld i 0 hx rfl (by decide) (by omega))) ?_
   refine e_take 7 rfl (by kernel_rfl) (by kernel_rfl) (by kernel_rfl) (by kernel_rfl) (fun _ _ => rfl) rfl (by exact HSub.nil) (s_move rfl) ?_
   refine e_take 8 rfl (by kernel_rfl) (by kernel_rfl) (by kernel_rfl) (by kernel_rfl) (fun _ _ => rfl) rfl (by exact HSub.nil) (s_nil rfl) ?_
   refine e_take 9 rfl (by kernel_rfl) (by kernel_rfl) (by kernel_rfl) (by kernel_rfl) (fun _ _ => rfl) rfl (by exact HSub.nil) (s_field rfl rfl (by decide)) ?_
   refine e_take 10 rfl (by kernel_rfl) (by kernel_rfl) (by kernel_rfl) (by kernel_rfl) (fun _ _ => rfl) rfl (by exact HSub.nil) (s_ld rfl ((RdPK.old0 hw.1).cel (j := 24) rfl rfl)) ?_
   refine e_take 11 rfl (by kernel_rfl) (by kernel_rfl) (by kernel_rfl) (by kernel_rfl) (fun _ _ => rfl) rfl (by exact HSub.nil) (s_move rfl) ?_
   refine e_take 12 rfl (by kernel_rfl) (by kernel_rfl) (by kernel_rfl) (by kernel_rfl) (fun _ _ => rfl) rfl (by exact HSub.nil) (s_idx rfl rfl hwl (by omega)) ?_
   refine e_take 13 rfl (by kernel_rfl) (by kernel_rfl) (by kernel_rfl) (by kernel_rfl) (fun _ _ => rfl) rfl (by exact HSub.nil) (s_ld rfl ((RdK.old0 hw.2.2.2.1).ld i 0 hy rfl (by decide) (by omega))) ?_
   refine e_one 14 rfl (by kernel_rfl) ?_
   refine o_callP (eqT_fn x.a y.a x.c y.c x.xs y.xs hxy) rfl rfl rfl (fun w st => ⟨(RdK.old0 hxr.1).out w st, (RdK.old0 hyr).out w st⟩) (fun v27 hv27 => ?_)
   subst hv27
   refine o_nil ?_
   refine x_oneS (by exact HSub.nil) ?_
   refine e_take 15 rfl (by kernel_rfl) (by kernel_rfl) (by kernel_rfl) (by kernel_rfl) (fun _ _ => rfl) rfl (by exact HSub.nil) (step_cast (v' := .bool false) (s_not rfl) rfl) ?_
   refine e_take 16 rfl (by kernel_rfl) (by kernel_rfl) (by kernel_rfl) (by kernel_rfl) (fun _ _ => rfl) rfl (by exact HSub.nil) (s_move rfl) ?_
   refine e_take 17 rfl (by kernel_rfl) (by kernel_rfl) (by kernel_rfl) (by kernel_rfl) (fun _ fr => by rw [wanted_of fr rfl rfl rfl]; rfl) rfl (by exact HSub.nil) (s_move rfl) ?_
   refine e_take 18 rfl (by kernel_rfl) (by kernel_rfl) (by kernel_rfl) (by kernel_rfl) (fun _ fr => by rw [wanted_of fr rfl rfl rfl]; rfl) rfl (by exact HSub.nil) (s_nil rfl) ?_
   refine e_take 19 rfl (by kernel_rfl) (by kernel_rfl) (by kernel_rfl) (by kernel_rfl) (fun _ fr => by rw [wanted_of fr rfl rfl rfl]; rfl) rfl (by exact HSub.nil) (s_field rfl rfl (by decide)) ?_
   refine e_take 20 rfl (by kernel_rfl) (by kernel_rfl) (by kernel_rfl) (by kernel_rfl) (fun _ fr => by rw [wanted_of fr rfl rfl rfl]; rfl) rfl (by exact HSub.nil) (s_ld rfl ((RdPK.old0 hw.1).cel (j := 23) rfl rfl)) ?_
   refine e_take 21 rfl (by kernel_rfl) (by kernel_rfl) (by kernel_rfl) (by kernel_rfl) (fun _ fr => by rw [wanted_of fr rfl rfl rfl]; rfl) rfl (by exact HSub.nil) (s_move rfl) ?_
   refine e_take 22 rfl (by kernel_rfl) (by kernel_rfl) (by kernel_rfl) (by kernel_rfl) (fun _ fr => by rw [wanted_of fr rfl rfl rfl]; rfl) rfl (by exact HSub.nil) (s_idx rfl rfl hll (by omega)) ?_
   refine e_take 23 rfl (by kernel_rfl) (by kernel_rfl) (by kernel_rfl) (by kernel_rfl) (fun _ fr => by rw [wanted_of fr rfl rfl rfl]; rfl) rfl (by exact HSub.nil) (s_ld rfl ((RdK.old0 hw.2.1).ld i 0 hx rfl (by decide) (by omega))) ?_
   refine e_one 24 rfl (by kernel_rfl) ?_
   refine o_yes rfl rfl ?_
   refine o_callP (spareBytes_fn x.a x.c x.xs (by omega)) rfl rfl rfl (fun w st => (RdK.old0 hxr.2).out w st) (fun v37 hv37 => ?_)
   subst hv37
   refine o_nil ?_
   refine x_oneS (by exact HSub.nil) ?_
   refine e_take 25 rfl (by kernel_rfl) (by kernel_rfl) (by kernel_rfl) (by kernel_rfl) (fun _ fr => by rw [wanted_of fr rfl rfl rfl]; rfl) rfl (by exact HSub.nil) (step_cast (v' := .bool false) (s_not rfl) rfl) ?_
   refine e_take 26 rfl (by kernel_rfl) (by kernel_rfl) (by kernel_rfl) (by kernel_rfl) (fun _ _ => rfl) rfl (by exact HSub.nil) (s_pick_f rfl rfl) ?_
   refine e_done (by kernel_rfl) ?_
   refine x_then (hK7 _ _ ?_)
   refine c_false rfl ?_
   refine c_skip ?_
   refine x_block ?_
   refine x_then (hK6 _ _ ?_)
   refine c_region ?_
   refine o_step rfl (s_move rfl) ?_
   refine o_step rfl (s_add rfl rfl (by omega)) ?_
   refine o_step rfl (s_assign rfl) ?_
   refine o_nil ?_
   exact x_then (x_inv (i + 1) (by omega) (by first | omega | (dsimp only; omega)) sbA (by exact HSub.nil))
  ·
   refine o_step rfl (step_cast (v' := .bool false) (s_lss rfl rfl) (by rw [decide_eq_false (by omega)])) ?_
   refine o_nil ?_
   refine x_then (hK5 _ _ ?_)
   refine c_false rfl ?_
   refine c_exit ?_
   refine x_then_exit ?_
   refine x_then_exit ?_
   refine x_block_exit ?_
   refine x_then (hK2 _ _ ?_)
   refine c_seq fun _ hK8 => ?_
   refine c_region ?_
   refine o_step rfl (s_assign rfl) ?_
   refine o_nil ?_
   refine x_then (hK8 _ _ ?_)
   refine c_ret ?_
   refine ?_
   exact x_ret rfl (.tmp rfl (.nil)) (rfl)
set_option maxHeartbeats 2000000 in
theorem skept_fn (bs : Nat) (x0 x1 x2 x3 x4 x5 x6 x7 x8 x9 x10 x11 x12 x13 x14 x15 x16 x17 x18 x19 x20 x21 x25 x26 x27 x28 : Value) (la wa : Option Addr) (lc wc : Nat) (ll wl : List (Sl UInt8)) (hwx : wl.map Sl.xs = ll.map Sl.xs) (hlbx : ∀ x ∈ ll, x.xs.length ≤ 1048576) (Sn Sw SL : Hp) (hl : OwnS Esl 1 40 (.slice la ll.length lc) ll Sn) (hw1 : OwnS Esl 1 40 (.slice wa wl.length wc) wl Sw) (hlo : LentO ll SL) (L : List (Sl UInt8)) (hwL : ∀ x ∈ wl, x ∈ L) (ga : Option Addr) (gc : Nat) (gl : List (Sl UInt8)) (Sg SG : Hp) (hg : OwnS Esl 1 40 (.slice ga gl.length gc) gl Sg) (hgo : OwnL Eb 1 5 gl (gl.map Sl.xs) SG) (sa : Option Addr) (sc : Nat) (sl : List (Sl UInt8)) (Ss Sx : Hp) (hs : OwnS Esl 1 40 (.slice sa sl.length sc) sl Ss) (hsx : sl.map Sl.xs = gl.map Sl.xs) (hsr : ∀ x ∈ sl, RdS Eb x.v x.xs Sx) : HL.Fn Tryd.prog 53 [.pointer (some ⟨bs, 0, none⟩)] (OldL L ((bs, .cells [x0, x1, x2, x3, x4, x5, x6, x7, x8, x9, x10, x11, x12, x13, x14, x15, x16, x17, x18, x19, x20, x21, .slice ga gl.length gc, .slice la ll.length lc, .slice wa wl.length wc, x25, x26, x27, x28, .slice sa sl.length sc].toArray 45 (0, 0)) :: (Sn ++ (Sw ++ (SL ++ (Sg ++ (SG ++ (Ss ++ Sx)))))))) ((bs, .cells [x0, x1, x2, x3, x4, x5, x6, x7, x8, x9, x10, x11, x12, x13, x14, x15, x16, x17, x18, x19, x20, x21, .slice ga gl.length gc, .slice la ll.length lc, .slice wa wl.length wc, x25, x26, x27, x28, .slice sa sl.length sc].toArray 45 (0, 0)) :: (Sn ++ (Sw ++ (SL ++ (Sg ++ (SG ++ (Ss ++ Sx))))))) (fun v S' => v = .bool true ∧ S' = (bs, .cells [x0, x1, x2, x3, x4, x5, x6, x7, x8, x9, x10, x11, x12, x13, x14, x15, x16, x17, x18, x19, x20, x21, .slice ga gl.length gc, .slice none 0 0, .slice none 0 0, x25, x26, x27, x28, .slice sa sl.length sc].toArray 45 (0, 0)) :: (Sg ++ (SG ++ (Ss ++ Sx)))) := by
  refine fn_of Tryd.func53 rfl rfl rfl fun w0 hw => ?_
  have hls := hl.sl
  have hlb := hls.le
  have hgr := OwnL.rdAll hgo rfl
  have hlr := hlo.rd
  have hlo2 := hlo.own
  refine c_seq fun _ hK1 => ?_
  refine c_region ?_
  refine o_step rfl (s_assign rfl) ?_
  refine o_nil ?_
  refine x_then (hK1 _ _ ?_)
  refine c_seq fun _ hK2 => ?_
  refine c_seq fun _ hK3 => ?_
  refine c_region ?_
  refine o_step rfl (s_move rfl) ?_
  refine o_step rfl (s_nil rfl) ?_
  refine o_step rfl (s_field rfl rfl (by decide)) ?_
  refine o_callP (wkept_fn bs (x0) (x1) (x2) (x3) (x4) (x5) (x6) (x7) (x8) (x9) (x10) (x11) (x12) (x13) (x14) (x15) (x16) (x17) (x18) (x19) (x20) (x21) (.slice ga gl.length gc) (x25) (x26) (x27) (x28) (.slice sa sl.length sc) la wa lc wc ll wl hwx hlbx) rfl rfl rfl (fun w st => ⟨(RdPK.own meA).out w st, (hl.rdk hiA).out w st, fun x hx => ⟨((hlr x hx).1.rdk hiA).out w st, ((hlr x hx).2.rdk hiA).out w st⟩, (hw1.rdk hiA).out w st, fun x hx => (OldL.st hw st (hin_sub hzB) x (hwL x hx)).1⟩) (fun v8 hv8 => ?_)
  subst hv8
  refine o_step rfl (step_cast (v' := .bool false) (s_not rfl) rfl) ?_
  refine o_nil ?_
  refine x_then (hK3 _ _ ?_)
  refine c_false rfl ?_
  refine c_skip ?_
  refine x_then (hK2 _ _ ?_)
  refine c_seq fun _ hK4 => ?_
  refine c_seq fun _ hK5 => ?_
  refine c_region ?_
  refine o_step rfl (s_assign rfl) ?_
  refine o_nil ?_
  refine x_then (hK5 _ _ ?_)
  refine c_block ?_
  refine c_loop3 (fun (i : Nat) (xss : List (List UInt8)) (S1 : Hp) => i ≤ ll.length ∧ OwnL Eb 1 5 ll xss S1) (fun (i : Nat) (xss : List (List UInt8)) (S1 : Hp) => [(3, .int .i64 i)]) [(0, _), (2, _)] (fun (i : Nat) (xss : List (List UInt8)) (S1 : Hp) => (bs, .cells [x0, x1, x2, x3, x4, x5, x6, x7, x8, x9, x10, x11, x12, x13, x14, x15, x16, x17, x18, x19, x20, x21, .slice ga gl.length gc, .slice la ll.length lc, .slice wa wl.length wc, x25, x26, x27, x28, .slice sa sl.length sc].toArray 45 (0, 0)) :: (Sn ++ (S1 ++ (Sg ++ (SG ++ (Ss ++ Sx)))))) (fun (i : Nat) (xss : List (List UInt8)) (S1 : Hp) => ll.length - i) 0 _ SL ⟨by omega, hlo2⟩ sbA sbA hzB ?_
  rintro i xss S1 ⟨hi, hI⟩
  refine c_seq fun _ hK6 => ?_
  refine c_seq fun _ hK7 => ?_
  refine c_region ?_
  refine o_step rfl (s_move rfl) ?_
  refine o_step rfl (s_move rfl) ?_
  refine o_step rfl (s_nil rfl) ?_
  refine o_step rfl (s_field rfl rfl (by decide)) ?_
  refine o_step rfl (s_field rfl rfl (by decide)) ?_
  refine o_step rfl (s_ld rfl (.own meA rfl)) ?_
  refine o_step rfl (s_len rfl) ?_
  by_cases hlt : i < ll.length
  ·
   obtain ⟨s, hs0⟩ := sl_get (sls := ll) (n := i) hlt
   obtain ⟨xs, A1, An0, A2, hx, rfl, hx0, hput⟩ := hI.at hs0
   have hxl := hx0.lenv
   have hsb := hx0.sl.le
   refine o_step rfl (step_cast (v' := .bool true) (s_lss rfl rfl) (by rw [decide_eq_true (by omega)])) ?_
   refine o_nil ?_
   refine x_then (hK7 _ _ ?_)
   refine c_true rfl ?_
   refine c_skip ?_
   refine x_then (hK6 _ _ ?_)
   refine c_seq fun _ hK8 => ?_
   refine c_block ?_
   refine c_seq fun _ hK9 => ?_
   refine c_region ?_
   refine o_step rfl (s_assign rfl) ?_
   refine o_nil ?_
   refine x_then (hK9 _ _ ?_)
   refine c_block ?_
   refine c_loop3 (fun (k : Nat) (l : List UInt8) (Sk : Hp) => k ≤ s.xs.length ∧ l.length = s.xs.length ∧ OwnS Eb 1 5 s.v l Sk) (fun (k : Nat) (l : List UInt8) (Sk : Hp) => [(4, .int .i64 k)]) [(0, _), (2, _), (3, _), (10, _), (11, _), (12, _), (13, _), (14, _), (15, _), (16, _), (17, _)] (fun (k : Nat) (l : List UInt8) (Sk : Hp) => (bs, .cells [x0, x1, x2, x3, x4, x5, x6, x7, x8, x9, x10, x11, x12, x13, x14, x15, x16, x17, x18, x19, x20, x21, .slice ga gl.length gc, .slice la ll.length lc, .slice wa wl.length wc, x25, x26, x27, x28, .slice sa sl.length sc].toArray 45 (0, 0)) :: (Sn ++ (A1 ++ (Sk ++ (A2 ++ (Sg ++ (SG ++ (Ss ++ Sx)))))))) (fun (k : Nat) (l : List UInt8) (Sk : Hp) => s.xs.length - k) 0 _ _ ⟨by omega, hxl, hx0⟩ sbA sbA hzB ?_
   rintro k l Sk ⟨hkl, hll, hk⟩
   have hks := hk.sl
   rw [hll] at hks
   refine c_seq fun _ hK10 => ?_
   refine c_seq fun _ hK11 => ?_
   refine c_region ?_
   refine o_step rfl (s_move rfl) ?_
   refine o_step rfl (s_move rfl) ?_
   refine o_step rfl (s_nil rfl) ?_
   refine o_step rfl (s_field rfl rfl (by decide)) ?_
   refine o_step rfl (s_field rfl rfl (by decide)) ?_
   refine o_step rfl (s_ld rfl (.own meA rfl)) ?_
   refine o_step rfl (s_move rfl) ?_
   refine o_step rfl (s_idx rfl rfl hls (by omega)) ?_
   refine o_step rfl (s_ld rfl ((hl.rdk hiA).ld i 0 hs0 rfl (by decide) (by omega))) ?_
   refine o_step rfl (s_len rfl) ?_
   by_cases hkt : k < s.xs.length
   ·
    obtain ⟨x, hxk⟩ : ∃ x, l[k]? = some x := ⟨_, List.getElem?_eq_getElem (by omega)⟩
    refine o_step rfl (step_cast (v' := .bool true) (s_lss rfl rfl) (by rw [decide_eq_true (by omega)])) ?_
    refine o_nil ?_
    refine x_then (hK11 _ _ ?_)
    refine c_true rfl ?_
    refine c_skip ?_
    refine x_then (hK10 _ _ ?_)
    refine c_seq fun _ hK12 => ?_
    refine c_block ?_
    refine c_drawE ((bs, .cells [x0, x1, x2, x3, x4, x5, x6, x7, x8, x9, x10, x11, x12, x13, x14, x15, x16, x17, x18, x19, x20, x21, .slice ga gl.length gc, .slice la ll.length lc, .slice wa wl.length wc, x25, x26, x27, x28, .slice sa sl.length sc].toArray 45 (0, 0)) :: (Sn ++ Sk)) (fun i => Nat.beq i 22) ?_
    refine e_take 0 rfl (by kernel_rfl) (by kernel_rfl) (by kernel_rfl) (by kernel_rfl) (fun _ _ => rfl) rfl hzB (s_move rfl) ?_
    refine e_take 1 rfl (by kernel_rfl) (by kernel_rfl) (by kernel_rfl) (by kernel_rfl) (fun _ _ => rfl) rfl hzB (s_nil rfl) ?_
    refine e_take 2 rfl (by kernel_rfl) (by kernel_rfl) (by kernel_rfl) (by kernel_rfl) (fun _ _ => rfl) rfl hzB (s_field rfl rfl (by decide)) ?_
    refine e_take 3 rfl (by kernel_rfl) (by kernel_rfl) (by kernel_rfl) (by kernel_rfl) (fun _ _ => rfl) rfl hzB (s_field rfl rfl (by decide)) ?_
    refine e_take 4 rfl (by kernel_rfl) (by kernel_rfl) (by kernel_rfl) (by kernel_rfl) (fun _ _ => rfl) rfl hzB (s_ld rfl (.own meA rfl)) ?_
    refine e_take 5 rfl (by kernel_rfl) (by kernel_rfl) (by kernel_rfl) (by kernel_rfl) (fun _ _ => rfl) rfl hzB (s_move rfl) ?_
    refine e_take 6 rfl (by kernel_rfl) (by kernel_rfl) (by kernel_rfl) (by kernel_rfl) (fun _ _ => rfl) rfl hzB (s_idx rfl rfl hls (by omega)) ?_
    refine e_take 7 rfl (by kernel_rfl) (by kernel_rfl) (by kernel_rfl) (by kernel_rfl) (fun _ _ => rfl) rfl hzB (s_ld rfl ((hl.rdk hiA).ld i 0 hs0 rfl (by decide) (by omega))) ?_
    refine e_take 8 rfl (by kernel_rfl) (by kernel_rfl) (by kernel_rfl) (by kernel_rfl) (fun _ _ => rfl) rfl hzB (s_move rfl) ?_
    refine e_take 9 rfl (by kernel_rfl) (by kernel_rfl) (by kernel_rfl) (by kernel_rfl) (fun _ _ => rfl) rfl hzB (s_move rfl) ?_
    refine e_take 10 rfl (by kernel_rfl) (by kernel_rfl) (by kernel_rfl) (by kernel_rfl) (fun _ _ => rfl) rfl hzB (s_nil rfl) ?_
    refine e_take 11 rfl (by kernel_rfl) (by kernel_rfl) (by kernel_rfl) (by kernel_rfl) (fun _ _ => rfl) rfl hzB (s_field rfl rfl (by decide)) ?_
    refine e_take 12 rfl (by kernel_rfl) (by kernel_rfl) (by kernel_rfl) (by kernel_rfl) (fun _ _ => rfl) rfl hzB (s_field rfl rfl (by decide)) ?_
    refine e_take 13 rfl (by kernel_rfl) (by kernel_rfl) (by kernel_rfl) (by kernel_rfl) (fun _ _ => rfl) rfl hzB (s_ld rfl (.own meA rfl)) ?_
    refine e_take 14 rfl (by kernel_rfl) (by kernel_rfl) (by kernel_rfl) (by kernel_rfl) (fun _ _ => rfl) rfl hzB (s_move rfl) ?_
    refine e_take 15 rfl (by kernel_rfl) (by kernel_rfl) (by kernel_rfl) (by kernel_rfl) (fun _ _ => rfl) rfl hzB (s_idx rfl rfl hls (by omega)) ?_
    refine e_take 16 rfl (by kernel_rfl) (by kernel_rfl) (by kernel_rfl) (by kernel_rfl) (fun _ _ => rfl) rfl hzB (s_ld rfl ((hl.rdk hiA).ld i 0 hs0 rfl (by decide) (by omega))) ?_
    refine e_take 17 rfl (by kernel_rfl) (by kernel_rfl) (by kernel_rfl) (by kernel_rfl) (fun _ _ => rfl) rfl hzB (s_move rfl) ?_
    refine e_take 18 rfl (by kernel_rfl) (by kernel_rfl) (by kernel_rfl) (by kernel_rfl) (fun _ _ => rfl) rfl hzB (s_idx rfl rfl hks (by omega)) ?_
    refine e_take 19 rfl (by kernel_rfl) (by kernel_rfl) (by kernel_rfl) (by kernel_rfl) (fun _ _ => rfl) rfl hzB (s_ld rfl ((hk.rdk hiA).ld k 0 hxk rfl (by decide) rfl)) ?_
    refine e_take 20 rfl (by kernel_rfl) (by kernel_rfl) (by kernel_rfl) (by kernel_rfl) (fun _ _ => rfl) rfl hzB (step_cast (v' := .int .u8 (xorB x).toNat) (s_xor rfl rfl) (by rw [xorB, ← wrap_u8]; rfl)) ?_
    refine e_take 21 rfl (by kernel_rfl) (by kernel_rfl) (by kernel_rfl) (by kernel_rfl) (fun _ _ => rfl) rfl hzB (s_idx rfl rfl hks (by omega)) ?_
    refine e_one 22 rfl (by kernel_rfl) ?_
    refine o_stS1 k (xorB x) hk pkA rfl rfl rfl (by omega) (by first | rfl | (rw [Int.toNat_natCast, Nat.mul_one]; first | done | rfl)) fun S' hS' => ?_
    refine o_nil ?_
    refine x_oneL rfl ?_
    refine e_done (by kernel_rfl) ?_
    refine x_block ?_
    refine x_then (hK12 _ _ ?_)
    refine c_region ?_
    refine o_step rfl (s_move rfl) ?_
    refine o_step rfl (s_add rfl rfl (by omega)) ?_
    refine o_step rfl (s_assign rfl) ?_
    refine o_nil ?_
    exact x_then (x_inv (k + 1, l.set k (xorB x), S') ⟨by omega, by rw [List.length_set]; exact hll, hS'⟩ (by first | omega | (dsimp only; omega)) sbA hzB)
   ·
    refine o_step rfl (step_cast (v' := .bool false) (s_lss rfl rfl) (by rw [decide_eq_false (by omega)])) ?_
    refine o_nil ?_
    refine x_then (hK11 _ _ ?_)
    refine c_false rfl ?_
    refine c_exit ?_
    refine x_then_exit ?_
    refine x_then_exit ?_
    refine x_block_exit ?_
    refine x_block ?_
    refine x_then (hK8 _ _ ?_)
    refine c_region ?_
    refine o_step rfl (s_move rfl) ?_
    refine o_step rfl (s_add rfl rfl (by omega)) ?_
    refine o_step rfl (s_assign rfl) ?_
    refine o_nil ?_
    exact x_then (x_inv (i + 1, xss.set i l, A1 ++ (Sk ++ A2)) ⟨by omega, hput _ _ hk⟩ (by first | omega | (dsimp only; omega)) sbA (by simp only [List.append_assoc]; exact hzB))
  ·
   refine o_step rfl (step_cast (v' := .bool false) (s_lss rfl rfl) (by rw [decide_eq_false (by omega)])) ?_
   refine o_nil ?_
   refine x_then (hK7 _ _ ?_)
   refine c_false rfl ?_
   refine c_exit ?_
   refine x_then_exit ?_
   refine x_then_exit ?_
   refine x_block_exit ?_
   refine x_then (hK4 _ _ ?_)
   refine c_seq fun _ hK13 => ?_
   refine c_region ?_
   refine o_step rfl (s_move rfl) ?_
   refine o_step rfl (s_nil rfl) ?_
   refine o_step rfl (s_field rfl rfl (by decide)) ?_
   refine o_step rfl (s_field rfl rfl (by decide)) ?_
   refine o_store rfl rfl rfl upA (by first | decide | omega | (simp; done) | (simp; omega)) rfl ?_
   refine o_nil ?_
   refine x_then (hK13 _ _ ?_)
   refine c_seq fun _ hK14 => ?_
   refine c_region ?_
   refine o_step rfl (s_move rfl) ?_
   refine o_step rfl (s_nil rfl) ?_
   refine o_step rfl (s_field rfl rfl (by decide)) ?_
   refine o_step rfl (s_field rfl rfl (by decide)) ?_
   refine o_store rfl rfl rfl upA (by first | decide | omega | (simp; done) | (simp; omega)) rfl ?_
   refine o_nil ?_
   refine x_then (hK14 _ _ ?_)
   refine c_seq fun _ hK15 => ?_
   refine c_drawE ([(bs, .cells [x0, x1, x2, x3, x4, x5, x6, x7, x8, x9, x10, x11, x12, x13, x14, x15, x16, x17, x18, x19, x20, x21, .slice ga gl.length gc, .slice none 0 0, .slice none 0 0, x25, x26, x27, x28, .slice sa sl.length sc].toArray 45 (0, 0))]) (fun i => false) ?_
   refine e_take 0 rfl (by kernel_rfl) (by kernel_rfl) (by kernel_rfl) (by kernel_rfl) (fun _ _ => rfl) rfl hzB (s_move rfl) ?_
   refine e_take 1 rfl (by kernel_rfl) (by kernel_rfl) (by kernel_rfl) (by kernel_rfl) (fun _ _ => rfl) rfl hzB (s_nil rfl) ?_
   refine e_take 2 rfl (by kernel_rfl) (by kernel_rfl) (by kernel_rfl) (by kernel_rfl) (fun _ _ => rfl) rfl hzB (s_field rfl rfl (by decide)) ?_
   refine e_take 3 rfl (by kernel_rfl) (by kernel_rfl) (by kernel_rfl) (by kernel_rfl) (fun _ _ => rfl) rfl hzB (s_field rfl rfl (by decide)) ?_
   refine e_take 4 rfl (by kernel_rfl) (by kernel_rfl) (by kernel_rfl) (by kernel_rfl) (fun _ _ => rfl) rfl hzB (s_ld rfl (.own meA rfl)) ?_
   refine e_take 5 rfl (by kernel_rfl) (by kernel_rfl) (by kernel_rfl) (by kernel_rfl) (fun _ _ => rfl) rfl hzB (s_move rfl) ?_
   refine e_take 6 rfl (by kernel_rfl) (by kernel_rfl) (by kernel_rfl) (by kernel_rfl) (fun _ _ => rfl) rfl hzB (s_nil rfl) ?_
   refine e_take 7 rfl (by kernel_rfl) (by kernel_rfl) (by kernel_rfl) (by kernel_rfl) (fun _ _ => rfl) rfl hzB (s_field rfl rfl (by decide)) ?_
   refine e_take 8 rfl (by kernel_rfl) (by kernel_rfl) (by kernel_rfl) (by kernel_rfl) (fun _ _ => rfl) rfl hzB (s_ld rfl (.own meA rfl)) ?_
   refine e_one 9 rfl (by kernel_rfl) ?_
   refine o_callP (eqRows_fn ga sa gc sc gl sl) rfl rfl rfl (fun w st => ⟨⟨(hg.rdk hiA).out w st, fun x hx => ((hgr x hx).rdk hiA).out w st⟩, ⟨(hs.rdk hiA).out w st, fun x hx => ((hsr x hx).rdk hiA).out w st⟩⟩) (fun v72 hv72 => ?_)
   rw [decide_eq_true hsx.symm] at hv72
   subst hv72
   refine o_nil ?_
   refine x_oneS hzB ?_
   refine e_take 10 rfl (by kernel_rfl) (by kernel_rfl) (by kernel_rfl) (by kernel_rfl) (fun _ _ => rfl) rfl hzB (s_assign rfl) ?_
   refine e_done (by kernel_rfl) ?_
   refine x_then (hK15 _ _ ?_)
   refine c_ret ?_
   refine ?_
   refine x_sub (Sub.refl _) (H' := (bs, .cells [x0, x1, x2, x3, x4, x5, x6, x7, x8, x9, x10, x11, x12, x13, x14, x15, x16, x17, x18, x19, x20, x21, .slice ga gl.length gc, .slice none 0 0, .slice none 0 0, x25, x26, x27, x28, .slice sa sl.length sc].toArray 45 (0, 0)) :: (Sg ++ (SG ++ (Ss ++ Sx)))) hzB ?_
   exact x_ret rfl (.tmp rfl (.nil)) (⟨rfl, rfl⟩)
end Go.Proofs.YtmmajabfmhipeaaDoor
