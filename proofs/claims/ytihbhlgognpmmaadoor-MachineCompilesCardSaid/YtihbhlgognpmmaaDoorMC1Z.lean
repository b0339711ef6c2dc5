/- Part of the proofs over this seat: see the text that holds the theorem. Conditions: each theorem bears its own. -/
import Derived.Test.YtihbhlgognpmmaaDoorHlB
import Derived.Lib.TrailingZeros
namespace Go.HL.Kl
open Go Go.HL

/-! classes: sets of bytes, as numbers of 256 bits -/
abbrev Cl := BitVec 256
def wd (c : Cl) (i : Nat) : BitVec 64 := c.extractLsb' (64 * i) 64
def Ew (w : BitVec 64) : Value := .int .u64 w.toNat
def Ec (c : Cl) : List Value := [Ew (wd c 0), Ew (wd c 1), Ew (wd c 2), Ew (wd c 3)]
instance : Enc Ec 4 := ⟨fun _ => rfl, fun c v hv => by simp [Ec, Ew] at hv; rcases hv with rfl | rfl | rfl | rfl <;> rfl⟩
theorem Ec_one (c : Cl) : ∀ v ∈ Ec c, v.oneCell' = true := Enc.one c
theorem Ec_get (c : Cl) {i : Nat} (h : i < 4) : (Ec c)[i]? = some (Ew (wd c i)) := by
  match i, h with
  | 0, _ => rfl
  | 1, _ => rfl
  | 2, _ => rfl
  | 3, _ => rfl
def setw (c : Cl) (i : Nat) (w : BitVec 64) : Cl := (c &&& ~~~ ((BitVec.allOnes 64).setWidth 256 <<< (64 * i))) ||| (w.setWidth 256 <<< (64 * i))
theorem setw_get (c : Cl) {i : Nat} (w : BitVec 64) (_hi : i < 4) {j : Nat} (hj : j < 256) : (setw c i w).getLsbD j = if 64 * i ≤ j ∧ j < 64 * i + 64 then w.getLsbD (j - 64 * i) else c.getLsbD j := by
  simp only [setw, BitVec.getLsbD_or, BitVec.getLsbD_and, BitVec.getLsbD_not, BitVec.getLsbD_shiftLeft, BitVec.getLsbD_setWidth, BitVec.getLsbD_allOnes, hj, decide_true, Bool.true_and]
  by_cases h1 : j < 64 * i
  · simp [h1]; omega
  · have h2 : 64 * i ≤ j := by omega
    by_cases h3 : j < 64 * i + 64
    · have h4 : j - 64 * i < 64 := by omega
      have h5 : j - 64 * i < 256 := by omega
      simp [h1, h2, h3, h4, h5]
    · have h4 : ¬ (j - 64 * i < 64) := by omega
      have h5 : w.getLsbD (j - 64 * i) = false := BitVec.getLsbD_of_ge _ _ (by omega)
      simp [h1, h3, h4, h5]
theorem wd_get (c : Cl) (i : Nat) {j : Nat} (hj : j < 64) : (wd c i).getLsbD j = c.getLsbD (64 * i + j) := by
  simp [wd, hj]
theorem wd_setw (c : Cl) {i k : Nat} (w : BitVec 64) (hi : i < 4) (hk : k < 4) : wd (setw c i w) k = if i = k then w else wd c k := by
  apply BitVec.eq_of_getLsbD_eq
  intro j hj
  rw [wd_get _ _ hj, setw_get _ _ hi (by omega)]
  by_cases e : i = k
  · subst e
    have : 64 * i + j - 64 * i = j := by omega
    rw [if_pos (by omega), if_pos rfl, this]
  · rw [if_neg (by omega), if_neg e, wd_get _ _ hj]
theorem Ec_set (c : Cl) {i : Nat} (w : BitVec 64) (hi : i < 4) : (Ec c).set i (Ew w) = Ec (setw c i w) := by
  simp only [Ec, wd_setw c w hi (by decide : 0 < 4), wd_setw c w hi (by decide : 1 < 4), wd_setw c w hi (by decide : 2 < 4), wd_setw c w hi (by decide : 3 < 4)]
  match i, hi with
  | 0, _ => rfl
  | 1, _ => rfl
  | 2, _ => rfl
  | 3, _ => rfl
theorem ext_wd {c d : Cl} (h : ∀ i, i < 4 → wd c i = wd d i) : c = d := by
  apply BitVec.eq_of_getLsbD_eq
  intro j hj
  have h1 := congrArg (fun w => BitVec.getLsbD w (j % 64)) (h (j / 64) (by omega))
  simp only [wd_get _ _ (show j % 64 < 64 by omega)] at h1
  have : 64 * (j / 64) + j % 64 = j := by omega
  rwa [this] at h1
theorem Ec_inj {c d : Cl} (h : Ec c = Ec d) : c = d := by
  simp only [Ec, Ew, List.cons.injEq, Value.int.injEq, true_and, and_true] at h
  obtain ⟨h0, h1, h2, h3⟩ := h
  refine ext_wd fun i hi => ?_
  match i, hi with
  | 0, _ => exact BitVec.eq_of_toNat_eq (by omega)
  | 1, _ => exact BitVec.eq_of_toNat_eq (by omega)
  | 2, _ => exact BitVec.eq_of_toNat_eq (by omega)
  | 3, _ => exact BitVec.eq_of_toNat_eq (by omega)
/-- the numbers of a class, as the comparison sees them -/
def Ic (c : Cl) : List Int := [((wd c 0).toNat : Int), ((wd c 1).toNat : Int), ((wd c 2).toNat : Int), ((wd c 3).toNat : Int)]
theorem Ec_ints (c : Cl) : Ec c = intsV .u64 (Ic c) := rfl
theorem Ic_inj {c d : Cl} : Ic c = Ic d ↔ c = d := ⟨fun h => Ec_inj (by rw [Ec_ints, Ec_ints, h]), fun h => by rw [h]⟩

/-! one byte -/
def bit (x : Nat) : Cl := 1#256 <<< x
theorem bit_get {x j : Nat} (hj : j < 256) : (bit x).getLsbD j = decide (j = x) := by
  simp only [bit, BitVec.getLsbD_shiftLeft, hj, decide_true, Bool.true_and, BitVec.getLsbD_one]
  by_cases h : j = x
  · subst h; simp
  · by_cases h2 : j < x
    · simp [h, h2]
    · have : ¬ (j - x = 0) := by omega
      simp [h, h2]; omega
theorem with_eq (c : Cl) {x : Nat} (hx : x < 256) : setw c (x / 64) (wd c (x / 64) ||| (1#64 <<< (x % 64))) = c ||| bit x := by
  apply BitVec.eq_of_getLsbD_eq
  intro j hj
  rw [setw_get _ _ (by omega) hj, BitVec.getLsbD_or (x := c), bit_get hj]
  by_cases h : 64 * (x / 64) ≤ j ∧ j < 64 * (x / 64) + 64
  · rw [if_pos h, BitVec.getLsbD_or, wd_get _ _ (by omega)]
    have e : 64 * (x / 64) + (j - 64 * (x / 64)) = j := by omega
    rw [e]
    congr 1
    simp only [BitVec.getLsbD_shiftLeft, BitVec.getLsbD_one]
    by_cases h2 : j = x
    · have h3 : j - 64 * (x / 64) = x % 64 := by omega
      simp [h2]; omega
    · have h3 : ¬ (j - 64 * (x / 64) = x % 64) := by omega
      by_cases h4 : j - 64 * (x / 64) < x % 64
      · simp [h2, h4]
      · have h5 : ¬ (j - 64 * (x / 64) - x % 64 = 0) := by omega
        simp [h2, h4]; omega
  · rw [if_neg h]
    have h2 : ¬ (j = x) := by omega
    simp [h2]

/-! the program's arithmetic on bytes and words -/
theorem wrap_u64 (n : Int) : IntKind.u64.wrap n = n % 18446744073709551616 := by simp [IntKind.wrap, IntKind.signed, IntKind.bits]
theorem wrap64 (w : BitVec 64) : IntKind.u64.wrap (w.toNat : Int) = w.toNat := by
  have := w.isLt
  rw [wrap_u64]; omega
theorem of64 (w : BitVec 64) : BitVec.ofInt IntKind.u64.bits (w.toNat : Int) = w := by
  apply BitVec.eq_of_toNat_eq
  have := w.isLt
  simp [IntKind.bits]
theorem v_or (a b : BitVec 64) : Value.int .u64 (IntKind.u64.wrap (BitVec.ofInt IntKind.u64.bits (a.toNat : Int) ||| BitVec.ofInt IntKind.u64.bits (b.toNat : Int)).toNat) = Ew (a ||| b) := by
  rw [of64, of64]; exact congrArg _ (wrap64 _)
theorem v_and (a b : BitVec 64) : Value.int .u64 (IntKind.u64.wrap (BitVec.ofInt IntKind.u64.bits (a.toNat : Int) &&& BitVec.ofInt IntKind.u64.bits (b.toNat : Int)).toNat) = Ew (a &&& b) := by
  rw [of64, of64]; exact congrArg _ (wrap64 _)
/-- x & 63, x % 64 -/
theorem v_and63 {x : Nat} (hx : x < 256) : IntKind.u8.wrap (BitVec.ofInt IntKind.u8.bits (x : Int) &&& BitVec.ofInt IntKind.u8.bits 63).toNat = ((x % 64 : Nat) : Int) := by
  have : ∀ x : Fin 256, IntKind.u8.wrap (BitVec.ofInt IntKind.u8.bits (x.val : Int) &&& BitVec.ofInt IntKind.u8.bits 63).toNat = ((x.val % 64 : Nat) : Int) := by decide +kernel
  exact this ⟨x, hx⟩
theorem v_shl1 {k : Nat} (hk : k < 64) : Value.int .u64 (IntKind.u64.wrap (1 * 2 ^ (min ((k : Nat) : Int).toNat IntKind.u64.bits))) = Ew (1#64 <<< k) := by
  have e : min ((k : Nat) : Int).toNat IntKind.u64.bits = k := by simp [IntKind.bits]; omega
  rw [e]
  have h1 : (2 : Nat) ^ k < 2 ^ 64 := Nat.pow_lt_pow_right (by decide) hk
  have h2 : ((2 : Int) ^ k) = ((2 ^ k : Nat) : Int) := by simp
  simp only [Ew, Value.int.injEq, true_and, Int.one_mul]
  rw [h2, wrap_u64]
  have h3 : (1#64 <<< k).toNat = 2 ^ k := by
    rw [BitVec.toNat_shiftLeft, BitVec.toNat_ofNat, Nat.shiftLeft_eq]
    simp
    exact h1
  rw [h3]; omega
/-- a word's bit, as Has reads it -/
theorem has_eq (w : BitVec 64) {k : Nat} (hk : k < 64) : decide (IntKind.u64.wrap (BitVec.ofInt IntKind.u64.bits ((w.toNat : Int).fdiv (2 ^ (min ((k : Nat) : Int).toNat IntKind.u64.bits))) &&& BitVec.ofInt IntKind.u64.bits 1).toNat = 1) = w.getLsbD k := by
  have e : min ((k : Nat) : Int).toNat IntKind.u64.bits = k := by simp [IntKind.bits]; omega
  rw [e]
  have h2 : ((2 : Int) ^ k) = ((2 ^ k : Nat) : Int) := by simp
  have h3 : (w.toNat : Int).fdiv (2 ^ k) = ((w >>> k).toNat : Int) := by
    rw [h2, Int.fdiv_eq_ediv_of_nonneg _ (Int.natCast_nonneg _), BitVec.toNat_ushiftRight, Nat.shiftRight_eq_div_pow]; rfl
  have h4 : BitVec.ofInt IntKind.u64.bits 1 = 1#64 := rfl
  rw [h3, of64, h4]
  have h6 : IntKind.u64.wrap ((w >>> k &&& 1#64).toNat : Int) = ((w >>> k &&& 1#64).toNat : Int) := wrap64 _
  refine (congrArg (fun z => decide (z = 1)) h6).trans ?_
  have h5 : (w >>> k &&& 1#64).toNat = if w.getLsbD k then 1 else 0 := by
    have := BitVec.and_one_eq_setWidth_ofBool_getLsbD (x := w >>> k)
    rw [this, BitVec.getLsbD_ushiftRight, Nat.add_zero]
    cases w.getLsbD k <;> rfl
  rw [h5]
  cases w.getLsbD k <;> simp
end Go.HL.Kl

/- Part of the proofs over this seat: see the text that holds the theorem. Conditions: each theorem bears its own. -/
namespace Go.HL.Kl
open Go Go.HL

theorem shr6_u8 {x : Nat} (hx : x < 256) : ((x : Int)).fdiv (2 ^ (min (6 : Int).toNat IntKind.u8.bits)) = ((x / 64 : Nat) : Int) := by
  have : ∀ x : Fin 256, ((x.val : Int)).fdiv (2 ^ (min (6 : Int).toNat IntKind.u8.bits)) = ((x.val / 64 : Nat) : Int) := by decide +kernel
  exact this ⟨x, hx⟩
theorem shr6_i64 {x : Nat} (hx : x < 256) : ((x : Int)).fdiv (2 ^ (min (6 : Int).toNat IntKind.i64.bits)) = ((x / 64 : Nat) : Int) := by
  have : ∀ x : Fin 256, ((x.val : Int)).fdiv (2 ^ (min (6 : Int).toNat IntKind.i64.bits)) = ((x.val / 64 : Nat) : Int) := by decide +kernel
  exact this ⟨x, hx⟩
theorem and63_i64 {x : Nat} (hx : x < 256) : IntKind.i64.wrap (BitVec.ofInt IntKind.i64.bits (x : Int) &&& BitVec.ofInt IntKind.i64.bits 63).toNat = ((x % 64 : Nat) : Int) := by
  have : ∀ x : Fin 256, IntKind.i64.wrap (BitVec.ofInt IntKind.i64.bits (x.val : Int) &&& BitVec.ofInt IntKind.i64.bits 63).toNat = ((x.val % 64 : Nat) : Int) := by decide +kernel
  exact this ⟨x, hx⟩
theorem quo64 {x : Nat} (hx : x < 256) : IntKind.u8.wrap ((x : Int).tdiv 64) = ((x / 64 : Nat) : Int) := by
  have : ∀ x : Fin 256, IntKind.u8.wrap ((x.val : Int).tdiv 64) = ((x.val / 64 : Nat) : Int) := by decide +kernel
  exact this ⟨x, hx⟩
theorem rem64 {x : Nat} (hx : x < 256) : (x : Int).tmod 64 = ((x % 64 : Nat) : Int) := by
  have : ∀ x : Fin 256, (x.val : Int).tmod 64 = ((x.val % 64 : Nat) : Int) := by decide +kernel
  exact this ⟨x, hx⟩
theorem conv8 {x : Nat} (hx : x < 256) : IntKind.u8.wrap (x : Int) = (x : Int) := by
  have : ∀ x : Fin 256, IntKind.u8.wrap (x.val : Int) = (x.val : Int) := by decide +kernel
  exact this ⟨x, hx⟩
theorem conv64 {x : Nat} (hx : x < 256) : IntKind.i64.wrap (x : Int) = (x : Int) := by
  have : ∀ x : Fin 256, IntKind.i64.wrap (x.val : Int) = (x.val : Int) := by decide +kernel
  exact this ⟨x, hx⟩
theorem wd_bit (c : Cl) {x : Nat} (_hx : x < 256) : (wd c (x / 64)).getLsbD (x % 64) = c.getLsbD x := by
  rw [wd_get _ _ (by omega)]
  congr 1; omega
theorem hasB (c : Cl) {x : Nat} (hx : x < 256) : decide (IntKind.u64.wrap (BitVec.ofInt IntKind.u64.bits (((wd c (x / 64)).toNat : Int).fdiv (2 ^ (min (((x % 64 : Nat) : Nat) : Int).toNat IntKind.u64.bits))) &&& BitVec.ofInt IntKind.u64.bits 1).toNat = 1) = c.getLsbD x := by
  rw [has_eq _ (by omega), wd_bit c hx]
theorem v_com (w : BitVec 64) : Value.int .u64 (IntKind.u64.wrap (BitVec.ofInt IntKind.u64.bits (if IntKind.u64.signed then -1 else IntKind.u64.max) ^^^ BitVec.ofInt IntKind.u64.bits (w.toNat : Int)).toNat) = Ew (~~~w) := by
  rw [of64]
  have e : BitVec.ofInt IntKind.u64.bits (if IntKind.u64.signed then -1 else IntKind.u64.max) = BitVec.allOnes 64 := rfl
  rw [e]
  have e2 : BitVec.allOnes 64 ^^^ w = ~~~w := BitVec.allOnes_xor
  have := wrap64 (BitVec.allOnes 64 ^^^ w)
  refine (congrArg (Value.int .u64) this).trans ?_
  rw [e2]; rfl
theorem Ec_zero : Ec 0#256 = [.int .u64 0, .int .u64 0, .int .u64 0, .int .u64 0] := by simp [Ec, Ew, wd]

theorem Ic_len (c : Cl) : (Ic c).length = 4 := rfl
section
variable {P : Program} {κ : Cx} {L : Loc} {H : Hp} {ty t t' : TypeId} {x y : Operand}
theorem s_eql_cl {e b : Nat} {k' : IntKind} [TU P t (.array 4 e)] [TU P e (.int k')] [TG P e true] [TI P e 1 b] [EG P t] {c d : Cl} (hx : ev L x = some (.agg (Ec c).toArray)) (hy : ev L y = some (.agg (Ec d).toArray)) : Step P κ (.binOp .eql t x y t') ty L H (.bool (decide (c = d))) :=
  step_cast (s_eql_arr (j := .u64) (xs := Ic c) (ys := Ic d) (by rw [← Ec_ints]; exact hx) (by rw [← Ec_ints]; exact hy) (Ic_len c) (Ic_len d)) (congrArg Value.bool (decide_eq_decide.2 Ic_inj))
theorem s_neq_cl {e b : Nat} {k' : IntKind} [TU P t (.array 4 e)] [TU P e (.int k')] [TG P e true] [TI P e 1 b] [EG P t] {c d : Cl} (hx : ev L x = some (.agg (Ec c).toArray)) (hy : ev L y = some (.agg (Ec d).toArray)) : Step P κ (.binOp .neq t x y t') ty L H (.bool (decide (c ≠ d))) :=
  step_cast (s_neq_arr (j := .u64) (xs := Ic c) (ys := Ic d) (by rw [← Ec_ints]; exact hx) (by rw [← Ec_ints]; exact hy) (Ic_len c) (Ic_len d)) (congrArg Value.bool (decide_eq_decide.2 (not_congr Ic_inj)))
end

/-! word by word -/
def mapW (f : Nat → BitVec 64 → BitVec 64) (c : Cl) : Nat → Cl
  | 0 => c
  | i + 1 => setw (mapW f c i) i (f i (wd (mapW f c i) i))
theorem wd_mapW (f : Nat → BitVec 64 → BitVec 64) (c : Cl) : ∀ (i : Nat), i ≤ 4 → ∀ k, k < 4 → wd (mapW f c i) k = if k < i then f k (wd c k) else wd c k
  | 0, _, k, _ => by simp [mapW]
  | i + 1, hi, k, hk => by
    unfold mapW
    rw [wd_setw _ _ (by omega) hk]
    have ih := fun k hk => wd_mapW f c i (by omega) k hk
    by_cases e : i = k
    · subst e
      rw [if_pos rfl, if_pos (by omega), ih i (by omega), if_neg (by omega)]
    · rw [if_neg e, ih k hk]
      by_cases h : k < i
      · rw [if_pos h, if_pos (by omega)]
      · rw [if_neg h, if_neg (by omega)]
theorem wd_or (a b : Cl) (k : Nat) : wd (a ||| b) k = wd a k ||| wd b k := by
  apply BitVec.eq_of_getLsbD_eq
  intro j hj
  rw [wd_get _ _ hj, BitVec.getLsbD_or, BitVec.getLsbD_or, wd_get _ _ hj, wd_get _ _ hj]
theorem wd_and (a b : Cl) (k : Nat) : wd (a &&& b) k = wd a k &&& wd b k := by
  apply BitVec.eq_of_getLsbD_eq
  intro j hj
  rw [wd_get _ _ hj, BitVec.getLsbD_and, BitVec.getLsbD_and, wd_get _ _ hj, wd_get _ _ hj]
theorem wd_not (a : Cl) {k : Nat} (hk : k < 4) : wd (~~~a) k = ~~~(wd a k) := by
  apply BitVec.eq_of_getLsbD_eq
  intro j hj
  rw [wd_get _ _ hj, BitVec.getLsbD_not, BitVec.getLsbD_not, wd_get _ _ hj]
  have : 64 * k + j < 256 := by omega
  simp [hj, this]
theorem mapW_or (a b : Cl) : mapW (fun i w => w ||| wd b i) a 4 = a ||| b := ext_wd fun i hi => by rw [wd_mapW _ _ 4 (by omega) i hi, if_pos hi, wd_or]
theorem mapW_and (a b : Cl) : mapW (fun i w => w &&& wd b i) a 4 = a &&& b := ext_wd fun i hi => by rw [wd_mapW _ _ 4 (by omega) i hi, if_pos hi, wd_and]
theorem mapW_not (a : Cl) : mapW (fun _ w => ~~~w) a 4 = ~~~a := ext_wd fun i hi => by rw [wd_mapW _ _ 4 (by omega) i hi, if_pos hi, wd_not a hi]

/-! byte by byte -/
theorem cl_ext {c d : Cl} (h : ∀ j, j < 256 → c.getLsbD j = d.getLsbD j) : c = d := BitVec.eq_of_getLsbD_eq fun j hj => h j hj
/-- so far: the bytes below i of which p says yes -/
def Part (p : Nat → Bool) (i : Nat) (c : Cl) : Prop := ∀ j, j < 256 → c.getLsbD j = (decide (j < i) && p j)
theorem Part.zero {p : Nat → Bool} : Part p 0 0#256 := fun j _ => by simp
theorem Part.yes {p : Nat → Bool} {i : Nat} {c : Cl} (h : Part p i c) (hp : p i = true) : Part p (i + 1) (c ||| bit i) := fun j hj => by
  rw [BitVec.getLsbD_or, bit_get hj, h j hj]
  by_cases e : j = i
  · subst e; simp [hp]
  · have : (j < i + 1) = (j < i) := by simp; omega
    simp [e, this]
theorem Part.no {p : Nat → Bool} {i : Nat} {c : Cl} (h : Part p i c) (hp : p i = false) : Part p (i + 1) c := fun j hj => by
  rw [h j hj]
  by_cases e : j = i
  · subst e; simp [hp]
  · have : (j < i + 1) = (j < i) := by simp; omega
    simp [this]
theorem Part.eq {p : Nat → Bool} {i : Nat} {c d : Cl} (h : Part p i c) (hi : 256 ≤ i) (hd : ∀ j, j < 256 → d.getLsbD j = p j) : c = d := cl_ext fun j hj => by
  rw [h j hj, hd j hj]
  have : j < i := by omega
  simp [this]
theorem Part.or {a b c : Cl} {i : Nat} (h : Part (fun j => a.getLsbD j || b.getLsbD j) i c) (hi : 256 ≤ i) : c = a ||| b := h.eq hi fun j _ => by rw [BitVec.getLsbD_or]
theorem Part.and {a b c : Cl} {i : Nat} (h : Part (fun j => a.getLsbD j && b.getLsbD j) i c) (hi : 256 ≤ i) : c = a &&& b := h.eq hi fun j _ => by rw [BitVec.getLsbD_and]
theorem Part.not {a c : Cl} {i : Nat} (h : Part (fun j => !a.getLsbD j) i c) (hi : 256 ≤ i) : c = ~~~a := h.eq hi fun j hj => by rw [BitVec.getLsbD_not]; simp [hj]
/-- from lo on, below x -/
def rngTo (lo : Nat) : Nat → Cl
  | 0 => 0
  | x + 1 => if lo ≤ x then rngTo lo x ||| bit x else 0
def rng (lo hi : Nat) : Cl := rngTo lo (hi + 1)
theorem rngTo_low {lo x : Nat} (h : x ≤ lo) : rngTo lo x = 0 := by
  cases x with
  | zero => rfl
  | succ x => simp [rngTo]; omega
theorem rngTo_step {lo x : Nat} (h : lo ≤ x) : rngTo lo (x + 1) = rngTo lo x ||| bit x := by simp [rngTo, h]
theorem rngTo_get (lo : Nat) : ∀ (x j : Nat), j < 256 → (rngTo lo x).getLsbD j = (decide (lo ≤ j) && decide (j < x))
  | 0, j, _ => by simp [rngTo]
  | x + 1, j, hj => by
    unfold rngTo
    split
    · rename_i h
      rw [BitVec.getLsbD_or, bit_get hj, rngTo_get lo x j hj]
      by_cases e : j = x
      · subst e; simp [h]
      · have : (j < x + 1) = (j < x) := by simp; omega
        simp [e, this]
    · rename_i h
      have : ¬ (lo ≤ j ∧ j < x + 1) := by omega
      simp; omega
theorem rng_get {lo hi j : Nat} (hj : j < 256) : (rng lo hi).getLsbD j = (decide (lo ≤ j) && decide (j ≤ hi)) := by
  rw [rng, rngTo_get _ _ _ hj]
  have : (j < hi + 1) = (j ≤ hi) := by simp; omega
  simp only [this]
theorem rng_end {lo hi x : Nat} (h1 : lo ≤ x) (h2 : hi < x) (h3 : x ≤ max lo (hi + 1)) : rngTo lo x = rng lo hi := by
  apply cl_ext
  intro j hj
  rw [rngTo_get _ _ _ hj, rng_get hj]
  by_cases h : lo ≤ j
  · have : (j < x) = (j ≤ hi) := by simp; omega
    simp [h, this]
  · simp [h]
def ofL (l : List UInt8) : Cl := l.foldl (fun c b => c ||| bit b.toNat) 0
theorem ofL_step {l : List UInt8} {i : Nat} (h : i < l.length) : ofL (l.take (i + 1)) = ofL (l.take i) ||| bit l[i].toNat := by
  unfold ofL
  rw [List.take_add_one, List.getElem?_eq_getElem h, Option.toList_some, List.foldl_append]
  rfl
theorem ofL_all {l : List UInt8} {i : Nat} (h : l.length ≤ i) : ofL (l.take i) = ofL l := by rw [List.take_of_length_le h]
def sizeTo (c : Cl) (i : Nat) : Nat := (List.range i).countP c.getLsbD
def size (c : Cl) : Nat := sizeTo c 256
theorem sizeTo_step (c : Cl) (i : Nat) : sizeTo c (i + 1) = sizeTo c i + if c.getLsbD i then 1 else 0 := by
  unfold sizeTo
  rw [List.range_succ, List.countP_append]
  simp [List.countP_cons]
theorem sizeTo_le (c : Cl) (i : Nat) : sizeTo c i ≤ i := by
  have := List.countP_le_length (p := c.getLsbD) (l := List.range i)
  simpa [sizeTo] using this
def memsTo (c : Cl) (i : Nat) : List Nat := (List.range i).filter c.getLsbD
def mems (c : Cl) : List Nat := memsTo c 256
theorem memsTo_yes {c : Cl} {i : Nat} (h : c.getLsbD i = true) : memsTo c (i + 1) = memsTo c i ++ [i] := by
  unfold memsTo; rw [List.range_succ, List.filter_append]; simp [h]
theorem memsTo_no {c : Cl} {i : Nat} (h : c.getLsbD i = false) : memsTo c (i + 1) = memsTo c i := by
  unfold memsTo; rw [List.range_succ, List.filter_append]; simp [h]
theorem memsTo_lt {c : Cl} {i b : Nat} (h : b ∈ memsTo c i) : b < i ∧ c.getLsbD b = true := by
  simpa [memsTo] using h
theorem memsTo_len (c : Cl) (i : Nat) : (memsTo c i).length ≤ i := by
  have := List.length_filter_le c.getLsbD (List.range i)
  simpa [memsTo] using this
/-- a byte, encoded by its number -/
def Eby (b : Nat) : List Value := [.int .u8 b]
instance : Enc Eby 1 := ⟨fun _ => rfl, fun _ _ h => by simp [Eby] at h; subst h; rfl⟩
end Go.HL.Kl

/- Part of the proofs over this seat: see the text that holds the theorem. Conditions: each theorem bears its own. -/
namespace Go.HL.Kl
open Go Go.HL

/-! OnesCount64: the sums of the lanes -/
theorem and_lanes {m a b c d : Nat} (ha : a < 2 ^ m) (hc : c < 2 ^ m) : (2 ^ m * b + a) &&& (2 ^ m * d + c) = 2 ^ m * (b &&& d) + (a &&& c) := by
  have hac : a &&& c < 2 ^ m := Nat.and_lt_two_pow _ hc
  apply Nat.eq_of_testBit_eq
  intro i
  rw [Nat.testBit_and, Nat.testBit_two_pow_mul_add _ ha, Nat.testBit_two_pow_mul_add _ hc, Nat.testBit_two_pow_mul_add _ hac]
  split
  · rw [Nat.testBit_and]
  · rw [Nat.testBit_and]
/-- n lanes of k bits -/
def pk (k : Nat) : Nat → (Nat → Nat) → Nat
  | 0, _ => 0
  | n + 1, f => 2 ^ k * pk k n (fun i => f (i + 1)) + f 0
theorem pk_ext (k : Nat) : ∀ (n : Nat) (f g : Nat → Nat), (∀ i, i < n → f i = g i) → pk k n f = pk k n g
  | 0, _, _, _ => rfl
  | n + 1, f, g, h => by
    simp only [pk]
    rw [pk_ext k n _ _ fun i hi => h (i + 1) (by omega), h 0 (by omega)]
theorem pk_add (k : Nat) : ∀ (n : Nat) (f g : Nat → Nat), pk k n f + pk k n g = pk k n (fun i => f i + g i)
  | 0, _, _ => rfl
  | n + 1, f, g => by
    simp only [pk]
    rw [← pk_add k n, Nat.mul_add]; omega
theorem pk_lt (k : Nat) : ∀ (n : Nat) (f : Nat → Nat), (∀ i, i < n → f i < 2 ^ k) → pk k n f < 2 ^ (k * n)
  | 0, _, _ => by simp [pk]
  | n + 1, f, h => by
    simp only [pk]
    have h1 := pk_lt k n (fun i => f (i + 1)) fun i hi => h (i + 1) (by omega)
    have h2 := h 0 (by omega)
    rw [Nat.mul_add, Nat.mul_one, Nat.add_comm (k * n) k, Nat.pow_add]
    have h3 : 2 ^ k * (pk k n (fun i => f (i + 1)) + 1) ≤ 2 ^ k * 2 ^ (k * n) := Nat.mul_le_mul_left _ h1
    rw [Nat.mul_add] at h3; omega
/-- the lanes moved down by s -/
theorem pk_shr1 (k : Nat) (n : Nat) (f : Nat → Nat) (h : f 0 < 2 ^ k) : pk k (n + 1) f / 2 ^ k = pk k n (fun i => f (i + 1)) := by
  simp only [pk]
  rw [Nat.mul_add_div (Nat.two_pow_pos k), Nat.div_eq_of_lt h, Nat.add_zero]
theorem pk_top (k : Nat) : ∀ (n : Nat) (f : Nat → Nat), f n = 0 → pk k (n + 1) f = pk k n f
  | 0, f, h => by simp [pk, h]
  | n + 1, f, h => by
    rw [pk, pk_top k n (fun i => f (i + 1)) h]; rfl
theorem pk_shr (k n : Nat) : ∀ (s : Nat) (f : Nat → Nat), (∀ i, f i < 2 ^ k) → (∀ i, n ≤ i → f i = 0) → pk k n f / 2 ^ (k * s) = pk k n (fun i => f (i + s))
  | 0, f, _, _ => by simp
  | s + 1, f, h, h0 => by
    rw [Nat.mul_add, Nat.mul_one, Nat.pow_add, ← Nat.div_div_eq_div_mul, pk_shr k n s f h h0]
    cases n with
    | zero => simp [pk]
    | succ n =>
      rw [pk_shr1 k n (fun i => f (i + s)) (h _)]
      rw [← pk_top k n]
      · exact pk_ext _ _ _ _ fun i _ => by congr 1; omega
      · exact h0 _ (by omega)
/-- every second lane -/
theorem pk_half (k : Nat) : ∀ (n : Nat) (f : Nat → Nat), (∀ i, f i < 2 ^ k) → pk k (2 * n) f &&& pk (2 * k) n (fun _ => 2 ^ k - 1) = pk (2 * k) n (fun i => f (2 * i))
  | 0, _, _ => by simp [pk]
  | n + 1, f, h => by
    have e : 2 * (n + 1) = (2 * n + 1) + 1 := by omega
    rw [e]
    simp only [pk]
    have h0 := h 0; have h1 := h 1
    have e2 : 2 ^ k * (2 ^ k * pk k (2 * n) (fun i => f (i + 1 + 1)) + f (0 + 1)) + f 0 = 2 ^ (2 * k) * pk k (2 * n) (fun i => f (i + 1 + 1)) + (2 ^ k * f 1 + f 0) := by
      rw [Nat.two_mul k, Nat.pow_add, Nat.mul_add, Nat.mul_assoc]; simp [Nat.add_assoc]
    rw [e2]
    have hp : 0 < 2 ^ k := Nat.two_pow_pos k
    have h3 : 2 ^ k * f 1 + f 0 < 2 ^ (2 * k) := by
      rw [Nat.two_mul k, Nat.pow_add]
      have : 2 ^ k * (f 1 + 1) ≤ 2 ^ k * 2 ^ k := Nat.mul_le_mul_left _ h1
      rw [Nat.mul_add] at this; omega
    have h4 : 2 ^ k - 1 < 2 ^ (2 * k) := by
      have : 2 ^ k ≤ 2 ^ (2 * k) := Nat.pow_le_pow_right (by decide) (by omega)
      omega
    rw [and_lanes h3 h4, pk_half k n _ fun i => h _]
    rw [Nat.and_two_pow_sub_one_eq_mod, Nat.mul_add_mod, Nat.mod_eq_of_lt h0]
    congr 1
/-- the bits, as lanes -/
def bt (w : BitVec 64) (i : Nat) : Nat := if w.getLsbD i then 1 else 0
theorem bt_lt (w : BitVec 64) (i : Nat) : bt w i < 2 := by unfold bt; split <;> omega
theorem bt_top (w : BitVec 64) {i : Nat} (h : 64 ≤ i) : bt w i = 0 := by simp [bt, BitVec.getLsbD_of_ge w i h]
theorem pk_bits : ∀ (n x : Nat), x < 2 ^ n → pk 1 n (fun i => if x.testBit i then 1 else 0) = x
  | 0, x, h => by simp [pk]; simp at h; omega
  | n + 1, x, h => by
    simp only [pk]
    have h1 : x / 2 < 2 ^ n := by rw [Nat.pow_succ] at h; omega
    have := pk_bits n (x / 2) h1
    have e : (fun i => if x.testBit (i + 1) then 1 else 0) = (fun i => if (x / 2).testBit i then 1 else 0) := by
      funext i; rw [Nat.testBit_succ]
    rw [e, this]
    simp only [Nat.testBit_zero]
    by_cases hx : x % 2 = 1
    · simp [hx]; omega
    · simp [hx]; omega
theorem pk_word (w : BitVec 64) : pk 1 64 (bt w) = w.toNat := by
  have := pk_bits 64 w.toNat w.isLt
  rw [← this]
  exact pk_ext _ _ _ _ fun i _ => by simp [bt, BitVec.getLsbD]
def popW (w : BitVec 64) : Nat := (List.range 64).countP w.getLsbD
def sums (f : Nat → Nat) (i : Nat) : Nat := f (2 * i) + f (2 * i + 1)
/-- OnesCount64's sums, as the text has them -/
def oc1 (w : BitVec 64) : BitVec 64 := ((w >>> 1) &&& 6148914691236517205#64) + (w &&& 6148914691236517205#64)
def oc2 (w : BitVec 64) : BitVec 64 := ((w >>> 2) &&& 3689348814741910323#64) + (w &&& 3689348814741910323#64)
def oc3 (w : BitVec 64) : BitVec 64 := ((w >>> 4) + w) &&& 1085102592571150095#64
def oc4 (k : Nat) (w : BitVec 64) : BitVec 64 := w + (w >>> k)
theorem toNat_add_of {a b : BitVec 64} {x y : Nat} (ha : a.toNat = x) (hb : b.toNat = y) (h : x + y < 18446744073709551616) : (a + b).toNat = x + y := by
  rw [BitVec.toNat_add, ha, hb]; exact Nat.mod_eq_of_lt h
theorem toNat_shr {a : BitVec 64} {x k : Nat} (ha : a.toNat = x) : (a >>> k).toNat = x / 2 ^ k := by
  rw [BitVec.toNat_ushiftRight, ha, Nat.shiftRight_eq_div_pow]
theorem pk_small {k n : Nat} {f : Nat → Nat} (hk : k * n = 64) (h : ∀ i, f i < 2 ^ k) : pk k n f < 18446744073709551616 := by
  have := pk_lt k n f fun i _ => h i
  rw [hk] at this; exact this
theorem lanes_step {k n : Nat} {f : Nat → Nat} {w m : BitVec 64} (hn : k * (2 * n) = 64) (hm : m.toNat = pk (2 * k) n (fun _ => 2 ^ k - 1)) (hw : w.toNat = pk k (2 * n) f) (hf : ∀ i, f i < 2 ^ k) (h0 : ∀ i, 2 * n ≤ i → f i = 0)
    (hs : ∀ i, sums f i < 2 ^ (2 * k)) : (((w >>> k) &&& m) + (w &&& m)).toNat = pk (2 * k) n (sums f) := by
  have e1 : (w >>> k).toNat = pk k (2 * n) (fun i => f (i + 1)) := by
    rw [toNat_shr hw]
    have := pk_shr k (2 * n) 1 f hf h0
    rw [Nat.mul_one] at this; exact this
  have e2 : ((w >>> k) &&& m).toNat = pk (2 * k) n (fun i => f (2 * i + 1)) := by
    rw [BitVec.toNat_and, e1, hm, pk_half k n _ fun i => hf _]
  have e3 : (w &&& m).toNat = pk (2 * k) n (fun i => f (2 * i)) := by rw [BitVec.toNat_and, hw, hm, pk_half k n _ hf]
  have e4 : pk (2 * k) n (fun i => f (2 * i + 1)) + pk (2 * k) n (fun i => f (2 * i)) = pk (2 * k) n (sums f) := by
    rw [pk_add]; exact pk_ext _ _ _ _ fun i _ => by simp [sums]; omega
  rw [toNat_add_of e2 e3 (by rw [e4]; exact pk_small (by rw [← hn]; simp [Nat.mul_assoc, Nat.mul_left_comm]) hs), e4]
theorem sums_le {f : Nat → Nat} {b : Nat} (h : ∀ i, f i ≤ b) (i : Nat) : sums f i ≤ 2 * b := by have := h (2 * i); have := h (2 * i + 1); unfold sums; omega
theorem sums_top {f : Nat → Nat} {n : Nat} (h : ∀ i, 2 * n ≤ i → f i = 0) (i : Nat) (hi : n ≤ i) : sums f i = 0 := by simp [sums, h (2 * i) (by omega), h (2 * i + 1) (by omega)]
theorem fold_step {s : Nat} {f : Nat → Nat} {w : BitVec 64} (hw : w.toNat = pk 8 8 f) (hf : ∀ i, f i < 128) (h0 : ∀ i, 8 ≤ i → f i = 0) : (oc4 (8 * s) w).toNat = pk 8 8 (fun i => f i + f (i + s)) := by
  have e1 : (w >>> (8 * s)).toNat = pk 8 8 (fun i => f (i + s)) := by
    rw [toNat_shr hw]; exact pk_shr 8 8 s f (fun i => by have := hf i; omega) h0
  have e4 : pk 8 8 f + pk 8 8 (fun i => f (i + s)) = pk 8 8 (fun i => f i + f (i + s)) := pk_add 8 8 f _
  unfold oc4
  rw [toNat_add_of hw e1 (by rw [e4]; exact pk_small rfl fun i => by have := hf i; have := hf (i + s); omega), e4]
def sm (f : Nat → Nat) : Nat → Nat
  | 0 => 0
  | n + 1 => sm f n + f n
theorem pop_sum (w : BitVec 64) : popW w = sums (sums (sums (bt w))) 0 + sums (sums (sums (bt w))) 1 + sums (sums (sums (bt w))) 2 + sums (sums (sums (bt w))) 3 + sums (sums (sums (bt w))) 4 + sums (sums (sums (bt w))) 5 + sums (sums (sums (bt w))) 6 + sums (sums (sums (bt w))) 7 := by
  have e : ∀ n, (List.range n).countP w.getLsbD = sm (bt w) n := by
    intro n
    induction n with
    | zero => rfl
    | succ n ih =>
      rw [List.range_succ, List.countP_append, ih]
      simp [List.countP_cons, bt, sm]
  unfold popW
  rw [e]
  simp only [sm, sums, Nat.mul_zero, Nat.mul_one, Nat.zero_add, Nat.reduceMul, Nat.reduceAdd]
  omega
theorem pop_eq (w : BitVec 64) : (oc4 32 (oc4 16 (oc4 8 (oc3 (oc2 (oc1 w)))))).toNat % 128 = popW w ∧ (oc4 32 (oc4 16 (oc4 8 (oc3 (oc2 (oc1 w)))))).toNat < 9223372036854775808 := by
  have b0 : ∀ i, bt w i ≤ 1 := fun i => by have := bt_lt w i; omega
  have t0 : ∀ i, 2 * 32 ≤ i → bt w i = 0 := fun i hi => bt_top w hi
  have s1 := lanes_step (k := 1) (n := 32) (f := bt w) (w := w) (m := 6148914691236517205#64) rfl (by decide) (pk_word w).symm (bt_lt w) t0 fun i => by have := sums_le b0 i; omega
  have b1 := sums_le b0
  have t1 : ∀ i, 2 * 16 ≤ i → sums (bt w) i = 0 := fun i hi => sums_top t0 i hi
  have s2 := lanes_step (k := 2) (n := 16) (f := sums (bt w)) (w := oc1 w) (m := 3689348814741910323#64) rfl (by decide) s1 (fun i => by have := b1 i; omega) t1 fun i => by have := sums_le b1 i; omega
  have s2 : (oc2 (oc1 w)).toNat = pk 4 16 (sums (sums (bt w))) := s2
  have b2 := sums_le b1
  have t2 : ∀ i, 16 ≤ i → sums (sums (bt w)) i = 0 := fun i hi => sums_top t1 i hi
  have s3 : (oc3 (oc2 (oc1 w))).toNat = pk 8 8 (sums (sums (sums (bt w)))) := by
    have e1 : (oc2 (oc1 w) >>> 4).toNat = pk 4 16 (fun i => sums (sums (bt w)) (i + 1)) := by
      rw [toNat_shr s2]; exact pk_shr 4 16 1 _ (fun i => by have := b2 i; omega) t2
    have e4 : pk 4 16 (fun i => sums (sums (bt w)) (i + 1)) + pk 4 16 (sums (sums (bt w))) = pk 4 16 (fun i => sums (sums (bt w)) (i + 1) + sums (sums (bt w)) i) := pk_add _ _ _ _
    have e5 : ∀ i, sums (sums (bt w)) (i + 1) + sums (sums (bt w)) i < 2 ^ 4 := fun i => by have := b2 i; have := b2 (i + 1); omega
    have e6 := toNat_add_of e1 s2 (by rw [e4]; exact pk_small rfl e5)
    unfold oc3
    rw [BitVec.toNat_and]
    have e7 : (oc2 (oc1 w) >>> 4 + oc2 (oc1 w)).toNat = pk 4 (2 * 8) (fun i => sums (sums (bt w)) (i + 1) + sums (sums (bt w)) i) := by
      refine e6.trans ?_
      exact e4
    have e8 : (1085102592571150095#64).toNat = pk (2 * 4) 8 (fun _ => 2 ^ 4 - 1) := by decide
    rw [e7, e8, pk_half 4 8 _ e5]
    exact pk_ext _ _ _ _ fun i _ => by simp [sums]; omega
  have b3 := sums_le b2
  have t3 : ∀ i, 8 ≤ i → sums (sums (sums (bt w))) i = 0 := fun i hi => sums_top t2 i hi
  obtain ⟨h, hh⟩ : ∃ h, h = sums (sums (sums (bt w))) := ⟨_, rfl⟩
  rw [← hh] at s3 b3 t3
  have s4 := fold_step (s := 1) s3 (fun i => by have := b3 i; omega) t3
  have s5 := fold_step (s := 2) s4 (fun i => by have := b3 i; have := b3 (i + 1); omega) (fun i hi => by simp [t3 i hi, t3 (i + 1) (by omega)])
  have s6 := fold_step (s := 4) s5 (fun i => by have := b3 i; have := b3 (i + 1); have := b3 (i + 2); have := b3 (i + 2 + 1); omega) (fun i hi => by simp [t3 i hi, t3 (i + 1) (by omega), t3 (i + 2) (by omega), t3 (i + 2 + 1) (by omega)])
  have e : oc4 32 (oc4 16 (oc4 8 (oc3 (oc2 (oc1 w))))) = oc4 (8 * 4) (oc4 (8 * 2) (oc4 (8 * 1) (oc3 (oc2 (oc1 w))))) := rfl
  rw [e, s6]
  have hp := pop_sum w
  rw [← hh] at hp
  have l0 := b3 0; have l1 := b3 1; have l2 := b3 2; have l3 := b3 3; have l4 := b3 4; have l5 := b3 5; have l6 := b3 6; have l7 := b3 7
  have z8 := t3 8 (by omega); have z9 := t3 9 (by omega); have z10 := t3 10 (by omega); have z11 := t3 11 (by omega); have z12 := t3 12 (by omega); have z13 := t3 13 (by omega); have z14 := t3 14 (by omega)
  constructor
  · simp only [pk, Nat.zero_add, Nat.reduceAdd, Nat.reducePow]
    omega
  · simp only [pk, Nat.zero_add, Nat.reduceAdd, Nat.reducePow]
    omega
end Go.HL.Kl

/- Part of the proofs over this seat: see the text that holds the theorem. Conditions: each theorem bears its own. -/
namespace Go.HL.Kl
open Go Go.HL

/-! the size, word by word -/
theorem range_split (a b : Nat) : List.range (a + b) = List.range a ++ (List.range b).map (fun i => a + i) := by
  rw [List.range_eq_range', List.range_eq_range', List.range_eq_range', ← List.range'_append_1 (s := 0)]
  simp [List.map_add_range']
theorem sizeTo_word (c : Cl) (i : Nat) : sizeTo c (64 * i + 64) = sizeTo c (64 * i) + popW (wd c i) := by
  unfold sizeTo popW
  rw [range_split, List.countP_append, List.countP_map]
  congr 1
  apply List.countP_congr
  intro j hj
  have hj' : j < 64 := by simpa using hj
  simp [wd_get c i hj']
theorem popW_le (w : BitVec 64) : popW w ≤ 64 := by
  have := List.countP_le_length (p := w.getLsbD) (l := List.range 64)
  simpa [popW] using this

/-! the lowest bit of a word -/
theorem ctz_lt (w : BitVec 64) (h : w ≠ 0#64) : Lib.ctz 64 w.toNat < 64 ∧ w.getLsbD (Lib.ctz 64 w.toNat) = true ∧ (∀ j, j < Lib.ctz 64 w.toNat → w.getLsbD j = false) ∧ ∀ j, (w &&& (w - 1#64)).getLsbD j = (w.getLsbD j && decide (j ≠ Lib.ctz 64 w.toNat)) := by
  have h0 : w.toNat ≠ 0 := fun e => h (BitVec.eq_of_toNat_eq (by simpa using e))
  obtain ⟨m, hm, hk⟩ := Lib.ctzFrom_spec 64 w.toNat (by omega) w.isLt
  have hc : Lib.ctz 64 w.toNat = Lib.ctzFrom 64 w.toNat := by simp [Lib.ctz, h0]
  rw [hc]
  obtain ⟨k, hkk⟩ : ∃ k, k = Lib.ctzFrom 64 w.toNat := ⟨_, rfl⟩
  rw [← hkk] at hm hk ⊢
  have hp : 0 < 2 ^ k := Nat.two_pow_pos k
  have bitw : ∀ j, w.getLsbD j = if j < k then false else (2 * m + 1).testBit (j - k) := by
    intro j
    rw [BitVec.getLsbD, hm]
    have := Nat.testBit_two_pow_mul_add (2 * m + 1) (b := 0) hp j
    rw [Nat.add_zero] at this
    rw [this]
    simp
  have hs : (w - 1#64).toNat = 2 ^ k * (2 * m) + (2 ^ k - 1) := by
    have e1 : (w - 1#64).toNat = w.toNat - 1 := by
      rw [BitVec.toNat_sub]
      have := w.isLt
      simp; omega
    rw [e1, hm, Nat.mul_add]
    omega
  have bits : ∀ j, (w - 1#64).getLsbD j = if j < k then (2 ^ k - 1).testBit j else (2 * m).testBit (j - k) := by
    intro j
    rw [BitVec.getLsbD, hs]
    exact Nat.testBit_two_pow_mul_add (2 * m) (by omega) j
  refine ⟨hk, ?_, ?_, ?_⟩
  · rw [bitw]; simp
  · intro j hj; rw [bitw]; simp [hj]
  · intro j
    rw [BitVec.getLsbD_and, bitw, bits]
    by_cases h1 : j < k
    · simp [h1]
    · simp only [h1, if_false]
      by_cases h2 : j = k
      · subst h2; simp
      · obtain ⟨i, hi⟩ : ∃ i, j - k = i + 1 := ⟨j - k - 1, by omega⟩
        rw [hi, Nat.testBit_succ, Nat.testBit_succ]
        have e1 : (2 * m + 1) / 2 = m := by omega
        have e2 : 2 * m / 2 = m := by omega
        rw [e1, e2]; simp [h2]
/-- the members of a word, from 64 i on -/
def wmem (i : Nat) (w : BitVec 64) : List Nat := ((List.range 64).filter w.getLsbD).map fun j => 64 * i + j
theorem filter_range_lt {p q : Nat → Bool} {n k : Nat} (hk : k < n) (h1 : ∀ j, j < k → p j = false) (hpk : p k = true) (hq : ∀ j, q j = (p j && decide (j ≠ k))) : (List.range n).filter p = k :: (List.range n).filter q := by
  have e : n = k + (1 + (n - k - 1)) := by omega
  rw [e, range_split k, range_split 1, List.filter_append, List.filter_append, List.map_append, List.filter_append, List.filter_append]
  have a1 : (List.range k).filter p = [] := by
    rw [List.filter_eq_nil_iff]; intro j hj; simp [h1 j (by simpa using hj)]
  have a2 : (List.range k).filter q = [] := by
    rw [List.filter_eq_nil_iff]; intro j hj; simp [hq, h1 j (by simpa using hj)]
  have a3 : (List.map (fun i => k + i) (List.range 1)).filter p = [k] := by simp [hpk]
  have a4 : (List.map (fun i => k + i) (List.range 1)).filter q = [] := by simp [hq]
  rw [a1, a2, a3, a4]
  simp only [List.nil_append, List.singleton_append, List.cons.injEq, true_and]
  apply List.filter_congr
  intro j hj
  simp only [List.map_map, List.mem_map, List.mem_range, Function.comp] at hj
  obtain ⟨i, _, rfl⟩ := hj
  rw [hq]
  have : ¬ (k + (1 + i) = k) := by omega
  simp
theorem wmem_cons (i : Nat) (w : BitVec 64) (h : w ≠ 0#64) : wmem i w = (64 * i + Lib.ctz 64 w.toNat) :: wmem i (w &&& (w - 1#64)) := by
  obtain ⟨h1, h2, h3, h4⟩ := ctz_lt w h
  unfold wmem
  rw [filter_range_lt h1 h3 h2 h4]
  rfl
theorem wmem_zero (i : Nat) : wmem i 0#64 = [] := by simp [wmem]
theorem wmem_len (i : Nat) (w : BitVec 64) : (wmem i w).length ≤ 64 := by
  have := List.length_filter_le w.getLsbD (List.range 64)
  simpa [wmem] using this
theorem memsTo_word (c : Cl) (i : Nat) : memsTo c (64 * i + 64) = memsTo c (64 * i) ++ wmem i (wd c i) := by
  unfold memsTo wmem
  rw [range_split, List.filter_append, List.filter_map]
  congr 2
  apply List.filter_congr
  intro j hj
  have hj' : j < 64 := by simpa using hj
  simp [wd_get c i hj']
/-- what is still to come, at word i with w of it left -/
def restW (c : Cl) (i : Nat) (w : BitVec 64) : List Nat := wmem i w ++ (mems c).drop (memsTo c (64 * i + 64)).length
theorem memsTo_prefix (c : Cl) {i j : Nat} (h : i ≤ j) : memsTo c i <+: memsTo c j := by
  obtain ⟨d, rfl⟩ : ∃ d, j = i + d := ⟨j - i, by omega⟩
  unfold memsTo
  rw [range_split, List.filter_append]
  exact List.prefix_append _ _
theorem mems_from (c : Cl) {i : Nat} (hi : i < 4) : mems c = memsTo c (64 * i) ++ (wmem i (wd c i) ++ (mems c).drop (memsTo c (64 * i + 64)).length) := by
  obtain ⟨r, hr⟩ := memsTo_prefix c (i := 64 * i + 64) (j := 256) (by omega)
  have e : mems c = memsTo c (64 * i + 64) ++ r := hr.symm
  rw [e]
  rw [List.drop_left, memsTo_word, List.append_assoc]
end Go.HL.Kl

/- Mathematics of regexes as lists of nodes: forests, and what the layer 5 asks of them. Conditions: none. -/
namespace Go.HL.Kl.Mc
open Go Go.HL Go.HL.Kl
/-- a node -/
structure Nd where
  op : Int
  set : Cl
  n : Int
  mn : Int
  mx : Int
  kids : Int
  deriving DecidableEq
def En (x : Nd) : List Value := .int .i8 x.op :: (Ec x.set ++ [.int .i64 x.n, .int .i64 x.mn, .int .i64 x.mx, .int .i64 x.kids])
instance : Enc En 9 := ⟨fun x => by simp [En, Enc.len], fun x v hv => by
  simp only [En, List.mem_cons, List.mem_append, List.not_mem_nil, or_false] at hv
  rcases hv with rfl | hv | rfl | rfl | rfl | rfl
  · rfl
  · exact Ec_one _ v hv
  all_goals rfl⟩
/-- may a node have these numbers? -/
def flds (x : Nd) : Bool :=
  decide (1 ≤ x.op ∧ x.op ≤ 8) && (decide (x.op = 1) || decide (x.set = 0)) && (decide (x.op = 7 ∨ x.op = 8) || decide (x.n = 0)) &&
  (if x.op = 6 then decide (0 ≤ x.mn ∧ x.mn ≤ 255 ∧ (x.mx = -1 ∨ x.mn ≤ x.mx ∧ x.mx ≤ 255)) else decide (x.mn = 0 ∧ x.mx = 0))
def kidsOk (x : Nd) : Bool :=
  if x.op = 6 ∨ x.op = 7 then decide (x.kids = 1) else if x.op = 4 then decide (x.kids = 0 ∨ 2 ≤ x.kids) else if x.op = 5 then decide (2 ≤ x.kids) else decide (x.kids = 0)
def ndOk (x : Nd) : Bool := flds x && kidsOk x
/-- forests: the first tree's node, what is in it, the others -/
inductive F
  | nil
  | nd (x : Nd) (ks r : F)
namespace F
def flat : F → List Nd
  | nil => []
  | nd x ks r => x :: (ks.flat ++ r.flat)
/-- trees -/
def num : F → Nat
  | nil => 0
  | nd _ _ r => r.num + 1
def size : F → Nat
  | nil => 0
  | nd _ ks r => ks.size + r.size + 1
def wf : F → Prop
  | nil => True
  | nd x ks r => ndOk x = true ∧ (ks.num : Int) = x.kids ∧ ks.wf ∧ r.wf
def depth : F → Nat
  | nil => 0
  | nd _ ks r => max (ks.depth + 1) r.depth
theorem flat_size : ∀ f : F, f.flat.length = f.size
  | nil => rfl
  | nd x ks r => by simp only [flat, List.length_cons, List.length_append, flat_size ks, flat_size r, size]
end F
end Go.HL.Kl.Mc

/- Mathematics of regexes as lists of nodes: which are well shaped. Conditions: none. -/
namespace Go.HL.Kl.Mc
open Go Go.HL Go.HL.Kl
/-- what a group or a reference asks of the groups so far -/
def gate (x : Nd) (en : List Bool) (g : Nat) : Option (List Bool × Nat) :=
  if x.op = 8 then (if 1 ≤ x.n ∧ x.n ≤ en.length ∧ en[x.n.toNat - 1]? = some true then some (en, g) else none)
  else if x.op = 7 then (if x.n = en.length + 1 ∧ x.n ≤ 255 ∧ g < 64 then some (en ++ [false], g + 1) else none)
  else some (en, g)
def kidsN (step : Nat → List Bool → Option (Nat × List Bool)) : Nat → Nat → List Bool → Option (Nat × List Bool)
  | 0, i, en => some (i, en)
  | k + 1, i, en => match step i en with
    | none => none
    | some (i', en') => kidsN step k i' en'
def shN (re : List Nd) : Nat → Nat → List Bool → Nat → Option (Nat × List Bool)
  | 0, _, _, _ => none
  | f + 1, i, en, g => match re[i]? with
    | none => none
    | some x => if ndOk x = true then
        match gate x en g with
        | none => none
        | some (en1, g1) => match kidsN (fun i en => shN re f i en g1) x.kids.toNat (i + 1) en1 with
          | none => none
          | some (i2, en2) => some (i2, if x.op = 7 then en2.set (x.n.toNat - 1) true else en2)
      else none
theorem ndOk_kids {x : Nd} (h : ndOk x = true) : 0 ≤ x.kids := by
  simp only [ndOk, Bool.and_eq_true, kidsOk] at h
  have h := h.2
  split at h
  · simp at h; omega
  · split at h
    · simp at h; omega
    · split at h <;> simp at h <;> omega
/-- a tree of the list at a place -/
structure TreeAt (re : List Nd) (d i i' : Nat) (x : Nd) (ks : F) : Prop where
  wf : (F.nd x ks .nil).wf
  flat : re.drop i = x :: (ks.flat ++ re.drop i')
  dep : ks.depth + 1 ≤ d
  len : i' = i + 1 + ks.size
  le : i' ≤ re.length
structure ForAt (re : List Nd) (d k i i' : Nat) (ks : F) : Prop where
  wf : ks.wf
  num : ks.num = k
  flat : re.drop i = ks.flat ++ re.drop i'
  dep : ks.depth ≤ d
  len : i' = i + ks.size
  le : i ≤ re.length → i' ≤ re.length
theorem kidsN_for {re : List Nd} {d : Nat} {step : Nat → List Bool → Option (Nat × List Bool)} (hs : ∀ i en i' en', step i en = some (i', en') → ∃ x ks, TreeAt re d i i' x ks) :
    ∀ k i en i' en', kidsN step k i en = some (i', en') → ∃ ks, ForAt re d k i i' ks := by
  intro k
  induction k with
  | zero =>
    intro i en i' en' h
    simp only [kidsN, Option.some.injEq, Prod.mk.injEq] at h
    obtain ⟨rfl, rfl⟩ := h
    exact ⟨.nil, trivial, rfl, rfl, Nat.zero_le _, rfl, id⟩
  | succ k ih =>
    intro i en i' en' h
    simp only [kidsN] at h
    split at h
    · cases h
    · rename_i j en1 hst
      obtain ⟨x, ks, ht⟩ := hs _ _ _ _ hst
      obtain ⟨r, hr⟩ := ih _ _ _ _ h
      refine ⟨.nd x ks r, ⟨ht.wf.1, ht.wf.2.1, ht.wf.2.2.1, hr.wf⟩, by simp [F.num, hr.num], by rw [ht.flat, hr.flat]; simp [F.flat], ?_, by rw [hr.len, ht.len]; simp only [F.size]; omega, fun _ => hr.le ht.le⟩
      simp only [F.depth]
      have := ht.dep; have := hr.dep
      omega
theorem shN_tree {re : List Nd} : ∀ f i en g i' en', shN re f i en g = some (i', en') → ∃ x ks, TreeAt re f i i' x ks := by
  intro f
  induction f with
  | zero => intro i en g i' en' h; cases h
  | succ f ih =>
    intro i en g i' en' h
    simp only [shN] at h
    split at h
    · cases h
    · rename_i x hx
      have hlt : i < re.length := (List.getElem?_eq_some_iff.1 hx).1
      split at h
      · rename_i hok
        split at h
        · cases h
        · rename_i en1 g1 hg
          split at h
          · cases h
          · rename_i i2 en2 hk
            simp only [Option.some.injEq, Prod.mk.injEq] at h
            obtain ⟨rfl, -⟩ := h
            obtain ⟨ks, hks⟩ := kidsN_for (fun i en i' en' h => ih i en g1 i' en' h) _ _ _ _ _ hk
            have h0 := ndOk_kids hok
            refine ⟨x, ks, ⟨hok, by rw [hks.num]; omega, hks.wf, trivial⟩, ?_, by have := hks.dep; omega, by rw [hks.len], hks.le hlt⟩
            rw [List.drop_eq_getElem_cons hlt, hks.flat]
            rw [List.getElem?_eq_getElem hlt] at hx
            simp at hx
            rw [hx]
      · cases h
/-- weights -/
def times (x : Nd) : Nat := if x.op = 6 then (if x.mx < 0 then x.mn.toNat + 1 else max x.mx.toNat 1) else 1
namespace F
def weight : F → Nat
  | nil => 0
  | nd x ks r => (1 + times x * ks.weight) + r.weight
end F
def cut (n : Nat) : Nat := min n 16385
theorem cut_add (a b : Nat) : cut (cut a + cut b) = cut (a + b) := by unfold cut; omega
theorem cut_mul {t a : Nat} (ht : 1 ≤ t) : cut (1 + t * cut a) = cut (1 + t * a) := by
  unfold cut
  rcases Nat.le_total a 16385 with h | h
  · rw [Nat.min_eq_left h]
  · rw [Nat.min_eq_right h]
    have h1 : 16385 ≤ t * 16385 := Nat.le_mul_of_pos_left _ ht
    have h2 : t * 16385 ≤ t * a := Nat.mul_le_mul_left _ h
    omega
theorem times_pos (x : Nd) : 1 ≤ times x := by
  unfold times
  split
  · split <;> omega
  · exact Nat.le_refl _
theorem times_le {x : Nd} (h : ndOk x = true) : times x ≤ 256 := by
  simp only [ndOk, flds, Bool.and_eq_true] at h
  have h := h.1.2
  unfold times
  split
  · rename_i h6
    rw [if_pos h6] at h
    simp at h
    split <;> omega
  · omega
/-- a well shaped list: its forest is one tree -/
structure Shp (re : List Nd) (x : Nd) (ks : F) : Prop where
  wf : (F.nd x ks .nil).wf
  flat : re = x :: ks.flat
  dep : ks.depth + 1 ≤ 260
  weight : (F.nd x ks .nil).weight ≤ 16384
open Classical in
noncomputable def shapedP (re : List Nd) : Bool := decide (∃ en, shN re 260 0 [] 0 = some (re.length, en)) && decide (∃ x ks, Shp re x ks)
theorem shN_shp {re : List Nd} {en : List Bool} (h : shN re 260 0 [] 0 = some (re.length, en)) : ∃ x ks, (F.nd x ks .nil).wf ∧ re = x :: ks.flat ∧ ks.depth + 1 ≤ 260 ∧ re.length = 1 + ks.size := by
  obtain ⟨x, ks, ht⟩ := shN_tree _ _ _ _ _ _ h
  have := ht.flat
  simp at this
  exact ⟨x, ks, ht.wf, this, ht.dep, by have := ht.len; omega⟩
end Go.HL.Kl.Mc
