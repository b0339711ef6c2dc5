/- Part of the proofs over this seat: see the text that holds the theorem. Conditions: each theorem bears its own. -/
import Derived.Test.YtihbhlgognpmmaaMC1
import Derived.Test.YtihbhlgognpmmaaHlB
namespace Go.HL.Kl
open Go Go.HL

theorem shr6_u8 {x : Nat} (hx : x < 256) : ((x : Int)).fdiv (2 ^ (min (6 : Int).toNat IntKind.u8.bits)) = ((x / 64 : Nat) : Int) := by
  have : ∀ x : Fin 256, ((x.val : Int)).fdiv (2 ^ (min (6 : Int).toNat IntKind.u8.bits)) = ((x.val / 64 : Nat) : Int) := by decide +kernel
  exact this ⟨x, hx⟩
theorem shr6_i64 {x : Nat} (hx : x < 256) : ((x : Int)).fdiv (2 ^ (min (6 : Int).toNat IntKind.i64.bits)) = ((x / 64 : Nat) : Int) := by
  have : ∀ x : Fin 256, ((x.val : Int)).fdiv (2 ^ (min (6 : Int).toNat IntKind.i64.bits)) = ((x.val / 64 : Nat) : Int) := by decide +kernel
  exact this ⟨x, hx⟩
theorem and63_i64 {x : Nat} (hx : x < 256) : IntKind.i64.wrap (BitVec.ofInt IntKind.i64.bits (x : Int) &&& BitVec.ofInt IntKind.i64.bits 63).toNat = ((x % 64 : Nat) : Int) := by
  have : ∀ x : Fin 256, IntKind.i64.wrap (BitVec.ofInt IntKind.i64.bits (x.val : Int) &&& BitVec.ofInt IntKind.i64.bits 63).toNat = ((x.val % 64 : Nat) : Int) := by decide +kernel
  exact this ⟨x, hx⟩
theorem quo64 {x : Nat} (hx : x < 256) : IntKind.u8.wrap ((x : Int).tdiv 64) = ((x / 64 : Nat) : Int) := by
  have : ∀ x : Fin 256, IntKind.u8.wrap ((x.val : Int).tdiv 64) = ((x.val / 64 : Nat) : Int) := by decide +kernel
  exact this ⟨x, hx⟩
theorem rem64 {x : Nat} (hx : x < 256) : (x : Int).tmod 64 = ((x % 64 : Nat) : Int) := by
  have : ∀ x : Fin 256, (x.val : Int).tmod 64 = ((x.val % 64 : Nat) : Int) := by decide +kernel
  exact this ⟨x, hx⟩
theorem conv8 {x : Nat} (hx : x < 256) : IntKind.u8.wrap (x : Int) = (x : Int) := by
  have : ∀ x : Fin 256, IntKind.u8.wrap (x.val : Int) = (x.val : Int) := by decide +kernel
  exact this ⟨x, hx⟩
theorem conv64 {x : Nat} (hx : x < 256) : IntKind.i64.wrap (x : Int) = (x : Int) := by
  have : ∀ x : Fin 256, IntKind.i64.wrap (x.val : Int) = (x.val : Int) := by decide +kernel
  exact this ⟨x, hx⟩
theorem wd_bit (c : Cl) {x : Nat} (_hx : x < 256) : (wd c (x / 64)).getLsbD (x % 64) = c.getLsbD x := by
  rw [wd_get _ _ (by omega)]
  congr 1; omega
theorem hasB (c : Cl) {x : Nat} (hx : x < 256) : decide (IntKind.u64.wrap (BitVec.ofInt IntKind.u64.bits (((wd c (x / 64)).toNat : Int).fdiv (2 ^ (min (((x % 64 : Nat) : Nat) : Int).toNat IntKind.u64.bits))) &&& BitVec.ofInt IntKind.u64.bits 1).toNat = 1) = c.getLsbD x := by
  rw [has_eq _ (by omega), wd_bit c hx]
theorem v_com (w : BitVec 64) : Value.int .u64 (IntKind.u64.wrap (BitVec.ofInt IntKind.u64.bits (if IntKind.u64.signed then -1 else IntKind.u64.max) ^^^ BitVec.ofInt IntKind.u64.bits (w.toNat : Int)).toNat) = Ew (~~~w) := by
  rw [of64]
  have e : BitVec.ofInt IntKind.u64.bits (if IntKind.u64.signed then -1 else IntKind.u64.max) = BitVec.allOnes 64 := rfl
  rw [e]
  have e2 : BitVec.allOnes 64 ^^^ w = ~~~w := BitVec.allOnes_xor
  have := wrap64 (BitVec.allOnes 64 ^^^ w)
  refine (congrArg (Value.int .u64) this).trans ?_
  rw [e2]; rfl
theorem Ec_zero : Ec 0#256 = [.int .u64 0, .int .u64 0, .int .u64 0, .int .u64 0] := by simp [Ec, Ew, wd]

theorem Ic_len (c : Cl) : (Ic c).length = 4 := rfl
section
variable {P : Program} {κ : Cx} {L : Loc} {H : Hp} {ty t t' : TypeId} {x y : Operand}
theorem s_eql_cl {e b : Nat} {k' : IntKind} [TU P t (.array 4 e)] [TU P e (.int k')] [TG P e true] [TI P e 1 b] [EG P t] {c d : Cl} (hx : ev L x = some (.agg (Ec c).toArray)) (hy : ev L y = some (.agg (Ec d).toArray)) : Step P κ (.binOp .eql t x y t') ty L H (.bool (decide (c = d))) :=
  step_cast (s_eql_arr (j := .u64) (xs := Ic c) (ys := Ic d) (by rw [← Ec_ints]; exact hx) (by rw [← Ec_ints]; exact hy) (Ic_len c) (Ic_len d)) (congrArg Value.bool (decide_eq_decide.2 Ic_inj))
theorem s_neq_cl {e b : Nat} {k' : IntKind} [TU P t (.array 4 e)] [TU P e (.int k')] [TG P e true] [TI P e 1 b] [EG P t] {c d : Cl} (hx : ev L x = some (.agg (Ec c).toArray)) (hy : ev L y = some (.agg (Ec d).toArray)) : Step P κ (.binOp .neq t x y t') ty L H (.bool (decide (c ≠ d))) :=
  step_cast (s_neq_arr (j := .u64) (xs := Ic c) (ys := Ic d) (by rw [← Ec_ints]; exact hx) (by rw [← Ec_ints]; exact hy) (Ic_len c) (Ic_len d)) (congrArg Value.bool (decide_eq_decide.2 (not_congr Ic_inj)))
end

/-! word by word -/
def mapW (f : Nat → BitVec 64 → BitVec 64) (c : Cl) : Nat → Cl
  | 0 => c
  | i + 1 => setw (mapW f c i) i (f i (wd (mapW f c i) i))
theorem wd_mapW (f : Nat → BitVec 64 → BitVec 64) (c : Cl) : ∀ (i : Nat), i ≤ 4 → ∀ k, k < 4 → wd (mapW f c i) k = if k < i then f k (wd c k) else wd c k
  | 0, _, k, _ => by simp [mapW]
  | i + 1, hi, k, hk => by
    unfold mapW
    rw [wd_setw _ _ (by omega) hk]
    have ih := fun k hk => wd_mapW f c i (by omega) k hk
    by_cases e : i = k
    · subst e
      rw [if_pos rfl, if_pos (by omega), ih i (by omega), if_neg (by omega)]
    · rw [if_neg e, ih k hk]
      by_cases h : k < i
      · rw [if_pos h, if_pos (by omega)]
      · rw [if_neg h, if_neg (by omega)]
theorem wd_or (a b : Cl) (k : Nat) : wd (a ||| b) k = wd a k ||| wd b k := by
  apply BitVec.eq_of_getLsbD_eq
  intro j hj
  rw [wd_get _ _ hj, BitVec.getLsbD_or, BitVec.getLsbD_or, wd_get _ _ hj, wd_get _ _ hj]
theorem wd_and (a b : Cl) (k : Nat) : wd (a &&& b) k = wd a k &&& wd b k := by
  apply BitVec.eq_of_getLsbD_eq
  intro j hj
  rw [wd_get _ _ hj, BitVec.getLsbD_and, BitVec.getLsbD_and, wd_get _ _ hj, wd_get _ _ hj]
theorem wd_not (a : Cl) {k : Nat} (hk : k < 4) : wd (~~~a) k = ~~~(wd a k) := by
  apply BitVec.eq_of_getLsbD_eq
  intro j hj
  rw [wd_get _ _ hj, BitVec.getLsbD_not, BitVec.getLsbD_not, wd_get _ _ hj]
  have : 64 * k + j < 256 := by omega
  simp [hj, this]
theorem mapW_or (a b : Cl) : mapW (fun i w => w ||| wd b i) a 4 = a ||| b := ext_wd fun i hi => by rw [wd_mapW _ _ 4 (by omega) i hi, if_pos hi, wd_or]
theorem mapW_and (a b : Cl) : mapW (fun i w => w &&& wd b i) a 4 = a &&& b := ext_wd fun i hi => by rw [wd_mapW _ _ 4 (by omega) i hi, if_pos hi, wd_and]
theorem mapW_not (a : Cl) : mapW (fun _ w => ~~~w) a 4 = ~~~a := ext_wd fun i hi => by rw [wd_mapW _ _ 4 (by omega) i hi, if_pos hi, wd_not a hi]

/-! byte by byte -/
theorem cl_ext {c d : Cl} (h : ∀ j, j < 256 → c.getLsbD j = d.getLsbD j) : c = d := BitVec.eq_of_getLsbD_eq fun j hj => h j hj
/-- so far: the bytes below i of which p says yes -/
def Part (p : Nat → Bool) (i : Nat) (c : Cl) : Prop := ∀ j, j < 256 → c.getLsbD j = (decide (j < i) && p j)
theorem Part.zero {p : Nat → Bool} : Part p 0 0#256 := fun j _ => by simp
theorem Part.yes {p : Nat → Bool} {i : Nat} {c : Cl} (h : Part p i c) (hp : p i = true) : Part p (i + 1) (c ||| bit i) := fun j hj => by
  rw [BitVec.getLsbD_or, bit_get hj, h j hj]
  by_cases e : j = i
  · subst e; simp [hp]
  · have : (j < i + 1) = (j < i) := by simp; omega
    simp [e, this]
theorem Part.no {p : Nat → Bool} {i : Nat} {c : Cl} (h : Part p i c) (hp : p i = false) : Part p (i + 1) c := fun j hj => by
  rw [h j hj]
  by_cases e : j = i
  · subst e; simp [hp]
  · have : (j < i + 1) = (j < i) := by simp; omega
    simp [this]
theorem Part.eq {p : Nat → Bool} {i : Nat} {c d : Cl} (h : Part p i c) (hi : 256 ≤ i) (hd : ∀ j, j < 256 → d.getLsbD j = p j) : c = d := cl_ext fun j hj => by
  rw [h j hj, hd j hj]
  have : j < i := by omega
  simp [this]
theorem Part.or {a b c : Cl} {i : Nat} (h : Part (fun j => a.getLsbD j || b.getLsbD j) i c) (hi : 256 ≤ i) : c = a ||| b := h.eq hi fun j _ => by rw [BitVec.getLsbD_or]
theorem Part.and {a b c : Cl} {i : Nat} (h : Part (fun j => a.getLsbD j && b.getLsbD j) i c) (hi : 256 ≤ i) : c = a &&& b := h.eq hi fun j _ => by rw [BitVec.getLsbD_and]
theorem Part.not {a c : Cl} {i : Nat} (h : Part (fun j => !a.getLsbD j) i c) (hi : 256 ≤ i) : c = ~~~a := h.eq hi fun j hj => by rw [BitVec.getLsbD_not]; simp [hj]
/-- from lo on, below x -/
def rngTo (lo : Nat) : Nat → Cl
  | 0 => 0
  | x + 1 => if lo ≤ x then rngTo lo x ||| bit x else 0
def rng (lo hi : Nat) : Cl := rngTo lo (hi + 1)
theorem rngTo_low {lo x : Nat} (h : x ≤ lo) : rngTo lo x = 0 := by
  cases x with
  | zero => rfl
  | succ x => simp [rngTo]; omega
theorem rngTo_step {lo x : Nat} (h : lo ≤ x) : rngTo lo (x + 1) = rngTo lo x ||| bit x := by simp [rngTo, h]
theorem rngTo_get (lo : Nat) : ∀ (x j : Nat), j < 256 → (rngTo lo x).getLsbD j = (decide (lo ≤ j) && decide (j < x))
  | 0, j, _ => by simp [rngTo]
  | x + 1, j, hj => by
    unfold rngTo
    split
    · rename_i h
      rw [BitVec.getLsbD_or, bit_get hj, rngTo_get lo x j hj]
      by_cases e : j = x
      · subst e; simp [h]
      · have : (j < x + 1) = (j < x) := by simp; omega
        simp [e, this]
    · rename_i h
      have : ¬ (lo ≤ j ∧ j < x + 1) := by omega
      simp; omega
theorem rng_get {lo hi j : Nat} (hj : j < 256) : (rng lo hi).getLsbD j = (decide (lo ≤ j) && decide (j ≤ hi)) := by
  rw [rng, rngTo_get _ _ _ hj]
  have : (j < hi + 1) = (j ≤ hi) := by simp; omega
  simp only [this]
theorem rng_end {lo hi x : Nat} (h1 : lo ≤ x) (h2 : hi < x) (h3 : x ≤ max lo (hi + 1)) : rngTo lo x = rng lo hi := by
  apply cl_ext
  intro j hj
  rw [rngTo_get _ _ _ hj, rng_get hj]
  by_cases h : lo ≤ j
  · have : (j < x) = (j ≤ hi) := by simp; omega
    simp [h, this]
  · simp [h]
def ofL (l : List UInt8) : Cl := l.foldl (fun c b => c ||| bit b.toNat) 0
theorem ofL_step {l : List UInt8} {i : Nat} (h : i < l.length) : ofL (l.take (i + 1)) = ofL (l.take i) ||| bit l[i].toNat := by
  unfold ofL
  rw [List.take_add_one, List.getElem?_eq_getElem h, Option.toList_some, List.foldl_append]
  rfl
theorem ofL_all {l : List UInt8} {i : Nat} (h : l.length ≤ i) : ofL (l.take i) = ofL l := by rw [List.take_of_length_le h]
def sizeTo (c : Cl) (i : Nat) : Nat := (List.range i).countP c.getLsbD
def size (c : Cl) : Nat := sizeTo c 256
theorem sizeTo_step (c : Cl) (i : Nat) : sizeTo c (i + 1) = sizeTo c i + if c.getLsbD i then 1 else 0 := by
  unfold sizeTo
  rw [List.range_succ, List.countP_append]
  simp [List.countP_cons]
theorem sizeTo_le (c : Cl) (i : Nat) : sizeTo c i ≤ i := by
  have := List.countP_le_length (p := c.getLsbD) (l := List.range i)
  simpa [sizeTo] using this
def memsTo (c : Cl) (i : Nat) : List Nat := (List.range i).filter c.getLsbD
def mems (c : Cl) : List Nat := memsTo c 256
theorem memsTo_yes {c : Cl} {i : Nat} (h : c.getLsbD i = true) : memsTo c (i + 1) = memsTo c i ++ [i] := by
  unfold memsTo; rw [List.range_succ, List.filter_append]; simp [h]
theorem memsTo_no {c : Cl} {i : Nat} (h : c.getLsbD i = false) : memsTo c (i + 1) = memsTo c i := by
  unfold memsTo; rw [List.range_succ, List.filter_append]; simp [h]
theorem memsTo_lt {c : Cl} {i b : Nat} (h : b ∈ memsTo c i) : b < i ∧ c.getLsbD b = true := by
  simpa [memsTo] using h
theorem memsTo_len (c : Cl) (i : Nat) : (memsTo c i).length ≤ i := by
  have := List.length_filter_le c.getLsbD (List.range i)
  simpa [memsTo] using this
/-- a byte, encoded by its number -/
def Eby (b : Nat) : List Value := [.int .u8 b]
instance : Enc Eby 1 := ⟨fun _ => rfl, fun _ _ h => by simp [Eby] at h; subst h; rfl⟩
end Go.HL.Kl
