/- Part of the proofs over this seat: see the text that holds the theorem. Conditions: each theorem bears its own. -/
import Derived.Test.YtopmnmigpbdddaaDoorHlB
import Derived.Lib.TrailingZeros
import Derived.Test.YtopmnmigpbdddaaDoorProg
import Derived.KernelRfl
namespace Go.Tab
open Go Go.HL

/-- the first j places of l hold f -/
structure Fill {α : Type} (f : Nat → α) (n j : Nat) (l : List α) : Prop where
  len : l.length = n
  get : ∀ i, i < j → l[i]? = some (f i)
theorem Fill.zero {α : Type} {f : Nat → α} {l : List α} {n : Nat} (h : l.length = n) : Fill f n 0 l := ⟨h, fun _ h => by omega⟩
theorem Fill.step {α : Type} {f : Nat → α} {n j : Nat} {l : List α} (h : Fill f n j l) (hj : j < n) {y : α} (hy : y = f j) : Fill f n (j + 1) (l.set j y) := by
  refine ⟨by simp [h.len], fun i hi => ?_⟩
  subst hy
  by_cases e : j = i
  · subst e; rw [List.getElem?_set_self (by rw [h.len]; exact hj)]
  · rw [List.getElem?_set_ne e]; exact h.get i (by omega)
theorem Fill.done {α : Type} {f : Nat → α} {n j : Nat} {l : List α} (h : Fill f n j l) (hj : n ≤ j) : l = (List.range n).map f := by
  apply List.ext_getElem?
  intro i
  by_cases hi : i < n
  · rw [h.get i (by omega), List.getElem?_map, List.getElem?_range hi]; rfl
  · rw [List.getElem?_eq_none (by rw [h.len]; omega), List.getElem?_eq_none (by simp; omega)]

def idT : List UInt8 := (List.range 256).map UInt8.ofNat
def at0 (t : List UInt8) (i : Nat) : UInt8 := t.getD i 0
def thenT (t u : List UInt8) : List UInt8 := (List.range 256).map fun i => at0 u (at0 t i).toNat
def applyT (t b : List UInt8) : List UInt8 := (List.range b.length).map fun i => at0 t (at0 b i).toNat
/-- the table of the first j pairs -/
def newAt (f t : List UInt8) : Nat → Option (List UInt8)
  | 0 => some idT
  | j + 1 => if at0 f j ∈ f.take j then none else (newAt f t j).map (·.set (at0 f j).toNat (at0 t j))
def newR (f t : List UInt8) : Option (List UInt8) := if f.length = t.length then newAt f t f.length else none
def zT : List UInt8 := List.replicate 256 0
/-- what New answers -/
def tabV (r : Option (List UInt8)) : Value := .tuple #[.agg (flat Eb (r.getD zT)).toArray, .int .i64 (if r.isSome then 0 else 60)]

def xyT : List UInt8 := (idT.set 97 120).set 98 121
attribute [irreducible] idT thenT applyT xyT
end Go.Tab

/- Part of the proofs over this seat: see the text that holds the theorem. Conditions: each theorem bears its own. -/
namespace Go.Tab
open Go Go.HL

def pIdx (t : List UInt8) (j : Nat) : List Nat := (List.range j).filter fun i => decide (at0 t i ≠ UInt8.ofNat i)
def pF (t : List UInt8) (j : Nat) : List UInt8 := (pIdx t j).map UInt8.ofNat
def pT (t : List UInt8) (j : Nat) : List UInt8 := (pIdx t j).map (at0 t)
end Go.Tab

/- Part of the proofs over this seat: see the text that holds the theorem. Conditions: each theorem bears its own. -/
namespace Go.Tab
open Go Go.HL

def wideF (xs : List UInt8) (i : Nat) : UInt8 := if i < xs.length then at0 xs i else UInt8.ofNat (279 + 7 * i + 3)
def wide (xs : List UInt8) : List UInt8 := (List.range (xs.length + 64)).map (wideF xs)
attribute [irreducible] wide wideF
end Go.Tab

/- Part of the proofs over this seat: see the text that holds the theorem. Conditions: each theorem bears its own. -/
namespace Go.Tab
open Go Go.HL

structure Mk where
  b : UInt8
  p : Bool
  deriving DecidableEq
def Em (m : Mk) : List Value := [.int .u8 m.b.toNat, .bool m.p]
instance : Enc Em 2 := ⟨fun _ => rfl, fun _ v h => by
  simp only [Em, List.mem_cons, List.not_mem_nil, or_false] at h
  rcases h with rfl | rfl <;> rfl⟩
def mk0 (ms : List Mk) (i : Nat) : Mk := ms.getD i ⟨0, false⟩
def wmF (xs : List Mk) (i : Nat) : Mk := if i < xs.length then mk0 xs i else ⟨UInt8.ofNat (279 + 7 * i + 3), true⟩
def wm (xs : List Mk) : List Mk := (List.range (xs.length + 64)).map (wmF xs)
def stepM (s : List UInt8 × Bool) (m : Mk) : Option (List UInt8 × Bool) :=
  if s.2 then
    if m.p then none else if m.b = 92 then some (s.1 ++ [92], false) else if m.b = 110 then some (s.1 ++ [10], false) else none
  else if m.p = false ∧ m.b = 92 then some (s.1, true) else some (s.1 ++ [m.b], false)
def runM (ms : List Mk) : Nat → Option (List UInt8 × Bool)
  | 0 => some ([], false)
  | j + 1 => (runM ms j).bind fun s => stepM s (mk0 ms j)
def rowM (ms : List Mk) : Option (List UInt8) := (runM ms ms.length).bind fun s => if s.2 then none else some s.1
section
variable {acc : List UInt8} {m : Mk}
end
def parseR (l m : List Mk) : Option (List UInt8) := (rowM l).bind fun f => (rowM m).bind fun t => newR f t
attribute [irreducible] wm wmF mk0
end Go.Tab
namespace Go.Tab
open Go Go.HL
end Go.Tab

/- Part of the proofs over this seat: see the text that holds the theorem. Conditions: each theorem bears its own. -/
namespace Go.HL.Kl
open Go Go.HL

/-! classes: sets of bytes, as numbers of 256 bits -/
abbrev Cl := BitVec 256
def wd (c : Cl) (i : Nat) : BitVec 64 := c.extractLsb' (64 * i) 64
def Ew (w : BitVec 64) : Value := .int .u64 w.toNat
def Ec (c : Cl) : List Value := [Ew (wd c 0), Ew (wd c 1), Ew (wd c 2), Ew (wd c 3)]
instance : Enc Ec 4 := ⟨fun _ => rfl, fun c v hv => by simp [Ec, Ew] at hv; rcases hv with rfl | rfl | rfl | rfl <;> rfl⟩
theorem Ec_one (c : Cl) : ∀ v ∈ Ec c, v.oneCell' = true := Enc.one c
theorem Ec_get (c : Cl) {i : Nat} (h : i < 4) : (Ec c)[i]? = some (Ew (wd c i)) := by
  match i, h with
  | 0, _ => rfl
  | 1, _ => rfl
  | 2, _ => rfl
  | 3, _ => rfl
def setw (c : Cl) (i : Nat) (w : BitVec 64) : Cl := (c &&& ~~~ ((BitVec.allOnes 64).setWidth 256 <<< (64 * i))) ||| (w.setWidth 256 <<< (64 * i))
theorem setw_get (c : Cl) {i : Nat} (w : BitVec 64) (_hi : i < 4) {j : Nat} (hj : j < 256) : (setw c i w).getLsbD j = if 64 * i ≤ j ∧ j < 64 * i + 64 then w.getLsbD (j - 64 * i) else c.getLsbD j := by
  simp only [setw, BitVec.getLsbD_or, BitVec.getLsbD_and, BitVec.getLsbD_not, BitVec.getLsbD_shiftLeft, BitVec.getLsbD_setWidth, BitVec.getLsbD_allOnes, hj, decide_true, Bool.true_and]
  by_cases h1 : j < 64 * i
  · simp [h1]; omega
  · have h2 : 64 * i ≤ j := by omega
    by_cases h3 : j < 64 * i + 64
    · have h4 : j - 64 * i < 64 := by omega
      have h5 : j - 64 * i < 256 := by omega
      simp [h1, h2, h3, h4, h5]
    · have h4 : ¬ (j - 64 * i < 64) := by omega
      have h5 : w.getLsbD (j - 64 * i) = false := BitVec.getLsbD_of_ge _ _ (by omega)
      simp [h1, h3, h4, h5]
theorem wd_get (c : Cl) (i : Nat) {j : Nat} (hj : j < 64) : (wd c i).getLsbD j = c.getLsbD (64 * i + j) := by
  simp [wd, hj]
theorem wd_setw (c : Cl) {i k : Nat} (w : BitVec 64) (hi : i < 4) (hk : k < 4) : wd (setw c i w) k = if i = k then w else wd c k := by
  apply BitVec.eq_of_getLsbD_eq
  intro j hj
  rw [wd_get _ _ hj, setw_get _ _ hi (by omega)]
  by_cases e : i = k
  · subst e
    have : 64 * i + j - 64 * i = j := by omega
    rw [if_pos (by omega), if_pos rfl, this]
  · rw [if_neg (by omega), if_neg e, wd_get _ _ hj]
theorem Ec_set (c : Cl) {i : Nat} (w : BitVec 64) (hi : i < 4) : (Ec c).set i (Ew w) = Ec (setw c i w) := by
  simp only [Ec, wd_setw c w hi (by decide : 0 < 4), wd_setw c w hi (by decide : 1 < 4), wd_setw c w hi (by decide : 2 < 4), wd_setw c w hi (by decide : 3 < 4)]
  match i, hi with
  | 0, _ => rfl
  | 1, _ => rfl
  | 2, _ => rfl
  | 3, _ => rfl
theorem ext_wd {c d : Cl} (h : ∀ i, i < 4 → wd c i = wd d i) : c = d := by
  apply BitVec.eq_of_getLsbD_eq
  intro j hj
  have h1 := congrArg (fun w => BitVec.getLsbD w (j % 64)) (h (j / 64) (by omega))
  simp only [wd_get _ _ (show j % 64 < 64 by omega)] at h1
  have : 64 * (j / 64) + j % 64 = j := by omega
  rwa [this] at h1
theorem Ec_inj {c d : Cl} (h : Ec c = Ec d) : c = d := by
  simp only [Ec, Ew, List.cons.injEq, Value.int.injEq, true_and, and_true] at h
  obtain ⟨h0, h1, h2, h3⟩ := h
  refine ext_wd fun i hi => ?_
  match i, hi with
  | 0, _ => exact BitVec.eq_of_toNat_eq (by omega)
  | 1, _ => exact BitVec.eq_of_toNat_eq (by omega)
  | 2, _ => exact BitVec.eq_of_toNat_eq (by omega)
  | 3, _ => exact BitVec.eq_of_toNat_eq (by omega)
/-- the numbers of a class, as the comparison sees them -/
def Ic (c : Cl) : List Int := [((wd c 0).toNat : Int), ((wd c 1).toNat : Int), ((wd c 2).toNat : Int), ((wd c 3).toNat : Int)]
theorem Ec_ints (c : Cl) : Ec c = intsV .u64 (Ic c) := rfl
theorem Ic_inj {c d : Cl} : Ic c = Ic d ↔ c = d := ⟨fun h => Ec_inj (by rw [Ec_ints, Ec_ints, h]), fun h => by rw [h]⟩

/-! one byte -/
def bit (x : Nat) : Cl := 1#256 <<< x
theorem bit_get {x j : Nat} (hj : j < 256) : (bit x).getLsbD j = decide (j = x) := by
  simp only [bit, BitVec.getLsbD_shiftLeft, hj, decide_true, Bool.true_and, BitVec.getLsbD_one]
  by_cases h : j = x
  · subst h; simp
  · by_cases h2 : j < x
    · simp [h, h2]
    · have : ¬ (j - x = 0) := by omega
      simp [h, h2]; omega
theorem with_eq (c : Cl) {x : Nat} (hx : x < 256) : setw c (x / 64) (wd c (x / 64) ||| (1#64 <<< (x % 64))) = c ||| bit x := by
  apply BitVec.eq_of_getLsbD_eq
  intro j hj
  rw [setw_get _ _ (by omega) hj, BitVec.getLsbD_or (x := c), bit_get hj]
  by_cases h : 64 * (x / 64) ≤ j ∧ j < 64 * (x / 64) + 64
  · rw [if_pos h, BitVec.getLsbD_or, wd_get _ _ (by omega)]
    have e : 64 * (x / 64) + (j - 64 * (x / 64)) = j := by omega
    rw [e]
    congr 1
    simp only [BitVec.getLsbD_shiftLeft, BitVec.getLsbD_one]
    by_cases h2 : j = x
    · have h3 : j - 64 * (x / 64) = x % 64 := by omega
      simp [h2]; omega
    · have h3 : ¬ (j - 64 * (x / 64) = x % 64) := by omega
      by_cases h4 : j - 64 * (x / 64) < x % 64
      · simp [h2, h4]
      · have h5 : ¬ (j - 64 * (x / 64) - x % 64 = 0) := by omega
        simp [h2, h4]; omega
  · rw [if_neg h]
    have h2 : ¬ (j = x) := by omega
    simp [h2]

/-! the program's arithmetic on bytes and words -/
theorem wrap_u64 (n : Int) : IntKind.u64.wrap n = n % 18446744073709551616 := by simp [IntKind.wrap, IntKind.signed, IntKind.bits]
theorem wrap64 (w : BitVec 64) : IntKind.u64.wrap (w.toNat : Int) = w.toNat := by
  have := w.isLt
  rw [wrap_u64]; omega
theorem of64 (w : BitVec 64) : BitVec.ofInt IntKind.u64.bits (w.toNat : Int) = w := by
  apply BitVec.eq_of_toNat_eq
  have := w.isLt
  simp [IntKind.bits]
theorem v_or (a b : BitVec 64) : Value.int .u64 (IntKind.u64.wrap (BitVec.ofInt IntKind.u64.bits (a.toNat : Int) ||| BitVec.ofInt IntKind.u64.bits (b.toNat : Int)).toNat) = Ew (a ||| b) := by
  rw [of64, of64]; exact congrArg _ (wrap64 _)
/-- x & 63, x % 64 -/
theorem v_and63 {x : Nat} (hx : x < 256) : IntKind.u8.wrap (BitVec.ofInt IntKind.u8.bits (x : Int) &&& BitVec.ofInt IntKind.u8.bits 63).toNat = ((x % 64 : Nat) : Int) := by
  have : ∀ x : Fin 256, IntKind.u8.wrap (BitVec.ofInt IntKind.u8.bits (x.val : Int) &&& BitVec.ofInt IntKind.u8.bits 63).toNat = ((x.val % 64 : Nat) : Int) := by decide +kernel
  exact this ⟨x, hx⟩
theorem v_shl1 {k : Nat} (hk : k < 64) : Value.int .u64 (IntKind.u64.wrap (1 * 2 ^ (min ((k : Nat) : Int).toNat IntKind.u64.bits))) = Ew (1#64 <<< k) := by
  have e : min ((k : Nat) : Int).toNat IntKind.u64.bits = k := by simp [IntKind.bits]; omega
  rw [e]
  have h1 : (2 : Nat) ^ k < 2 ^ 64 := Nat.pow_lt_pow_right (by decide) hk
  have h2 : ((2 : Int) ^ k) = ((2 ^ k : Nat) : Int) := by simp
  simp only [Ew, Value.int.injEq, true_and, Int.one_mul]
  rw [h2, wrap_u64]
  have h3 : (1#64 <<< k).toNat = 2 ^ k := by
    rw [BitVec.toNat_shiftLeft, BitVec.toNat_ofNat, Nat.shiftLeft_eq]
    simp
    exact h1
  rw [h3]; omega
/-- a word's bit, as Has reads it -/
theorem has_eq (w : BitVec 64) {k : Nat} (hk : k < 64) : decide (IntKind.u64.wrap (BitVec.ofInt IntKind.u64.bits ((w.toNat : Int).fdiv (2 ^ (min ((k : Nat) : Int).toNat IntKind.u64.bits))) &&& BitVec.ofInt IntKind.u64.bits 1).toNat = 1) = w.getLsbD k := by
  have e : min ((k : Nat) : Int).toNat IntKind.u64.bits = k := by simp [IntKind.bits]; omega
  rw [e]
  have h2 : ((2 : Int) ^ k) = ((2 ^ k : Nat) : Int) := by simp
  have h3 : (w.toNat : Int).fdiv (2 ^ k) = ((w >>> k).toNat : Int) := by
    rw [h2, Int.fdiv_eq_ediv_of_nonneg _ (Int.natCast_nonneg _), BitVec.toNat_ushiftRight, Nat.shiftRight_eq_div_pow]; rfl
  have h4 : BitVec.ofInt IntKind.u64.bits 1 = 1#64 := rfl
  rw [h3, of64, h4]
  have h6 : IntKind.u64.wrap ((w >>> k &&& 1#64).toNat : Int) = ((w >>> k &&& 1#64).toNat : Int) := wrap64 _
  refine (congrArg (fun z => decide (z = 1)) h6).trans ?_
  have h5 : (w >>> k &&& 1#64).toNat = if w.getLsbD k then 1 else 0 := by
    have := BitVec.and_one_eq_setWidth_ofBool_getLsbD (x := w >>> k)
    rw [this, BitVec.getLsbD_ushiftRight, Nat.add_zero]
    cases w.getLsbD k <;> rfl
  rw [h5]
  cases w.getLsbD k <;> simp
end Go.HL.Kl

/- Part of the proofs over this seat: see the text that holds the theorem. Conditions: each theorem bears its own. -/
namespace Go.HL.Kl
open Go Go.HL

theorem shr6_u8 {x : Nat} (hx : x < 256) : ((x : Int)).fdiv (2 ^ (min (6 : Int).toNat IntKind.u8.bits)) = ((x / 64 : Nat) : Int) := by
  have : ∀ x : Fin 256, ((x.val : Int)).fdiv (2 ^ (min (6 : Int).toNat IntKind.u8.bits)) = ((x.val / 64 : Nat) : Int) := by decide +kernel
  exact this ⟨x, hx⟩
theorem wd_bit (c : Cl) {x : Nat} (_hx : x < 256) : (wd c (x / 64)).getLsbD (x % 64) = c.getLsbD x := by
  rw [wd_get _ _ (by omega)]
  congr 1; omega
theorem hasB (c : Cl) {x : Nat} (hx : x < 256) : decide (IntKind.u64.wrap (BitVec.ofInt IntKind.u64.bits (((wd c (x / 64)).toNat : Int).fdiv (2 ^ (min (((x % 64 : Nat) : Nat) : Int).toNat IntKind.u64.bits))) &&& BitVec.ofInt IntKind.u64.bits 1).toNat = 1) = c.getLsbD x := by
  rw [has_eq _ (by omega), wd_bit c hx]
theorem Ec_zero : Ec 0#256 = [.int .u64 0, .int .u64 0, .int .u64 0, .int .u64 0] := by simp [Ec, Ew, wd]

theorem Ic_len (c : Cl) : (Ic c).length = 4 := rfl
section
variable {P : Program} {κ : Cx} {L : Loc} {H : Hp} {ty t t' : TypeId} {x y : Operand}
end

/-! word by word -/
def mapW (f : Nat → BitVec 64 → BitVec 64) (c : Cl) : Nat → Cl
  | 0 => c
  | i + 1 => setw (mapW f c i) i (f i (wd (mapW f c i) i))
/-- so far: the bytes below i of which p says yes -/
def Part (p : Nat → Bool) (i : Nat) (c : Cl) : Prop := ∀ j, j < 256 → c.getLsbD j = (decide (j < i) && p j)
/-- from lo on, below x -/
def rngTo (lo : Nat) : Nat → Cl
  | 0 => 0
  | x + 1 => if lo ≤ x then rngTo lo x ||| bit x else 0
def rng (lo hi : Nat) : Cl := rngTo lo (hi + 1)
def ofL (l : List UInt8) : Cl := l.foldl (fun c b => c ||| bit b.toNat) 0
theorem ofL_step {l : List UInt8} {i : Nat} (h : i < l.length) : ofL (l.take (i + 1)) = ofL (l.take i) ||| bit l[i].toNat := by
  unfold ofL
  rw [List.take_add_one, List.getElem?_eq_getElem h, Option.toList_some, List.foldl_append]
  rfl
theorem ofL_all {l : List UInt8} {i : Nat} (h : l.length ≤ i) : ofL (l.take i) = ofL l := by rw [List.take_of_length_le h]
def sizeTo (c : Cl) (i : Nat) : Nat := (List.range i).countP c.getLsbD
def size (c : Cl) : Nat := sizeTo c 256
def memsTo (c : Cl) (i : Nat) : List Nat := (List.range i).filter c.getLsbD
def mems (c : Cl) : List Nat := memsTo c 256
/-- a byte, encoded by its number -/
def Eby (b : Nat) : List Value := [.int .u8 b]
instance : Enc Eby 1 := ⟨fun _ => rfl, fun _ _ h => by simp [Eby] at h; subst h; rfl⟩
end Go.HL.Kl

/- Part of the proofs over this seat: see the text that holds the theorem. Conditions: each theorem bears its own. -/
namespace Go.HL.Kl
open Go Go.HL

/-! OnesCount64: the sums of the lanes -/
/-- n lanes of k bits -/
def pk (k : Nat) : Nat → (Nat → Nat) → Nat
  | 0, _ => 0
  | n + 1, f => 2 ^ k * pk k n (fun i => f (i + 1)) + f 0
/-- the bits, as lanes -/
def bt (w : BitVec 64) (i : Nat) : Nat := if w.getLsbD i then 1 else 0
def popW (w : BitVec 64) : Nat := (List.range 64).countP w.getLsbD
def sums (f : Nat → Nat) (i : Nat) : Nat := f (2 * i) + f (2 * i + 1)
/-- OnesCount64's sums, as the text has them -/
def oc1 (w : BitVec 64) : BitVec 64 := ((w >>> 1) &&& 6148914691236517205#64) + (w &&& 6148914691236517205#64)
def oc2 (w : BitVec 64) : BitVec 64 := ((w >>> 2) &&& 3689348814741910323#64) + (w &&& 3689348814741910323#64)
def oc3 (w : BitVec 64) : BitVec 64 := ((w >>> 4) + w) &&& 1085102592571150095#64
def oc4 (k : Nat) (w : BitVec 64) : BitVec 64 := w + (w >>> k)
def sm (f : Nat → Nat) : Nat → Nat
  | 0 => 0
  | n + 1 => sm f n + f n
end Go.HL.Kl

/- Part of the proofs over this seat: see the text that holds the theorem. Conditions: each theorem bears its own. -/
namespace Go.HL.Kl
open Go Go.HL

/-! the size, word by word -/
/-- the members of a word, from 64 i on -/
def wmem (i : Nat) (w : BitVec 64) : List Nat := ((List.range 64).filter w.getLsbD).map fun j => 64 * i + j
/-- what is still to come, at word i with w of it left -/
def restW (c : Cl) (i : Nat) (w : BitVec 64) : List Nat := wmem i w ++ (mems c).drop (memsTo c (64 * i + 64)).length
end Go.HL.Kl

/- Part of the proofs over this seat: see the text that holds the theorem. Conditions: each theorem bears its own. -/
namespace Go.HL.Kl
open Go Go.HL
end Go.HL.Kl

/- Part of the proofs over this seat: see the text that holds the theorem. Conditions: each theorem bears its own. -/
namespace Go.HL.Kl
open Go Go.HL
/-- a run, encoded -/
def Er (r : Nat × Nat) : List Value := [.int .u8 r.1, .int .u8 r.2]
instance : Enc Er 2 := ⟨fun _ => rfl, fun _ v hv => by simp [Er] at hv; rcases hv with rfl | rfl <;> rfl⟩
def alike (l : List Cl) (x y : Nat) : Bool := l.all fun c => c.getLsbD x == c.getLsbD y
end Go.HL.Kl

/- Part of the proofs over this seat: see the text that holds the theorem. Conditions: each theorem bears its own. -/
namespace Go.HL.Kl
open Go Go.HL
/-- the table of TrailingZeros64, as it lies in its variable -/
def tabV : List Value := Lib.deBruijn64tab.map fun n : Nat => Value.int .u8 n
/-- the table lies there, apart from S -/
def Tb (S : Hp) (w : World) : Prop := RdP w 0 0 tabV ∧ 0 ∉ keys S
def least (c : Cl) : Nat := (mems c).headD 256
end Go.HL.Kl

/- Part of the proofs over this seat: see the text that holds the theorem. Conditions: each theorem bears its own. -/
namespace Go.HL.Kl
open Go Go.HL
def lastR (l : List (Nat × Nat)) : Nat × Nat := l.getD (l.length - 1) (0, 0)
/-- the runs, byte by byte -/
def stepB (l : List (Nat × Nat)) (b : Nat) : List (Nat × Nat) := if 0 < l.length ∧ (lastR l).2 + 1 = b then l.set (l.length - 1) ((lastR l).1, b) else l ++ [(b, b)]
def runsB (p : List Nat) : List (Nat × Nat) := p.foldl stepB []
def runs (c : Cl) : List (Nat × Nat) := runsB (mems c)
end Go.HL.Kl

/- Part of the proofs over this seat: see the text that holds the theorem. Conditions: each theorem bears its own. -/
namespace Go.HL.Kl
open Go Go.HL

/-! atoms -/
def ref1 (c a : Cl) : List Cl := if a &&& c = 0#256 ∨ a &&& ~~~c = 0#256 then [a] else [a &&& c, a &&& ~~~c]
def refine (out : List Cl) (c : Cl) : List Cl := out.flatMap (ref1 c)
def parts (l : List Cl) : List Cl := l.foldl refine [rng 0 255]
/-- apart from one another, none empty -/
structure Dj (l : List Cl) : Prop where
  ne : ∀ a ∈ l, a ≠ 0#256
  ap : l.Pairwise (fun a b => a &&& b = 0#256)
/-- the bytes that l does not tell from x -/
def clsTo (l : List Cl) (x : Nat) : Nat → Cl
  | 0 => 0
  | i + 1 => if alike l x i then clsTo l x i ||| bit i else clsTo l x i
def cls (l : List Cl) (x : Nat) : Cl := clsTo l x 256
structure PI (l ps : List Cl) : Prop where
  dj : Dj ps
  eq : ∀ a ∈ ps, ∀ x, a.getLsbD x = true → a = cls l x
  all : ∀ x, x < 256 → ∃ a ∈ ps, a.getLsbD x = true
def swap (l : List Cl) (k : Nat) : List Cl := (l.set (k + 1) (l.getD k 0)).set k (l.getD (k + 1) 0)
def sink (l : List Cl) : Nat → List Cl
  | 0 => l
  | k + 1 => if least (l.getD (k + 1) 0) < least (l.getD k 0) then sink (swap l k) k else l
def sortTo (l : List Cl) : Nat → List Cl
  | 0 => l
  | i + 1 => sink (sortTo l i) i
def atoms (l : List Cl) : List Cl := sortTo (parts l) (parts l).length
def isFirst (l : List Cl) (x : Nat) (i : Nat) : Bool := (List.range i).all fun y => !alike l x y || decide (x ≤ y)
def rAtomsTo (l : List Cl) (i : Nat) : List Cl := ((List.range i).filter (isFirst l · 256)).map (cls l)
def rAtoms (l : List Cl) : List Cl := rAtomsTo l 256
end Go.HL.Kl

/- Part of the proofs over this seat: see the text that holds the theorem. Conditions: each theorem bears its own. -/
namespace Go.HL
open Go Go.Tab
section
variable {P : Program} {κ : Cx} {L : HL.Loc} {H : Hp} {ty t t' : TypeId} {x y : Operand}
theorem s_indexStr {s : ByteArray} {k : IntKind} {j : Nat} [TU P t .string] (hj : j < s.data.toList.length) (hx : ev L x = some (.string s)) (hy : ev L y = some (.int k j)) :
    Step P κ (.index t x y) ty L H (.int .u8 (s.data.toList[j]).toNat) :=
  ⟨fun ρ w d pos af g hρ _ => by
    have hs : j < s.size := by simpa using hj
    have h1 : s[j]? = some (s.data.toList[j]) := by
      rw [getElem?_pos s j hs]
      rfl
    have h0 : (0 : Int) ≤ (j : Int) := by omega
    simp [execOp, hρ _ _ hx, hρ _ _ hy, Instr.index, asIntOf, run_u, h1]⟩
end
end Go.HL

/- Part of the proofs over this seat: see the text that holds the theorem. Conditions: each theorem bears its own. -/
namespace Go.Proofs.YtopmnmigpbdddaaDoor
open Go.HL Go.Proofs

instance : Mixed Tryd.prog := ⟨by kernel_rfl⟩
instance g3 : TG Tryd.prog 3 true := ⟨by kernel_rfl⟩
instance u3 : TU Tryd.prog 3 ((Go.TypeDesc.int Go.IntKind.i64)) := ⟨Tryd.underlying3⟩
instance g4 : TG Tryd.prog 4 true := ⟨by kernel_rfl⟩
instance g5 : TG Tryd.prog 5 true := ⟨by kernel_rfl⟩
instance u5 : TU Tryd.prog 5 ((Go.TypeDesc.int Go.IntKind.u8)) := ⟨Tryd.underlying5⟩
instance u9 : TU Tryd.prog 9 (Go.TypeDesc.string) := ⟨Tryd.underlying9⟩
instance g22 : TG Tryd.prog 22 true := ⟨by kernel_rfl⟩
instance u22 : TU Tryd.prog 22 ((Go.TypeDesc.slice 5)) := ⟨Tryd.underlying22⟩
instance g23 : TG Tryd.prog 23 true := ⟨by kernel_rfl⟩
instance u23 : TU Tryd.prog 23 ((Go.TypeDesc.pointer 28)) := ⟨Tryd.underlying23⟩
instance g24 : TG Tryd.prog 24 true := ⟨by kernel_rfl⟩
instance u24 : TU Tryd.prog 24 ((Go.TypeDesc.slice 51)) := ⟨Tryd.underlying24⟩
instance g26 : TG Tryd.prog 26 true := ⟨by kernel_rfl⟩
instance b28 : TB Tryd.prog 28 [(0, 1), (1, 1), (2, 1)] := ⟨by kernel_rfl⟩
instance s28 : TS Tryd.prog 28 [(24, 0), (26, 1), (3, 2)] := ts_of (by kernel_rfl)
instance u29 : TU Tryd.prog 29 ((Go.TypeDesc.slice 55)) := ⟨Tryd.underlying29⟩
instance g34 : TG Tryd.prog 34 true := ⟨by kernel_rfl⟩
instance u34 : TU Tryd.prog 34 ((Go.TypeDesc.slice 29)) := ⟨Tryd.underlying34⟩
instance u36 : TU Tryd.prog 36 ((Go.TypeDesc.func #[52] #[] Bool.false)) := ⟨Tryd.underlying36⟩
instance g40 : TG Tryd.prog 40 true := ⟨by kernel_rfl⟩
instance u40 : TU Tryd.prog 40 ((Go.TypeDesc.slice 113)) := ⟨Tryd.underlying40⟩
instance g42 : TG Tryd.prog 42 false := ⟨by kernel_rfl⟩
instance b42 : TB Tryd.prog 42 [(0, 1)] := ⟨by kernel_rfl⟩
instance s42 : TS Tryd.prog 42 [(40, 0)] := ts_of (by kernel_rfl)
instance g46 : TG Tryd.prog 46 true := ⟨by kernel_rfl⟩
instance u46 : TU Tryd.prog 46 ((Go.TypeDesc.int Go.IntKind.i8)) := ⟨Tryd.underlying46⟩
instance g47 : TG Tryd.prog 47 true := ⟨by kernel_rfl⟩
instance u47 : TU Tryd.prog 47 ((Go.TypeDesc.int Go.IntKind.u64)) := ⟨Tryd.underlying47⟩
instance g49 : TG Tryd.prog 49 false := ⟨by kernel_rfl⟩
instance u49 : TU Tryd.prog 49 ((Go.TypeDesc.array 4 47)) := ⟨Tryd.underlying49⟩
instance g51 : TG Tryd.prog 51 false := ⟨by kernel_rfl⟩
instance e51 : EG Tryd.prog 51 := ⟨by kernel_rfl⟩
instance b51 : TB Tryd.prog 51 [(0, 1), (1, 4), (5, 1), (6, 1), (7, 1), (8, 1)] := ⟨by kernel_rfl⟩
instance tq51 : TQ Tryd.prog 51 [(46, 0), (49, 1), (3, 5), (3, 6), (3, 7), (3, 8)] := ⟨by kernel_rfl⟩
instance s51 : TS Tryd.prog 51 [(46, 0), (49, 1), (3, 5), (3, 6), (3, 7), (3, 8)] := ts_of (by kernel_rfl)
instance g55 : TG Tryd.prog 55 false := ⟨by kernel_rfl⟩
instance e55 : EG Tryd.prog 55 := ⟨by kernel_rfl⟩
instance b55 : TB Tryd.prog 55 [(0, 1), (1, 1)] := ⟨by kernel_rfl⟩
instance tq55 : TQ Tryd.prog 55 [(3, 0), (3, 1)] := ⟨by kernel_rfl⟩
instance s55 : TS Tryd.prog 55 [(3, 0), (3, 1)] := ts_of (by kernel_rfl)
instance g56 : TG Tryd.prog 56 true := ⟨by kernel_rfl⟩
instance g60 : TG Tryd.prog 60 false := ⟨by kernel_rfl⟩
instance b60 : TB Tryd.prog 60 [(0, 1), (1, 1)] := ⟨by kernel_rfl⟩
instance s60 : TS Tryd.prog 60 [(5, 0), (4, 1)] := ts_of (by kernel_rfl)
instance g61 : TG Tryd.prog 61 true := ⟨by kernel_rfl⟩
instance u61 : TU Tryd.prog 61 ((Go.TypeDesc.slice 60)) := ⟨Tryd.underlying61⟩
instance u63 : TU Tryd.prog 63 ((Go.TypeDesc.pointer 81)) := ⟨Tryd.underlying63⟩
instance g76 : TG Tryd.prog 76 true := ⟨by kernel_rfl⟩
instance u76 : TU Tryd.prog 76 ((Go.TypeDesc.slice 77)) := ⟨Tryd.underlying76⟩
instance g77 : TG Tryd.prog 77 true := ⟨by kernel_rfl⟩
instance g78 : TG Tryd.prog 78 true := ⟨by kernel_rfl⟩
instance u78 : TU Tryd.prog 78 ((Go.TypeDesc.slice 3)) := ⟨Tryd.underlying78⟩
instance g79 : TG Tryd.prog 79 true := ⟨by kernel_rfl⟩
instance u79 : TU Tryd.prog 79 ((Go.TypeDesc.slice 4)) := ⟨Tryd.underlying79⟩
instance b81 : TB Tryd.prog 81 [(0, 1), (1, 1), (2, 1), (3, 1), (4, 1), (5, 1), (6, 1)] := ⟨by kernel_rfl⟩
instance s81 : TS Tryd.prog 81 [(40, 0), (76, 1), (77, 2), (78, 3), (78, 4), (79, 5), (3, 6)] := ts_of (by kernel_rfl)
instance g84 : TG Tryd.prog 84 true := ⟨by kernel_rfl⟩
instance g86 : TG Tryd.prog 86 true := ⟨by kernel_rfl⟩
instance u86 : TU Tryd.prog 86 ((Go.TypeDesc.map 122 46)) := ⟨Tryd.underlying86⟩
instance g87 : TG Tryd.prog 87 true := ⟨by kernel_rfl⟩
instance g88 : TG Tryd.prog 88 true := ⟨by kernel_rfl⟩
instance b90 : TB Tryd.prog 90 [(0, 1), (1, 1), (2, 1), (3, 1), (4, 1), (5, 1)] := ⟨by kernel_rfl⟩
instance s90 : TS Tryd.prog 90 [(24, 0), (78, 1), (22, 2), (86, 3), (87, 4), (88, 5)] := ts_of (by kernel_rfl)
instance g113 : TG Tryd.prog 113 false := ⟨by kernel_rfl⟩
instance e113 : EG Tryd.prog 113 := ⟨by kernel_rfl⟩
instance b113 : TB Tryd.prog 113 [(0, 1), (1, 4), (5, 1), (6, 1)] := ⟨by kernel_rfl⟩
instance tq113 : TQ Tryd.prog 113 [(46, 0), (49, 1), (3, 5), (3, 6)] := ⟨by kernel_rfl⟩
instance s113 : TS Tryd.prog 113 [(46, 0), (49, 1), (3, 5), (3, 6)] := ts_of (by kernel_rfl)
instance b119 : TB Tryd.prog 119 [(0, 1), (1, 1), (2, 1)] := ⟨by kernel_rfl⟩
instance s119 : TS Tryd.prog 119 [(24, 0), (3, 1), (79, 2)] := ts_of (by kernel_rfl)
instance g122 : TG Tryd.prog 122 false := ⟨by kernel_rfl⟩
instance b122 : TB Tryd.prog 122 [(0, 1), (1, 1), (2, 1), (3, 1)] := ⟨by kernel_rfl⟩
instance tq122 : TQ Tryd.prog 122 [(3, 0), (3, 1), (3, 2), (3, 3)] := ⟨by kernel_rfl⟩
instance s122 : TS Tryd.prog 122 [(3, 0), (3, 1), (3, 2), (3, 3)] := ts_of (by kernel_rfl)
instance g132 : TG Tryd.prog 132 true := ⟨by kernel_rfl⟩
instance u132 : TU Tryd.prog 132 ((Go.TypeDesc.func #[4] #[24, 4] Bool.false)) := ⟨Tryd.underlying132⟩
instance u133 : TU Tryd.prog 133 ((Go.TypeDesc.array 256 132)) := ⟨Tryd.underlying133⟩
instance b135 : TB Tryd.prog 135 [(0, 1), (1, 1), (2, 1), (3, 1), (4, 1), (5, 256)] := ⟨by kernel_rfl⟩
instance s135 : TS Tryd.prog 135 [(4, 0), (61, 1), (3, 2), (79, 3), (3, 4), (133, 5)] := ts_of (by kernel_rfl)
instance g141 : TG Tryd.prog 141 true := ⟨by kernel_rfl⟩
instance g142 : TG Tryd.prog 142 true := ⟨by kernel_rfl⟩
instance i3 : TI Tryd.prog 3 1 8 := ti_of (by kernel_rfl)
instance i4 : TI Tryd.prog 4 1 1 := ti_of (by kernel_rfl)
instance i5 : TI Tryd.prog 5 1 1 := ti_of (by kernel_rfl)
instance i22 : TI Tryd.prog 22 1 24 := ti_of (by kernel_rfl)
instance i24 : TI Tryd.prog 24 1 24 := ti_of (by kernel_rfl)
instance i26 : TI Tryd.prog 26 1 16 := ti_of (by kernel_rfl)
instance i40 : TI Tryd.prog 40 1 24 := ti_of (by kernel_rfl)
instance i42 : TI Tryd.prog 42 1 24 := ti_of (by kernel_rfl)
instance i46 : TI Tryd.prog 46 1 1 := ti_of (by kernel_rfl)
instance i47 : TI Tryd.prog 47 1 8 := ti_of (by kernel_rfl)
instance i49 : TI Tryd.prog 49 4 32 := ti_of (by kernel_rfl)
instance i51 : TI Tryd.prog 51 9 72 := ti_of (by kernel_rfl)
instance i55 : TI Tryd.prog 55 2 16 := ti_of (by kernel_rfl)
instance i56 : TI Tryd.prog 56 1 8 := ti_of (by kernel_rfl)
instance i60 : TI Tryd.prog 60 2 2 := ti_of (by kernel_rfl)
instance i61 : TI Tryd.prog 61 1 24 := ti_of (by kernel_rfl)
instance i76 : TI Tryd.prog 76 1 24 := ti_of (by kernel_rfl)
instance i77 : TI Tryd.prog 77 1 2 := ti_of (by kernel_rfl)
instance i78 : TI Tryd.prog 78 1 24 := ti_of (by kernel_rfl)
instance i79 : TI Tryd.prog 79 1 24 := ti_of (by kernel_rfl)
instance i84 : TI Tryd.prog 84 1 8 := ti_of (by kernel_rfl)
instance i86 : TI Tryd.prog 86 1 8 := ti_of (by kernel_rfl)
instance i87 : TI Tryd.prog 87 1 8 := ti_of (by kernel_rfl)
instance i88 : TI Tryd.prog 88 1 8 := ti_of (by kernel_rfl)
instance i102 : TI Tryd.prog 102 2 16 := ti_of (by kernel_rfl)
instance i113 : TI Tryd.prog 113 7 56 := ti_of (by kernel_rfl)
instance i122 : TI Tryd.prog 122 4 32 := ti_of (by kernel_rfl)
instance i132 : TI Tryd.prog 132 1 8 := ti_of (by kernel_rfl)
instance i133 : TI Tryd.prog 133 256 2048 := ti_of (by kernel_rfl)
instance i141 : TI Tryd.prog 141 1 8 := ti_of (by kernel_rfl)
instance i142 : TI Tryd.prog 142 1 8 := ti_of (by kernel_rfl)
instance z3 : TZ Tryd.prog 3 (.int .i64 0) := tz_of (by kernel_rfl)
instance z4 : TZ Tryd.prog 4 (.bool false) := tz_of (by kernel_rfl)
instance z5 : TZ Tryd.prog 5 (.int .u8 0) := tz_of (by kernel_rfl)
instance z24 : TZ Tryd.prog 24 (.slice none 0 0) := tz_of (by kernel_rfl)
instance z28 : TZ Tryd.prog 28 (.agg [.slice none 0 0, .nilIface, .int .i64 0].toArray) := tz_of (by kernel_rfl)
instance z34 : TZ Tryd.prog 34 (.slice none 0 0) := tz_of (by kernel_rfl)
instance z40 : TZ Tryd.prog 40 (.slice none 0 0) := tz_of (by kernel_rfl)
instance z42 : TZ Tryd.prog 42 (.agg [.slice none 0 0].toArray) := tz_of (by kernel_rfl)
instance z44 : TZ Tryd.prog 44 (.int .i64 0) := tz_of (by kernel_rfl)
instance z46 : TZ Tryd.prog 46 (.int .i8 0) := tz_of (by kernel_rfl)
instance z49 : TZ Tryd.prog 49 (.agg [.int .u64 0, .int .u64 0, .int .u64 0, .int .u64 0].toArray) := tz_of (by kernel_rfl)
instance z51 : TZ Tryd.prog 51 (.agg [.int .i8 0, .int .u64 0, .int .u64 0, .int .u64 0, .int .u64 0, .int .i64 0, .int .i64 0, .int .i64 0, .int .i64 0].toArray) := tz_of (by kernel_rfl)
instance z55 : TZ Tryd.prog 55 (.agg [.int .i64 0, .int .i64 0].toArray) := tz_of (by kernel_rfl)
instance z56 : TZ Tryd.prog 56 (.int .i64 0) := tz_of (by kernel_rfl)
instance z60 : TZ Tryd.prog 60 (.agg [.int .u8 0, .bool false].toArray) := tz_of (by kernel_rfl)
instance z77 : TZ Tryd.prog 77 (.int .i16 0) := tz_of (by kernel_rfl)
instance z78 : TZ Tryd.prog 78 (.slice none 0 0) := tz_of (by kernel_rfl)
instance z81 : TZ Tryd.prog 81 (.agg [.slice none 0 0, .slice none 0 0, .int .i16 0, .slice none 0 0, .slice none 0 0, .slice none 0 0, .int .i64 0].toArray) := tz_of (by kernel_rfl)
instance z84 : TZ Tryd.prog 84 (.pointer none) := tz_of (by kernel_rfl)
instance z90 : TZ Tryd.prog 90 (.agg [.slice none 0 0, .slice none 0 0, .slice none 0 0, .map none, .nilFunc, .nilFunc].toArray) := tz_of (by kernel_rfl)
instance z102 : TZ Tryd.prog 102 (.agg [.int .i64 0, .int .i64 0].toArray) := tz_of (by kernel_rfl)
instance z113 : TZ Tryd.prog 113 (.agg [.int .i8 0, .int .u64 0, .int .u64 0, .int .u64 0, .int .u64 0, .int .i64 0, .int .i64 0].toArray) := tz_of (by kernel_rfl)
instance z119 : TZ Tryd.prog 119 (.agg [.slice none 0 0, .int .i64 0, .slice none 0 0].toArray) := tz_of (by kernel_rfl)
instance z122 : TZ Tryd.prog 122 (.agg [.int .i64 0, .int .i64 0, .int .i64 0, .int .i64 0].toArray) := tz_of (by kernel_rfl)
instance z135 : TZ Tryd.prog 135 (.agg [.bool false, .slice none 0 0, .int .i64 0, .slice none 0 0, .int .i64 0, .nilFunc, .nilFunc, .nilFunc, .nilFunc, .nilFunc, .nilFunc, .nilFunc, .nilFunc, .nilFunc, .nilFunc, .nilFunc, .nilFunc, .nilFunc, .nilFunc, .nilFunc, .nilFunc, .nilFunc, .nilFunc, .nilFunc, .nilFunc, .nilFunc, .nilFunc, .nilFunc, .nilFunc, .nilFunc, .nilFunc, .nilFunc, .nilFunc, .nilFunc, .nilFunc, .nilFunc, .nilFunc, .nilFunc, .nilFunc, .nilFunc, .nilFunc, .nilFunc, .nilFunc, .nilFunc, .nilFunc, .nilFunc, .nilFunc, .nilFunc, .nilFunc, .nilFunc, .nilFunc, .nilFunc, .nilFunc, .nilFunc, .nilFunc, .nilFunc, .nilFunc, .nilFunc, .nilFunc, .nilFunc, .nilFunc, .nilFunc, .nilFunc, .nilFunc, .nilFunc, .nilFunc, .nilFunc, .nilFunc, .nilFunc, .nilFunc, .nilFunc, .nilFunc, .nilFunc, .nilFunc, .nilFunc, .nilFunc, .nilFunc, .nilFunc, .nilFunc, .nilFunc, .nilFunc, .nilFunc, .nilFunc, .nilFunc, .nilFunc, .nilFunc, .nilFunc, .nilFunc, .nilFunc, .nilFunc, .nilFunc, .nilFunc, .nilFunc, .nilFunc, .nilFunc, .nilFunc, .nilFunc, .nilFunc, .nilFunc, .nilFunc, .nilFunc, .nilFunc, .nilFunc, .nilFunc, .nilFunc, .nilFunc, .nilFunc, .nilFunc, .nilFunc, .nilFunc, .nilFunc, .nilFunc, .nilFunc, .nilFunc, .nilFunc, .nilFunc, .nilFunc, .nilFunc, .nilFunc, .nilFunc, .nilFunc, .nilFunc, .nilFunc, .nilFunc, .nilFunc, .nilFunc, .nilFunc, .nilFunc, .nilFunc, .nilFunc, .nilFunc, .nilFunc, .nilFunc, .nilFunc, .nilFunc, .nilFunc, .nilFunc, .nilFunc, .nilFunc, .nilFunc, .nilFunc, .nilFunc, .nilFunc, .nilFunc, .nilFunc, .nilFunc, .nilFunc, .nilFunc, .nilFunc, .nilFunc, .nilFunc, .nilFunc, .nilFunc, .nilFunc, .nilFunc, .nilFunc, .nilFunc, .nilFunc, .nilFunc, .nilFunc, .nilFunc, .nilFunc, .nilFunc, .nilFunc, .nilFunc, .nilFunc, .nilFunc, .nilFunc, .nilFunc, .nilFunc, .nilFunc, .nilFunc, .nilFunc, .nilFunc, .nilFunc, .nilFunc, .nilFunc, .nilFunc, .nilFunc, .nilFunc, .nilFunc, .nilFunc, .nilFunc, .nilFunc, .nilFunc, .nilFunc, .nilFunc, .nilFunc, .nilFunc, .nilFunc, .nilFunc, .nilFunc, .nilFunc, .nilFunc, .nilFunc, .nilFunc, .nilFunc, .nilFunc, .nilFunc, .nilFunc, .nilFunc, .nilFunc, .nilFunc, .nilFunc, .nilFunc, .nilFunc, .nilFunc, .nilFunc, .nilFunc, .nilFunc, .nilFunc, .nilFunc, .nilFunc, .nilFunc, .nilFunc, .nilFunc, .nilFunc, .nilFunc, .nilFunc, .nilFunc, .nilFunc, .nilFunc, .nilFunc, .nilFunc, .nilFunc, .nilFunc, .nilFunc, .nilFunc, .nilFunc, .nilFunc, .nilFunc, .nilFunc, .nilFunc, .nilFunc, .nilFunc, .nilFunc, .nilFunc, .nilFunc, .nilFunc, .nilFunc, .nilFunc, .nilFunc, .nilFunc, .nilFunc, .nilFunc, .nilFunc, .nilFunc, .nilFunc, .nilFunc, .nilFunc, .nilFunc, .nilFunc, .nilFunc, .nilFunc, .nilFunc, .nilFunc, .nilFunc, .nilFunc, .nilFunc, .nilFunc, .nilFunc].toArray) := tz_of (by kernel_rfl)
instance z141 : TZ Tryd.prog 141 (.nilFunc) := tz_of (by kernel_rfl)
instance z142 : TZ Tryd.prog 142 (.nilFunc) := tz_of (by kernel_rfl)
end Go.Proofs.YtopmnmigpbdddaaDoor

/- Mathematics of regexes as lists of nodes: forests, and what the layer 5 asks of them. Conditions: none. -/
namespace Go.HL.Kl.Mc
open Go Go.HL Go.HL.Kl
/-- a node -/
structure Nd where
  op : Int
  set : Cl
  n : Int
  mn : Int
  mx : Int
  kids : Int
  deriving DecidableEq
def En (x : Nd) : List Value := .int .i8 x.op :: (Ec x.set ++ [.int .i64 x.n, .int .i64 x.mn, .int .i64 x.mx, .int .i64 x.kids])
instance : Enc En 9 := ⟨fun x => by simp [En, Enc.len], fun x v hv => by
  simp only [En, List.mem_cons, List.mem_append, List.not_mem_nil, or_false] at hv
  rcases hv with rfl | hv | rfl | rfl | rfl | rfl
  · rfl
  · exact Ec_one _ v hv
  all_goals rfl⟩
/-- may a node have these numbers? -/
def flds (x : Nd) : Bool :=
  decide (1 ≤ x.op ∧ x.op ≤ 8) && (decide (x.op = 1) || decide (x.set = 0)) && (decide (x.op = 7 ∨ x.op = 8) || decide (x.n = 0)) &&
  (if x.op = 6 then decide (0 ≤ x.mn ∧ x.mn ≤ 255 ∧ (x.mx = -1 ∨ x.mn ≤ x.mx ∧ x.mx ≤ 255)) else decide (x.mn = 0 ∧ x.mx = 0))
def kidsOk (x : Nd) : Bool :=
  if x.op = 6 ∨ x.op = 7 then decide (x.kids = 1) else if x.op = 4 then decide (x.kids = 0 ∨ 2 ≤ x.kids) else if x.op = 5 then decide (2 ≤ x.kids) else decide (x.kids = 0)
def ndOk (x : Nd) : Bool := flds x && kidsOk x
/-- forests: the first tree's node, what is in it, the others -/
inductive F
  | nil
  | nd (x : Nd) (ks r : F)
namespace F
def flat : F → List Nd
  | nil => []
  | nd x ks r => x :: (ks.flat ++ r.flat)
/-- trees -/
def num : F → Nat
  | nil => 0
  | nd _ _ r => r.num + 1
def size : F → Nat
  | nil => 0
  | nd _ ks r => ks.size + r.size + 1
def wf : F → Prop
  | nil => True
  | nd x ks r => ndOk x = true ∧ (ks.num : Int) = x.kids ∧ ks.wf ∧ r.wf
def depth : F → Nat
  | nil => 0
  | nd _ ks r => max (ks.depth + 1) r.depth
theorem flat_size : ∀ f : F, f.flat.length = f.size
  | nil => rfl
  | nd x ks r => by simp only [flat, List.length_cons, List.length_append, flat_size ks, flat_size r, size]
end F
end Go.HL.Kl.Mc

/- Mathematics of regexes as lists of nodes: which are well shaped. Conditions: none. -/
namespace Go.HL.Kl.Mc
open Go Go.HL Go.HL.Kl
/-- what a group or a reference asks of the groups so far -/
def gate (x : Nd) (en : List Bool) (g : Nat) : Option (List Bool × Nat) :=
  if x.op = 8 then (if 1 ≤ x.n ∧ x.n ≤ en.length ∧ en[x.n.toNat - 1]? = some true then some (en, g) else none)
  else if x.op = 7 then (if x.n = en.length + 1 ∧ x.n ≤ 255 ∧ g < 64 then some (en ++ [false], g + 1) else none)
  else some (en, g)
def kidsN (step : Nat → List Bool → Option (Nat × List Bool)) : Nat → Nat → List Bool → Option (Nat × List Bool)
  | 0, i, en => some (i, en)
  | k + 1, i, en => match step i en with
    | none => none
    | some (i', en') => kidsN step k i' en'
def shN (re : List Nd) : Nat → Nat → List Bool → Nat → Option (Nat × List Bool)
  | 0, _, _, _ => none
  | f + 1, i, en, g => match re[i]? with
    | none => none
    | some x => if ndOk x = true then
        match gate x en g with
        | none => none
        | some (en1, g1) => match kidsN (fun i en => shN re f i en g1) x.kids.toNat (i + 1) en1 with
          | none => none
          | some (i2, en2) => some (i2, if x.op = 7 then en2.set (x.n.toNat - 1) true else en2)
      else none
theorem ndOk_kids {x : Nd} (h : ndOk x = true) : 0 ≤ x.kids := by
  simp only [ndOk, Bool.and_eq_true, kidsOk] at h
  have h := h.2
  split at h
  · simp at h; omega
  · split at h
    · simp at h; omega
    · split at h <;> simp at h <;> omega
/-- a tree of the list at a place -/
structure TreeAt (re : List Nd) (d i i' : Nat) (x : Nd) (ks : F) : Prop where
  wf : (F.nd x ks .nil).wf
  flat : re.drop i = x :: (ks.flat ++ re.drop i')
  dep : ks.depth + 1 ≤ d
  len : i' = i + 1 + ks.size
  le : i' ≤ re.length
structure ForAt (re : List Nd) (d k i i' : Nat) (ks : F) : Prop where
  wf : ks.wf
  num : ks.num = k
  flat : re.drop i = ks.flat ++ re.drop i'
  dep : ks.depth ≤ d
  len : i' = i + ks.size
  le : i ≤ re.length → i' ≤ re.length
theorem kidsN_for {re : List Nd} {d : Nat} {step : Nat → List Bool → Option (Nat × List Bool)} (hs : ∀ i en i' en', step i en = some (i', en') → ∃ x ks, TreeAt re d i i' x ks) :
    ∀ k i en i' en', kidsN step k i en = some (i', en') → ∃ ks, ForAt re d k i i' ks := by
  intro k
  induction k with
  | zero =>
    intro i en i' en' h
    simp only [kidsN, Option.some.injEq, Prod.mk.injEq] at h
    obtain ⟨rfl, rfl⟩ := h
    exact ⟨.nil, trivial, rfl, rfl, Nat.zero_le _, rfl, id⟩
  | succ k ih =>
    intro i en i' en' h
    simp only [kidsN] at h
    split at h
    · cases h
    · rename_i j en1 hst
      obtain ⟨x, ks, ht⟩ := hs _ _ _ _ hst
      obtain ⟨r, hr⟩ := ih _ _ _ _ h
      refine ⟨.nd x ks r, ⟨ht.wf.1, ht.wf.2.1, ht.wf.2.2.1, hr.wf⟩, by simp [F.num, hr.num], by rw [ht.flat, hr.flat]; simp [F.flat], ?_, by rw [hr.len, ht.len]; simp only [F.size]; omega, fun _ => hr.le ht.le⟩
      simp only [F.depth]
      have := ht.dep; have := hr.dep
      omega
theorem shN_tree {re : List Nd} : ∀ f i en g i' en', shN re f i en g = some (i', en') → ∃ x ks, TreeAt re f i i' x ks := by
  intro f
  induction f with
  | zero => intro i en g i' en' h; cases h
  | succ f ih =>
    intro i en g i' en' h
    simp only [shN] at h
    split at h
    · cases h
    · rename_i x hx
      have hlt : i < re.length := (List.getElem?_eq_some_iff.1 hx).1
      split at h
      · rename_i hok
        split at h
        · cases h
        · rename_i en1 g1 hg
          split at h
          · cases h
          · rename_i i2 en2 hk
            simp only [Option.some.injEq, Prod.mk.injEq] at h
            obtain ⟨rfl, -⟩ := h
            obtain ⟨ks, hks⟩ := kidsN_for (fun i en i' en' h => ih i en g1 i' en' h) _ _ _ _ _ hk
            have h0 := ndOk_kids hok
            refine ⟨x, ks, ⟨hok, by rw [hks.num]; omega, hks.wf, trivial⟩, ?_, by have := hks.dep; omega, by rw [hks.len], hks.le hlt⟩
            rw [List.drop_eq_getElem_cons hlt, hks.flat]
            rw [List.getElem?_eq_getElem hlt] at hx
            simp at hx
            rw [hx]
      · cases h
/-- weights -/
def times (x : Nd) : Nat := if x.op = 6 then (if x.mx < 0 then x.mn.toNat + 1 else max x.mx.toNat 1) else 1
namespace F
def weight : F → Nat
  | nil => 0
  | nd x ks r => (1 + times x * ks.weight) + r.weight
end F
def cut (n : Nat) : Nat := min n 16385
theorem cut_add (a b : Nat) : cut (cut a + cut b) = cut (a + b) := by unfold cut; omega
theorem cut_mul {t a : Nat} (ht : 1 ≤ t) : cut (1 + t * cut a) = cut (1 + t * a) := by
  unfold cut
  rcases Nat.le_total a 16385 with h | h
  · rw [Nat.min_eq_left h]
  · rw [Nat.min_eq_right h]
    have h1 : 16385 ≤ t * 16385 := Nat.le_mul_of_pos_left _ ht
    have h2 : t * 16385 ≤ t * a := Nat.mul_le_mul_left _ h
    omega
theorem times_pos (x : Nd) : 1 ≤ times x := by
  unfold times
  split
  · split <;> omega
  · exact Nat.le_refl _
theorem times_le {x : Nd} (h : ndOk x = true) : times x ≤ 256 := by
  simp only [ndOk, flds, Bool.and_eq_true] at h
  have h := h.1.2
  unfold times
  split
  · rename_i h6
    rw [if_pos h6] at h
    simp at h
    split <;> omega
  · omega
/-- a well shaped list: its forest is one tree -/
structure Shp (re : List Nd) (x : Nd) (ks : F) : Prop where
  wf : (F.nd x ks .nil).wf
  flat : re = x :: ks.flat
  dep : ks.depth + 1 ≤ 260
  weight : (F.nd x ks .nil).weight ≤ 16384
open Classical in
noncomputable def shapedP (re : List Nd) : Bool := decide (∃ en, shN re 260 0 [] 0 = some (re.length, en)) && decide (∃ x ks, Shp re x ks)
end Go.HL.Kl.Mc
