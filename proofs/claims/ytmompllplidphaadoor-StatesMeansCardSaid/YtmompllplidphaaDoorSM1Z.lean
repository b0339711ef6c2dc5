/- Part of the proofs over this seat: see the text that holds the theorem. Conditions: each theorem bears its own. -/
import Derived.Test.YtmompllplidphaaDoorHlB
import Derived.Lib.TrailingZeros
namespace Go.HL.Sts
open Go Go.HL
/-! classes: sets of bytes, as numbers of 24 bits -/
abbrev Sp := BitVec 24
def wp (c : Sp) (i : Nat) : BitVec 8 := c.extractLsb' (8 * i) 8
def Ep (w : BitVec 8) : Value := .int .u8 w.toNat
def E3 (c : Sp) : List Value := [Ep (wp c 0), Ep (wp c 1), Ep (wp c 2)]
instance : Enc E3 3 := ⟨fun _ => rfl, fun c v hv => by simp [E3, Ep] at hv; rcases hv with rfl | rfl | rfl <;> rfl⟩
theorem Es_one (c : Sp) : ∀ v ∈ E3 c, v.oneCell' = true := Enc.one c
theorem Es_get (c : Sp) {i : Nat} (h : i < 3) : (E3 c)[i]? = some (Ep (wp c i)) := by
  match i, h with
  | 0, _ => rfl
  | 1, _ => rfl
  | 2, _ => rfl
def setp (c : Sp) (i : Nat) (w : BitVec 8) : Sp := (c &&& ~~~ ((BitVec.allOnes 8).setWidth 24 <<< (8 * i))) ||| (w.setWidth 24 <<< (8 * i))
theorem setp_get (c : Sp) {i : Nat} (w : BitVec 8) (_hi : i < 3) {j : Nat} (hj : j < 24) : (setp c i w).getLsbD j = if 8 * i ≤ j ∧ j < 8 * i + 8 then w.getLsbD (j - 8 * i) else c.getLsbD j := by
  simp only [setp, BitVec.getLsbD_or, BitVec.getLsbD_and, BitVec.getLsbD_not, BitVec.getLsbD_shiftLeft, BitVec.getLsbD_setWidth, BitVec.getLsbD_allOnes, hj, decide_true, Bool.true_and]
  by_cases h1 : j < 8 * i
  · simp [h1]; omega
  · have h2 : 8 * i ≤ j := by omega
    by_cases h3 : j < 8 * i + 8
    · have h4 : j - 8 * i < 8 := by omega
      have h5 : j - 8 * i < 24 := by omega
      simp [h1, h2, h3, h4, h5]
    · have h4 : ¬ (j - 8 * i < 8) := by omega
      have h5 : w.getLsbD (j - 8 * i) = false := BitVec.getLsbD_of_ge _ _ (by omega)
      simp [h1, h3, h4, h5]
theorem wp_get (c : Sp) (i : Nat) {j : Nat} (hj : j < 8) : (wp c i).getLsbD j = c.getLsbD (8 * i + j) := by
  simp [wp, hj]
theorem wp_setp (c : Sp) {i k : Nat} (w : BitVec 8) (hi : i < 3) (hk : k < 3) : wp (setp c i w) k = if i = k then w else wp c k := by
  apply BitVec.eq_of_getLsbD_eq
  intro j hj
  rw [wp_get _ _ hj, setp_get _ _ hi (by omega)]
  by_cases e : i = k
  · subst e
    have : 8 * i + j - 8 * i = j := by omega
    rw [if_pos (by omega), if_pos rfl, this]
  · rw [if_neg (by omega), if_neg e, wp_get _ _ hj]
theorem Es_set (c : Sp) {i : Nat} (w : BitVec 8) (hi : i < 3) : (E3 c).set i (Ep w) = E3 (setp c i w) := by
  simp only [E3, wp_setp c w hi (by decide : 0 < 3), wp_setp c w hi (by decide : 1 < 3), wp_setp c w hi (by decide : 2 < 3)]
  match i, hi with
  | 0, _ => rfl
  | 1, _ => rfl
  | 2, _ => rfl
theorem ext_wp {c d : Sp} (h : ∀ i, i < 3 → wp c i = wp d i) : c = d := by
  apply BitVec.eq_of_getLsbD_eq
  intro j hj
  have h1 := congrArg (fun w => BitVec.getLsbD w (j % 8)) (h (j / 8) (by omega))
  simp only [wp_get _ _ (show j % 8 < 8 by omega)] at h1
  have : 8 * (j / 8) + j % 8 = j := by omega
  rwa [this] at h1
theorem Es_inj {c d : Sp} (h : E3 c = E3 d) : c = d := by
  simp only [E3, Ep, List.cons.injEq, Value.int.injEq, true_and, and_true] at h
  obtain ⟨h0, h1, h2⟩ := h
  refine ext_wp fun i hi => ?_
  match i, hi with
  | 0, _ => exact BitVec.eq_of_toNat_eq (by omega)
  | 1, _ => exact BitVec.eq_of_toNat_eq (by omega)
  | 2, _ => exact BitVec.eq_of_toNat_eq (by omega)
/-- the numbers of a class, as the comparison sees them -/
def Is (c : Sp) : List Int := [((wp c 0).toNat : Int), ((wp c 1).toNat : Int), ((wp c 2).toNat : Int)]
theorem Es_ints (c : Sp) : E3 c = intsV .u8 (Is c) := rfl
theorem Is_inj {c d : Sp} : Is c = Is d ↔ c = d := ⟨fun h => Es_inj (by rw [Es_ints, Es_ints, h]), fun h => by rw [h]⟩
/-! one byte -/
def pit (x : Nat) : Sp := 1#24 <<< x
theorem pit_get {x j : Nat} (hj : j < 24) : (pit x).getLsbD j = decide (j = x) := by
  simp only [pit, BitVec.getLsbD_shiftLeft, hj, decide_true, Bool.true_and, BitVec.getLsbD_one]
  by_cases h : j = x
  · subst h; simp
  · by_cases h2 : j < x
    · simp [h, h2]
    · have : ¬ (j - x = 0) := by omega
      simp [h, h2]; omega
theorem withs_eq (c : Sp) {x : Nat} (hx : x < 24) : setp c (x / 8) (wp c (x / 8) ||| (1#8 <<< (x % 8))) = c ||| pit x := by
  apply BitVec.eq_of_getLsbD_eq
  intro j hj
  rw [setp_get _ _ (by omega) hj, BitVec.getLsbD_or (x := c), pit_get hj]
  by_cases h : 8 * (x / 8) ≤ j ∧ j < 8 * (x / 8) + 8
  · rw [if_pos h, BitVec.getLsbD_or, wp_get _ _ (by omega)]
    have e : 8 * (x / 8) + (j - 8 * (x / 8)) = j := by omega
    rw [e]
    congr 1
    simp only [BitVec.getLsbD_shiftLeft, BitVec.getLsbD_one]
    by_cases h2 : j = x
    · have h3 : j - 8 * (x / 8) = x % 8 := by omega
      simp [h2]; omega
    · have h3 : ¬ (j - 8 * (x / 8) = x % 8) := by omega
      by_cases h4 : j - 8 * (x / 8) < x % 8
      · simp [h2, h4]
      · have h5 : ¬ (j - 8 * (x / 8) - x % 8 = 0) := by omega
        simp [h2, h4]; omega
  · rw [if_neg h]
    have h2 : ¬ (j = x) := by omega
    simp [h2]
/-! the program's arithmetic on bytes and words -/
theorem wraps_u8 (n : Int) : IntKind.u8.wrap n = n % 256 := by simp [IntKind.wrap, IntKind.signed, IntKind.bits]
theorem wraps8 (w : BitVec 8) : IntKind.u8.wrap (w.toNat : Int) = w.toNat := by
  have := w.isLt
  rw [wraps_u8]; omega
theorem ofs8 (w : BitVec 8) : BitVec.ofInt IntKind.u8.bits (w.toNat : Int) = w := by
  apply BitVec.eq_of_toNat_eq
  have := w.isLt
  simp [IntKind.bits]
theorem vs_or (a b : BitVec 8) : Value.int .u8 (IntKind.u8.wrap (BitVec.ofInt IntKind.u8.bits (a.toNat : Int) ||| BitVec.ofInt IntKind.u8.bits (b.toNat : Int)).toNat) = Ep (a ||| b) := by
  rw [ofs8, ofs8]; exact congrArg _ (wraps8 _)
theorem vs_and (a b : BitVec 8) : Value.int .u8 (IntKind.u8.wrap (BitVec.ofInt IntKind.u8.bits (a.toNat : Int) &&& BitVec.ofInt IntKind.u8.bits (b.toNat : Int)).toNat) = Ep (a &&& b) := by
  rw [ofs8, ofs8]; exact congrArg _ (wraps8 _)
theorem vs_shl1 {k : Nat} (hk : k < 8) : Value.int .u8 (IntKind.u8.wrap (1 * 2 ^ (min ((k : Nat) : Int).toNat IntKind.u8.bits))) = Ep (1#8 <<< k) := by
  have e : min ((k : Nat) : Int).toNat IntKind.u8.bits = k := by simp [IntKind.bits]; omega
  rw [e]
  have h1 : (2 : Nat) ^ k < 2 ^ 8 := Nat.pow_lt_pow_right (by decide) hk
  have h2 : ((2 : Int) ^ k) = ((2 ^ k : Nat) : Int) := by simp
  simp only [Ep, Value.int.injEq, true_and, Int.one_mul]
  rw [h2, wraps_u8]
  have h3 : (1#8 <<< k).toNat = 2 ^ k := by
    rw [BitVec.toNat_shiftLeft, BitVec.toNat_ofNat, Nat.shiftLeft_eq]
    simp
    exact h1
  rw [h3]; omega
/-- a word's pit, as Has reads it -/
theorem hass_eq (w : BitVec 8) {k : Nat} (hk : k < 8) : decide (IntKind.u8.wrap (BitVec.ofInt IntKind.u8.bits ((w.toNat : Int).fdiv (2 ^ (min ((k : Nat) : Int).toNat IntKind.u8.bits))) &&& BitVec.ofInt IntKind.u8.bits 1).toNat = 1) = w.getLsbD k := by
  have e : min ((k : Nat) : Int).toNat IntKind.u8.bits = k := by simp [IntKind.bits]; omega
  rw [e]
  have h2 : ((2 : Int) ^ k) = ((2 ^ k : Nat) : Int) := by simp
  have h3 : (w.toNat : Int).fdiv (2 ^ k) = ((w >>> k).toNat : Int) := by
    rw [h2, Int.fdiv_eq_ediv_of_nonneg _ (Int.natCast_nonneg _), BitVec.toNat_ushiftRight, Nat.shiftRight_eq_div_pow]; rfl
  have h4 : BitVec.ofInt IntKind.u8.bits 1 = 1#8 := rfl
  rw [h3, ofs8, h4]
  have h6 : IntKind.u8.wrap ((w >>> k &&& 1#8).toNat : Int) = ((w >>> k &&& 1#8).toNat : Int) := wraps8 _
  refine (congrArg (fun z => decide (z = 1)) h6).trans ?_
  have h5 : (w >>> k &&& 1#8).toNat = if w.getLsbD k then 1 else 0 := by
    have := BitVec.and_one_eq_setWidth_ofBool_getLsbD (x := w >>> k)
    rw [this, BitVec.getLsbD_ushiftRight, Nat.add_zero]
    cases w.getLsbD k <;> rfl
  rw [h5]
  cases w.getLsbD k <;> simp
theorem wp_pit (c : Sp) {x : Nat} (_hx : x < 24) : (wp c (x / 8)).getLsbD (x % 8) = c.getLsbD x := by
  rw [wp_get _ _ (by omega)]
  congr 1; omega
theorem hasS (c : Sp) {x : Nat} (hx : x < 24) : decide (IntKind.u8.wrap (BitVec.ofInt IntKind.u8.bits (((wp c (x / 8)).toNat : Int).fdiv (2 ^ (min (((x % 8 : Nat) : Nat) : Int).toNat IntKind.u8.bits))) &&& BitVec.ofInt IntKind.u8.bits 1).toNat = 1) = c.getLsbD x := by
  rw [hass_eq _ (by omega), wp_pit c hx]
section
variable {P : Program} {κ : Cx} {L : Loc} {H : Hp} {ty t t' : TypeId} {x y : Operand}
end
/-! word by word -/
def mapP (f : Nat → BitVec 8 → BitVec 8) (c : Sp) : Nat → Sp
  | 0 => c
  | i + 1 => setp (mapP f c i) i (f i (wp (mapP f c i) i))
theorem wp_mapP (f : Nat → BitVec 8 → BitVec 8) (c : Sp) : ∀ (i : Nat), i ≤ 3 → ∀ k, k < 3 → wp (mapP f c i) k = if k < i then f k (wp c k) else wp c k
  | 0, _, k, _ => by simp [mapP]
  | i + 1, hi, k, hk => by
    unfold mapP
    rw [wp_setp _ _ (by omega) hk]
    have ih := fun k hk => wp_mapP f c i (by omega) k hk
    by_cases e : i = k
    · subst e
      rw [if_pos rfl, if_pos (by omega), ih i (by omega), if_neg (by omega)]
    · rw [if_neg e, ih k hk]
      by_cases h : k < i
      · rw [if_pos h, if_pos (by omega)]
      · rw [if_neg h, if_neg (by omega)]
theorem wp_or (a b : Sp) (k : Nat) : wp (a ||| b) k = wp a k ||| wp b k := by
  apply BitVec.eq_of_getLsbD_eq
  intro j hj
  rw [wp_get _ _ hj, BitVec.getLsbD_or, BitVec.getLsbD_or, wp_get _ _ hj, wp_get _ _ hj]
theorem wp_and (a b : Sp) (k : Nat) : wp (a &&& b) k = wp a k &&& wp b k := by
  apply BitVec.eq_of_getLsbD_eq
  intro j hj
  rw [wp_get _ _ hj, BitVec.getLsbD_and, BitVec.getLsbD_and, wp_get _ _ hj, wp_get _ _ hj]
theorem mapP_or (a b : Sp) : mapP (fun i w => w ||| wp b i) a 3 = a ||| b := ext_wp fun i hi => by rw [wp_mapP _ _ 3 (by omega) i hi, if_pos hi, wp_or]
theorem mapP_and (a b : Sp) : mapP (fun i w => w &&& wp b i) a 3 = a &&& b := ext_wp fun i hi => by rw [wp_mapP _ _ 3 (by omega) i hi, if_pos hi, wp_and]
end Go.HL.Sts
namespace Go.HL.Kl
open Go Go.HL
/-! classes: sets of bytes, as numbers of 256 bits -/
abbrev Cl := BitVec 256
def wd (c : Cl) (i : Nat) : BitVec 64 := c.extractLsb' (64 * i) 64
def Ew (w : BitVec 64) : Value := .int .u64 w.toNat
def Ec (c : Cl) : List Value := [Ew (wd c 0), Ew (wd c 1), Ew (wd c 2), Ew (wd c 3)]
instance : Enc Ec 4 := ⟨fun _ => rfl, fun c v hv => by simp [Ec, Ew] at hv; rcases hv with rfl | rfl | rfl | rfl <;> rfl⟩
theorem Ec_one (c : Cl) : ∀ v ∈ Ec c, v.oneCell' = true := Enc.one c
theorem Ec_get (c : Cl) {i : Nat} (h : i < 4) : (Ec c)[i]? = some (Ew (wd c i)) := by
  match i, h with
  | 0, _ => rfl
  | 1, _ => rfl
  | 2, _ => rfl
  | 3, _ => rfl
def setw (c : Cl) (i : Nat) (w : BitVec 64) : Cl := (c &&& ~~~ ((BitVec.allOnes 64).setWidth 256 <<< (64 * i))) ||| (w.setWidth 256 <<< (64 * i))
theorem setw_get (c : Cl) {i : Nat} (w : BitVec 64) (_hi : i < 4) {j : Nat} (hj : j < 256) : (setw c i w).getLsbD j = if 64 * i ≤ j ∧ j < 64 * i + 64 then w.getLsbD (j - 64 * i) else c.getLsbD j := by
  simp only [setw, BitVec.getLsbD_or, BitVec.getLsbD_and, BitVec.getLsbD_not, BitVec.getLsbD_shiftLeft, BitVec.getLsbD_setWidth, BitVec.getLsbD_allOnes, hj, decide_true, Bool.true_and]
  by_cases h1 : j < 64 * i
  · simp [h1]; omega
  · have h2 : 64 * i ≤ j := by omega
    by_cases h3 : j < 64 * i + 64
    · have h4 : j - 64 * i < 64 := by omega
      have h5 : j - 64 * i < 256 := by omega
      simp [h1, h2, h3, h4, h5]
    · have h4 : ¬ (j - 64 * i < 64) := by omega
      have h5 : w.getLsbD (j - 64 * i) = false := BitVec.getLsbD_of_ge _ _ (by omega)
      simp [h1, h3, h4, h5]
theorem wd_get (c : Cl) (i : Nat) {j : Nat} (hj : j < 64) : (wd c i).getLsbD j = c.getLsbD (64 * i + j) := by
  simp [wd, hj]
theorem wd_setw (c : Cl) {i k : Nat} (w : BitVec 64) (hi : i < 4) (hk : k < 4) : wd (setw c i w) k = if i = k then w else wd c k := by
  apply BitVec.eq_of_getLsbD_eq
  intro j hj
  rw [wd_get _ _ hj, setw_get _ _ hi (by omega)]
  by_cases e : i = k
  · subst e
    have : 64 * i + j - 64 * i = j := by omega
    rw [if_pos (by omega), if_pos rfl, this]
  · rw [if_neg (by omega), if_neg e, wd_get _ _ hj]
theorem Ec_set (c : Cl) {i : Nat} (w : BitVec 64) (hi : i < 4) : (Ec c).set i (Ew w) = Ec (setw c i w) := by
  simp only [Ec, wd_setw c w hi (by decide : 0 < 4), wd_setw c w hi (by decide : 1 < 4), wd_setw c w hi (by decide : 2 < 4), wd_setw c w hi (by decide : 3 < 4)]
  match i, hi with
  | 0, _ => rfl
  | 1, _ => rfl
  | 2, _ => rfl
  | 3, _ => rfl
theorem ext_wd {c d : Cl} (h : ∀ i, i < 4 → wd c i = wd d i) : c = d := by
  apply BitVec.eq_of_getLsbD_eq
  intro j hj
  have h1 := congrArg (fun w => BitVec.getLsbD w (j % 64)) (h (j / 64) (by omega))
  simp only [wd_get _ _ (show j % 64 < 64 by omega)] at h1
  have : 64 * (j / 64) + j % 64 = j := by omega
  rwa [this] at h1
theorem Ec_inj {c d : Cl} (h : Ec c = Ec d) : c = d := by
  simp only [Ec, Ew, List.cons.injEq, Value.int.injEq, true_and, and_true] at h
  obtain ⟨h0, h1, h2, h3⟩ := h
  refine ext_wd fun i hi => ?_
  match i, hi with
  | 0, _ => exact BitVec.eq_of_toNat_eq (by omega)
  | 1, _ => exact BitVec.eq_of_toNat_eq (by omega)
  | 2, _ => exact BitVec.eq_of_toNat_eq (by omega)
  | 3, _ => exact BitVec.eq_of_toNat_eq (by omega)
/-- the numbers of a class, as the comparison sees them -/
def Ic (c : Cl) : List Int := [((wd c 0).toNat : Int), ((wd c 1).toNat : Int), ((wd c 2).toNat : Int), ((wd c 3).toNat : Int)]
theorem Ec_ints (c : Cl) : Ec c = intsV .u64 (Ic c) := rfl
theorem Ic_inj {c d : Cl} : Ic c = Ic d ↔ c = d := ⟨fun h => Ec_inj (by rw [Ec_ints, Ec_ints, h]), fun h => by rw [h]⟩
/-! one byte -/
def bit (x : Nat) : Cl := 1#256 <<< x
theorem bit_get {x j : Nat} (hj : j < 256) : (bit x).getLsbD j = decide (j = x) := by
  simp only [bit, BitVec.getLsbD_shiftLeft, hj, decide_true, Bool.true_and, BitVec.getLsbD_one]
  by_cases h : j = x
  · subst h; simp
  · by_cases h2 : j < x
    · simp [h, h2]
    · have : ¬ (j - x = 0) := by omega
      simp [h, h2]; omega
theorem with_eq (c : Cl) {x : Nat} (hx : x < 256) : setw c (x / 64) (wd c (x / 64) ||| (1#64 <<< (x % 64))) = c ||| bit x := by
  apply BitVec.eq_of_getLsbD_eq
  intro j hj
  rw [setw_get _ _ (by omega) hj, BitVec.getLsbD_or (x := c), bit_get hj]
  by_cases h : 64 * (x / 64) ≤ j ∧ j < 64 * (x / 64) + 64
  · rw [if_pos h, BitVec.getLsbD_or, wd_get _ _ (by omega)]
    have e : 64 * (x / 64) + (j - 64 * (x / 64)) = j := by omega
    rw [e]
    congr 1
    simp only [BitVec.getLsbD_shiftLeft, BitVec.getLsbD_one]
    by_cases h2 : j = x
    · have h3 : j - 64 * (x / 64) = x % 64 := by omega
      simp [h2]; omega
    · have h3 : ¬ (j - 64 * (x / 64) = x % 64) := by omega
      by_cases h4 : j - 64 * (x / 64) < x % 64
      · simp [h2, h4]
      · have h5 : ¬ (j - 64 * (x / 64) - x % 64 = 0) := by omega
        simp [h2, h4]; omega
  · rw [if_neg h]
    have h2 : ¬ (j = x) := by omega
    simp [h2]
/-! the program's arithmetic on bytes and words -/
theorem wrap_u64 (n : Int) : IntKind.u64.wrap n = n % 18446744073709551616 := by simp [IntKind.wrap, IntKind.signed, IntKind.bits]
theorem wrap64 (w : BitVec 64) : IntKind.u64.wrap (w.toNat : Int) = w.toNat := by
  have := w.isLt
  rw [wrap_u64]; omega
theorem of64 (w : BitVec 64) : BitVec.ofInt IntKind.u64.bits (w.toNat : Int) = w := by
  apply BitVec.eq_of_toNat_eq
  have := w.isLt
  simp [IntKind.bits]
theorem v_or (a b : BitVec 64) : Value.int .u64 (IntKind.u64.wrap (BitVec.ofInt IntKind.u64.bits (a.toNat : Int) ||| BitVec.ofInt IntKind.u64.bits (b.toNat : Int)).toNat) = Ew (a ||| b) := by
  rw [of64, of64]; exact congrArg _ (wrap64 _)
theorem v_and (a b : BitVec 64) : Value.int .u64 (IntKind.u64.wrap (BitVec.ofInt IntKind.u64.bits (a.toNat : Int) &&& BitVec.ofInt IntKind.u64.bits (b.toNat : Int)).toNat) = Ew (a &&& b) := by
  rw [of64, of64]; exact congrArg _ (wrap64 _)
theorem v_shl1 {k : Nat} (hk : k < 64) : Value.int .u64 (IntKind.u64.wrap (1 * 2 ^ (min ((k : Nat) : Int).toNat IntKind.u64.bits))) = Ew (1#64 <<< k) := by
  have e : min ((k : Nat) : Int).toNat IntKind.u64.bits = k := by simp [IntKind.bits]; omega
  rw [e]
  have h1 : (2 : Nat) ^ k < 2 ^ 64 := Nat.pow_lt_pow_right (by decide) hk
  have h2 : ((2 : Int) ^ k) = ((2 ^ k : Nat) : Int) := by simp
  simp only [Ew, Value.int.injEq, true_and, Int.one_mul]
  rw [h2, wrap_u64]
  have h3 : (1#64 <<< k).toNat = 2 ^ k := by
    rw [BitVec.toNat_shiftLeft, BitVec.toNat_ofNat, Nat.shiftLeft_eq]
    simp
    exact h1
  rw [h3]; omega
/-- a word's bit, as Has reads it -/
theorem has_eq (w : BitVec 64) {k : Nat} (hk : k < 64) : decide (IntKind.u64.wrap (BitVec.ofInt IntKind.u64.bits ((w.toNat : Int).fdiv (2 ^ (min ((k : Nat) : Int).toNat IntKind.u64.bits))) &&& BitVec.ofInt IntKind.u64.bits 1).toNat = 1) = w.getLsbD k := by
  have e : min ((k : Nat) : Int).toNat IntKind.u64.bits = k := by simp [IntKind.bits]; omega
  rw [e]
  have h2 : ((2 : Int) ^ k) = ((2 ^ k : Nat) : Int) := by simp
  have h3 : (w.toNat : Int).fdiv (2 ^ k) = ((w >>> k).toNat : Int) := by
    rw [h2, Int.fdiv_eq_ediv_of_nonneg _ (Int.natCast_nonneg _), BitVec.toNat_ushiftRight, Nat.shiftRight_eq_div_pow]; rfl
  have h4 : BitVec.ofInt IntKind.u64.bits 1 = 1#64 := rfl
  rw [h3, of64, h4]
  have h6 : IntKind.u64.wrap ((w >>> k &&& 1#64).toNat : Int) = ((w >>> k &&& 1#64).toNat : Int) := wrap64 _
  refine (congrArg (fun z => decide (z = 1)) h6).trans ?_
  have h5 : (w >>> k &&& 1#64).toNat = if w.getLsbD k then 1 else 0 := by
    have := BitVec.and_one_eq_setWidth_ofBool_getLsbD (x := w >>> k)
    rw [this, BitVec.getLsbD_ushiftRight, Nat.add_zero]
    cases w.getLsbD k <;> rfl
  rw [h5]
  cases w.getLsbD k <;> simp
theorem shr6_i64 {x : Nat} (hx : x < 256) : ((x : Int)).fdiv (2 ^ (min (6 : Int).toNat IntKind.i64.bits)) = ((x / 64 : Nat) : Int) := by
  have : ∀ x : Fin 256, ((x.val : Int)).fdiv (2 ^ (min (6 : Int).toNat IntKind.i64.bits)) = ((x.val / 64 : Nat) : Int) := by decide +kernel
  exact this ⟨x, hx⟩
theorem and63_i64 {x : Nat} (hx : x < 256) : IntKind.i64.wrap (BitVec.ofInt IntKind.i64.bits (x : Int) &&& BitVec.ofInt IntKind.i64.bits 63).toNat = ((x % 64 : Nat) : Int) := by
  have : ∀ x : Fin 256, IntKind.i64.wrap (BitVec.ofInt IntKind.i64.bits (x.val : Int) &&& BitVec.ofInt IntKind.i64.bits 63).toNat = ((x.val % 64 : Nat) : Int) := by decide +kernel
  exact this ⟨x, hx⟩
theorem quo64 {x : Nat} (hx : x < 256) : IntKind.u8.wrap ((x : Int).tdiv 64) = ((x / 64 : Nat) : Int) := by
  have : ∀ x : Fin 256, IntKind.u8.wrap ((x.val : Int).tdiv 64) = ((x.val / 64 : Nat) : Int) := by decide +kernel
  exact this ⟨x, hx⟩
theorem rem64 {x : Nat} (hx : x < 256) : (x : Int).tmod 64 = ((x % 64 : Nat) : Int) := by
  have : ∀ x : Fin 256, (x.val : Int).tmod 64 = ((x.val % 64 : Nat) : Int) := by decide +kernel
  exact this ⟨x, hx⟩
theorem conv8 {x : Nat} (hx : x < 256) : IntKind.u8.wrap (x : Int) = (x : Int) := by
  have : ∀ x : Fin 256, IntKind.u8.wrap (x.val : Int) = (x.val : Int) := by decide +kernel
  exact this ⟨x, hx⟩
theorem conv64 {x : Nat} (hx : x < 256) : IntKind.i64.wrap (x : Int) = (x : Int) := by
  have : ∀ x : Fin 256, IntKind.i64.wrap (x.val : Int) = (x.val : Int) := by decide +kernel
  exact this ⟨x, hx⟩
theorem wd_bit (c : Cl) {x : Nat} (_hx : x < 256) : (wd c (x / 64)).getLsbD (x % 64) = c.getLsbD x := by
  rw [wd_get _ _ (by omega)]
  congr 1; omega
theorem hasB (c : Cl) {x : Nat} (hx : x < 256) : decide (IntKind.u64.wrap (BitVec.ofInt IntKind.u64.bits (((wd c (x / 64)).toNat : Int).fdiv (2 ^ (min (((x % 64 : Nat) : Nat) : Int).toNat IntKind.u64.bits))) &&& BitVec.ofInt IntKind.u64.bits 1).toNat = 1) = c.getLsbD x := by
  rw [has_eq _ (by omega), wd_bit c hx]
theorem v_com (w : BitVec 64) : Value.int .u64 (IntKind.u64.wrap (BitVec.ofInt IntKind.u64.bits (if IntKind.u64.signed then -1 else IntKind.u64.max) ^^^ BitVec.ofInt IntKind.u64.bits (w.toNat : Int)).toNat) = Ew (~~~w) := by
  rw [of64]
  have e : BitVec.ofInt IntKind.u64.bits (if IntKind.u64.signed then -1 else IntKind.u64.max) = BitVec.allOnes 64 := rfl
  rw [e]
  have e2 : BitVec.allOnes 64 ^^^ w = ~~~w := BitVec.allOnes_xor
  have := wrap64 (BitVec.allOnes 64 ^^^ w)
  refine (congrArg (Value.int .u64) this).trans ?_
  rw [e2]; rfl
theorem Ec_zero : Ec 0#256 = [.int .u64 0, .int .u64 0, .int .u64 0, .int .u64 0] := by simp [Ec, Ew, wd]
theorem Ic_len (c : Cl) : (Ic c).length = 4 := rfl
section
variable {P : Program} {κ : Cx} {L : Loc} {H : Hp} {ty t t' : TypeId} {x y : Operand}
theorem s_eql_cl {e b : Nat} {k' : IntKind} [TU P t (.array 4 e)] [TU P e (.int k')] [TG P e true] [TI P e 1 b] [EG P t] {c d : Cl} (hx : ev L x = some (.agg (Ec c).toArray)) (hy : ev L y = some (.agg (Ec d).toArray)) : Step P κ (.binOp .eql t x y t') ty L H (.bool (decide (c = d))) :=
  step_cast (s_eql_arr (j := .u64) (xs := Ic c) (ys := Ic d) (by rw [← Ec_ints]; exact hx) (by rw [← Ec_ints]; exact hy) (Ic_len c) (Ic_len d)) (congrArg Value.bool (decide_eq_decide.2 Ic_inj))
theorem s_neq_cl {e b : Nat} {k' : IntKind} [TU P t (.array 4 e)] [TU P e (.int k')] [TG P e true] [TI P e 1 b] [EG P t] {c d : Cl} (hx : ev L x = some (.agg (Ec c).toArray)) (hy : ev L y = some (.agg (Ec d).toArray)) : Step P κ (.binOp .neq t x y t') ty L H (.bool (decide (c ≠ d))) :=
  step_cast (s_neq_arr (j := .u64) (xs := Ic c) (ys := Ic d) (by rw [← Ec_ints]; exact hx) (by rw [← Ec_ints]; exact hy) (Ic_len c) (Ic_len d)) (congrArg Value.bool (decide_eq_decide.2 (not_congr Ic_inj)))
end
/-! word by word -/
def mapW (f : Nat → BitVec 64 → BitVec 64) (c : Cl) : Nat → Cl
  | 0 => c
  | i + 1 => setw (mapW f c i) i (f i (wd (mapW f c i) i))
theorem wd_mapW (f : Nat → BitVec 64 → BitVec 64) (c : Cl) : ∀ (i : Nat), i ≤ 4 → ∀ k, k < 4 → wd (mapW f c i) k = if k < i then f k (wd c k) else wd c k
  | 0, _, k, _ => by simp [mapW]
  | i + 1, hi, k, hk => by
    unfold mapW
    rw [wd_setw _ _ (by omega) hk]
    have ih := fun k hk => wd_mapW f c i (by omega) k hk
    by_cases e : i = k
    · subst e
      rw [if_pos rfl, if_pos (by omega), ih i (by omega), if_neg (by omega)]
    · rw [if_neg e, ih k hk]
      by_cases h : k < i
      · rw [if_pos h, if_pos (by omega)]
      · rw [if_neg h, if_neg (by omega)]
theorem wd_or (a b : Cl) (k : Nat) : wd (a ||| b) k = wd a k ||| wd b k := by
  apply BitVec.eq_of_getLsbD_eq
  intro j hj
  rw [wd_get _ _ hj, BitVec.getLsbD_or, BitVec.getLsbD_or, wd_get _ _ hj, wd_get _ _ hj]
theorem wd_and (a b : Cl) (k : Nat) : wd (a &&& b) k = wd a k &&& wd b k := by
  apply BitVec.eq_of_getLsbD_eq
  intro j hj
  rw [wd_get _ _ hj, BitVec.getLsbD_and, BitVec.getLsbD_and, wd_get _ _ hj, wd_get _ _ hj]
theorem wd_not (a : Cl) {k : Nat} (hk : k < 4) : wd (~~~a) k = ~~~(wd a k) := by
  apply BitVec.eq_of_getLsbD_eq
  intro j hj
  rw [wd_get _ _ hj, BitVec.getLsbD_not, BitVec.getLsbD_not, wd_get _ _ hj]
  have : 64 * k + j < 256 := by omega
  simp [hj, this]
theorem mapW_or (a b : Cl) : mapW (fun i w => w ||| wd b i) a 4 = a ||| b := ext_wd fun i hi => by rw [wd_mapW _ _ 4 (by omega) i hi, if_pos hi, wd_or]
theorem mapW_and (a b : Cl) : mapW (fun i w => w &&& wd b i) a 4 = a &&& b := ext_wd fun i hi => by rw [wd_mapW _ _ 4 (by omega) i hi, if_pos hi, wd_and]
theorem mapW_not (a : Cl) : mapW (fun _ w => ~~~w) a 4 = ~~~a := ext_wd fun i hi => by rw [wd_mapW _ _ 4 (by omega) i hi, if_pos hi, wd_not a hi]
/-! byte by byte -/
theorem cl_ext {c d : Cl} (h : ∀ j, j < 256 → c.getLsbD j = d.getLsbD j) : c = d := BitVec.eq_of_getLsbD_eq fun j hj => h j hj
/-- so far: the bytes below i of which p says yes -/
def Part (p : Nat → Bool) (i : Nat) (c : Cl) : Prop := ∀ j, j < 256 → c.getLsbD j = (decide (j < i) && p j)
theorem Part.zero {p : Nat → Bool} : Part p 0 0#256 := fun j _ => by simp
theorem Part.yes {p : Nat → Bool} {i : Nat} {c : Cl} (h : Part p i c) (hp : p i = true) : Part p (i + 1) (c ||| bit i) := fun j hj => by
  rw [BitVec.getLsbD_or, bit_get hj, h j hj]
  by_cases e : j = i
  · subst e; simp [hp]
  · have : (j < i + 1) = (j < i) := by simp; omega
    simp [e, this]
theorem Part.no {p : Nat → Bool} {i : Nat} {c : Cl} (h : Part p i c) (hp : p i = false) : Part p (i + 1) c := fun j hj => by
  rw [h j hj]
  by_cases e : j = i
  · subst e; simp [hp]
  · have : (j < i + 1) = (j < i) := by simp; omega
    simp [this]
/-- from lo on, below x -/
def rngTo (lo : Nat) : Nat → Cl
  | 0 => 0
  | x + 1 => if lo ≤ x then rngTo lo x ||| bit x else 0
def rng (lo hi : Nat) : Cl := rngTo lo (hi + 1)
theorem rngTo_low {lo x : Nat} (h : x ≤ lo) : rngTo lo x = 0 := by
  cases x with
  | zero => rfl
  | succ x => simp [rngTo]; omega
theorem rngTo_step {lo x : Nat} (h : lo ≤ x) : rngTo lo (x + 1) = rngTo lo x ||| bit x := by simp [rngTo, h]
theorem rngTo_get (lo : Nat) : ∀ (x j : Nat), j < 256 → (rngTo lo x).getLsbD j = (decide (lo ≤ j) && decide (j < x))
  | 0, j, _ => by simp [rngTo]
  | x + 1, j, hj => by
    unfold rngTo
    split
    · rename_i h
      rw [BitVec.getLsbD_or, bit_get hj, rngTo_get lo x j hj]
      by_cases e : j = x
      · subst e; simp [h]
      · have : (j < x + 1) = (j < x) := by simp; omega
        simp [e, this]
    · rename_i h
      have : ¬ (lo ≤ j ∧ j < x + 1) := by omega
      simp; omega
theorem rng_get {lo hi j : Nat} (hj : j < 256) : (rng lo hi).getLsbD j = (decide (lo ≤ j) && decide (j ≤ hi)) := by
  rw [rng, rngTo_get _ _ _ hj]
  have : (j < hi + 1) = (j ≤ hi) := by simp; omega
  simp only [this]
theorem rng_end {lo hi x : Nat} (h1 : lo ≤ x) (h2 : hi < x) (h3 : x ≤ max lo (hi + 1)) : rngTo lo x = rng lo hi := by
  apply cl_ext
  intro j hj
  rw [rngTo_get _ _ _ hj, rng_get hj]
  by_cases h : lo ≤ j
  · have : (j < x) = (j ≤ hi) := by simp; omega
    simp [h, this]
  · simp [h]
def ofL (l : List UInt8) : Cl := l.foldl (fun c b => c ||| bit b.toNat) 0
def sizeTo (c : Cl) (i : Nat) : Nat := (List.range i).countP c.getLsbD
def size (c : Cl) : Nat := sizeTo c 256
def memsTo (c : Cl) (i : Nat) : List Nat := (List.range i).filter c.getLsbD
def mems (c : Cl) : List Nat := memsTo c 256
theorem memsTo_lt {c : Cl} {i b : Nat} (h : b ∈ memsTo c i) : b < i ∧ c.getLsbD b = true := by
  simpa [memsTo] using h
/-- a byte, encoded by its number -/
def Eby (b : Nat) : List Value := [.int .u8 b]
instance : Enc Eby 1 := ⟨fun _ => rfl, fun _ _ h => by simp [Eby] at h; subst h; rfl⟩
end Go.HL.Kl
namespace Go.HL.Kl
open Go Go.HL
/-! OnesCount64: the sums of the lanes -/
/-- n lanes of k bits -/
def pk (k : Nat) : Nat → (Nat → Nat) → Nat
  | 0, _ => 0
  | n + 1, f => 2 ^ k * pk k n (fun i => f (i + 1)) + f 0
/-- the bits, as lanes -/
def bt (w : BitVec 64) (i : Nat) : Nat := if w.getLsbD i then 1 else 0
def popW (w : BitVec 64) : Nat := (List.range 64).countP w.getLsbD
def sums (f : Nat → Nat) (i : Nat) : Nat := f (2 * i) + f (2 * i + 1)
/-- OnesCount64's sums, as the text has them -/
def oc1 (w : BitVec 64) : BitVec 64 := ((w >>> 1) &&& 6148914691236517205#64) + (w &&& 6148914691236517205#64)
def oc2 (w : BitVec 64) : BitVec 64 := ((w >>> 2) &&& 3689348814741910323#64) + (w &&& 3689348814741910323#64)
def oc3 (w : BitVec 64) : BitVec 64 := ((w >>> 4) + w) &&& 1085102592571150095#64
def oc4 (k : Nat) (w : BitVec 64) : BitVec 64 := w + (w >>> k)
def sm (f : Nat → Nat) : Nat → Nat
  | 0 => 0
  | n + 1 => sm f n + f n
/-! the size, word by word -/
theorem range_split (a b : Nat) : List.range (a + b) = List.range a ++ (List.range b).map (fun i => a + i) := by
  rw [List.range_eq_range', List.range_eq_range', List.range_eq_range', ← List.range'_append_1 (s := 0)]
  simp [List.map_add_range']
theorem ctz_lt (w : BitVec 64) (h : w ≠ 0#64) : Lib.ctz 64 w.toNat < 64 ∧ w.getLsbD (Lib.ctz 64 w.toNat) = true ∧ (∀ j, j < Lib.ctz 64 w.toNat → w.getLsbD j = false) ∧ ∀ j, (w &&& (w - 1#64)).getLsbD j = (w.getLsbD j && decide (j ≠ Lib.ctz 64 w.toNat)) := by
  have h0 : w.toNat ≠ 0 := fun e => h (BitVec.eq_of_toNat_eq (by simpa using e))
  obtain ⟨m, hm, hk⟩ := Lib.ctzFrom_spec 64 w.toNat (by omega) w.isLt
  have hc : Lib.ctz 64 w.toNat = Lib.ctzFrom 64 w.toNat := by simp [Lib.ctz, h0]
  rw [hc]
  obtain ⟨k, hkk⟩ : ∃ k, k = Lib.ctzFrom 64 w.toNat := ⟨_, rfl⟩
  rw [← hkk] at hm hk ⊢
  have hp : 0 < 2 ^ k := Nat.two_pow_pos k
  have bitw : ∀ j, w.getLsbD j = if j < k then false else (2 * m + 1).testBit (j - k) := by
    intro j
    rw [BitVec.getLsbD, hm]
    have := Nat.testBit_two_pow_mul_add (2 * m + 1) (b := 0) hp j
    rw [Nat.add_zero] at this
    rw [this]
    simp
  have hs : (w - 1#64).toNat = 2 ^ k * (2 * m) + (2 ^ k - 1) := by
    have e1 : (w - 1#64).toNat = w.toNat - 1 := by
      rw [BitVec.toNat_sub]
      have := w.isLt
      simp; omega
    rw [e1, hm, Nat.mul_add]
    omega
  have bits : ∀ j, (w - 1#64).getLsbD j = if j < k then (2 ^ k - 1).testBit j else (2 * m).testBit (j - k) := by
    intro j
    rw [BitVec.getLsbD, hs]
    exact Nat.testBit_two_pow_mul_add (2 * m) (by omega) j
  refine ⟨hk, ?_, ?_, ?_⟩
  · rw [bitw]; simp
  · intro j hj; rw [bitw]; simp [hj]
  · intro j
    rw [BitVec.getLsbD_and, bitw, bits]
    by_cases h1 : j < k
    · simp [h1]
    · simp only [h1, if_false]
      by_cases h2 : j = k
      · subst h2; simp
      · obtain ⟨i, hi⟩ : ∃ i, j - k = i + 1 := ⟨j - k - 1, by omega⟩
        rw [hi, Nat.testBit_succ, Nat.testBit_succ]
        have e1 : (2 * m + 1) / 2 = m := by omega
        have e2 : 2 * m / 2 = m := by omega
        rw [e1, e2]; simp [h2]
/-- the members of a word, from 64 i on -/
def wmem (i : Nat) (w : BitVec 64) : List Nat := ((List.range 64).filter w.getLsbD).map fun j => 64 * i + j
theorem filter_range_lt {p q : Nat → Bool} {n k : Nat} (hk : k < n) (h1 : ∀ j, j < k → p j = false) (hpk : p k = true) (hq : ∀ j, q j = (p j && decide (j ≠ k))) : (List.range n).filter p = k :: (List.range n).filter q := by
  have e : n = k + (1 + (n - k - 1)) := by omega
  rw [e, range_split k, range_split 1, List.filter_append, List.filter_append, List.map_append, List.filter_append, List.filter_append]
  have a1 : (List.range k).filter p = [] := by
    rw [List.filter_eq_nil_iff]; intro j hj; simp [h1 j (by simpa using hj)]
  have a2 : (List.range k).filter q = [] := by
    rw [List.filter_eq_nil_iff]; intro j hj; simp [hq, h1 j (by simpa using hj)]
  have a3 : (List.map (fun i => k + i) (List.range 1)).filter p = [k] := by simp [hpk]
  have a4 : (List.map (fun i => k + i) (List.range 1)).filter q = [] := by simp [hq]
  rw [a1, a2, a3, a4]
  simp only [List.nil_append, List.singleton_append, List.cons.injEq, true_and]
  apply List.filter_congr
  intro j hj
  simp only [List.map_map, List.mem_map, List.mem_range, Function.comp] at hj
  obtain ⟨i, _, rfl⟩ := hj
  rw [hq]
  have : ¬ (k + (1 + i) = k) := by omega
  simp
theorem wmem_cons (i : Nat) (w : BitVec 64) (h : w ≠ 0#64) : wmem i w = (64 * i + Lib.ctz 64 w.toNat) :: wmem i (w &&& (w - 1#64)) := by
  obtain ⟨h1, h2, h3, h4⟩ := ctz_lt w h
  unfold wmem
  rw [filter_range_lt h1 h3 h2 h4]
  rfl
theorem wmem_zero (i : Nat) : wmem i 0#64 = [] := by simp [wmem]
theorem memsTo_word (c : Cl) (i : Nat) : memsTo c (64 * i + 64) = memsTo c (64 * i) ++ wmem i (wd c i) := by
  unfold memsTo wmem
  rw [range_split, List.filter_append, List.filter_map]
  congr 2
  apply List.filter_congr
  intro j hj
  have hj' : j < 64 := by simpa using hj
  simp [wd_get c i hj']
/-- what is still to come, at word i with w of it left -/
def restW (c : Cl) (i : Nat) (w : BitVec 64) : List Nat := wmem i w ++ (mems c).drop (memsTo c (64 * i + 64)).length
theorem memsTo_prefix (c : Cl) {i j : Nat} (h : i ≤ j) : memsTo c i <+: memsTo c j := by
  obtain ⟨d, rfl⟩ : ∃ d, j = i + d := ⟨j - i, by omega⟩
  unfold memsTo
  rw [range_split, List.filter_append]
  exact List.prefix_append _ _
theorem mems_from (c : Cl) {i : Nat} (hi : i < 4) : mems c = memsTo c (64 * i) ++ (wmem i (wd c i) ++ (mems c).drop (memsTo c (64 * i + 64)).length) := by
  obtain ⟨r, hr⟩ := memsTo_prefix c (i := 64 * i + 64) (j := 256) (by omega)
  have e : mems c = memsTo c (64 * i + 64) ++ r := hr.symm
  rw [e]
  rw [List.drop_left, memsTo_word, List.append_assoc]
end Go.HL.Kl
namespace Go.HL.Kl.Mc
open Go Go.HL Go.HL.Kl
/-- a node -/
structure Nd where
  op : Int
  set : Cl
  n : Int
  mn : Int
  mx : Int
  kids : Int
  deriving DecidableEq
def En (x : Nd) : List Value := .int .i8 x.op :: (Ec x.set ++ [.int .i64 x.n, .int .i64 x.mn, .int .i64 x.mx, .int .i64 x.kids])
instance : Enc En 9 := ⟨fun x => by simp [En, Enc.len], fun x v hv => by
  simp only [En, List.mem_cons, List.mem_append, List.not_mem_nil, or_false] at hv
  rcases hv with rfl | hv | rfl | rfl | rfl | rfl
  · rfl
  · exact Ec_one _ v hv
  all_goals rfl⟩
/-- may a node have these numbers? -/
def flds (x : Nd) : Bool :=
  decide (1 ≤ x.op ∧ x.op ≤ 8) && (decide (x.op = 1) || decide (x.set = 0)) && (decide (x.op = 7 ∨ x.op = 8) || decide (x.n = 0)) &&
  (if x.op = 6 then decide (0 ≤ x.mn ∧ x.mn ≤ 255 ∧ (x.mx = -1 ∨ x.mn ≤ x.mx ∧ x.mx ≤ 255)) else decide (x.mn = 0 ∧ x.mx = 0))
def kidsOk (x : Nd) : Bool :=
  if x.op = 6 ∨ x.op = 7 then decide (x.kids = 1) else if x.op = 4 then decide (x.kids = 0 ∨ 2 ≤ x.kids) else if x.op = 5 then decide (2 ≤ x.kids) else decide (x.kids = 0)
def ndOk (x : Nd) : Bool := flds x && kidsOk x
/-- forests: the first tree's node, what is in it, the others -/
inductive F
  | nil
  | nd (x : Nd) (ks r : F)
namespace F
def flat : F → List Nd
  | nil => []
  | nd x ks r => x :: (ks.flat ++ r.flat)
/-- trees -/
def num : F → Nat
  | nil => 0
  | nd _ _ r => r.num + 1
def size : F → Nat
  | nil => 0
  | nd _ ks r => ks.size + r.size + 1
def wf : F → Prop
  | nil => True
  | nd x ks r => ndOk x = true ∧ (ks.num : Int) = x.kids ∧ ks.wf ∧ r.wf
def depth : F → Nat
  | nil => 0
  | nd _ ks r => max (ks.depth + 1) r.depth
theorem flat_size : ∀ f : F, f.flat.length = f.size
  | nil => rfl
  | nd x ks r => by simp only [flat, List.length_cons, List.length_append, flat_size ks, flat_size r, size]
end F
end Go.HL.Kl.Mc
namespace Go.HL.Kl.Mc
open Go Go.HL Go.HL.Kl
/-- what a group or a reference asks of the groups so far -/
def gate (x : Nd) (en : List Bool) (g : Nat) : Option (List Bool × Nat) :=
  if x.op = 8 then (if 1 ≤ x.n ∧ x.n ≤ en.length ∧ en[x.n.toNat - 1]? = some true then some (en, g) else none)
  else if x.op = 7 then (if x.n = en.length + 1 ∧ x.n ≤ 255 ∧ g < 64 then some (en ++ [false], g + 1) else none)
  else some (en, g)
def kidsN (step : Nat → List Bool → Option (Nat × List Bool)) : Nat → Nat → List Bool → Option (Nat × List Bool)
  | 0, i, en => some (i, en)
  | k + 1, i, en => match step i en with
    | none => none
    | some (i', en') => kidsN step k i' en'
def shN (re : List Nd) : Nat → Nat → List Bool → Nat → Option (Nat × List Bool)
  | 0, _, _, _ => none
  | f + 1, i, en, g => match re[i]? with
    | none => none
    | some x => if ndOk x = true then
        match gate x en g with
        | none => none
        | some (en1, g1) => match kidsN (fun i en => shN re f i en g1) x.kids.toNat (i + 1) en1 with
          | none => none
          | some (i2, en2) => some (i2, if x.op = 7 then en2.set (x.n.toNat - 1) true else en2)
      else none
theorem ndOk_kids {x : Nd} (h : ndOk x = true) : 0 ≤ x.kids := by
  simp only [ndOk, Bool.and_eq_true, kidsOk] at h
  have h := h.2
  split at h
  · simp at h; omega
  · split at h
    · simp at h; omega
    · split at h <;> simp at h <;> omega
/-- a tree of the list at a place -/
structure TreeAt (re : List Nd) (d i i' : Nat) (x : Nd) (ks : F) : Prop where
  wf : (F.nd x ks .nil).wf
  flat : re.drop i = x :: (ks.flat ++ re.drop i')
  dep : ks.depth + 1 ≤ d
  len : i' = i + 1 + ks.size
  le : i' ≤ re.length
structure ForAt (re : List Nd) (d k i i' : Nat) (ks : F) : Prop where
  wf : ks.wf
  num : ks.num = k
  flat : re.drop i = ks.flat ++ re.drop i'
  dep : ks.depth ≤ d
  len : i' = i + ks.size
  le : i ≤ re.length → i' ≤ re.length
theorem kidsN_for {re : List Nd} {d : Nat} {step : Nat → List Bool → Option (Nat × List Bool)} (hs : ∀ i en i' en', step i en = some (i', en') → ∃ x ks, TreeAt re d i i' x ks) :
    ∀ k i en i' en', kidsN step k i en = some (i', en') → ∃ ks, ForAt re d k i i' ks := by
  intro k
  induction k with
  | zero =>
    intro i en i' en' h
    simp only [kidsN, Option.some.injEq, Prod.mk.injEq] at h
    obtain ⟨rfl, rfl⟩ := h
    exact ⟨.nil, trivial, rfl, rfl, Nat.zero_le _, rfl, id⟩
  | succ k ih =>
    intro i en i' en' h
    simp only [kidsN] at h
    split at h
    · cases h
    · rename_i j en1 hst
      obtain ⟨x, ks, ht⟩ := hs _ _ _ _ hst
      obtain ⟨r, hr⟩ := ih _ _ _ _ h
      refine ⟨.nd x ks r, ⟨ht.wf.1, ht.wf.2.1, ht.wf.2.2.1, hr.wf⟩, by simp [F.num, hr.num], by rw [ht.flat, hr.flat]; simp [F.flat], ?_, by rw [hr.len, ht.len]; simp only [F.size]; omega, fun _ => hr.le ht.le⟩
      simp only [F.depth]
      have := ht.dep; have := hr.dep
      omega
theorem shN_tree {re : List Nd} : ∀ f i en g i' en', shN re f i en g = some (i', en') → ∃ x ks, TreeAt re f i i' x ks := by
  intro f
  induction f with
  | zero => intro i en g i' en' h; cases h
  | succ f ih =>
    intro i en g i' en' h
    simp only [shN] at h
    split at h
    · cases h
    · rename_i x hx
      have hlt : i < re.length := (List.getElem?_eq_some_iff.1 hx).1
      split at h
      · rename_i hok
        split at h
        · cases h
        · rename_i en1 g1 hg
          split at h
          · cases h
          · rename_i i2 en2 hk
            simp only [Option.some.injEq, Prod.mk.injEq] at h
            obtain ⟨rfl, -⟩ := h
            obtain ⟨ks, hks⟩ := kidsN_for (fun i en i' en' h => ih i en g1 i' en' h) _ _ _ _ _ hk
            have h0 := ndOk_kids hok
            refine ⟨x, ks, ⟨hok, by rw [hks.num]; omega, hks.wf, trivial⟩, ?_, by have := hks.dep; omega, by rw [hks.len], hks.le hlt⟩
            rw [List.drop_eq_getElem_cons hlt, hks.flat]
            rw [List.getElem?_eq_getElem hlt] at hx
            simp at hx
            rw [hx]
      · cases h
/-- weights -/
def times (x : Nd) : Nat := if x.op = 6 then (if x.mx < 0 then x.mn.toNat + 1 else max x.mx.toNat 1) else 1
namespace F
def weight : F → Nat
  | nil => 0
  | nd x ks r => (1 + times x * ks.weight) + r.weight
end F
def cut (n : Nat) : Nat := min n 16385
theorem cut_add (a b : Nat) : cut (cut a + cut b) = cut (a + b) := by unfold cut; omega
theorem cut_mul {t a : Nat} (ht : 1 ≤ t) : cut (1 + t * cut a) = cut (1 + t * a) := by
  unfold cut
  rcases Nat.le_total a 16385 with h | h
  · rw [Nat.min_eq_left h]
  · rw [Nat.min_eq_right h]
    have h1 : 16385 ≤ t * 16385 := Nat.le_mul_of_pos_left _ ht
    have h2 : t * 16385 ≤ t * a := Nat.mul_le_mul_left _ h
    omega
theorem times_pos (x : Nd) : 1 ≤ times x := by
  unfold times
  split
  · split <;> omega
  · exact Nat.le_refl _
theorem times_le {x : Nd} (h : ndOk x = true) : times x ≤ 256 := by
  simp only [ndOk, flds, Bool.and_eq_true] at h
  have h := h.1.2
  unfold times
  split
  · rename_i h6
    rw [if_pos h6] at h
    simp at h
    split <;> omega
  · omega
/-- a well shaped list: its forest is one tree -/
structure Shp (re : List Nd) (x : Nd) (ks : F) : Prop where
  wf : (F.nd x ks .nil).wf
  flat : re = x :: ks.flat
  dep : ks.depth + 1 ≤ 260
  weight : (F.nd x ks .nil).weight ≤ 16384
open Classical in
noncomputable def shapedP (re : List Nd) : Bool := decide (∃ en, shN re 260 0 [] 0 = some (re.length, en)) && decide (∃ x ks, Shp re x ks)
end Go.HL.Kl.Mc
namespace Go.HL.Kl.Mc
open Go Go.HL Go.HL.Kl
/-- so many rounds -/
def pow (D : Nat → Nat → Prop) : Nat → Nat → Nat → Prop
  | 0, p, q => p = q
  | k + 1, p, q => ∃ m, D p m ∧ pow D k m q
def rounds (x : Nd) (D : Nat → Nat → Prop) (p q : Nat) : Prop := ∃ k : Nat, x.mn ≤ (k : Int) ∧ (x.mx = -1 ∨ (k : Int) ≤ x.mx) ∧ pow D k p q
/-- the derivations of a forest: its trees one behind the other; or one of them -/
def der (w : List UInt8) : F → Bool → Nat → Nat → Prop
  | .nil, m, p, q => m = false ∧ p = q
  | .nd x ks r, m, p, q =>
    let one : Nat → Nat → Prop := fun p q =>
      if x.op = 1 then q = p + 1 ∧ ∃ b, w[p]? = some b ∧ x.set.getLsbD b.toNat = true
      else if x.op = 2 then p = 0 ∧ q = 0
      else if x.op = 3 then p = w.length ∧ q = p
      else if x.op = 5 then der w ks true p q
      else if x.op = 6 then rounds x (der w ks false) p q
      else der w ks false p q
    if m = true then one p q ∨ der w r true p q else ∃ t, one p t ∧ der w r false t q
/-- an instruction -/
structure In where
  op : Int
  set : Cl
  x : Int
  y : Int
  deriving DecidableEq
def Ein (i : In) : List Value := .int .i8 i.op :: (Ec i.set ++ [.int .i64 i.x, .int .i64 i.y])
instance : Enc Ein 7 := ⟨fun x => by simp [Ein, Enc.len], fun x v hv => by
  simp only [Ein, List.mem_cons, List.mem_append, List.not_mem_nil, or_false] at hv
  rcases hv with rfl | hv | rfl | rfl
  · rfl
  · exact Ec_one _ v hv
  all_goals rfl⟩
def lenOne (x : Nd) (cat alt : Nat) : Nat :=
  if x.op = 1 ∨ x.op = 2 ∨ x.op = 3 then 1 else if x.op = 5 then alt
  else if x.op = 6 then x.mn.toNat * cat + (if x.mx = -1 then cat + 2 else (x.mx - x.mn).toNat * (cat + 1)) else cat
def lenM : F → Bool → Nat
  | .nil, _ => 0
  | .nd x ks r, m => lenOne x (lenM ks false) (lenM ks true) + (if m = true then (match r with | .nil => 0 | _ => 2) else 0) + lenM r m
def copies (c : Nat → List In) (L : Nat) : Nat → Nat → List In
  | 0, _ => []
  | k + 1, b => c b ++ copies c L k (b + L)
def opts (c : Nat → List In) (L e : Nat) : Nat → Nat → List In
  | 0, _ => []
  | k + 1, b => ⟨5, 0, (b + 1 : Nat), e⟩ :: (c (b + 1) ++ opts c L e k (b + 1 + L))
def repC (x : Nd) (c : Nat → List In) (L b : Nat) : List In :=
  copies c L x.mn.toNat b ++
    (let b1 := b + x.mn.toNat * L
     if x.mx = -1 then ⟨5, 0, (b1 + 1 : Nat), (b1 + L + 2 : Nat)⟩ :: (c (b1 + 1) ++ [⟨4, 0, (b1 : Nat), 0⟩])
     else opts c L (b1 + (x.mx - x.mn).toNat * (L + 1)) (x.mx - x.mn).toNat b1)
def oneC (x : Nd) (c a : Nat → List In) (L b : Nat) : List In :=
  if x.op = 1 then [⟨1, x.set, 0, 0⟩] else if x.op = 2 then [⟨2, 0, 0, 0⟩] else if x.op = 3 then [⟨3, 0, 0, 0⟩]
  else if x.op = 5 then a b else if x.op = 6 then repC x c L b else c b
/-- the code of a forest, from the place b on; alternatives end at e -/
def code : F → Bool → Nat → Nat → List In
  | .nil, _, _, _ => []
  | .nd x ks r, m, b, e =>
    let one : Nat → List In := oneC x (fun b => code ks false b 0) (fun b => code ks true b (b + lenM ks true)) (lenM ks false)
    let L := lenOne x (lenM ks false) (lenM ks true)
    if m = true then (match r with
      | .nil => one b
      | _ => ⟨5, 0, (b + 1 : Nat), (b + L + 2 : Nat)⟩ :: (one (b + 1) ++ (⟨4, 0, e, 0⟩ :: code r true (b + L + 2) e)))
    else one b ++ code r false (b + L) 0
/-- a step of a machine in a text -/
inductive Stp (m : List In) (w : List UInt8) : Nat × Nat → Nat × Nat → Prop
  | set {i p : Nat} {t : In} {b : UInt8} (h : m[i]? = some t) (ho : t.op = 1) (hb : w[p]? = some b) (hs : t.set.getLsbD b.toNat = true) : Stp m w (i, p) (i + 1, p + 1)
  | bol {i : Nat} {t : In} (h : m[i]? = some t) (ho : t.op = 2) : Stp m w (i, 0) (i + 1, 0)
  | eol {i : Nat} {t : In} (h : m[i]? = some t) (ho : t.op = 3) : Stp m w (i, w.length) (i + 1, w.length)
  | jmp {i p j : Nat} {t : In} (h : m[i]? = some t) (ho : t.op = 4) (hx : t.x = (j : Int)) : Stp m w (i, p) (j, p)
  | spx {i p j : Nat} {t : In} (h : m[i]? = some t) (ho : t.op = 5) (hx : t.x = (j : Int)) : Stp m w (i, p) (j, p)
  | spy {i p j : Nat} {t : In} (h : m[i]? = some t) (ho : t.op = 5) (hy : t.y = (j : Int)) : Stp m w (i, p) (j, p)
inductive RunN (m : List In) (w : List UInt8) : Nat → Nat × Nat → Nat × Nat → Prop
  | zero {c : Nat × Nat} : RunN m w 0 c c
  | step {n : Nat} {c c' c'' : Nat × Nat} (h : Stp m w c c') (hr : RunN m w n c' c'') : RunN m w (n + 1) c c''
def Run (m : List In) (w : List UInt8) (c c' : Nat × Nat) : Prop := ∃ n, RunN m w n c c'
variable {m : List In} {w : List UInt8}
/-- code that lies in a machine at a place -/
def At (m : List In) (b : Nat) (c : List In) : Prop := ∀ i t, c[i]? = some t → m[b + i]? = some t
/-- a part of the machine from b to b + L means D -/
structure Means (m : List In) (w : List UInt8) (b e : Nat) (D : Nat → Nat → Prop) : Prop where
  le : b ≤ e
  run : ∀ p q, D p q → Run m w (b, p) (e, q)
  out : ∀ n p c q, RunN m w n (b, p) (c, q) → ¬ (b ≤ c ∧ c < e) → ∃ k q', k ≤ n ∧ D p q' ∧ RunN m w k (e, q') (c, q)
theorem pow_add {D : Nat → Nat → Prop} : ∀ a b p q, pow D (a + b) p q ↔ ∃ t, pow D a p t ∧ pow D b t q
  | 0, b, p, q => by simp [pow]
  | a + 1, b, p, q => by
    rw [show a + 1 + b = (a + b) + 1 by omega]
    simp only [pow, pow_add a b]
    constructor
    · rintro ⟨s, h, t, h1, h2⟩; exact ⟨t, ⟨s, h, h1⟩, h2⟩
    · rintro ⟨t, ⟨s, h, h1⟩, h2⟩; exact ⟨s, h, t, h1, h2⟩
/-- the fields of a repetition -/
theorem rep_flds {x : Nd} (h : ndOk x = true) (h6 : x.op = 6) : 0 ≤ x.mn ∧ x.mn ≤ 255 ∧ (x.mx = -1 ∨ x.mn ≤ x.mx ∧ x.mx ≤ 255) := by
  simp only [ndOk, flds, Bool.and_eq_true] at h
  have h := h.1.2
  rw [if_pos h6] at h
  simpa using h
end Go.HL.Kl.Mc
namespace Go.HL.Kl.Mc
open Go Go.HL Go.HL.Kl
variable {m : List In} {w : List UInt8}
/-- a step without a byte, at a place -/
def Eps (m : List In) (n p i j : Nat) : Prop := ∃ t, m[i]? = some t ∧ ((t.op = 2 ∧ p = 0 ∧ j = i + 1) ∨ (t.op = 3 ∧ p = n ∧ j = i + 1) ∨ (t.op = 4 ∧ t.x = (j : Int)) ∨ (t.op = 5 ∧ (t.x = (j : Int) ∨ t.y = (j : Int))))
inductive EpsS (m : List In) (n p : Nat) : Nat → Nat → Prop
  | refl {i : Nat} : EpsS m n p i i
  | head {i j k : Nat} (h : Eps m n p i j) (hs : EpsS m n p j k) : EpsS m n p i k
def Eat (m : List In) (w : List UInt8) (i p : Nat) : Prop := ∃ t b, m[i]? = some t ∧ t.op = 1 ∧ w[p]? = some b ∧ t.set.getLsbD b.toNat = true
/-- is there a run from a place to another? -/
def Hit (m : List In) (w : List UInt8) (f p : Nat) : Prop := ∃ i t, Run m w (0, f) (i, p) ∧ m[i]? = some t ∧ t.op = 6
/-- well shaped machines -/
def InOk (E : Nat) (t : In) : Prop := (1 ≤ t.op ∧ t.op ≤ 6) ∧ (t.op = 1 ∨ t.set = 0) ∧ (0 ≤ t.x ∧ t.x ≤ (if t.op = 4 ∨ t.op = 5 then (E : Int) else 0)) ∧ (0 ≤ t.y ∧ t.y ≤ (if t.op = 5 then (E : Int) else 0))
instance (E : Nat) (t : In) : Decidable (InOk E t) := by unfold InOk; infer_instance
def MOk (m : List In) : Prop := 1 ≤ m.length ∧ m.length ≤ 65540 ∧ ∀ i t, m[i]? = some t → InOk (m.length - 1) t ∧ (t.op ≤ 3 → i + 1 < m.length)
/-- the code of a regex keeps to its bounds -/
def CodeOk (E : Nat) (c : List In) : Prop := ∀ t ∈ c, InOk E t ∧ t.op ≤ 5
/-- the machine of a forest -/
def mach (f : F) : List In := code f false 0 0 ++ [⟨6, 0, 0, 0⟩]
end Go.HL.Kl.Mc
namespace Go.HL.Kl.Mc
open Go Go.HL Go.HL.Kl
/-- a list of booleans that tells a set of places -/
structure IsS (l : List Bool) (N : Nat) (S : Nat → Prop) : Prop where
  len : l.length = N + 1
  get : ∀ p, p ≤ N → (l[p]? = some true ↔ S p)
theorem IsS.iff {l : List Bool} {N : Nat} {S S' : Nat → Prop} (h : IsS l N S) (hs : ∀ p, p ≤ N → (S p ↔ S' p)) : IsS l N S' := ⟨h.len, fun p hp => (h.get p hp).trans (hs p hp)⟩
def img (D : Nat → Nat → Prop) (S : Nat → Prop) (q : Nat) : Prop := ∃ p, S p ∧ D p q
/-- derivations keep to the text -/
def Inn (N : Nat) (D : Nat → Nat → Prop) : Prop := ∀ p q, p ≤ N → D p q → q ≤ N
/-- those of one node with all in it -/
def der1 (w : List UInt8) (x : Nd) (ks : F) (p q : Nat) : Prop := der w (.nd x ks .nil) false p q
theorem der1_def {w : List UInt8} {x : Nd} {ks : F} {p q : Nat} : der1 w x ks p q ↔
    (if x.op = 1 then q = p + 1 ∧ ∃ b, w[p]? = some b ∧ x.set.getLsbD b.toNat = true
      else if x.op = 2 then p = 0 ∧ q = 0
      else if x.op = 3 then p = w.length ∧ q = p
      else if x.op = 5 then der w ks true p q
      else if x.op = 6 then rounds x (der w ks false) p q
      else der w ks false p q) := by
  unfold der1
  rw [der]
  simp [der]
theorem der_cat {w : List UInt8} {x : Nd} {ks r : F} {p q : Nat} : der w (.nd x ks r) false p q ↔ ∃ t, der1 w x ks p t ∧ der w r false t q := by
  conv => lhs; rw [der]
  simp only [Bool.false_eq_true, if_false, der1_def]
theorem der_alt {w : List UInt8} {x : Nd} {ks r : F} {p q : Nat} : der w (.nd x ks r) true p q ↔ der1 w x ks p q ∨ der w r true p q := by
  conv => lhs; rw [der]
  simp only [if_true, der1_def]
theorem der_nil {w : List UInt8} {p q : Nat} : der w .nil false p q ↔ p = q := by simp [der]
theorem der_nil' {w : List UInt8} {p q : Nat} : der w .nil true p q ↔ False := by simp [der]
theorem pow_inn {N : Nat} {D : Nat → Nat → Prop} (h : Inn N D) : ∀ k, Inn N (pow D k)
  | 0, p, q, hp, e => by obtain rfl : p = q := e
                         exact hp
  | k + 1, p, q, hp, ⟨t, h1, h2⟩ => pow_inn h k t q (h p t hp h1) h2
theorem rounds_inn {N : Nat} {x : Nd} {D : Nat → Nat → Prop} (h : Inn N D) : Inn N (rounds x D) := fun p q hp ⟨k, _, _, hk⟩ => pow_inn h k p q hp hk
theorem der_inn {w : List UInt8} : ∀ (f : F) (md : Bool), Inn w.length (der w f md)
  | .nil, md, p, q, hp, h => by
    obtain ⟨_, rfl⟩ : md = false ∧ p = q := by simpa [der] using h
    exact hp
  | .nd x ks r, md, p, q, hp, h => by
    have h1 : ∀ p q, p ≤ w.length → der1 w x ks p q → q ≤ w.length := by
      intro p q hp h
      rw [der1_def] at h
      split at h
      · obtain ⟨rfl, b, hb, _⟩ := h
        exact (List.getElem?_eq_some_iff.1 hb).1
      split at h
      · omega
      split at h
      · omega
      split at h
      · exact der_inn ks true p q hp h
      split at h
      · exact rounds_inn (der_inn ks false) p q hp h
      · exact der_inn ks false p q hp h
    cases md with
    | false =>
      obtain ⟨t, h2, h3⟩ := der_cat.1 h
      exact der_inn r false t q (h1 p t hp h2) h3
    | true =>
      rcases der_alt.1 h with h2 | h2
      · exact h1 p q hp h2
      · exact der_inn r true p q hp h2
theorem der1_inn {w : List UInt8} {x : Nd} {ks : F} : Inn w.length (der1 w x ks) := der_inn _ _
theorem pow_succ' {D : Nat → Nat → Prop} {k p q : Nat} : pow D (k + 1) p q ↔ ∃ t, pow D k p t ∧ D t q := by
  rw [pow_add]
  simp [pow]
/-- so many rounds or more, up to k -/
def upTo (D : Nat → Nat → Prop) (S : Nat → Prop) (mn k q : Nat) : Prop := ∃ j, mn ≤ j ∧ j ≤ k ∧ img (pow D j) S q
theorem img_succ {D : Nat → Nat → Prop} {S : Nat → Prop} {k q : Nat} : img D (img (pow D k) S) q ↔ img (pow D (k + 1)) S q := by
  constructor
  · rintro ⟨t, ⟨p, hp, h1⟩, h2⟩; exact ⟨p, hp, pow_succ'.2 ⟨t, h1, h2⟩⟩
  · rintro ⟨p, hp, h⟩; obtain ⟨t, h1, h2⟩ := pow_succ'.1 h; exact ⟨t, ⟨p, hp, h1⟩, h2⟩
theorem upTo_succ {D : Nat → Nat → Prop} {S : Nat → Prop} {mn k q : Nat} (hk : mn ≤ k) : upTo D S mn (k + 1) q ↔ upTo D S mn k q ∨ img (pow D (k + 1)) S q := by
  constructor
  · rintro ⟨j, h1, h2, h3⟩
    by_cases e : j = k + 1
    · subst e; exact .inr h3
    · exact .inl ⟨j, h1, by omega, h3⟩
  · rintro (⟨j, h1, h2, h3⟩ | h)
    · exact ⟨j, h1, by omega, h3⟩
    · exact ⟨k + 1, by omega, by omega, h⟩
theorem upTo_start {D : Nat → Nat → Prop} {S : Nat → Prop} {mn q : Nat} : upTo D S mn mn q ↔ img (pow D mn) S q := by
  constructor
  · rintro ⟨j, h1, h2, h3⟩
    obtain rfl : j = mn := by omega
    exact h3
  · exact fun h => ⟨mn, Nat.le_refl _, Nat.le_refl _, h⟩
/-- nothing new: never anything new -/
theorem upTo_fix {D : Nat → Nat → Prop} {S : Nat → Prop} {mn k : Nat} {N : Nat} (hS : ∀ p, S p → p ≤ N) (hD : Inn N D) (hk : mn ≤ k) (h : ∀ q, q ≤ N → img (pow D (k + 1)) S q → upTo D S mn k q) : ∀ q, (∃ j, mn ≤ j ∧ img (pow D j) S q) → upTo D S mn k q := by
  have key : ∀ i q, img (pow D (k + i)) S q → upTo D S mn k q := by
    intro i
    induction i with
    | zero => intro q hq; exact ⟨k, hk, Nat.le_refl _, hq⟩
    | succ i ih =>
      intro q hq
      rw [← Nat.add_assoc] at hq
      obtain ⟨t, ht, h2⟩ := img_succ.2 hq
      obtain ⟨j, h3, h4, h5⟩ := ih t ht
      have h6 : img (pow D (j + 1)) S q := img_succ.1 ⟨t, h5, h2⟩
      by_cases e : j = k
      · subst e
        obtain ⟨p, hp, h7⟩ := h6
        exact h q (pow_inn hD _ p q (hS p hp) h7) ⟨p, hp, h7⟩
      · exact ⟨j + 1, by omega, by omega, h6⟩
  rintro q ⟨j, hj, hq⟩
  by_cases e : j ≤ k
  · exact ⟨j, hj, e, hq⟩
  · exact key (j - k) q (by rwa [show k + (j - k) = j by omega])
theorem img_rounds {x : Nd} {D : Nat → Nat → Prop} {S : Nat → Prop} {q : Nat} (h0 : 0 ≤ x.mn) : img (rounds x D) S q ↔ ∃ j, x.mn.toNat ≤ j ∧ (x.mx = -1 ∨ (j : Int) ≤ x.mx) ∧ img (pow D j) S q := by
  constructor
  · rintro ⟨p, hp, k, h1, h2, h3⟩; exact ⟨k, by omega, h2, p, hp, h3⟩
  · rintro ⟨j, h1, h2, p, hp, h3⟩; exact ⟨p, hp, j, by omega, h2, h3⟩
section
variable {P : Program} {κ : Cx} {L : Loc} {H : Hp} {ty t t' : TypeId} {x y : Operand}
theorem fq_cls {w : World} {n e b e1 b1 : Nat} {k' : IntKind} {xs ys : Array Value} {l : List (Nat × Nat)} {c d : Kl.Cl} {r : Bool} [TU P e (.array 4 e1)] [TG P e false] [TI P e 4 b] [TU P e1 (.int k')] [TG P e1 true] [TI P e1 1 b1]
    (hx : xs.extract 1 5 = (Ec c).toArray) (hy : ys.extract 1 5 = (Ec d).toArray) (h : FQ P w (n + 1) xs ys l r) : FQ P w (n + 1) xs ys ((e, 1) :: l) (decide (c = d) && r) := by
  refine .cons (part_agg hx) (part_agg hy) ?_ h
  have := re_arr (P := P) (t := e) w n (j := .u64) (Ic c) (Ic d) (Ic_len c) (Ic_len d)
  rw [← Ec_ints, ← Ec_ints] at this
  rw [this]
  congr 1
  exact decide_eq_decide.2 Ic_inj
theorem nd_fq {a c i e b be : Nat} {k1 k2 ke : IntKind} [TU P a (.int k1)] [TG P a true] [TU P i (.int k2)] [TG P i true] [TU P c (.array 4 e)] [TG P c false] [TI P c 4 b] [TU P e (.int ke)] [TG P e true] [TI P e 1 be] (w : World) (p q : Nd) : FQ P w 9998 (En p).toArray (En q).toArray [(a, 0), (c, 1), (i, 5), (i, 6), (i, 7), (i, 8)] (decide (p = q)) := by
  have h : FQ P w 9998 (En p).toArray (En q).toArray [(a, 0), (c, 1), (i, 5), (i, 6), (i, 7), (i, 8)] _ :=
    .int (j := .i8) (p := p.op) (q := q.op) rfl rfl (fq_cls (c := p.set) (d := q.set) rfl rfl (.int (j := .i64) (p := p.n) (q := q.n) rfl rfl (.int (j := .i64) (p := p.mn) (q := q.mn) rfl rfl (.int (j := .i64) (p := p.mx) (q := q.mx) rfl rfl (.int (j := .i64) (p := p.kids) (q := q.kids) rfl rfl .nil)))))
  have e : (p.op == q.op && (decide (p.set = q.set) && (p.n == q.n && (p.mn == q.mn && (p.mx == q.mx && (p.kids == q.kids && true)))))) = decide (p = q) := by
    cases p; cases q
    simp only [Nd.mk.injEq, Bool.and_true]
    rw [Bool.eq_iff_iff]
    simp
  rw [← e]; exact h
theorem s_neq_nd {a c i e b be : Nat} {k1 k2 ke : IntKind} [EG P t] [TU P a (.int k1)] [TG P a true] [TU P i (.int k2)] [TG P i true] [TU P c (.array 4 e)] [TG P c false] [TI P c 4 b] [TU P e (.int ke)] [TG P e true] [TI P e 1 be] [Go.HL.TQ P t [(a, 0), (c, 1), (i, 5), (i, 6), (i, 7), (i, 8)]] {p q : Nd} (hx : ev L x = some (.agg (En p).toArray)) (hy : ev L y = some (.agg (En q).toArray)) : Step P κ (.binOp .neq t x y t') ty L H (.bool (!decide (p = q))) :=
  s_neq_st hx hy fun w => nd_fq w p q
end
end Go.HL.Kl.Mc
