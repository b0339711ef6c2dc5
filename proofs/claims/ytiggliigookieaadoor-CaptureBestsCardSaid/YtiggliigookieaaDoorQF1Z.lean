/- Part of the proofs over this seat: see the text that holds the theorem. Conditions: each theorem bears its own. -/
import Derived.Test.YtiggliigookieaaDoorHlB
import Derived.Test.YtiggliigookieaaDoorProg
import Derived.KernelRfl
import Derived.Lib.TrailingZeros
namespace Go.Proofs.YtiggliigookieaaDoor
open Go.HL Go.Proofs

instance : Mixed Tryd.prog := ⟨by kernel_rfl⟩
instance g3 : TG Tryd.prog 3 true := ⟨by kernel_rfl⟩
instance u3 : TU Tryd.prog 3 ((Go.TypeDesc.int Go.IntKind.i64)) := ⟨Tryd.underlying3⟩
instance g4 : TG Tryd.prog 4 true := ⟨by kernel_rfl⟩
instance u4 : TU Tryd.prog 4 (Go.TypeDesc.bool) := ⟨Tryd.underlying4⟩
instance g5 : TG Tryd.prog 5 true := ⟨by kernel_rfl⟩
instance u5 : TU Tryd.prog 5 ((Go.TypeDesc.int Go.IntKind.u8)) := ⟨Tryd.underlying5⟩
instance g22 : TG Tryd.prog 22 true := ⟨by kernel_rfl⟩
instance u22 : TU Tryd.prog 22 ((Go.TypeDesc.slice 70)) := ⟨Tryd.underlying22⟩
instance g23 : TG Tryd.prog 23 true := ⟨by kernel_rfl⟩
instance u23 : TU Tryd.prog 23 ((Go.TypeDesc.slice 5)) := ⟨Tryd.underlying23⟩
instance g30 : TG Tryd.prog 30 true := ⟨by kernel_rfl⟩
instance u30 : TU Tryd.prog 30 ((Go.TypeDesc.slice 62)) := ⟨Tryd.underlying30⟩
instance g38 : TG Tryd.prog 38 true := ⟨by kernel_rfl⟩
instance u38 : TU Tryd.prog 38 ((Go.TypeDesc.slice 23)) := ⟨Tryd.underlying38⟩
instance g39 : TG Tryd.prog 39 true := ⟨by kernel_rfl⟩
instance u39 : TU Tryd.prog 39 ((Go.TypeDesc.slice 72)) := ⟨Tryd.underlying39⟩
instance g40 : TG Tryd.prog 40 true := ⟨by kernel_rfl⟩
instance u40 : TU Tryd.prog 40 ((Go.TypeDesc.slice 83)) := ⟨Tryd.underlying40⟩
instance g41 : TG Tryd.prog 41 true := ⟨by kernel_rfl⟩
instance u41 : TU Tryd.prog 41 ((Go.TypeDesc.slice 102)) := ⟨Tryd.underlying41⟩
instance g42 : TG Tryd.prog 42 true := ⟨by kernel_rfl⟩
instance u42 : TU Tryd.prog 42 ((Go.TypeDesc.slice 104)) := ⟨Tryd.underlying42⟩
instance g43 : TG Tryd.prog 43 true := ⟨by kernel_rfl⟩
instance u43 : TU Tryd.prog 43 ((Go.TypeDesc.slice 30)) := ⟨Tryd.underlying43⟩
instance g44 : TG Tryd.prog 44 true := ⟨by kernel_rfl⟩
instance u44 : TU Tryd.prog 44 ((Go.TypeDesc.slice 107)) := ⟨Tryd.underlying44⟩
instance g45 : TG Tryd.prog 45 true := ⟨by kernel_rfl⟩
instance u45 : TU Tryd.prog 45 ((Go.TypeDesc.slice 110)) := ⟨Tryd.underlying45⟩
instance g46 : TG Tryd.prog 46 true := ⟨by kernel_rfl⟩
instance u46 : TU Tryd.prog 46 ((Go.TypeDesc.slice 22)) := ⟨Tryd.underlying46⟩
instance g47 : TG Tryd.prog 47 true := ⟨by kernel_rfl⟩
instance u47 : TU Tryd.prog 47 ((Go.TypeDesc.slice 111)) := ⟨Tryd.underlying47⟩
instance g48 : TG Tryd.prog 48 true := ⟨by kernel_rfl⟩
instance u48 : TU Tryd.prog 48 ((Go.TypeDesc.slice 114)) := ⟨Tryd.underlying48⟩
instance g49 : TG Tryd.prog 49 true := ⟨by kernel_rfl⟩
instance u49 : TU Tryd.prog 49 ((Go.TypeDesc.slice 118)) := ⟨Tryd.underlying49⟩
instance g50 : TG Tryd.prog 50 true := ⟨by kernel_rfl⟩
instance u50 : TU Tryd.prog 50 ((Go.TypeDesc.slice 121)) := ⟨Tryd.underlying50⟩
instance g51 : TG Tryd.prog 51 true := ⟨by kernel_rfl⟩
instance u51 : TU Tryd.prog 51 ((Go.TypeDesc.slice 38)) := ⟨Tryd.underlying51⟩
instance g52 : TG Tryd.prog 52 true := ⟨by kernel_rfl⟩
instance u52 : TU Tryd.prog 52 ((Go.TypeDesc.slice 39)) := ⟨Tryd.underlying52⟩
instance g53 : TG Tryd.prog 53 true := ⟨by kernel_rfl⟩
instance u53 : TU Tryd.prog 53 ((Go.TypeDesc.slice 43)) := ⟨Tryd.underlying53⟩
instance g54 : TG Tryd.prog 54 true := ⟨by kernel_rfl⟩
instance u54 : TU Tryd.prog 54 ((Go.TypeDesc.slice 125)) := ⟨Tryd.underlying54⟩
instance g55 : TG Tryd.prog 55 true := ⟨by kernel_rfl⟩
instance u55 : TU Tryd.prog 55 ((Go.TypeDesc.slice 128)) := ⟨Tryd.underlying55⟩
instance g56 : TG Tryd.prog 56 true := ⟨by kernel_rfl⟩
instance u56 : TU Tryd.prog 56 ((Go.TypeDesc.slice 131)) := ⟨Tryd.underlying56⟩
instance b58 : TB Tryd.prog 58 [(0, 1), (1, 1), (2, 1), (3, 1), (4, 1), (5, 1), (6, 1), (7, 1), (8, 1), (9, 1), (10, 1), (11, 1), (12, 1), (13, 1), (14, 1), (15, 1), (16, 1), (17, 1), (18, 1)] := ⟨by kernel_rfl⟩
instance s58 : TS Tryd.prog 58 [(38, 0), (39, 1), (40, 2), (41, 3), (42, 4), (43, 5), (44, 6), (45, 7), (46, 8), (47, 9), (48, 10), (49, 11), (50, 12), (51, 13), (52, 14), (53, 15), (54, 16), (55, 17), (56, 18)] := ts_of (by kernel_rfl)
instance g62 : TG Tryd.prog 62 false := ⟨by kernel_rfl⟩
instance e62 : EG Tryd.prog 62 := ⟨by kernel_rfl⟩
instance b62 : TB Tryd.prog 62 [(0, 1), (1, 1)] := ⟨by kernel_rfl⟩
instance tq62 : TQ Tryd.prog 62 [(3, 0), (3, 1)] := ⟨by kernel_rfl⟩
instance s62 : TS Tryd.prog 62 [(3, 0), (3, 1)] := ts_of (by kernel_rfl)
instance g65 : TG Tryd.prog 65 true := ⟨by kernel_rfl⟩
instance u65 : TU Tryd.prog 65 ((Go.TypeDesc.int Go.IntKind.i8)) := ⟨Tryd.underlying65⟩
instance g66 : TG Tryd.prog 66 true := ⟨by kernel_rfl⟩
instance u66 : TU Tryd.prog 66 ((Go.TypeDesc.int Go.IntKind.u64)) := ⟨Tryd.underlying66⟩
instance g68 : TG Tryd.prog 68 false := ⟨by kernel_rfl⟩
instance e68 : EG Tryd.prog 68 := ⟨by kernel_rfl⟩
instance u68 : TU Tryd.prog 68 ((Go.TypeDesc.array 4 66)) := ⟨Tryd.underlying68⟩
instance g70 : TG Tryd.prog 70 false := ⟨by kernel_rfl⟩
instance e70 : EG Tryd.prog 70 := ⟨by kernel_rfl⟩
instance b70 : TB Tryd.prog 70 [(0, 1), (1, 4), (5, 1), (6, 1), (7, 1), (8, 1)] := ⟨by kernel_rfl⟩
instance tq70 : TQ Tryd.prog 70 [(65, 0), (68, 1), (3, 5), (3, 6), (3, 7), (3, 8)] := ⟨by kernel_rfl⟩
instance s70 : TS Tryd.prog 70 [(65, 0), (68, 1), (3, 5), (3, 6), (3, 7), (3, 8)] := ts_of (by kernel_rfl)
instance g72 : TG Tryd.prog 72 true := ⟨by kernel_rfl⟩
instance u72 : TU Tryd.prog 72 ((Go.TypeDesc.slice 3)) := ⟨Tryd.underlying72⟩
instance g75 : TG Tryd.prog 75 true := ⟨by kernel_rfl⟩
instance g77 : TG Tryd.prog 77 true := ⟨by kernel_rfl⟩
instance u77 : TU Tryd.prog 77 ((Go.TypeDesc.map 98 65)) := ⟨Tryd.underlying77⟩
instance g78 : TG Tryd.prog 78 true := ⟨by kernel_rfl⟩
instance g79 : TG Tryd.prog 79 true := ⟨by kernel_rfl⟩
instance b81 : TB Tryd.prog 81 [(0, 1), (1, 1), (2, 1), (3, 1), (4, 1), (5, 1)] := ⟨by kernel_rfl⟩
instance s81 : TS Tryd.prog 81 [(22, 0), (72, 1), (23, 2), (77, 3), (78, 4), (79, 5)] := ts_of (by kernel_rfl)
instance g83 : TG Tryd.prog 83 true := ⟨by kernel_rfl⟩
instance u83 : TU Tryd.prog 83 ((Go.TypeDesc.slice 4)) := ⟨Tryd.underlying83⟩
instance b88 : TB Tryd.prog 88 [(0, 1), (1, 1), (2, 1)] := ⟨by kernel_rfl⟩
instance s88 : TS Tryd.prog 88 [(22, 0), (23, 1), (30, 2)] := ts_of (by kernel_rfl)
instance b94 : TB Tryd.prog 94 [(0, 1), (1, 1), (2, 1)] := ⟨by kernel_rfl⟩
instance s94 : TS Tryd.prog 94 [(22, 0), (3, 1), (83, 2)] := ts_of (by kernel_rfl)
instance g98 : TG Tryd.prog 98 false := ⟨by kernel_rfl⟩
instance b98 : TB Tryd.prog 98 [(0, 1), (1, 1), (2, 1), (3, 1)] := ⟨by kernel_rfl⟩
instance tq98 : TQ Tryd.prog 98 [(3, 0), (3, 1), (3, 2), (3, 3)] := ⟨by kernel_rfl⟩
instance s98 : TS Tryd.prog 98 [(3, 0), (3, 1), (3, 2), (3, 3)] := ts_of (by kernel_rfl)
instance b143 : TB Tryd.prog 143 [(0, 1), (1, 1), (2, 1)] := ⟨by kernel_rfl⟩
instance s143 : TS Tryd.prog 143 [(22, 0), (3, 1), (83, 2)] := ts_of (by kernel_rfl)
instance i3 : TI Tryd.prog 3 1 8 := ti_of (by kernel_rfl)
instance i4 : TI Tryd.prog 4 1 1 := ti_of (by kernel_rfl)
instance i5 : TI Tryd.prog 5 1 1 := ti_of (by kernel_rfl)
instance i22 : TI Tryd.prog 22 1 24 := ti_of (by kernel_rfl)
instance i23 : TI Tryd.prog 23 1 24 := ti_of (by kernel_rfl)
instance i30 : TI Tryd.prog 30 1 24 := ti_of (by kernel_rfl)
instance i38 : TI Tryd.prog 38 1 24 := ti_of (by kernel_rfl)
instance i39 : TI Tryd.prog 39 1 24 := ti_of (by kernel_rfl)
instance i40 : TI Tryd.prog 40 1 24 := ti_of (by kernel_rfl)
instance i41 : TI Tryd.prog 41 1 24 := ti_of (by kernel_rfl)
instance i42 : TI Tryd.prog 42 1 24 := ti_of (by kernel_rfl)
instance i43 : TI Tryd.prog 43 1 24 := ti_of (by kernel_rfl)
instance i44 : TI Tryd.prog 44 1 24 := ti_of (by kernel_rfl)
instance i45 : TI Tryd.prog 45 1 24 := ti_of (by kernel_rfl)
instance i46 : TI Tryd.prog 46 1 24 := ti_of (by kernel_rfl)
instance i47 : TI Tryd.prog 47 1 24 := ti_of (by kernel_rfl)
instance i48 : TI Tryd.prog 48 1 24 := ti_of (by kernel_rfl)
instance i49 : TI Tryd.prog 49 1 24 := ti_of (by kernel_rfl)
instance i50 : TI Tryd.prog 50 1 24 := ti_of (by kernel_rfl)
instance i51 : TI Tryd.prog 51 1 24 := ti_of (by kernel_rfl)
instance i52 : TI Tryd.prog 52 1 24 := ti_of (by kernel_rfl)
instance i53 : TI Tryd.prog 53 1 24 := ti_of (by kernel_rfl)
instance i54 : TI Tryd.prog 54 1 24 := ti_of (by kernel_rfl)
instance i55 : TI Tryd.prog 55 1 24 := ti_of (by kernel_rfl)
instance i56 : TI Tryd.prog 56 1 24 := ti_of (by kernel_rfl)
instance i62 : TI Tryd.prog 62 2 16 := ti_of (by kernel_rfl)
instance i65 : TI Tryd.prog 65 1 1 := ti_of (by kernel_rfl)
instance i66 : TI Tryd.prog 66 1 8 := ti_of (by kernel_rfl)
instance i68 : TI Tryd.prog 68 4 32 := ti_of (by kernel_rfl)
instance i70 : TI Tryd.prog 70 9 72 := ti_of (by kernel_rfl)
instance i72 : TI Tryd.prog 72 1 24 := ti_of (by kernel_rfl)
instance i75 : TI Tryd.prog 75 1 8 := ti_of (by kernel_rfl)
instance i77 : TI Tryd.prog 77 1 8 := ti_of (by kernel_rfl)
instance i78 : TI Tryd.prog 78 1 8 := ti_of (by kernel_rfl)
instance i79 : TI Tryd.prog 79 1 8 := ti_of (by kernel_rfl)
instance i83 : TI Tryd.prog 83 1 24 := ti_of (by kernel_rfl)
instance i98 : TI Tryd.prog 98 4 32 := ti_of (by kernel_rfl)
instance z3 : TZ Tryd.prog 3 (.int .i64 0) := tz_of (by kernel_rfl)
instance z4 : TZ Tryd.prog 4 (.bool false) := tz_of (by kernel_rfl)
instance z5 : TZ Tryd.prog 5 (.int .u8 0) := tz_of (by kernel_rfl)
instance z30 : TZ Tryd.prog 30 (.slice none 0 0) := tz_of (by kernel_rfl)
instance z58 : TZ Tryd.prog 58 (.agg (List.replicate 19 (.slice none 0 0)).toArray) := tz_of (by kernel_rfl)
instance z62 : TZ Tryd.prog 62 (.agg [.int .i64 0, .int .i64 0].toArray) := tz_of (by kernel_rfl)
instance z65 : TZ Tryd.prog 65 (.int .i8 0) := tz_of (by kernel_rfl)
instance z68 : TZ Tryd.prog 68 (.agg [.int .u64 0, .int .u64 0, .int .u64 0, .int .u64 0].toArray) := tz_of (by kernel_rfl)
instance z70 : TZ Tryd.prog 70 (.agg [.int .i8 0, .int .u64 0, .int .u64 0, .int .u64 0, .int .u64 0, .int .i64 0, .int .i64 0, .int .i64 0, .int .i64 0].toArray) := tz_of (by kernel_rfl)
instance z75 : TZ Tryd.prog 75 (.pointer none) := tz_of (by kernel_rfl)
instance z81 : TZ Tryd.prog 81 (.agg [.slice none 0 0, .slice none 0 0, .slice none 0 0, .map none, .nilFunc, .nilFunc].toArray) := tz_of (by kernel_rfl)
instance z88 : TZ Tryd.prog 88 (.agg [.slice none 0 0, .slice none 0 0, .slice none 0 0].toArray) := tz_of (by kernel_rfl)
instance z94 : TZ Tryd.prog 94 (.agg [.slice none 0 0, .int .i64 0, .slice none 0 0].toArray) := tz_of (by kernel_rfl)
instance z98 : TZ Tryd.prog 98 (.agg [.int .i64 0, .int .i64 0, .int .i64 0, .int .i64 0].toArray) := tz_of (by kernel_rfl)
instance z143 : TZ Tryd.prog 143 (.agg [.slice none 0 0, .int .i64 0, .slice none 0 0].toArray) := tz_of (by kernel_rfl)
end Go.Proofs.YtiggliigookieaaDoor

/- Part of the proofs over this seat: see the text that holds the theorem. Conditions: each theorem bears its own. -/
namespace Go.HL.Kl
open Go Go.HL

/-! classes: sets of bytes, as numbers of 256 bits -/
abbrev Cl := BitVec 256
def wd (c : Cl) (i : Nat) : BitVec 64 := c.extractLsb' (64 * i) 64
def Ew (w : BitVec 64) : Value := .int .u64 w.toNat
def Ec (c : Cl) : List Value := [Ew (wd c 0), Ew (wd c 1), Ew (wd c 2), Ew (wd c 3)]
instance : Enc Ec 4 := ⟨fun _ => rfl, fun c v hv => by simp [Ec, Ew] at hv; rcases hv with rfl | rfl | rfl | rfl <;> rfl⟩
theorem Ec_one (c : Cl) : ∀ v ∈ Ec c, v.oneCell' = true := Enc.one c
theorem Ec_get (c : Cl) {i : Nat} (h : i < 4) : (Ec c)[i]? = some (Ew (wd c i)) := by
  match i, h with
  | 0, _ => rfl
  | 1, _ => rfl
  | 2, _ => rfl
  | 3, _ => rfl
def setw (c : Cl) (i : Nat) (w : BitVec 64) : Cl := (c &&& ~~~ ((BitVec.allOnes 64).setWidth 256 <<< (64 * i))) ||| (w.setWidth 256 <<< (64 * i))
theorem setw_get (c : Cl) {i : Nat} (w : BitVec 64) (_hi : i < 4) {j : Nat} (hj : j < 256) : (setw c i w).getLsbD j = if 64 * i ≤ j ∧ j < 64 * i + 64 then w.getLsbD (j - 64 * i) else c.getLsbD j := by
  simp only [setw, BitVec.getLsbD_or, BitVec.getLsbD_and, BitVec.getLsbD_not, BitVec.getLsbD_shiftLeft, BitVec.getLsbD_setWidth, BitVec.getLsbD_allOnes, hj, decide_true, Bool.true_and]
  by_cases h1 : j < 64 * i
  · simp [h1]; omega
  · have h2 : 64 * i ≤ j := by omega
    by_cases h3 : j < 64 * i + 64
    · have h4 : j - 64 * i < 64 := by omega
      have h5 : j - 64 * i < 256 := by omega
      simp [h1, h2, h3, h4, h5]
    · have h4 : ¬ (j - 64 * i < 64) := by omega
      have h5 : w.getLsbD (j - 64 * i) = false := BitVec.getLsbD_of_ge _ _ (by omega)
      simp [h1, h3, h4, h5]
theorem wd_get (c : Cl) (i : Nat) {j : Nat} (hj : j < 64) : (wd c i).getLsbD j = c.getLsbD (64 * i + j) := by
  simp [wd, hj]
theorem wd_setw (c : Cl) {i k : Nat} (w : BitVec 64) (hi : i < 4) (hk : k < 4) : wd (setw c i w) k = if i = k then w else wd c k := by
  apply BitVec.eq_of_getLsbD_eq
  intro j hj
  rw [wd_get _ _ hj, setw_get _ _ hi (by omega)]
  by_cases e : i = k
  · subst e
    have : 64 * i + j - 64 * i = j := by omega
    rw [if_pos (by omega), if_pos rfl, this]
  · rw [if_neg (by omega), if_neg e, wd_get _ _ hj]
theorem Ec_set (c : Cl) {i : Nat} (w : BitVec 64) (hi : i < 4) : (Ec c).set i (Ew w) = Ec (setw c i w) := by
  simp only [Ec, wd_setw c w hi (by decide : 0 < 4), wd_setw c w hi (by decide : 1 < 4), wd_setw c w hi (by decide : 2 < 4), wd_setw c w hi (by decide : 3 < 4)]
  match i, hi with
  | 0, _ => rfl
  | 1, _ => rfl
  | 2, _ => rfl
  | 3, _ => rfl
theorem ext_wd {c d : Cl} (h : ∀ i, i < 4 → wd c i = wd d i) : c = d := by
  apply BitVec.eq_of_getLsbD_eq
  intro j hj
  have h1 := congrArg (fun w => BitVec.getLsbD w (j % 64)) (h (j / 64) (by omega))
  simp only [wd_get _ _ (show j % 64 < 64 by omega)] at h1
  have : 64 * (j / 64) + j % 64 = j := by omega
  rwa [this] at h1
theorem Ec_inj {c d : Cl} (h : Ec c = Ec d) : c = d := by
  simp only [Ec, Ew, List.cons.injEq, Value.int.injEq, true_and, and_true] at h
  obtain ⟨h0, h1, h2, h3⟩ := h
  refine ext_wd fun i hi => ?_
  match i, hi with
  | 0, _ => exact BitVec.eq_of_toNat_eq (by omega)
  | 1, _ => exact BitVec.eq_of_toNat_eq (by omega)
  | 2, _ => exact BitVec.eq_of_toNat_eq (by omega)
  | 3, _ => exact BitVec.eq_of_toNat_eq (by omega)
/-- the numbers of a class, as the comparison sees them -/
def Ic (c : Cl) : List Int := [((wd c 0).toNat : Int), ((wd c 1).toNat : Int), ((wd c 2).toNat : Int), ((wd c 3).toNat : Int)]
theorem Ec_ints (c : Cl) : Ec c = intsV .u64 (Ic c) := rfl
theorem Ic_inj {c d : Cl} : Ic c = Ic d ↔ c = d := ⟨fun h => Ec_inj (by rw [Ec_ints, Ec_ints, h]), fun h => by rw [h]⟩

/-! one byte -/
def bit (x : Nat) : Cl := 1#256 <<< x
theorem bit_get {x j : Nat} (hj : j < 256) : (bit x).getLsbD j = decide (j = x) := by
  simp only [bit, BitVec.getLsbD_shiftLeft, hj, decide_true, Bool.true_and, BitVec.getLsbD_one]
  by_cases h : j = x
  · subst h; simp
  · by_cases h2 : j < x
    · simp [h, h2]
    · have : ¬ (j - x = 0) := by omega
      simp [h, h2]; omega
theorem with_eq (c : Cl) {x : Nat} (hx : x < 256) : setw c (x / 64) (wd c (x / 64) ||| (1#64 <<< (x % 64))) = c ||| bit x := by
  apply BitVec.eq_of_getLsbD_eq
  intro j hj
  rw [setw_get _ _ (by omega) hj, BitVec.getLsbD_or (x := c), bit_get hj]
  by_cases h : 64 * (x / 64) ≤ j ∧ j < 64 * (x / 64) + 64
  · rw [if_pos h, BitVec.getLsbD_or, wd_get _ _ (by omega)]
    have e : 64 * (x / 64) + (j - 64 * (x / 64)) = j := by omega
    rw [e]
    congr 1
    simp only [BitVec.getLsbD_shiftLeft, BitVec.getLsbD_one]
    by_cases h2 : j = x
    · have h3 : j - 64 * (x / 64) = x % 64 := by omega
      simp [h2]; omega
    · have h3 : ¬ (j - 64 * (x / 64) = x % 64) := by omega
      by_cases h4 : j - 64 * (x / 64) < x % 64
      · simp [h2, h4]
      · have h5 : ¬ (j - 64 * (x / 64) - x % 64 = 0) := by omega
        simp [h2, h4]; omega
  · rw [if_neg h]
    have h2 : ¬ (j = x) := by omega
    simp [h2]

/-! the program's arithmetic on bytes and words -/
theorem wrap_u64 (n : Int) : IntKind.u64.wrap n = n % 18446744073709551616 := by simp [IntKind.wrap, IntKind.signed, IntKind.bits]
theorem wrap64 (w : BitVec 64) : IntKind.u64.wrap (w.toNat : Int) = w.toNat := by
  have := w.isLt
  rw [wrap_u64]; omega
theorem of64 (w : BitVec 64) : BitVec.ofInt IntKind.u64.bits (w.toNat : Int) = w := by
  apply BitVec.eq_of_toNat_eq
  have := w.isLt
  simp [IntKind.bits]
/-- x & 63, x % 64 -/
theorem v_and63 {x : Nat} (hx : x < 256) : IntKind.u8.wrap (BitVec.ofInt IntKind.u8.bits (x : Int) &&& BitVec.ofInt IntKind.u8.bits 63).toNat = ((x % 64 : Nat) : Int) := by
  have : ∀ x : Fin 256, IntKind.u8.wrap (BitVec.ofInt IntKind.u8.bits (x.val : Int) &&& BitVec.ofInt IntKind.u8.bits 63).toNat = ((x.val % 64 : Nat) : Int) := by decide +kernel
  exact this ⟨x, hx⟩
theorem v_shl1 {k : Nat} (hk : k < 64) : Value.int .u64 (IntKind.u64.wrap (1 * 2 ^ (min ((k : Nat) : Int).toNat IntKind.u64.bits))) = Ew (1#64 <<< k) := by
  have e : min ((k : Nat) : Int).toNat IntKind.u64.bits = k := by simp [IntKind.bits]; omega
  rw [e]
  have h1 : (2 : Nat) ^ k < 2 ^ 64 := Nat.pow_lt_pow_right (by decide) hk
  have h2 : ((2 : Int) ^ k) = ((2 ^ k : Nat) : Int) := by simp
  simp only [Ew, Value.int.injEq, true_and, Int.one_mul]
  rw [h2, wrap_u64]
  have h3 : (1#64 <<< k).toNat = 2 ^ k := by
    rw [BitVec.toNat_shiftLeft, BitVec.toNat_ofNat, Nat.shiftLeft_eq]
    simp
    exact h1
  rw [h3]; omega
/-- a word's bit, as Has reads it -/
theorem has_eq (w : BitVec 64) {k : Nat} (hk : k < 64) : decide (IntKind.u64.wrap (BitVec.ofInt IntKind.u64.bits ((w.toNat : Int).fdiv (2 ^ (min ((k : Nat) : Int).toNat IntKind.u64.bits))) &&& BitVec.ofInt IntKind.u64.bits 1).toNat = 1) = w.getLsbD k := by
  have e : min ((k : Nat) : Int).toNat IntKind.u64.bits = k := by simp [IntKind.bits]; omega
  rw [e]
  have h2 : ((2 : Int) ^ k) = ((2 ^ k : Nat) : Int) := by simp
  have h3 : (w.toNat : Int).fdiv (2 ^ k) = ((w >>> k).toNat : Int) := by
    rw [h2, Int.fdiv_eq_ediv_of_nonneg _ (Int.natCast_nonneg _), BitVec.toNat_ushiftRight, Nat.shiftRight_eq_div_pow]; rfl
  have h4 : BitVec.ofInt IntKind.u64.bits 1 = 1#64 := rfl
  rw [h3, of64, h4]
  have h6 : IntKind.u64.wrap ((w >>> k &&& 1#64).toNat : Int) = ((w >>> k &&& 1#64).toNat : Int) := wrap64 _
  refine (congrArg (fun z => decide (z = 1)) h6).trans ?_
  have h5 : (w >>> k &&& 1#64).toNat = if w.getLsbD k then 1 else 0 := by
    have := BitVec.and_one_eq_setWidth_ofBool_getLsbD (x := w >>> k)
    rw [this, BitVec.getLsbD_ushiftRight, Nat.add_zero]
    cases w.getLsbD k <;> rfl
  rw [h5]
  cases w.getLsbD k <;> simp
end Go.HL.Kl

/- Part of the proofs over this seat: see the text that holds the theorem. Conditions: each theorem bears its own. -/
namespace Go.HL.Kl
open Go Go.HL

theorem shr6_u8 {x : Nat} (hx : x < 256) : ((x : Int)).fdiv (2 ^ (min (6 : Int).toNat IntKind.u8.bits)) = ((x / 64 : Nat) : Int) := by
  have : ∀ x : Fin 256, ((x.val : Int)).fdiv (2 ^ (min (6 : Int).toNat IntKind.u8.bits)) = ((x.val / 64 : Nat) : Int) := by decide +kernel
  exact this ⟨x, hx⟩
theorem quo64 {x : Nat} (hx : x < 256) : IntKind.u8.wrap ((x : Int).tdiv 64) = ((x / 64 : Nat) : Int) := by
  have : ∀ x : Fin 256, IntKind.u8.wrap ((x.val : Int).tdiv 64) = ((x.val / 64 : Nat) : Int) := by decide +kernel
  exact this ⟨x, hx⟩
theorem rem64 {x : Nat} (hx : x < 256) : (x : Int).tmod 64 = ((x % 64 : Nat) : Int) := by
  have : ∀ x : Fin 256, (x.val : Int).tmod 64 = ((x.val % 64 : Nat) : Int) := by decide +kernel
  exact this ⟨x, hx⟩
theorem wd_bit (c : Cl) {x : Nat} (_hx : x < 256) : (wd c (x / 64)).getLsbD (x % 64) = c.getLsbD x := by
  rw [wd_get _ _ (by omega)]
  congr 1; omega
theorem hasB (c : Cl) {x : Nat} (hx : x < 256) : decide (IntKind.u64.wrap (BitVec.ofInt IntKind.u64.bits (((wd c (x / 64)).toNat : Int).fdiv (2 ^ (min (((x % 64 : Nat) : Nat) : Int).toNat IntKind.u64.bits))) &&& BitVec.ofInt IntKind.u64.bits 1).toNat = 1) = c.getLsbD x := by
  rw [has_eq _ (by omega), wd_bit c hx]
theorem Ec_zero : Ec 0#256 = [.int .u64 0, .int .u64 0, .int .u64 0, .int .u64 0] := by simp [Ec, Ew, wd]

theorem Ic_len (c : Cl) : (Ic c).length = 4 := rfl
section
variable {P : Program} {κ : Cx} {L : Loc} {H : Hp} {ty t t' : TypeId} {x y : Operand}
theorem s_neq_cl {e b : Nat} {k' : IntKind} [TU P t (.array 4 e)] [TU P e (.int k')] [TG P e true] [TI P e 1 b] [EG P t] {c d : Cl} (hx : ev L x = some (.agg (Ec c).toArray)) (hy : ev L y = some (.agg (Ec d).toArray)) : Step P κ (.binOp .neq t x y t') ty L H (.bool (decide (c ≠ d))) :=
  step_cast (s_neq_arr (j := .u64) (xs := Ic c) (ys := Ic d) (by rw [← Ec_ints]; exact hx) (by rw [← Ec_ints]; exact hy) (Ic_len c) (Ic_len d)) (congrArg Value.bool (decide_eq_decide.2 (not_congr Ic_inj)))
end

/-! word by word -/
def mapW (f : Nat → BitVec 64 → BitVec 64) (c : Cl) : Nat → Cl
  | 0 => c
  | i + 1 => setw (mapW f c i) i (f i (wd (mapW f c i) i))
/-- so far: the bytes below i of which p says yes -/
def Part (p : Nat → Bool) (i : Nat) (c : Cl) : Prop := ∀ j, j < 256 → c.getLsbD j = (decide (j < i) && p j)
/-- from lo on, below x -/
def rngTo (lo : Nat) : Nat → Cl
  | 0 => 0
  | x + 1 => if lo ≤ x then rngTo lo x ||| bit x else 0
def rng (lo hi : Nat) : Cl := rngTo lo (hi + 1)
def ofL (l : List UInt8) : Cl := l.foldl (fun c b => c ||| bit b.toNat) 0
def sizeTo (c : Cl) (i : Nat) : Nat := (List.range i).countP c.getLsbD
def size (c : Cl) : Nat := sizeTo c 256
def memsTo (c : Cl) (i : Nat) : List Nat := (List.range i).filter c.getLsbD
def mems (c : Cl) : List Nat := memsTo c 256
/-- a byte, encoded by its number -/
def Eby (b : Nat) : List Value := [.int .u8 b]
instance : Enc Eby 1 := ⟨fun _ => rfl, fun _ _ h => by simp [Eby] at h; subst h; rfl⟩
end Go.HL.Kl

/- Part of the proofs over this seat: see the text that holds the theorem. Conditions: each theorem bears its own. -/
namespace Go.HL.Kl
open Go Go.HL

/-! OnesCount64: the sums of the lanes -/
/-- n lanes of k bits -/
def pk (k : Nat) : Nat → (Nat → Nat) → Nat
  | 0, _ => 0
  | n + 1, f => 2 ^ k * pk k n (fun i => f (i + 1)) + f 0
/-- the bits, as lanes -/
def bt (w : BitVec 64) (i : Nat) : Nat := if w.getLsbD i then 1 else 0
def popW (w : BitVec 64) : Nat := (List.range 64).countP w.getLsbD
def sums (f : Nat → Nat) (i : Nat) : Nat := f (2 * i) + f (2 * i + 1)
/-- OnesCount64's sums, as the text has them -/
def oc1 (w : BitVec 64) : BitVec 64 := ((w >>> 1) &&& 6148914691236517205#64) + (w &&& 6148914691236517205#64)
def oc2 (w : BitVec 64) : BitVec 64 := ((w >>> 2) &&& 3689348814741910323#64) + (w &&& 3689348814741910323#64)
def oc3 (w : BitVec 64) : BitVec 64 := ((w >>> 4) + w) &&& 1085102592571150095#64
def oc4 (k : Nat) (w : BitVec 64) : BitVec 64 := w + (w >>> k)
def sm (f : Nat → Nat) : Nat → Nat
  | 0 => 0
  | n + 1 => sm f n + f n
end Go.HL.Kl

/- Part of the proofs over this seat: see the text that holds the theorem. Conditions: each theorem bears its own. -/
namespace Go.HL.Kl
open Go Go.HL

/-! the size, word by word -/
/-- the members of a word, from 64 i on -/
def wmem (i : Nat) (w : BitVec 64) : List Nat := ((List.range 64).filter w.getLsbD).map fun j => 64 * i + j
/-- what is still to come, at word i with w of it left -/
def restW (c : Cl) (i : Nat) (w : BitVec 64) : List Nat := wmem i w ++ (mems c).drop (memsTo c (64 * i + 64)).length
end Go.HL.Kl

/- Mathematics of regexes as lists of nodes: forests, and what the layer 5 asks of them. Conditions: none. -/
namespace Go.HL.Kl.Mc
open Go Go.HL Go.HL.Kl
/-- a node -/
structure Nd where
  op : Int
  set : Cl
  n : Int
  mn : Int
  mx : Int
  kids : Int
  deriving DecidableEq
def En (x : Nd) : List Value := .int .i8 x.op :: (Ec x.set ++ [.int .i64 x.n, .int .i64 x.mn, .int .i64 x.mx, .int .i64 x.kids])
instance : Enc En 9 := ⟨fun x => by simp [En, Enc.len], fun x v hv => by
  simp only [En, List.mem_cons, List.mem_append, List.not_mem_nil, or_false] at hv
  rcases hv with rfl | hv | rfl | rfl | rfl | rfl
  · rfl
  · exact Ec_one _ v hv
  all_goals rfl⟩
/-- may a node have these numbers? -/
def flds (x : Nd) : Bool :=
  decide (1 ≤ x.op ∧ x.op ≤ 8) && (decide (x.op = 1) || decide (x.set = 0)) && (decide (x.op = 7 ∨ x.op = 8) || decide (x.n = 0)) &&
  (if x.op = 6 then decide (0 ≤ x.mn ∧ x.mn ≤ 255 ∧ (x.mx = -1 ∨ x.mn ≤ x.mx ∧ x.mx ≤ 255)) else decide (x.mn = 0 ∧ x.mx = 0))
def kidsOk (x : Nd) : Bool :=
  if x.op = 6 ∨ x.op = 7 then decide (x.kids = 1) else if x.op = 4 then decide (x.kids = 0 ∨ 2 ≤ x.kids) else if x.op = 5 then decide (2 ≤ x.kids) else decide (x.kids = 0)
def ndOk (x : Nd) : Bool := flds x && kidsOk x
/-- forests: the first tree's node, what is in it, the others -/
inductive F
  | nil
  | nd (x : Nd) (ks r : F)
namespace F
def flat : F → List Nd
  | nil => []
  | nd x ks r => x :: (ks.flat ++ r.flat)
/-- trees -/
def num : F → Nat
  | nil => 0
  | nd _ _ r => r.num + 1
def size : F → Nat
  | nil => 0
  | nd _ ks r => ks.size + r.size + 1
def wf : F → Prop
  | nil => True
  | nd x ks r => ndOk x = true ∧ (ks.num : Int) = x.kids ∧ ks.wf ∧ r.wf
def depth : F → Nat
  | nil => 0
  | nd _ ks r => max (ks.depth + 1) r.depth
theorem flat_size : ∀ f : F, f.flat.length = f.size
  | nil => rfl
  | nd x ks r => by simp only [flat, List.length_cons, List.length_append, flat_size ks, flat_size r, size]
end F
end Go.HL.Kl.Mc

/- Mathematics of regexes as lists of nodes: which are well shaped. Conditions: none. -/
namespace Go.HL.Kl.Mc
open Go Go.HL Go.HL.Kl
/-- what a group or a reference asks of the groups so far -/
def gate (x : Nd) (en : List Bool) (g : Nat) : Option (List Bool × Nat) :=
  if x.op = 8 then (if 1 ≤ x.n ∧ x.n ≤ en.length ∧ en[x.n.toNat - 1]? = some true then some (en, g) else none)
  else if x.op = 7 then (if x.n = en.length + 1 ∧ x.n ≤ 255 ∧ g < 64 then some (en ++ [false], g + 1) else none)
  else some (en, g)
def kidsN (step : Nat → List Bool → Option (Nat × List Bool)) : Nat → Nat → List Bool → Option (Nat × List Bool)
  | 0, i, en => some (i, en)
  | k + 1, i, en => match step i en with
    | none => none
    | some (i', en') => kidsN step k i' en'
def shN (re : List Nd) : Nat → Nat → List Bool → Nat → Option (Nat × List Bool)
  | 0, _, _, _ => none
  | f + 1, i, en, g => match re[i]? with
    | none => none
    | some x => if ndOk x = true then
        match gate x en g with
        | none => none
        | some (en1, g1) => match kidsN (fun i en => shN re f i en g1) x.kids.toNat (i + 1) en1 with
          | none => none
          | some (i2, en2) => some (i2, if x.op = 7 then en2.set (x.n.toNat - 1) true else en2)
      else none
theorem ndOk_kids {x : Nd} (h : ndOk x = true) : 0 ≤ x.kids := by
  simp only [ndOk, Bool.and_eq_true, kidsOk] at h
  have h := h.2
  split at h
  · simp at h; omega
  · split at h
    · simp at h; omega
    · split at h <;> simp at h <;> omega
/-- a tree of the list at a place -/
structure TreeAt (re : List Nd) (d i i' : Nat) (x : Nd) (ks : F) : Prop where
  wf : (F.nd x ks .nil).wf
  flat : re.drop i = x :: (ks.flat ++ re.drop i')
  dep : ks.depth + 1 ≤ d
  len : i' = i + 1 + ks.size
  le : i' ≤ re.length
structure ForAt (re : List Nd) (d k i i' : Nat) (ks : F) : Prop where
  wf : ks.wf
  num : ks.num = k
  flat : re.drop i = ks.flat ++ re.drop i'
  dep : ks.depth ≤ d
  len : i' = i + ks.size
  le : i ≤ re.length → i' ≤ re.length
theorem kidsN_for {re : List Nd} {d : Nat} {step : Nat → List Bool → Option (Nat × List Bool)} (hs : ∀ i en i' en', step i en = some (i', en') → ∃ x ks, TreeAt re d i i' x ks) :
    ∀ k i en i' en', kidsN step k i en = some (i', en') → ∃ ks, ForAt re d k i i' ks := by
  intro k
  induction k with
  | zero =>
    intro i en i' en' h
    simp only [kidsN, Option.some.injEq, Prod.mk.injEq] at h
    obtain ⟨rfl, rfl⟩ := h
    exact ⟨.nil, trivial, rfl, rfl, Nat.zero_le _, rfl, id⟩
  | succ k ih =>
    intro i en i' en' h
    simp only [kidsN] at h
    split at h
    · cases h
    · rename_i j en1 hst
      obtain ⟨x, ks, ht⟩ := hs _ _ _ _ hst
      obtain ⟨r, hr⟩ := ih _ _ _ _ h
      refine ⟨.nd x ks r, ⟨ht.wf.1, ht.wf.2.1, ht.wf.2.2.1, hr.wf⟩, by simp [F.num, hr.num], by rw [ht.flat, hr.flat]; simp [F.flat], ?_, by rw [hr.len, ht.len]; simp only [F.size]; omega, fun _ => hr.le ht.le⟩
      simp only [F.depth]
      have := ht.dep; have := hr.dep
      omega
theorem shN_tree {re : List Nd} : ∀ f i en g i' en', shN re f i en g = some (i', en') → ∃ x ks, TreeAt re f i i' x ks := by
  intro f
  induction f with
  | zero => intro i en g i' en' h; cases h
  | succ f ih =>
    intro i en g i' en' h
    simp only [shN] at h
    split at h
    · cases h
    · rename_i x hx
      have hlt : i < re.length := (List.getElem?_eq_some_iff.1 hx).1
      split at h
      · rename_i hok
        split at h
        · cases h
        · rename_i en1 g1 hg
          split at h
          · cases h
          · rename_i i2 en2 hk
            simp only [Option.some.injEq, Prod.mk.injEq] at h
            obtain ⟨rfl, -⟩ := h
            obtain ⟨ks, hks⟩ := kidsN_for (fun i en i' en' h => ih i en g1 i' en' h) _ _ _ _ _ hk
            have h0 := ndOk_kids hok
            refine ⟨x, ks, ⟨hok, by rw [hks.num]; omega, hks.wf, trivial⟩, ?_, by have := hks.dep; omega, by rw [hks.len], hks.le hlt⟩
            rw [List.drop_eq_getElem_cons hlt, hks.flat]
            rw [List.getElem?_eq_getElem hlt] at hx
            simp at hx
            rw [hx]
      · cases h
/-- weights -/
def times (x : Nd) : Nat := if x.op = 6 then (if x.mx < 0 then x.mn.toNat + 1 else max x.mx.toNat 1) else 1
namespace F
def weight : F → Nat
  | nil => 0
  | nd x ks r => (1 + times x * ks.weight) + r.weight
end F
def cut (n : Nat) : Nat := min n 16385
theorem cut_add (a b : Nat) : cut (cut a + cut b) = cut (a + b) := by unfold cut; omega
theorem cut_mul {t a : Nat} (ht : 1 ≤ t) : cut (1 + t * cut a) = cut (1 + t * a) := by
  unfold cut
  rcases Nat.le_total a 16385 with h | h
  · rw [Nat.min_eq_left h]
  · rw [Nat.min_eq_right h]
    have h1 : 16385 ≤ t * 16385 := Nat.le_mul_of_pos_left _ ht
    have h2 : t * 16385 ≤ t * a := Nat.mul_le_mul_left _ h
    omega
theorem times_pos (x : Nd) : 1 ≤ times x := by
  unfold times
  split
  · split <;> omega
  · exact Nat.le_refl _
theorem times_le {x : Nd} (h : ndOk x = true) : times x ≤ 256 := by
  simp only [ndOk, flds, Bool.and_eq_true] at h
  have h := h.1.2
  unfold times
  split
  · rename_i h6
    rw [if_pos h6] at h
    simp at h
    split <;> omega
  · omega
/-- a well shaped list: its forest is one tree -/
structure Shp (re : List Nd) (x : Nd) (ks : F) : Prop where
  wf : (F.nd x ks .nil).wf
  flat : re = x :: ks.flat
  dep : ks.depth + 1 ≤ 260
  weight : (F.nd x ks .nil).weight ≤ 16384
open Classical in
noncomputable def shapedP (re : List Nd) : Bool := decide (∃ en, shN re 260 0 [] 0 = some (re.length, en)) && decide (∃ x ks, Shp re x ks)
end Go.HL.Kl.Mc

/- Mathematics of machines: where derivations end, the code of a regex, its runs. Conditions: none. -/
namespace Go.HL.Kl.Mc
open Go Go.HL Go.HL.Kl
/-- so many rounds -/
def pow (D : Nat → Nat → Prop) : Nat → Nat → Nat → Prop
  | 0, p, q => p = q
  | k + 1, p, q => ∃ m, D p m ∧ pow D k m q
def rounds (x : Nd) (D : Nat → Nat → Prop) (p q : Nat) : Prop := ∃ k : Nat, x.mn ≤ (k : Int) ∧ (x.mx = -1 ∨ (k : Int) ≤ x.mx) ∧ pow D k p q
/-- the derivations of a forest: its trees one behind the other; or one of them -/
def der (w : List UInt8) : F → Bool → Nat → Nat → Prop
  | .nil, m, p, q => m = false ∧ p = q
  | .nd x ks r, m, p, q =>
    let one : Nat → Nat → Prop := fun p q =>
      if x.op = 1 then q = p + 1 ∧ ∃ b, w[p]? = some b ∧ x.set.getLsbD b.toNat = true
      else if x.op = 2 then p = 0 ∧ q = 0
      else if x.op = 3 then p = w.length ∧ q = p
      else if x.op = 5 then der w ks true p q
      else if x.op = 6 then rounds x (der w ks false) p q
      else der w ks false p q
    if m = true then one p q ∨ der w r true p q else ∃ t, one p t ∧ der w r false t q
/-- an instruction -/
structure In where
  op : Int
  set : Cl
  x : Int
  y : Int
  deriving DecidableEq
def Ein (i : In) : List Value := .int .i8 i.op :: (Ec i.set ++ [.int .i64 i.x, .int .i64 i.y])
instance : Enc Ein 7 := ⟨fun x => by simp [Ein, Enc.len], fun x v hv => by
  simp only [Ein, List.mem_cons, List.mem_append, List.not_mem_nil, or_false] at hv
  rcases hv with rfl | hv | rfl | rfl
  · rfl
  · exact Ec_one _ v hv
  all_goals rfl⟩
def lenOne (x : Nd) (cat alt : Nat) : Nat :=
  if x.op = 1 ∨ x.op = 2 ∨ x.op = 3 then 1 else if x.op = 5 then alt
  else if x.op = 6 then x.mn.toNat * cat + (if x.mx = -1 then cat + 2 else (x.mx - x.mn).toNat * (cat + 1)) else cat
def lenM : F → Bool → Nat
  | .nil, _ => 0
  | .nd x ks r, m => lenOne x (lenM ks false) (lenM ks true) + (if m = true then (match r with | .nil => 0 | _ => 2) else 0) + lenM r m
def copies (c : Nat → List In) (L : Nat) : Nat → Nat → List In
  | 0, _ => []
  | k + 1, b => c b ++ copies c L k (b + L)
def opts (c : Nat → List In) (L e : Nat) : Nat → Nat → List In
  | 0, _ => []
  | k + 1, b => ⟨5, 0, (b + 1 : Nat), e⟩ :: (c (b + 1) ++ opts c L e k (b + 1 + L))
def repC (x : Nd) (c : Nat → List In) (L b : Nat) : List In :=
  copies c L x.mn.toNat b ++
    (let b1 := b + x.mn.toNat * L
     if x.mx = -1 then ⟨5, 0, (b1 + 1 : Nat), (b1 + L + 2 : Nat)⟩ :: (c (b1 + 1) ++ [⟨4, 0, (b1 : Nat), 0⟩])
     else opts c L (b1 + (x.mx - x.mn).toNat * (L + 1)) (x.mx - x.mn).toNat b1)
def oneC (x : Nd) (c a : Nat → List In) (L b : Nat) : List In :=
  if x.op = 1 then [⟨1, x.set, 0, 0⟩] else if x.op = 2 then [⟨2, 0, 0, 0⟩] else if x.op = 3 then [⟨3, 0, 0, 0⟩]
  else if x.op = 5 then a b else if x.op = 6 then repC x c L b else c b
/-- the code of a forest, from the place b on; alternatives end at e -/
def code : F → Bool → Nat → Nat → List In
  | .nil, _, _, _ => []
  | .nd x ks r, m, b, e =>
    let one : Nat → List In := oneC x (fun b => code ks false b 0) (fun b => code ks true b (b + lenM ks true)) (lenM ks false)
    let L := lenOne x (lenM ks false) (lenM ks true)
    if m = true then (match r with
      | .nil => one b
      | _ => ⟨5, 0, (b + 1 : Nat), (b + L + 2 : Nat)⟩ :: (one (b + 1) ++ (⟨4, 0, e, 0⟩ :: code r true (b + L + 2) e)))
    else one b ++ code r false (b + L) 0
/-- a step of a machine in a text -/
inductive Stp (m : List In) (w : List UInt8) : Nat × Nat → Nat × Nat → Prop
  | set {i p : Nat} {t : In} {b : UInt8} (h : m[i]? = some t) (ho : t.op = 1) (hb : w[p]? = some b) (hs : t.set.getLsbD b.toNat = true) : Stp m w (i, p) (i + 1, p + 1)
  | bol {i : Nat} {t : In} (h : m[i]? = some t) (ho : t.op = 2) : Stp m w (i, 0) (i + 1, 0)
  | eol {i : Nat} {t : In} (h : m[i]? = some t) (ho : t.op = 3) : Stp m w (i, w.length) (i + 1, w.length)
  | jmp {i p j : Nat} {t : In} (h : m[i]? = some t) (ho : t.op = 4) (hx : t.x = (j : Int)) : Stp m w (i, p) (j, p)
  | spx {i p j : Nat} {t : In} (h : m[i]? = some t) (ho : t.op = 5) (hx : t.x = (j : Int)) : Stp m w (i, p) (j, p)
  | spy {i p j : Nat} {t : In} (h : m[i]? = some t) (ho : t.op = 5) (hy : t.y = (j : Int)) : Stp m w (i, p) (j, p)
inductive RunN (m : List In) (w : List UInt8) : Nat → Nat × Nat → Nat × Nat → Prop
  | zero {c : Nat × Nat} : RunN m w 0 c c
  | step {n : Nat} {c c' c'' : Nat × Nat} (h : Stp m w c c') (hr : RunN m w n c' c'') : RunN m w (n + 1) c c''
def Run (m : List In) (w : List UInt8) (c c' : Nat × Nat) : Prop := ∃ n, RunN m w n c c'
variable {m : List In} {w : List UInt8}
/-- code that lies in a machine at a place -/
def At (m : List In) (b : Nat) (c : List In) : Prop := ∀ i t, c[i]? = some t → m[b + i]? = some t
/-- a part of the machine from b to b + L means D -/
structure Means (m : List In) (w : List UInt8) (b e : Nat) (D : Nat → Nat → Prop) : Prop where
  le : b ≤ e
  run : ∀ p q, D p q → Run m w (b, p) (e, q)
  out : ∀ n p c q, RunN m w n (b, p) (c, q) → ¬ (b ≤ c ∧ c < e) → ∃ k q', k ≤ n ∧ D p q' ∧ RunN m w k (e, q') (c, q)
theorem pow_add {D : Nat → Nat → Prop} : ∀ a b p q, pow D (a + b) p q ↔ ∃ t, pow D a p t ∧ pow D b t q
  | 0, b, p, q => by simp [pow]
  | a + 1, b, p, q => by
    rw [show a + 1 + b = (a + b) + 1 by omega]
    simp only [pow, pow_add a b]
    constructor
    · rintro ⟨s, h, t, h1, h2⟩; exact ⟨t, ⟨s, h, h1⟩, h2⟩
    · rintro ⟨t, ⟨s, h, h1⟩, h2⟩; exact ⟨s, h, t, h1, h2⟩
/-- the fields of a repetition -/
theorem rep_flds {x : Nd} (h : ndOk x = true) (h6 : x.op = 6) : 0 ≤ x.mn ∧ x.mn ≤ 255 ∧ (x.mx = -1 ∨ x.mn ≤ x.mx ∧ x.mx ≤ 255) := by
  simp only [ndOk, flds, Bool.and_eq_true] at h
  have h := h.1.2
  rw [if_pos h6] at h
  simpa using h
end Go.HL.Kl.Mc

/- Mathematics of machines: runs place by place; the machine of a regex is well shaped. Conditions: none. -/
namespace Go.HL.Kl.Mc
open Go Go.HL Go.HL.Kl
variable {m : List In} {w : List UInt8}
/-- a step without a byte, at a place -/
def Eps (m : List In) (n p i j : Nat) : Prop := ∃ t, m[i]? = some t ∧ ((t.op = 2 ∧ p = 0 ∧ j = i + 1) ∨ (t.op = 3 ∧ p = n ∧ j = i + 1) ∨ (t.op = 4 ∧ t.x = (j : Int)) ∨ (t.op = 5 ∧ (t.x = (j : Int) ∨ t.y = (j : Int))))
inductive EpsS (m : List In) (n p : Nat) : Nat → Nat → Prop
  | refl {i : Nat} : EpsS m n p i i
  | head {i j k : Nat} (h : Eps m n p i j) (hs : EpsS m n p j k) : EpsS m n p i k
def Eat (m : List In) (w : List UInt8) (i p : Nat) : Prop := ∃ t b, m[i]? = some t ∧ t.op = 1 ∧ w[p]? = some b ∧ t.set.getLsbD b.toNat = true
/-- is there a run from a place to another? -/
def Hit (m : List In) (w : List UInt8) (f p : Nat) : Prop := ∃ i t, Run m w (0, f) (i, p) ∧ m[i]? = some t ∧ t.op = 6
/-- well shaped machines -/
def InOk (E : Nat) (t : In) : Prop := (1 ≤ t.op ∧ t.op ≤ 6) ∧ (t.op = 1 ∨ t.set = 0) ∧ (0 ≤ t.x ∧ t.x ≤ (if t.op = 4 ∨ t.op = 5 then (E : Int) else 0)) ∧ (0 ≤ t.y ∧ t.y ≤ (if t.op = 5 then (E : Int) else 0))
instance (E : Nat) (t : In) : Decidable (InOk E t) := by unfold InOk; infer_instance
def MOk (m : List In) : Prop := 1 ≤ m.length ∧ m.length ≤ 65540 ∧ ∀ i t, m[i]? = some t → InOk (m.length - 1) t ∧ (t.op ≤ 3 → i + 1 < m.length)
/-- the code of a regex keeps to its bounds -/
def CodeOk (E : Nat) (c : List In) : Prop := ∀ t ∈ c, InOk E t ∧ t.op ≤ 5
/-- the machine of a forest -/
def mach (f : F) : List In := code f false 0 0 ++ [⟨6, 0, 0, 0⟩]
end Go.HL.Kl.Mc

/- Mathematics of sets of places. Conditions: none. -/
namespace Go.HL.Kl.Mc
open Go Go.HL Go.HL.Kl
/-- a list of booleans that tells a set of places -/
structure IsS (l : List Bool) (N : Nat) (S : Nat → Prop) : Prop where
  len : l.length = N + 1
  get : ∀ p, p ≤ N → (l[p]? = some true ↔ S p)
theorem IsS.iff {l : List Bool} {N : Nat} {S S' : Nat → Prop} (h : IsS l N S) (hs : ∀ p, p ≤ N → (S p ↔ S' p)) : IsS l N S' := ⟨h.len, fun p hp => (h.get p hp).trans (hs p hp)⟩
def img (D : Nat → Nat → Prop) (S : Nat → Prop) (q : Nat) : Prop := ∃ p, S p ∧ D p q
/-- derivations keep to the text -/
def Inn (N : Nat) (D : Nat → Nat → Prop) : Prop := ∀ p q, p ≤ N → D p q → q ≤ N
/-- those of one node with all in it -/
def der1 (w : List UInt8) (x : Nd) (ks : F) (p q : Nat) : Prop := der w (.nd x ks .nil) false p q
theorem der1_def {w : List UInt8} {x : Nd} {ks : F} {p q : Nat} : der1 w x ks p q ↔
    (if x.op = 1 then q = p + 1 ∧ ∃ b, w[p]? = some b ∧ x.set.getLsbD b.toNat = true
      else if x.op = 2 then p = 0 ∧ q = 0
      else if x.op = 3 then p = w.length ∧ q = p
      else if x.op = 5 then der w ks true p q
      else if x.op = 6 then rounds x (der w ks false) p q
      else der w ks false p q) := by
  unfold der1
  rw [der]
  simp [der]
theorem der_cat {w : List UInt8} {x : Nd} {ks r : F} {p q : Nat} : der w (.nd x ks r) false p q ↔ ∃ t, der1 w x ks p t ∧ der w r false t q := by
  conv => lhs; rw [der]
  simp only [Bool.false_eq_true, if_false, der1_def]
theorem der_alt {w : List UInt8} {x : Nd} {ks r : F} {p q : Nat} : der w (.nd x ks r) true p q ↔ der1 w x ks p q ∨ der w r true p q := by
  conv => lhs; rw [der]
  simp only [if_true, der1_def]
theorem der_nil {w : List UInt8} {p q : Nat} : der w .nil false p q ↔ p = q := by simp [der]
theorem der_nil' {w : List UInt8} {p q : Nat} : der w .nil true p q ↔ False := by simp [der]
theorem pow_inn {N : Nat} {D : Nat → Nat → Prop} (h : Inn N D) : ∀ k, Inn N (pow D k)
  | 0, p, q, hp, e => by obtain rfl : p = q := e
                         exact hp
  | k + 1, p, q, hp, ⟨t, h1, h2⟩ => pow_inn h k t q (h p t hp h1) h2
theorem rounds_inn {N : Nat} {x : Nd} {D : Nat → Nat → Prop} (h : Inn N D) : Inn N (rounds x D) := fun p q hp ⟨k, _, _, hk⟩ => pow_inn h k p q hp hk
theorem der_inn {w : List UInt8} : ∀ (f : F) (md : Bool), Inn w.length (der w f md)
  | .nil, md, p, q, hp, h => by
    obtain ⟨_, rfl⟩ : md = false ∧ p = q := by simpa [der] using h
    exact hp
  | .nd x ks r, md, p, q, hp, h => by
    have h1 : ∀ p q, p ≤ w.length → der1 w x ks p q → q ≤ w.length := by
      intro p q hp h
      rw [der1_def] at h
      split at h
      · obtain ⟨rfl, b, hb, _⟩ := h
        exact (List.getElem?_eq_some_iff.1 hb).1
      split at h
      · omega
      split at h
      · omega
      split at h
      · exact der_inn ks true p q hp h
      split at h
      · exact rounds_inn (der_inn ks false) p q hp h
      · exact der_inn ks false p q hp h
    cases md with
    | false =>
      obtain ⟨t, h2, h3⟩ := der_cat.1 h
      exact der_inn r false t q (h1 p t hp h2) h3
    | true =>
      rcases der_alt.1 h with h2 | h2
      · exact h1 p q hp h2
      · exact der_inn r true p q hp h2
theorem der1_inn {w : List UInt8} {x : Nd} {ks : F} : Inn w.length (der1 w x ks) := der_inn _ _
theorem pow_succ' {D : Nat → Nat → Prop} {k p q : Nat} : pow D (k + 1) p q ↔ ∃ t, pow D k p t ∧ D t q := by
  rw [pow_add]
  simp [pow]
/-- so many rounds or more, up to k -/
def upTo (D : Nat → Nat → Prop) (S : Nat → Prop) (mn k q : Nat) : Prop := ∃ j, mn ≤ j ∧ j ≤ k ∧ img (pow D j) S q
theorem img_succ {D : Nat → Nat → Prop} {S : Nat → Prop} {k q : Nat} : img D (img (pow D k) S) q ↔ img (pow D (k + 1)) S q := by
  constructor
  · rintro ⟨t, ⟨p, hp, h1⟩, h2⟩; exact ⟨p, hp, pow_succ'.2 ⟨t, h1, h2⟩⟩
  · rintro ⟨p, hp, h⟩; obtain ⟨t, h1, h2⟩ := pow_succ'.1 h; exact ⟨t, ⟨p, hp, h1⟩, h2⟩
theorem upTo_succ {D : Nat → Nat → Prop} {S : Nat → Prop} {mn k q : Nat} (hk : mn ≤ k) : upTo D S mn (k + 1) q ↔ upTo D S mn k q ∨ img (pow D (k + 1)) S q := by
  constructor
  · rintro ⟨j, h1, h2, h3⟩
    by_cases e : j = k + 1
    · subst e; exact .inr h3
    · exact .inl ⟨j, h1, by omega, h3⟩
  · rintro (⟨j, h1, h2, h3⟩ | h)
    · exact ⟨j, h1, by omega, h3⟩
    · exact ⟨k + 1, by omega, by omega, h⟩
theorem upTo_start {D : Nat → Nat → Prop} {S : Nat → Prop} {mn q : Nat} : upTo D S mn mn q ↔ img (pow D mn) S q := by
  constructor
  · rintro ⟨j, h1, h2, h3⟩
    obtain rfl : j = mn := by omega
    exact h3
  · exact fun h => ⟨mn, Nat.le_refl _, Nat.le_refl _, h⟩
/-- nothing new: never anything new -/
theorem upTo_fix {D : Nat → Nat → Prop} {S : Nat → Prop} {mn k : Nat} {N : Nat} (hS : ∀ p, S p → p ≤ N) (hD : Inn N D) (hk : mn ≤ k) (h : ∀ q, q ≤ N → img (pow D (k + 1)) S q → upTo D S mn k q) : ∀ q, (∃ j, mn ≤ j ∧ img (pow D j) S q) → upTo D S mn k q := by
  have key : ∀ i q, img (pow D (k + i)) S q → upTo D S mn k q := by
    intro i
    induction i with
    | zero => intro q hq; exact ⟨k, hk, Nat.le_refl _, hq⟩
    | succ i ih =>
      intro q hq
      rw [← Nat.add_assoc] at hq
      obtain ⟨t, ht, h2⟩ := img_succ.2 hq
      obtain ⟨j, h3, h4, h5⟩ := ih t ht
      have h6 : img (pow D (j + 1)) S q := img_succ.1 ⟨t, h5, h2⟩
      by_cases e : j = k
      · subst e
        obtain ⟨p, hp, h7⟩ := h6
        exact h q (pow_inn hD _ p q (hS p hp) h7) ⟨p, hp, h7⟩
      · exact ⟨j + 1, by omega, by omega, h6⟩
  rintro q ⟨j, hj, hq⟩
  by_cases e : j ≤ k
  · exact ⟨j, hj, e, hq⟩
  · exact key (j - k) q (by rwa [show k + (j - k) = j by omega])
theorem img_rounds {x : Nd} {D : Nat → Nat → Prop} {S : Nat → Prop} {q : Nat} (h0 : 0 ≤ x.mn) : img (rounds x D) S q ↔ ∃ j, x.mn.toNat ≤ j ∧ (x.mx = -1 ∨ (j : Int) ≤ x.mx) ∧ img (pow D j) S q := by
  constructor
  · rintro ⟨p, hp, k, h1, h2, h3⟩; exact ⟨k, by omega, h2, p, hp, h3⟩
  · rintro ⟨j, h1, h2, p, hp, h3⟩; exact ⟨p, hp, j, by omega, h2, h3⟩
end Go.HL.Kl.Mc

/- Nodes and instructions as structs: compared. Conditions: none. -/
namespace Go.HL.Kl.Mc
open Go Go.HL Go.HL.Kl
section
variable {P : Program} {κ : Cx} {L : Loc} {H : Hp} {ty t t' : TypeId} {x y : Operand}
theorem fq_cls {w : World} {n e b e1 b1 : Nat} {k' : IntKind} {xs ys : Array Value} {l : List (Nat × Nat)} {c d : Kl.Cl} {r : Bool} [TU P e (.array 4 e1)] [TG P e false] [TI P e 4 b] [TU P e1 (.int k')] [TG P e1 true] [TI P e1 1 b1]
    (hx : xs.extract 1 5 = (Ec c).toArray) (hy : ys.extract 1 5 = (Ec d).toArray) (h : FQ P w (n + 1) xs ys l r) : FQ P w (n + 1) xs ys ((e, 1) :: l) (decide (c = d) && r) := by
  refine .cons (part_agg hx) (part_agg hy) ?_ h
  have := re_arr (P := P) (t := e) w n (j := .u64) (Ic c) (Ic d) (Ic_len c) (Ic_len d)
  rw [← Ec_ints, ← Ec_ints] at this
  rw [this]
  congr 1
  exact decide_eq_decide.2 Ic_inj
theorem nd_fq {a c i e b be : Nat} {k1 k2 ke : IntKind} [TU P a (.int k1)] [TG P a true] [TU P i (.int k2)] [TG P i true] [TU P c (.array 4 e)] [TG P c false] [TI P c 4 b] [TU P e (.int ke)] [TG P e true] [TI P e 1 be] (w : World) (p q : Nd) : FQ P w 9998 (En p).toArray (En q).toArray [(a, 0), (c, 1), (i, 5), (i, 6), (i, 7), (i, 8)] (decide (p = q)) := by
  have h : FQ P w 9998 (En p).toArray (En q).toArray [(a, 0), (c, 1), (i, 5), (i, 6), (i, 7), (i, 8)] _ :=
    .int (j := .i8) (p := p.op) (q := q.op) rfl rfl (fq_cls (c := p.set) (d := q.set) rfl rfl (.int (j := .i64) (p := p.n) (q := q.n) rfl rfl (.int (j := .i64) (p := p.mn) (q := q.mn) rfl rfl (.int (j := .i64) (p := p.mx) (q := q.mx) rfl rfl (.int (j := .i64) (p := p.kids) (q := q.kids) rfl rfl .nil)))))
  have e : (p.op == q.op && (decide (p.set = q.set) && (p.n == q.n && (p.mn == q.mn && (p.mx == q.mx && (p.kids == q.kids && true)))))) = decide (p = q) := by
    cases p; cases q
    simp only [Nd.mk.injEq, Bool.and_true]
    rw [Bool.eq_iff_iff]
    simp
  rw [← e]; exact h
theorem s_neq_nd {a c i e b be : Nat} {k1 k2 ke : IntKind} [EG P t] [TU P a (.int k1)] [TG P a true] [TU P i (.int k2)] [TG P i true] [TU P c (.array 4 e)] [TG P c false] [TI P c 4 b] [TU P e (.int ke)] [TG P e true] [TI P e 1 be] [TQ P t [(a, 0), (c, 1), (i, 5), (i, 6), (i, 7), (i, 8)]] {p q : Nd} (hx : ev L x = some (.agg (En p).toArray)) (hy : ev L y = some (.agg (En q).toArray)) : Step P κ (.binOp .neq t x y t') ty L H (.bool (!decide (p = q))) :=
  s_neq_st hx hy fun w => nd_fq w p q
theorem s_eql_nd {a c i e b be : Nat} {k1 k2 ke : IntKind} [EG P t] [TU P a (.int k1)] [TG P a true] [TU P i (.int k2)] [TG P i true] [TU P c (.array 4 e)] [TG P c false] [TI P c 4 b] [TU P e (.int ke)] [TG P e true] [TI P e 1 be] [TQ P t [(a, 0), (c, 1), (i, 5), (i, 6), (i, 7), (i, 8)]] {p q : Nd} (hx : ev L x = some (.agg (En p).toArray)) (hy : ev L y = some (.agg (En q).toArray)) : Step P κ (.binOp .eql t x y t') ty L H (.bool (decide (p = q))) :=
  s_eql_st hx hy fun w => nd_fq w p q
end
end Go.HL.Kl.Mc

/- The contract of the functions that look whether a list of nodes is well shaped. Conditions: none. -/
namespace Go.HL
open Go
theorem St.apart_M {α : Type} {E : α → List Value} {k : Nat} [he : Enc E k] {a : Option Addr} {c : Nat} {xs : List α} {w0 w : World} {M : List Nat} {S H : Hp} (st : St w0 w M H) (hin : HIn S H) (hr : Rd E w0 (.slice a xs.length c) xs) (ha : Apart M (.slice a xs.length c)) (hk : 0 < k) : Apart (keys S) (.slice a xs.length c) := by
  intro A n c' hv hn hm
  have ha' := ha A n c' hv hn
  cases hv
  obtain ⟨⟨b', o⟩, hmS, hb⟩ := List.mem_map.1 hm
  have hb : b' = A.block := hb
  subst hb
  rcases st.own _ _ (hin _ hmS) with h1 | h1
  · exact ha' h1
  have hl : 0 < xs.length := by omega
  obtain ⟨u, hu⟩ : ∃ u, (flat E xs)[0]? = some u := by
    have : 0 < (flat E xs).length := by rw [flat_len]; exact Nat.mul_pos hl hk
    exact ⟨_, List.getElem?_eq_getElem this⟩
  have h2 := hr.get 0 u hu
  have h3 : A.block < w0.heap.size := by
    rcases Nat.lt_or_ge A.block w0.heap.size with h' | h'
    · exact h'
    · simp [World.cell?, ea, sblk, oblk, Array.getElem?_eq_none h'] at h2
  omega
end Go.HL
namespace Go.HL.Kl.Mc
open Go Go.HL Go.HL.Kl
/-- what is known of a list so far, as a block -/
def LookB (T bx : Nat) (ra : Option Addr) (rc : Nat) (re : List Nd) (i : Nat) (ea : Option Addr) (ec : Nat) (en : List Bool) : Nat × Obj := (bx, .cells [.slice ra re.length rc, .int .i64 i, .slice ea en.length ec].toArray T (0, 0))
def NodeP (T bx : Nat) (ra : Option Addr) (rc : Nat) (re : List Nd) (r : Option (Nat × List Bool)) (v : Value) (S' : Hp) : Prop :=
  match r with
  | none => v = .bool false
  | some (i', en') => v = .bool true ∧ ∃ ea' ec' Se', S' = LookB T bx ra rc re i' ea' ec' en' :: Se' ∧ OwnS Ebo 1 4 (.slice ea' en'.length ec') en' Se'
def NodeC (P : Program) (fn T : Nat) (f : Nat) : Prop := ∀ (bx : Nat) (ra : Option Addr) (rc : Nat) (re : List Nd) (i wi g : Nat) (ea : Option Addr) (ec : Nat) (en : List Bool) (Se : Hp), (∀ x ∈ re, -128 ≤ x.op ∧ x.op < 128) → wi + f = 260 → i ≤ re.length → en.length ≤ 255 → g ≤ 64 → OwnS Ebo 1 4 (.slice ea en.length ec) en Se →
  Fn P fn [.pointer (some ⟨bx, 0, none⟩), .int .i64 wi, .int .i64 g] (fun w => Rd En w (.slice ra re.length rc) re ∧ Apart (keys (LookB T bx ra rc re i ea ec en :: Se)) (.slice ra re.length rc)) (LookB T bx ra rc re i ea ec en :: Se) (NodeP T bx ra rc re (shN re f i en g))
theorem hin_node {p q : Nat × Obj} {S : Hp} : HIn (p :: S) (p :: q :: S) := fun r hr => by
  rcases List.mem_cons.1 hr with rfl | h
  · exact List.mem_cons_self
  · exact List.mem_cons_of_mem _ (List.mem_cons_of_mem _ h)
theorem shN_end {re : List Nd} {f i g : Nat} {en : List Bool} (h : re.length ≤ i) : shN re f i en g = none := by
  cases f with
  | zero => rfl
  | succ f => simp only [shN]; rw [List.getElem?_eq_none h]
theorem shN_bad {re : List Nd} {f i g : Nat} {en : List Bool} {x : Nd} (hx : re[i]? = some x) (h : ndOk x = false) : shN re (f + 1) i en g = none := by
  simp only [shN, hx]; rw [if_neg (by rw [h]; decide)]
theorem shN_gate {re : List Nd} {f i g : Nat} {en : List Bool} {x : Nd} (hx : re[i]? = some x) (h : gate x en g = none) : shN re (f + 1) i en g = none := by
  simp only [shN, hx, h]; split <;> rfl
theorem shN_kids {re : List Nd} {f i g g1 : Nat} {en en1 : List Bool} {x : Nd} (hx : re[i]? = some x) (hg : gate x en g = some (en1, g1)) (h : kidsN (fun i en => shN re f i en g1) x.kids.toNat (i + 1) en1 = none) : shN re (f + 1) i en g = none := by
  simp only [shN, hx, hg, h]; split <;> rfl
theorem shN_some {re : List Nd} {f i g g1 i2 : Nat} {en en1 en2 : List Bool} {x : Nd} (hx : re[i]? = some x) (hok : ndOk x = true) (hg : gate x en g = some (en1, g1)) (h : kidsN (fun i en => shN re f i en g1) x.kids.toNat (i + 1) en1 = some (i2, en2)) :
    shN re (f + 1) i en g = some (i2, if x.op = 7 then en2.set (x.n.toNat - 1) true else en2) := by
  simp only [shN, hx, hg, h]; rw [if_pos hok]
theorem kidsN_snoc {step : Nat → List Bool → Option (Nat × List Bool)} : ∀ {k i : Nat} {en : List Bool} {i2 : Nat} {en2 : List Bool} {r : Option (Nat × List Bool)}, kidsN step k i en = some (i2, en2) → step i2 en2 = r → kidsN step (k + 1) i en = r
  | 0, i, en, i2, en2, r, h, hs => by
    simp only [kidsN, Option.some.injEq, Prod.mk.injEq] at h
    obtain ⟨rfl, rfl⟩ := h
    simp only [kidsN, hs]
    cases r <;> rfl
  | k + 1, i, en, i2, en2, r, h, hs => by
    simp only [kidsN] at h
    split at h
    · cases h
    · rename_i i' en' hst
      have := kidsN_snoc h hs
      rw [kidsN, hst]
      exact this
theorem kidsN_none {step : Nat → List Bool → Option (Nat × List Bool)} : ∀ {n k i : Nat} {en : List Bool}, kidsN step k i en = none → k ≤ n → kidsN step n i en = none
  | n, 0, i, en, h, _ => by simp [kidsN] at h
  | 0, k + 1, i, en, h, hk => by omega
  | n + 1, k + 1, i, en, h, hk => by
    simp only [kidsN] at h ⊢
    split at h
    · rfl
    · exact kidsN_none h (by omega)
theorem gate_len {x : Nd} {en en1 : List Bool} {g g1 : Nat} (h : gate x en g = some (en1, g1)) (he : en.length ≤ 255) (hg : g ≤ 64) : en.length ≤ en1.length ∧ en1.length ≤ 255 ∧ g1 ≤ 64 ∧ (x.op = 7 → x.n = en.length + 1 ∧ en1.length = en.length + 1) := by
  unfold gate at h
  split at h
  · split at h
    · cases h; exact ⟨Nat.le_refl _, he, hg, fun h7 => by omega⟩
    · cases h
  · split at h
    · split at h
      · rename_i h8 h7 hh
        cases h
        simp only [List.length_append, List.length_singleton]
        exact ⟨by omega, by omega, by omega, fun _ => ⟨hh.1, trivial⟩⟩
      · cases h
    · cases h; exact ⟨Nat.le_refl _, he, hg, fun h7 => absurd h7 ‹_›⟩
theorem kidsN_len {step : Nat → List Bool → Option (Nat × List Bool)} (hs : ∀ i en i' en', en.length ≤ 255 → step i en = some (i', en') → en.length ≤ en'.length ∧ en'.length ≤ 255) : ∀ {k i : Nat} {en : List Bool} {i2 : Nat} {en2 : List Bool}, en.length ≤ 255 → kidsN step k i en = some (i2, en2) → en.length ≤ en2.length ∧ en2.length ≤ 255
  | 0, i, en, i2, en2, he, h => by
    simp only [kidsN, Option.some.injEq, Prod.mk.injEq] at h
    obtain ⟨_, rfl⟩ := h
    exact ⟨Nat.le_refl _, he⟩
  | k + 1, i, en, i2, en2, he, h => by
    simp only [kidsN] at h
    split at h
    · cases h
    · rename_i i' en' hst
      have h1 := hs _ _ _ _ he hst
      have h2 := kidsN_len hs h1.2 h
      omega
theorem shN_len {re : List Nd} : ∀ {f i g : Nat} {en : List Bool} {i' : Nat} {en' : List Bool}, en.length ≤ 255 → g ≤ 64 → shN re f i en g = some (i', en') → en.length ≤ en'.length ∧ en'.length ≤ 255
  | 0, i, g, en, i', en', _, _, h => by cases h
  | f + 1, i, g, en, i', en', he, hg, h => by
    simp only [shN] at h
    split at h
    · cases h
    · split at h
      · split at h
        · cases h
        · rename_i en1 g1 hgt
          split at h
          · cases h
          · rename_i i2 en2 hk
            simp only [Option.some.injEq, Prod.mk.injEq] at h
            obtain ⟨-, rfl⟩ := h
            obtain ⟨h1, h2, h3, _⟩ := gate_len hgt he hg
            have h4 := kidsN_len (fun i en i' en' he h => shN_len he h3 h) h2 hk
            split
            · simp only [List.length_set]; omega
            · omega
      · cases h
theorem shN_le {re : List Nd} {f i g : Nat} {en : List Bool} {i' : Nat} {en' : List Bool} (h : shN re f i en g = some (i', en')) : i' ≤ re.length := by
  obtain ⟨x, ks, ht⟩ := shN_tree _ _ _ _ _ _ h
  exact ht.le
theorem shN_lt {re : List Nd} {f i g : Nat} {en : List Bool} {i' : Nat} {en' : List Bool} (h : shN re f i en g = some (i', en')) : i < i' := by
  obtain ⟨x, ks, ht⟩ := shN_tree _ _ _ _ _ _ h
  have := ht.len
  omega
theorem get_false {en : List Bool} {j : Nat} (h : ¬ en[j]? = some true) (hj : j < en.length) : en[j]? = some false := by
  rw [List.getElem?_eq_getElem hj] at h ⊢
  cases hb : en[j]
  · rfl
  · rw [hb] at h; exact absurd rfl h
theorem gate_other {x : Nd} {en : List Bool} {g : Nat} (h8 : ¬ x.op = 8) (h7 : ¬ x.op = 7) : gate x en g = some (en, g) := by rw [gate, if_neg h8, if_neg h7]
theorem gate_ref {x : Nd} {en : List Bool} {g : Nat} (h8 : x.op = 8) (h1 : 1 ≤ x.n) (h2 : x.n ≤ en.length) (h3 : en[x.n.toNat - 1]? = some true) : gate x en g = some (en, g) := by rw [gate, if_pos h8, if_pos ⟨h1, h2, h3⟩]
theorem gate_no8 {x : Nd} {en : List Bool} {g : Nat} (h8 : x.op = 8) (h : ¬ (1 ≤ x.n ∧ x.n ≤ en.length ∧ en[x.n.toNat - 1]? = some true)) : gate x en g = none := by rw [gate, if_pos h8, if_neg h]
theorem gate_grp {x : Nd} {en : List Bool} {g : Nat} (h7 : x.op = 7) (h : x.n = en.length + 1 ∧ x.n ≤ 255 ∧ g < 64) : gate x en g = some (en ++ [false], g + 1) := by rw [gate, if_neg (by omega), if_pos h7, if_pos h]
theorem gate_no7 {x : Nd} {en : List Bool} {g : Nat} (h7 : x.op = 7) (h : ¬ (x.n = en.length + 1 ∧ x.n ≤ 255 ∧ g < 64)) : gate x en g = none := by rw [gate, if_neg (by omega), if_pos h7, if_neg h]
end Go.HL.Kl.Mc
