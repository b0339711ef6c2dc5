/- Part of the proofs over this seat: see the text that holds the theorem. Conditions: each theorem bears its own. -/
import Derived.Test.YtafbigmneipkiaaDoorM3
import Derived.Test.YtafbigmneipkiaaDoorHlB
namespace Go.Tab
open Go Go.HL

structure Mk where
  b : UInt8
  p : Bool
  deriving DecidableEq
def Em (m : Mk) : List Value := [.int .u8 m.b.toNat, .bool m.p]
instance : Enc Em 2 := ⟨fun _ => rfl, fun _ v h => by
  simp only [Em, List.mem_cons, List.not_mem_nil, or_false] at h
  rcases h with rfl | rfl <;> rfl⟩
def mk0 (ms : List Mk) (i : Nat) : Mk := ms.getD i ⟨0, false⟩
theorem mk0_get {ms : List Mk} {i : Nat} (h : i < ms.length) : ms[i]? = some (mk0 ms i) := by simp [mk0, h]
theorem mk0_ext {a b : List Mk} (h : a.length = b.length) (he : ∀ i, i < a.length → mk0 a i = mk0 b i) : a = b := by
  apply List.ext_getElem?
  intro i
  by_cases hi : i < a.length
  · rw [mk0_get hi, mk0_get (by omega), he i hi]
  · rw [List.getElem?_eq_none (by omega), List.getElem?_eq_none (by omega)]

def wmF (xs : List Mk) (i : Nat) : Mk := if i < xs.length then mk0 xs i else ⟨UInt8.ofNat (279 + 7 * i + 3), true⟩
def wm (xs : List Mk) : List Mk := (List.range (xs.length + 64)).map (wmF xs)
theorem wm_len (xs : List Mk) : (wm xs).length = xs.length + 64 := by simp [wm]
theorem wm_at {xs : List Mk} {i : Nat} (h : i < xs.length + 64) : mk0 (wm xs) i = wmF xs i := by
  unfold mk0 wm
  rw [List.getD_eq_getElem?_getD, List.getElem?_map, List.getElem?_range h]; rfl
theorem wm_take (xs : List Mk) : (wm xs).take xs.length = xs := by
  refine mk0_ext (by rw [List.length_take, wm_len]; omega) fun i hi => ?_
  rw [List.length_take, wm_len] at hi
  have h : mk0 ((wm xs).take xs.length) i = mk0 (wm xs) i := by
    unfold mk0
    rw [List.getD_eq_getElem?_getD, List.getD_eq_getElem?_getD, List.getElem?_take, if_pos (by omega)]
  rw [h, wm_at (by omega), wmF, if_pos (by omega)]
theorem fill_wm {xs : List Mk} {j : Nat} {l : List Mk} (h : Fill (wmF xs) (xs.length + 64) j l) (hj : xs.length + 64 ≤ j) : l = wm xs := h.done hj
theorem wmF_in {xs : List Mk} {i : Nat} (h : i < xs.length) : mk0 xs i = wmF xs i := by rw [wmF, if_pos h]
theorem wmF_out {xs : List Mk} {i : Nat} (h : ¬ i < xs.length) : (⟨UInt8.ofNat (279 + 7 * i + 3), true⟩ : Mk) = wmF xs i := by rw [wmF, if_neg h]

/-! what marks say -/
def stepM (s : List UInt8 × Bool) (m : Mk) : Option (List UInt8 × Bool) :=
  if s.2 then
    if m.p then none else if m.b = 92 then some (s.1 ++ [92], false) else if m.b = 110 then some (s.1 ++ [10], false) else none
  else if m.p = false ∧ m.b = 92 then some (s.1, true) else some (s.1 ++ [m.b], false)
def runM (ms : List Mk) : Nat → Option (List UInt8 × Bool)
  | 0 => some ([], false)
  | j + 1 => (runM ms j).bind fun s => stepM s (mk0 ms j)
def rowM (ms : List Mk) : Option (List UInt8) := (runM ms ms.length).bind fun s => if s.2 then none else some s.1
theorem runM_step {ms : List Mk} {j : Nat} {s : List UInt8 × Bool} (h : runM ms j = some s) : runM ms (j + 1) = stepM s (mk0 ms j) := by simp only [runM, h, Option.bind_some]
theorem runM_none {ms : List Mk} {j : Nat} (h : runM ms j = none) : ∀ {k : Nat}, j ≤ k → runM ms k = none
  | 0, hk => by have : j = 0 := by omega
                subst this; exact h
  | k + 1, hk => by
    by_cases e : j = k + 1
    · subst e; exact h
    · simp only [runM, runM_none h (by omega : j ≤ k), Option.bind_none]
theorem rowM_none {ms : List Mk} {j : Nat} (h : runM ms j = none) (hj : j ≤ ms.length) : rowM ms = none := by rw [rowM, runM_none h hj]; rfl
theorem rowM_end {ms : List Mk} {j : Nat} {acc : List UInt8} {e : Bool} (h : runM ms j = some (acc, e)) (h1 : j ≤ ms.length) (h2 : ms.length ≤ j) : rowM ms = if e then none else some acc := by
  have : j = ms.length := by omega
  subst this
  rw [rowM, h]; rfl
theorem runM_len {ms : List Mk} : ∀ {j : Nat} {acc : List UInt8} {e : Bool}, runM ms j = some (acc, e) → acc.length ≤ j
  | 0, acc, e, h => by simp only [runM, Option.some.injEq, Prod.mk.injEq] at h; rw [← h.1]; simp
  | j + 1, acc, e, h => by
    cases hr : runM ms j with
    | none => simp [runM, hr] at h
    | some s =>
      rw [runM_step hr] at h
      have := runM_len (ms := ms) (j := j) (acc := s.1) (e := s.2) hr
      unfold stepM at h
      repeat' split at h
      all_goals (cases h; try (first | (simp; omega) | omega))
/-! the ways of a step -/
section
variable {acc : List UInt8} {m : Mk}
theorem st_esc_n (hp : m.p = false) (hb : m.b = 110) : stepM (acc, true) m = some (acc ++ [10], false) := by
  have h : ¬ m.b = 92 := by rw [hb]; decide
  simp [stepM, hp, h, hb]
theorem st_esc_b (hp : m.p = false) (hb : m.b = 92) : stepM (acc, true) m = some (acc ++ [92], false) := by simp [stepM, hp, hb]
theorem st_esc_x (hp : m.p = false) (hb : ¬ m.b = 92) (hn : ¬ m.b = 110) : stepM (acc, true) m = none := by simp [stepM, hp, hb, hn]
theorem st_esc_p (hp : m.p = true) : stepM (acc, true) m = none := by simp [stepM, hp]
theorem st_b (hp : m.p = false) (hb : m.b = 92) : stepM (acc, false) m = some (acc, true) := by simp [stepM, hp, hb]
theorem st_x (hp : m.p = true ∨ ¬ m.b = 92) : stepM (acc, false) m = some (acc ++ [m.b], false) := by
  rcases hp with h | h <;> simp [stepM, h]
end
def parseR (l m : List Mk) : Option (List UInt8) := (rowM l).bind fun f => (rowM m).bind fun t => newR f t
theorem u8_eq {b : UInt8} {n : Nat} (hn : n < 256) : ((b.toNat : Int) = n) ↔ b = UInt8.ofNat n := by
  constructor
  · intro h
    exact UInt8.toNat_inj.1 (by rw [ofNat_toNat hn]; omega)
  · intro h; subst h; rw [ofNat_toNat hn]
attribute [irreducible] wm wmF mk0
theorem mark_eq {P : Program} (w : World) (n : Nat) {t : TypeId} {f0 f1 : Field} {b0 b1 : Nat} (hu : P.underlying t = some (.struct #[f0, f1])) (n0 : f0.name ≠ "_") (n1 : f1.name ≠ "_") (o0 : f0.offset = 0) (o1 : f1.offset = 1) [TU P f0.type (.int .u8)] [TU P f1.type .bool] [TG P f0.type true] [TG P f1.type true]
    (hst : P.stoodInHeld t = false) (x y : Mk) : (Op.equalIn (n + 2) t (.agg (Em x).toArray) (.agg (Em y).toArray)).run P w = .ok (decide (x = y)) w := by
  unfold Op.equalIn
  simp only [Sem.run_bind, run_underlying hu, Result.andThen_ok, program, Sem.run, hst]
  have p0 : ∀ (z : Mk) w, (part f0.type (Em z).toArray f0.offset).run P w = .ok (.int .u8 z.b.toNat) w := fun z w => by simp [part, run_isAgg w, o0, Em]
  have p1 : ∀ (z : Mk) w, (part f1.type (Em z).toArray f1.offset).run P w = .ok (.bool z.p) w := fun z w => by simp [part, run_isAgg w, o1, Em]
  have q0 := re_int (P := P) (t := f0.type) w n (k := .u8) (k' := .u8) (a := (x.b.toNat : Int)) (b := (y.b.toNat : Int))
  have q1 := re_bool (P := P) (t := f1.type) w n (a := x.p) (b := y.p)
  have hxy : decide (x = y) = (((x.b.toNat : Int) == (y.b.toNat : Int)) && (x.p == y.p)) := by
    rw [Bool.eq_iff_iff]
    simp only [decide_eq_true_eq, Bool.and_eq_true, beq_iff_eq]
    constructor
    · intro h; subst h; exact ⟨rfl, rfl⟩
    · rintro ⟨h1, h2⟩
      obtain ⟨xb, xp⟩ := x; obtain ⟨yb, yp⟩ := y
      simp only at h1 h2
      rw [Mk.mk.injEq]; exact ⟨UInt8.toNat_inj.1 (by omega), h2⟩
  rw [hxy]
  cases hA : ((x.b.toNat : Int) == (y.b.toNat : Int)) <;> cases hB : (x.p == y.p) <;> rw [hA] at q0 <;> rw [hB] at q1 <;> simp [n0, n1, p0, p1, q0, q1]
end Go.Tab
namespace Go.Tab
open Go Go.HL
theorem parseR_len {l m : List Mk} : ((parseR l m).getD zT).length = 256 := getD_len (fun q h => by
  rw [parseR] at h
  cases h1 : rowM l with
  | none => simp [h1] at h
  | some f =>
    cases h2 : rowM m with
    | none => simp [h1, h2] at h
    | some t => simp only [h1, h2, Option.bind_some] at h; exact newR_len h)
theorem parse_some {l m : List Mk} {f t : List UInt8} (h1 : rowM l = some f) (h2 : rowM m = some t) : resV [.agg (flat Eb ((newR f t).getD zT)).toArray, .int .i64 (if (newR f t).isSome then 0 else 60)] = tabV (parseR l m) := by
  rw [parseR, h1, h2]; rfl
theorem parse_none1 {l m : List Mk} (h1 : rowM l = none) : parseR l m = none := by rw [parseR, h1]; rfl
theorem parse_none2 {l m : List Mk} (h2 : rowM m = none) : parseR l m = none := by
  rw [parseR, h2]; cases rowM l <;> rfl
end Go.Tab
