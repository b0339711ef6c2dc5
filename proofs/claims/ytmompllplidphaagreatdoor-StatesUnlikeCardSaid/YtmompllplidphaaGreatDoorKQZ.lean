/- Keys that are made of whole numbers alone: structs and arrays, one in another. Conditions: none. -/
import Derived.Test.YtmompllplidphaaGreatDoorGSW3Z
import Derived.Test.YtmompllplidphaaGreatDoorGSW1Z
import Derived.Test.YtmompllplidphaaGreatDoorHlB
import Derived.Test.YtmompllplidphaaGreatDoorHTZ
import Derived.Test.YtmompllplidphaaGreatDoorMC9Z
import Derived.Test.YtmompllplidphaaGreatDoorMT3Z
namespace Go.HL
open Go
def VI (agg : Bool) (xs : List Int) : Value := if agg then .agg (intsV .i64 xs).toArray else .int .i64 (xs.headD 0)
class QK (P : Program) (t : TypeId) (agg : outParam Bool) (d s : outParam Nat) : Prop where
  eq : ∀ (w : World) (n : Nat) (xs ys : List Int), d ≤ n → xs.length = s → ys.length = s → (Op.equalIn n t (VI agg xs) (VI agg ys)).run P w = .ok (decide (xs = ys)) w
  chk : ∀ (w : World) (n : Nat) (b : Bool) (xs : List Int), d ≤ n → xs.length = s → (Instr.checkKey b n t (VI agg xs)).run P w = .ok () w
  prt : ∀ (w : World) (cs : List Int) (o : Nat), o + s ≤ cs.length → (part t (intsV .i64 cs).toArray o).run P w = .ok (VI agg ((cs.drop o).take s)) w
section
variable {P : Program} {t e : TypeId}
instance QK.int [TU P t (.int .i64)] [TG P t true] : QK P t false 1 1 where
  eq := fun w n xs ys hn hx hy => by
    obtain ⟨m, rfl⟩ : ∃ m, n = m + 1 := ⟨n - 1, by omega⟩
    match xs, ys, hx, hy with
    | [a], [b], _, _ =>
      show (Op.equalIn (m + 1) t (.int .i64 a) (.int .i64 b)).run P w = _
      rw [re_int w m]
      congr 1
      by_cases h : a = b <;> simp [h]
  chk := fun w n b xs hn hx => by
    obtain ⟨m, rfl⟩ : ∃ m, n = m + 1 := ⟨n - 1, by omega⟩
    exact checkInt w
  prt := fun w cs o ho => by
    have hlt : o < cs.length := by omega
    have h : (intsV .i64 cs).toArray[o]? = some (.int .i64 cs[o]) := by simp [intsV, hlt]
    rw [part_plain h]
    have h2 : (cs.drop o).take 1 = [cs[o]] := by rw [List.drop_eq_getElem_cons hlt]; rfl
    rw [h2]; rfl
theorem agg_part {s b : Nat} [TG P t false] [TI P t s b] (w : World) (cs : List Int) (o : Nat) (_ho : o + s ≤ cs.length) : (part t (intsV .i64 cs).toArray o).run P w = .ok (VI true ((cs.drop o).take s)) w := by
  refine (part_agg (ys := (intsV .i64 ((cs.drop o).take s)).toArray) ?_).trans rfl
  apply Array.ext'
  rw [Array.toList_extract]
  simp [intsV, List.map_take, List.map_drop, List.extract_eq_take_drop]
inductive QF (P : Program) (d : Nat) : List (Nat × Nat) → Nat → Nat → Prop
  | nil {s : Nat} : QF P d [] s s
  | cons {e o s de se : Nat} {l : List (Nat × Nat)} {agg : Bool} (q : QK P e agg de se) (hd : de ≤ d) (h : QF P d l (o + se) s) : QF P d ((e, o) :: l) o s
theorem QK.arr {m e d se b b' : Nat} {agg : Bool} [TU P t (.array m e)] [TG P t false] [TI P t (m * se) b] [TI P e se b'] (q : QK P e agg d se) : QK P t true (d + 1) (m * se) where
  eq := fun w n xs ys hn hx hy => by
    obtain ⟨n, rfl⟩ : ∃ k, n = k + 1 := ⟨n - 1, by omega⟩
    have hmul : ∀ i, i < m → i * se + se ≤ m * se := fun i hi => by rw [← Nat.succ_mul]; exact Nat.mul_le_mul_right _ hi
    show (Op.equalIn (n + 1) t (.agg (intsV .i64 xs).toArray) (.agg (intsV .i64 ys).toArray)).run P w = _
    unfold Op.equalIn
    simp only [Sem.run_bind, run_u, Result.andThen_ok, run_size]
    rw [Std.Legacy.Range.forIn_eq_forIn_range']
    have := run_forIn (P := P) (f := fun i _ => do
            let a ← part e (intsV .i64 xs).toArray (i * se)
            let b ← part e (intsV .i64 ys).toArray (i * se)
            let c ← Op.equalIn n e a b
            if (!c) = true then pure (ForInStep.done (some false, ())) else pure (ForInStep.yield (none, ()))) (fun i => decide ((xs.drop (i * se)).take se = (ys.drop (i * se)).take se)) w (List.range' 0 m) (by
      intro i hi
      have him : i < m := by simpa using hi
      have h3 := hmul i him
      rw [Sem.run_bind, q.prt w xs (i * se) (by omega), Result.andThen_ok, Sem.run_bind, q.prt w ys (i * se) (by omega), Result.andThen_ok, Sem.run_bind, q.eq w n _ _ (by omega) (by rw [List.length_take, List.length_drop]; omega) (by rw [List.length_take, List.length_drop]; omega), Result.andThen_ok]
      by_cases hq : (xs.drop (i * se)).take se = (ys.drop (i * se)).take se <;> simp [hq])
    have hsz : ([:m] : Std.Legacy.Range).size = m := by simp [Std.Legacy.Range.size]
    simp only [hsz]
    simp only [this, Result.andThen_ok]
    have hall : (List.range' 0 m).all (fun i => decide ((xs.drop (i * se)).take se = (ys.drop (i * se)).take se)) = decide (xs = ys) := by
      rw [Bool.eq_iff_iff, List.all_eq_true, decide_eq_true_eq]
      constructor
      · intro h
        have key : ∀ k, k ≤ m → xs.take (k * se) = ys.take (k * se) := by
          intro k
          induction k with
          | zero => intro _; simp
          | succ k ih =>
            intro hk
            have h1 := h k (by simp; omega)
            rw [decide_eq_true_eq] at h1
            rw [Nat.succ_mul, List.take_add, List.take_add, ih (by omega), h1]
        have h2 := key m (Nat.le_refl _)
        rwa [List.take_of_length_le (by omega), List.take_of_length_le (by omega)] at h2
      · intro h i _; simp [h]
    rw [hall]
    by_cases h : xs = ys <;> simp [h]
  chk := fun w n b xs hn hx => by
    obtain ⟨n, rfl⟩ : ∃ k, n = k + 1 := ⟨n - 1, by omega⟩
    have hmul : ∀ i, i < m → i * se + se ≤ m * se := fun i hi => by rw [← Nat.succ_mul]; exact Nat.mul_le_mul_right _ hi
    show (Instr.checkKey b (n + 1) t (.agg (intsV .i64 xs).toArray)).run P w = .ok () w
    unfold Instr.checkKey
    rw [Sem.run_bind, run_u, Result.andThen_ok]
    simp only []
    rw [Sem.run_bind, Std.Legacy.Range.forIn_eq_forIn_range']
    refine (congrArg (fun r => Result.andThen r _) (forIn_ok fun i hi => ?_)).trans (by simp)
    have hsz : ([:m] : Std.Legacy.Range).size = m := by simp [Std.Legacy.Range.size]
    have him : i < m := by rw [hsz] at hi; simpa using hi
    have h3 := hmul i him
    simp only [Sem.run_bind, run_size, Result.andThen_ok, q.prt w xs (i * se) (by omega)]
    rw [q.chk w n b _ (by omega) (by rw [List.length_take, List.length_drop]; omega), Result.andThen_ok, Sem.run_pure]
  prt := fun w cs o ho => agg_part w cs o ho
end
end Go.HL
namespace Go.HL
open Go
def VI8 (agg : Bool) (xs : List Int) : Value := if agg then .agg (intsV .u8 xs).toArray else .int .u8 (xs.headD 0)
class QK8 (P : Program) (t : TypeId) (agg : outParam Bool) (d s : outParam Nat) : Prop where
  eq : ∀ (w : World) (n : Nat) (xs ys : List Int), d ≤ n → xs.length = s → ys.length = s → (Op.equalIn n t (VI8 agg xs) (VI8 agg ys)).run P w = .ok (decide (xs = ys)) w
  chk : ∀ (w : World) (n : Nat) (b : Bool) (xs : List Int), d ≤ n → xs.length = s → (Instr.checkKey b n t (VI8 agg xs)).run P w = .ok () w
  prt : ∀ (w : World) (cs : List Int) (o : Nat), o + s ≤ cs.length → (part t (intsV .u8 cs).toArray o).run P w = .ok (VI8 agg ((cs.drop o).take s)) w
section
variable {P : Program} {t e : TypeId}
instance QK8.int [TU P t (.int .u8)] [TG P t true] : QK8 P t false 1 1 where
  eq := fun w n xs ys hn hx hy => by
    obtain ⟨m, rfl⟩ : ∃ m, n = m + 1 := ⟨n - 1, by omega⟩
    match xs, ys, hx, hy with
    | [a], [b], _, _ =>
      show (Op.equalIn (m + 1) t (.int .u8 a) (.int .u8 b)).run P w = _
      rw [re_int w m]
      congr 1
      by_cases h : a = b <;> simp [h]
  chk := fun w n b xs hn hx => by
    obtain ⟨m, rfl⟩ : ∃ m, n = m + 1 := ⟨n - 1, by omega⟩
    show (Instr.checkKey b (m + 1) t _).run P w = .ok () w
    unfold Instr.checkKey
    rw [Sem.run_bind, run_u, Result.andThen_ok]
    simp
  prt := fun w cs o ho => by
    have hlt : o < cs.length := by omega
    have h : (intsV .u8 cs).toArray[o]? = some (.int .u8 cs[o]) := by simp [intsV, hlt]
    rw [part_plain h]
    have h2 : (cs.drop o).take 1 = [cs[o]] := by rw [List.drop_eq_getElem_cons hlt]; rfl
    rw [h2]; rfl
theorem agg_part8 {s b : Nat} [TG P t false] [TI P t s b] (w : World) (cs : List Int) (o : Nat) (_ho : o + s ≤ cs.length) : (part t (intsV .u8 cs).toArray o).run P w = .ok (VI8 true ((cs.drop o).take s)) w := by
  refine (part_agg (ys := (intsV .u8 ((cs.drop o).take s)).toArray) ?_).trans rfl
  apply Array.ext'
  rw [Array.toList_extract]
  simp [intsV, List.map_take, List.map_drop, List.extract_eq_take_drop]
inductive QF8 (P : Program) (d : Nat) : List (Nat × Nat) → Nat → Nat → Prop
  | nil {s : Nat} : QF8 P d [] s s
  | cons {e o s de se : Nat} {l : List (Nat × Nat)} {agg : Bool} (q : QK8 P e agg de se) (hd : de ≤ d) (h : QF8 P d l (o + se) s) : QF8 P d ((e, o) :: l) o s
theorem QK8.arr {m e d se b b' : Nat} {agg : Bool} [TU P t (.array m e)] [TG P t false] [TI P t (m * se) b] [TI P e se b'] (q : QK8 P e agg d se) : QK8 P t true (d + 1) (m * se) where
  eq := fun w n xs ys hn hx hy => by
    obtain ⟨n, rfl⟩ : ∃ k, n = k + 1 := ⟨n - 1, by omega⟩
    have hmul : ∀ i, i < m → i * se + se ≤ m * se := fun i hi => by rw [← Nat.succ_mul]; exact Nat.mul_le_mul_right _ hi
    show (Op.equalIn (n + 1) t (.agg (intsV .u8 xs).toArray) (.agg (intsV .u8 ys).toArray)).run P w = _
    unfold Op.equalIn
    simp only [Sem.run_bind, run_u, Result.andThen_ok, run_size]
    rw [Std.Legacy.Range.forIn_eq_forIn_range']
    have := run_forIn (P := P) (f := fun i _ => do
            let a ← part e (intsV .u8 xs).toArray (i * se)
            let b ← part e (intsV .u8 ys).toArray (i * se)
            let c ← Op.equalIn n e a b
            if (!c) = true then pure (ForInStep.done (some false, ())) else pure (ForInStep.yield (none, ()))) (fun i => decide ((xs.drop (i * se)).take se = (ys.drop (i * se)).take se)) w (List.range' 0 m) (by
      intro i hi
      have him : i < m := by simpa using hi
      have h3 := hmul i him
      rw [Sem.run_bind, q.prt w xs (i * se) (by omega), Result.andThen_ok, Sem.run_bind, q.prt w ys (i * se) (by omega), Result.andThen_ok, Sem.run_bind, q.eq w n _ _ (by omega) (by rw [List.length_take, List.length_drop]; omega) (by rw [List.length_take, List.length_drop]; omega), Result.andThen_ok]
      by_cases hq : (xs.drop (i * se)).take se = (ys.drop (i * se)).take se <;> simp [hq])
    have hsz : ([:m] : Std.Legacy.Range).size = m := by simp [Std.Legacy.Range.size]
    simp only [hsz]
    simp only [this, Result.andThen_ok]
    have hall : (List.range' 0 m).all (fun i => decide ((xs.drop (i * se)).take se = (ys.drop (i * se)).take se)) = decide (xs = ys) := by
      rw [Bool.eq_iff_iff, List.all_eq_true, decide_eq_true_eq]
      constructor
      · intro h
        have key : ∀ k, k ≤ m → xs.take (k * se) = ys.take (k * se) := by
          intro k
          induction k with
          | zero => intro _; simp
          | succ k ih =>
            intro hk
            have h1 := h k (by simp; omega)
            rw [decide_eq_true_eq] at h1
            rw [Nat.succ_mul, List.take_add, List.take_add, ih (by omega), h1]
        have h2 := key m (Nat.le_refl _)
        rwa [List.take_of_length_le (by omega), List.take_of_length_le (by omega)] at h2
      · intro h i _; simp [h]
    rw [hall]
    by_cases h : xs = ys <;> simp [h]
  chk := fun w n b xs hn hx => by
    obtain ⟨n, rfl⟩ : ∃ k, n = k + 1 := ⟨n - 1, by omega⟩
    have hmul : ∀ i, i < m → i * se + se ≤ m * se := fun i hi => by rw [← Nat.succ_mul]; exact Nat.mul_le_mul_right _ hi
    show (Instr.checkKey b (n + 1) t (.agg (intsV .u8 xs).toArray)).run P w = .ok () w
    unfold Instr.checkKey
    rw [Sem.run_bind, run_u, Result.andThen_ok]
    simp only []
    rw [Sem.run_bind, Std.Legacy.Range.forIn_eq_forIn_range']
    refine (congrArg (fun r => Result.andThen r _) (forIn_ok fun i hi => ?_)).trans (by simp)
    have hsz : ([:m] : Std.Legacy.Range).size = m := by simp [Std.Legacy.Range.size]
    have him : i < m := by rw [hsz] at hi; simpa using hi
    have h3 := hmul i him
    simp only [Sem.run_bind, run_size, Result.andThen_ok, q.prt w xs (i * se) (by omega)]
    rw [q.chk w n b _ (by omega) (by rw [List.length_take, List.length_drop]; omega), Result.andThen_ok, Sem.run_pure]
  prt := fun w cs o ho => agg_part8 w cs o ho
theorem KE.of8 {κ : Type} [DecidableEq κ] {Ei : κ → List Int} {s d : Nat} [q : QK8 P t true d s] (hs : ∀ k, (Ei k).length = s) (hi : ∀ a b, Ei a = Ei b → a = b) (hd : d ≤ 10000) (hst : ∃ m e, P.underlying t = some (.array m e)) : KE P t (fun k : κ => .agg (intsV .u8 (Ei k)).toArray) where
  eq := fun w a b => by
    have h := q.eq w 10000 (Ei a) (Ei b) hd (hs a) (hs b)
    have e : decide (Ei a = Ei b) = decide (a = b) := by
      rw [Bool.eq_iff_iff, decide_eq_true_eq, decide_eq_true_eq]
      exact ⟨hi a b, fun h => by rw [h]⟩
    rw [e] at h
    exact h
  check := fun w b k => q.chk w 10000 b (Ei k) hd (hs k)
  bits := fun k => by
    show Instr.sameBits (9999 + 1) _ _ = true
    simp only [Instr.sameBits, beq_self_eq_true, Bool.true_and, List.all_eq_true]
    intro p hp
    have h1 : ∀ (l : List Int) (p : Value × Value), p ∈ (intsV .u8 l).zip (intsV .u8 l) → ∃ a, p = (.int .u8 a, .int .u8 a) := by
      intro l
      induction l with
      | nil => intro p hp; simp [intsV] at hp
      | cons a l ih =>
        intro p hp
        have e : intsV .u8 (a :: l) = .int .u8 a :: intsV .u8 l := rfl
        rw [e, List.zip_cons_cons] at hp
        rcases List.mem_cons.1 hp with rfl | hp
        · exact ⟨a, rfl⟩
        · exact ih p hp
    obtain ⟨a, rfl⟩ := h1 _ p hp
    simp [Instr.sameBits]
  und := by
    obtain ⟨m, e, hu⟩ := hst
    exact ⟨_, hu, .inl fun a b => rfl⟩
theorem KE.ofA {κ : Type} [DecidableEq κ] {Ei : κ → List Int} {s d : Nat} [q : QK P t true d s] (hs : ∀ k, (Ei k).length = s) (hi : ∀ a b, Ei a = Ei b → a = b) (hd : d ≤ 10000) (hst : ∃ m e, P.underlying t = some (.array m e)) : KE P t (fun k : κ => .agg (intsV .i64 (Ei k)).toArray) where
  eq := fun w a b => by
    have h := q.eq w 10000 (Ei a) (Ei b) hd (hs a) (hs b)
    have e : decide (Ei a = Ei b) = decide (a = b) := by
      rw [Bool.eq_iff_iff, decide_eq_true_eq, decide_eq_true_eq]
      exact ⟨hi a b, fun h => by rw [h]⟩
    rw [e] at h
    exact h
  check := fun w b k => q.chk w 10000 b (Ei k) hd (hs k)
  bits := fun k => by
    show Instr.sameBits (9999 + 1) _ _ = true
    simp only [Instr.sameBits, beq_self_eq_true, Bool.true_and, List.all_eq_true]
    intro p hp
    have h1 : ∀ (l : List Int) (p : Value × Value), p ∈ (intsV .i64 l).zip (intsV .i64 l) → ∃ a, p = (.int .i64 a, .int .i64 a) := by
      intro l
      induction l with
      | nil => intro p hp; simp [intsV] at hp
      | cons a l ih =>
        intro p hp
        have e : intsV .i64 (a :: l) = .int .i64 a :: intsV .i64 l := rfl
        rw [e, List.zip_cons_cons] at hp
        rcases List.mem_cons.1 hp with rfl | hp
        · exact ⟨a, rfl⟩
        · exact ih p hp
    obtain ⟨a, rfl⟩ := h1 _ p hp
    simp [Instr.sameBits]
  und := by
    obtain ⟨m, e, hu⟩ := hst
    exact ⟨_, hu, .inl fun a b => rfl⟩
end
end Go.HL
namespace Go.HL.Sts
open Go Go.HL Go.HL.Kl Go.HL.Kl.Mc
section
variable {α : Type}
def filZ (z : α) (l : List α) (n : Nat) : List α := l ++ List.replicate (n - l.length) z
theorem filZ_len {z : α} {l : List α} {n : Nat} (h : l.length ≤ n) : (filZ z l n).length = n := by simp [filZ]; omega
theorem filZ_nil (z : α) (n : Nat) : filZ z [] n = List.replicate n z := by simp [filZ]
theorem filZ_set {z v : α} {l : List α} {n k : Nat} (hk : l.length = k) (h : k < n) : (filZ z l n).set k v = filZ z (l ++ [v]) n := by
  subst hk
  unfold filZ
  rw [List.set_append_right _ _ (Nat.le_refl _), Nat.sub_self, show n - l.length = (n - (l ++ [v]).length) + 1 by simp; omega, List.replicate_succ, List.set_cons_zero]
  simp
theorem filZ_full {z : α} {l : List α} {n : Nat} (h : l.length = n) : filZ z l n = l := by simp [filZ, h]
theorem filZ_get {z v : α} {l : List α} {n k : Nat} (hk : l.length = k) (h : k < n) : ((filZ z l n).set k v)[k]? = some v := by
  rw [List.getElem?_set_self (by rw [filZ_len (by omega)]; exact h)]
theorem filZ_set0 {z : α} {l : List α} {n k : Nat} (hk : l.length = k) (h : k < n) : (filZ z l n).set k z = filZ z l n := by
  subst hk
  unfold filZ
  rw [List.set_append_right _ _ (Nat.le_refl _), Nat.sub_self, show n - l.length = (n - l.length - 1) + 1 by omega, List.replicate_succ, List.set_cons_zero]
theorem take_succ_get {l : List α} {k : Nat} {a : α} (h : l[k]? = some a) : l.take (k + 1) = l.take k ++ [a] := by
  rw [List.take_add_one, h]; rfl
theorem take_len {l : List α} {k : Nat} (h : k ≤ l.length) : (l.take k).length = k := by simp; omega
end
theorem rowK_succ {rds : List Sp} {k : Nat} {r : Sp} (h : rds[k]? = some r) (fr : Sp) (met : List Sp) : rowT (rds.take (k + 1)) fr met = ((rowT (rds.take k) fr met).1 ++ [(rowT (rds.take k) fr met).2.idxOf (fr &&& r) + 1], addN (rowT (rds.take k) fr met).2 (fr &&& r)) := by
  rw [take_succ_get h, rowT_snoc]
theorem rowK_len {rds : List Sp} {k : Nat} (h : k ≤ rds.length) (fr : Sp) (met : List Sp) : (rowT (rds.take k) fr met).1.length = k := by
  rw [rowT_len, take_len h]
theorem num_add {met : List Sp} {s : Sp} (hs : s ∉ met) {g g' : Sp → Option Value} (h : ∀ j, g j = if j ∈ met then some (.int .i64 ((met.idxOf j + 1 : Nat) : Int)) else none)
    (h' : ∀ j, g' j = if j = s then some (.int .i64 ((met.length + 1 : Nat) : Int)) else g j) : ∀ j, g' j = if j ∈ addN met s then some (.int .i64 (((addN met s).idxOf j + 1 : Nat) : Int)) else none := by
  intro j
  have e : addN met s = met ++ [s] := by simp [addN, hs]
  rw [h', e]
  by_cases hj : j = s
  · subst hj
    rw [if_pos rfl, if_pos (by simp), List.idxOf_append, if_neg hs]
    simp
  · rw [if_neg hj, h]
    by_cases hm : j ∈ met
    · rw [if_pos hm, if_pos (by simp [hm]), List.idxOf_append, if_pos hm]
    · rw [if_neg hm, if_neg (by simp [hm, hj])]
theorem rowT_mono (fr : Sp) : ∀ (rds met : List Sp), met.length ≤ (rowT rds fr met).2.length
  | [], met => Nat.le_refl _
  | r :: rds, met => by
    have h1 := rowT_mono fr rds (addN met (fr &&& r))
    obtain ⟨t, ht⟩ := add_pre met (fr &&& r)
    have h2 : met.length ≤ (addN met (fr &&& r)).length := by rw [ht]; simp
    exact Nat.le_trans h2 h1
theorem num_old {met : List Sp} {s : Sp} (hs : s ∈ met) : addN met s = met := by simp [addN, hs]
theorem rdTo_yes {sets : List Kl.Cl} {a c : Kl.Cl} {p : Nat} (h : sets[p]? = some c) (hc : c &&& a ≠ 0#256) : rdTo sets a (p + 1) = rdTo sets a p ||| pit p := by
  show (if (sets[p]?.getD 0) &&& a = 0 then _ else _) = _
  rw [h]
  simp only [Option.getD_some]
  rw [if_neg (show ¬ c &&& a = 0 from hc)]
theorem rdTo_no {sets : List Kl.Cl} {a c : Kl.Cl} {p : Nat} (h : sets[p]? = some c) (hc : ¬ c &&& a ≠ 0#256) : rdTo sets a (p + 1) = rdTo sets a p := by
  have hc := Classical.not_not.1 hc
  show (if (sets[p]?.getD 0) &&& a = 0 then _ else _) = _
  rw [h]
  simp only [Option.getD_some]
  rw [if_pos (show c &&& a = 0 from hc)]
theorem rdsOf_get {sets atoms : List Kl.Cl} {k : Nat} {a : Kl.Cl} (h : atoms[k]? = some a) : (rdsOf sets atoms)[k]? = some (rdTo sets a sets.length) := by simp [rdsOf, h]
theorem rdsOf_len (sets atoms : List Kl.Cl) : (rdsOf sets atoms).length = atoms.length := by simp [rdsOf]
theorem folTo_yes {fol : List Sp} {s f : Sp} {p : Nat} (h : fol[p]? = some f) (hs : s.getLsbD p = true) : folTo fol s (p + 1) = folTo fol s p ||| f := by simp [folTo, hs, h]
theorem folTo_no {fol : List Sp} {s : Sp} {p : Nat} (hs : s.getLsbD p = false) : folTo fol s (p + 1) = folTo fol s p := by simp [folTo, hs]
end Go.HL.Sts
namespace Go.Tab
open Go Go.HL
structure Fill {α : Type} (f : Nat → α) (n j : Nat) (l : List α) : Prop where
  len : l.length = n
  get : ∀ i, i < j → l[i]? = some (f i)
theorem Fill.zero {α : Type} {f : Nat → α} {l : List α} {n : Nat} (h : l.length = n) : Fill f n 0 l := ⟨h, fun _ h => by omega⟩
theorem Fill.step {α : Type} {f : Nat → α} {n j : Nat} {l : List α} (h : Fill f n j l) (hj : j < n) {y : α} (hy : y = f j) : Fill f n (j + 1) (l.set j y) := by
  refine ⟨by simp [h.len], fun i hi => ?_⟩
  subst hy
  by_cases e : j = i
  · subst e; rw [List.getElem?_set_self (by rw [h.len]; exact hj)]
  · rw [List.getElem?_set_ne e]; exact h.get i (by omega)
theorem Fill.done {α : Type} {f : Nat → α} {n j : Nat} {l : List α} (h : Fill f n j l) (hj : n ≤ j) : l = (List.range n).map f := by
  apply List.ext_getElem?
  intro i
  by_cases hi : i < n
  · rw [h.get i (by omega), List.getElem?_map, List.getElem?_range hi]; rfl
  · rw [List.getElem?_eq_none (by rw [h.len]; omega), List.getElem?_eq_none (by simp; omega)]
def idT : List UInt8 := (List.range 256).map UInt8.ofNat
def at0 (t : List UInt8) (i : Nat) : UInt8 := t.getD i 0
def thenT (t u : List UInt8) : List UInt8 := (List.range 256).map fun i => at0 u (at0 t i).toNat
def applyT (t b : List UInt8) : List UInt8 := (List.range b.length).map fun i => at0 t (at0 b i).toNat
def newAt (f t : List UInt8) : Nat → Option (List UInt8)
  | 0 => some idT
  | j + 1 => if at0 f j ∈ f.take j then none else (newAt f t j).map (·.set (at0 f j).toNat (at0 t j))
def newR (f t : List UInt8) : Option (List UInt8) := if f.length = t.length then newAt f t f.length else none
def zT : List UInt8 := List.replicate 256 0
def tabV (r : Option (List UInt8)) : Value := .tuple #[.agg (flat Eb (r.getD zT)).toArray, .int .i64 (if r.isSome then 0 else 60)]
def xyT : List UInt8 := (idT.set 97 120).set 98 121
attribute [irreducible] idT thenT applyT xyT
end Go.Tab
namespace Go.HL
open Go
/-! lists of lists: for the bag that looks whether lists share memory -/
section
variable {α : Type} {E : α → List Value} {k : Nat} {T : TypeId}
inductive OwnL (E : α → List Value) (k : Nat) (T : TypeId) : List (Sl α) → List (List α) → Hp → Prop
  | nil : OwnL E k T [] [] []
  | cons {s : Sl α} {xs : List α} {sls : List (Sl α)} {xss : List (List α)} {S R : Hp} (h : OwnS E k T s.v xs S) (hs : OwnL E k T sls xss R) : OwnL E k T (s :: sls) (xs :: xss) (S ++ R)
theorem OwnL.at {sls : List (Sl α)} {xss : List (List α)} {S : Hp} (h : OwnL E k T sls xss S) : ∀ {n : Nat} {s : Sl α}, sls[n]? = some s →
    ∃ xs S1 Sn S2, xss[n]? = some xs ∧ S = S1 ++ (Sn ++ S2) ∧ OwnS E k T s.v xs Sn ∧ ∀ xs' Sn', OwnS E k T s.v xs' Sn' → OwnL E k T sls (xss.set n xs') (S1 ++ (Sn' ++ S2)) := by
  induction h with
  | nil => intro n s hs; simp at hs
  | @cons s xs sls xss S R h hs ih =>
    intro n s' hn
    cases n with
    | zero =>
      simp at hn; subst hn
      exact ⟨xs, [], S, R, rfl, rfl, h, fun xs' Sn' h' => by simpa using OwnL.cons h' hs⟩
    | succ n =>
      obtain ⟨xs', S1, Sn, S2, h1, rfl, h3, h4⟩ := ih (by simpa using hn)
      exact ⟨xs', S ++ S1, Sn, S2, by simpa using h1, by simp, h3, fun y Sy hy => by simpa using OwnL.cons h (h4 y Sy hy)⟩
theorem OwnL.snoc {sls : List (Sl α)} {xss : List (List α)} {S S' : Hp} {s : Sl α} {xs : List α} (h : OwnL E k T sls xss S) (h' : OwnS E k T s.v xs S') : OwnL E k T (sls ++ [s]) (xss ++ [xs]) (S ++ S') := by
  induction h with
  | nil => simpa using OwnL.cons h' .nil
  | cons h hs ih => simpa using OwnL.cons h ih
theorem OwnL.len {sls : List (Sl α)} {xss : List (List α)} {S : Hp} (h : OwnL E k T sls xss S) : xss.length = sls.length := by
  induction h with
  | nil => rfl
  | cons h hs ih => simp [ih]
def mkL (f : Nat → Nat → α) (n m : Nat) : List α := (List.range m).map (f n)
theorem mkL_len {f : Nat → Nat → α} {n m : Nat} : (mkL f n m).length = m := by simp [mkL]
theorem mkL_get {f : Nat → Nat → α} {n m i : Nat} (h : i < m) : (mkL f n m)[i]? = some (f n i) := by simp [mkL, List.getElem?_range h]
theorem mkL_succ {f : Nat → Nat → α} {n m : Nat} : mkL f n m ++ [f n m] = mkL f n (m + 1) := by simp [mkL, List.range_succ]
theorem mkL_fill {f : Nat → Nat → α} {n m i : Nat} {l : List α} (h : Tab.Fill (f n) m i l) (hi : m ≤ i) : l = mkL f n m := h.done hi
inductive OwnF (E : α → List Value) (k : Nat) (T : TypeId) (f : Nat → Nat → α) : Nat → List (Sl α) → Hp → Prop
  | nil {n : Nat} : OwnF E k T f n [] []
  | cons {n : Nat} {s : Sl α} {sls : List (Sl α)} {S R : Hp} (h : OwnS E k T s.v (mkL f n s.xs.length) S) (hs : OwnF E k T f (n + 1) sls R) : OwnF E k T f n (s :: sls) (S ++ R)
theorem OwnL.all {f : Nat → Nat → α} {sls : List (Sl α)} {xss : List (List α)} {S : Hp} (h : OwnL E k T sls xss S) : ∀ {n : Nat}, (∀ j s, sls[j]? = some s → xss[j]? = some (mkL f (n + j) s.xs.length)) → OwnF E k T f n sls S := by
  induction h with
  | nil => intro n _; exact .nil
  | @cons s xs sls xss S R h hs ih =>
    intro n hj
    have h0 := hj 0 s rfl
    simp at h0
    subst h0; refine .cons h (ih fun j s' hs' => ?_)
    have := hj (j + 1) s' (by simpa using hs')
    rw [show n + 1 + j = n + (j + 1) by omega]
    simpa using this
theorem OwnF.head {f : Nat → Nat → α} {sls : List (Sl α)} {S : Hp} {n : Nat} {s : Sl α} (h : OwnF E k T f n (sls.drop n) S) (hs : sls[n]? = some s) : ∃ S1 S2, S = S1 ++ S2 ∧ OwnS E k T s.v (mkL f n s.xs.length) S1 ∧ OwnF E k T f (n + 1) (sls.drop (n + 1)) S2 := by
  have hn : n < sls.length := by
    rcases Nat.lt_or_ge n sls.length with h' | h'
    · exact h'
    · rw [List.getElem?_eq_none h'] at hs; cases hs
  have e : sls.drop n = s :: sls.drop (n + 1) := by
    rw [List.drop_eq_getElem_cons hn]
    rw [List.getElem?_eq_getElem hn] at hs
    simp at hs; rw [hs]
  rw [e] at h
  cases h with
  | cons h1 h2 => exact ⟨_, _, rfl, h1, h2⟩
structure Done (E : α → List Value) (f : Nat → Nat → α) (sls ones mores : List (Sl α)) (G : Hp) (n : Nat) : Prop where
  out : ∀ j, j < n → ∃ s o m, sls[j]? = some s ∧ ones[j]? = some o ∧ mores[j]? = some m ∧ o.xs = mkL f j (s.xs.length + 1) ∧ m.xs = mkL f j (s.xs.length + 70) ∧ IsSl s.v s.xs.length ∧ IsSl o.v o.xs.length ∧ IsSl m.v m.xs.length ∧ RdS E s.v (mkL f j s.xs.length) G ∧ RdS E o.v o.xs G ∧ RdS E m.v m.xs G
theorem Done.zero {f : Nat → Nat → α} {sls ones mores : List (Sl α)} {G : Hp} : Done E f sls ones mores G 0 := ⟨fun _ h => by omega⟩
theorem Done.step {f : Nat → Nat → α} {sls ones mores : List (Sl α)} {G G' : Hp} {n : Nat} {s o m : Sl α} (h : Done E f sls ones mores G n) (h1 : ones.length = n) (h2 : mores.length = n) (hs : sls[n]? = some s)
    (ho : o.xs = mkL f n (s.xs.length + 1)) (hm : m.xs = mkL f n (s.xs.length + 70)) (i1 : IsSl s.v s.xs.length) (i2 : IsSl o.v o.xs.length) (i3 : IsSl m.v m.xs.length) (r1 : RdS E s.v (mkL f n s.xs.length) G') (r2 : RdS E o.v o.xs G') (r3 : RdS E m.v m.xs G') : Done E f sls (ones ++ [o]) (mores ++ [m]) (G' ++ G) (n + 1) := by
  refine ⟨fun j hj => ?_⟩
  by_cases e : j = n
  · subst e
    exact ⟨s, o, m, hs, by rw [List.getElem?_append_right (by omega)]; simp [h1], by rw [List.getElem?_append_right (by omega)]; simp [h2], ho, hm, i1, i2, i3, r1.mono HIn.appL, r2.mono HIn.appL, r3.mono HIn.appL⟩
  · obtain ⟨s', o', m', a1, a2, a3, a4, a5, b1, b2, b3, a6, a7, a8⟩ := h.out j (by omega)
    exact ⟨s', o', m', a1, by rw [List.getElem?_append_left (by omega)]; exact a2, by rw [List.getElem?_append_left (by omega)]; exact a3, a4, a5, b1, b2, b3, a6.mono HIn.appR, a7.mono HIn.appR, a8.mono HIn.appR⟩
theorem set_all {f : Nat → Nat → α} {sls : List (Sl α)} {xss : List (List α)} {n : Nat} {s : Sl α} {l xs : List α} (hA : ∀ j s, j < n → sls[j]? = some s → xss[j]? = some (mkL f j s.xs.length)) (hs : sls[n]? = some s) (hl : l = mkL f n s.xs.length) (hx : xss[n]? = some xs) :
    ∀ j s', j < n + 1 → sls[j]? = some s' → (xss.set n l)[j]? = some (mkL f j s'.xs.length) := by
  intro j s' hj hs'
  by_cases e : n = j
  · subst e
    rw [hs] at hs'; cases hs'
    rw [List.getElem?_set_self (List.getElem?_eq_some_iff.1 hx).1, hl]
  · rw [List.getElem?_set_ne e]; exact hA j s' (by omega) hs'
theorem Keep.more {v0 v : Value} {xs0 xs : List α} {S G G' : Hp} (h : Keep E k T v0 xs0 v xs S G) (hG : HIn G G') : Keep E k T v0 xs0 v xs S G' := ⟨h.own, h.old.imp (fun r => r.mono hG) fun r => r⟩
theorem sl_get {sls : List (Sl α)} {n : Nat} (h : n < sls.length) : ∃ s, sls[n]? = some s := ⟨_, List.getElem?_eq_getElem h⟩
theorem OwnS.lenv [Enc E k] {s : Sl α} {xs : List α} {S : Hp} (h : OwnS E k T s.v xs S) : xs.length = s.xs.length := by
  obtain ⟨a', c', e', _⟩ := h.sl.out
  simp [Sl.v] at e'; exact e'.2.1.symm
end
end Go.HL
namespace Go.Proofs.YtmompllplidphaaGreatDoor
open Go Go.HL Go.Proofs Go.HL.Kl Go.HL.Kl.Mc Go.HL.Sts
def EkS (s : Sp) : Value := .agg (E3 s).toArray
instance k84 : QK8 Tryz.prog 90 true 2 3 := QK8.arr (m := 3) (e := 5) (se := 1) (QK8.int (t := 5))
instance keS : KE Tryz.prog 90 EkS := KE.of8 (Ei := Is) (fun _ => rfl) (fun a b h => Is_inj.1 h) (by decide) ⟨_, _, Tryz.underlying90⟩
def StS (b13 b14 : Nat) (met : List Sp) (S : Hp) : Prop := ∃ (bm : Nat) (es : List (Mx Sp)) (c : Nat) (ma : Option Addr) (mc : Nat) (Sm : Hp), S = (b13, .cells [.map (some bm)].toArray 159 (0, 0)) :: (bm, mxO EkS es c) :: (b14, .cells [.slice ma (met).length mc].toArray 84 (0, 0)) :: Sm ∧ OwnS E3 3 90 (.slice ma met.length mc) met Sm ∧ met.Nodup ∧ ∀ s, getM es s = if s ∈ met then some (.int .i64 ((met.idxOf s + 1 : Nat) : Int)) else none
def WdS (b12 : Nat) (next : List (List Nat)) (ends : List Bool) (S : Hp) : Prop := ∃ (na : Option Addr) (nc : Nat) (rows : List (Sl Nat)) (ea : Option Addr) (ec : Nat) (Sn Se Sr : Hp), S = (b12, .cells [.slice na rows.length nc, .slice ea ends.length ec].toArray 96 (0, 0)) :: (Sn ++ (Se ++ Sr)) ∧ OwnS Esl 1 36 (.slice na rows.length nc) rows Sn ∧ OwnS Ebo 1 4 (.slice ea ends.length ec) ends Se ∧ OwnL Eix 1 3 rows next Sr ∧ next = rows.map Sl.xs
theorem state_fn (b13 b14 : Nat) (met : List Sp) (S : Hp) (h : StS b13 b14 met S) (s : Sp) : HL.Fn Tryz.prog 106 [.agg (E3 (s)).toArray, .pointer (some ⟨b13, 0, none⟩), .pointer (some ⟨b14, 0, none⟩)] (fun _ => True) S (fun v S' => v = .int .i64 ((met.idxOf s + 1 : Nat) : Int) ∧ StS b13 b14 (addN met s) S') := by
  refine fn_of Tryz.func106 rfl rfl rfl fun w0 hw => ?_
  obtain ⟨bm, es, c, ma, mc, Sm, rfl, hO, hnd, hg⟩ := h
  have hml := sets_len hnd
  refine cR fun _ hK1 => ?_; refine o_box rfl rfl rfl fun b3 => ?_; refine oA (oZ hK1 (cR fun _ hK2 => ?_)); refine oS sL ?_; refine oS (s_ldB rfl (RdPK.cels (.own meA)) lnA) ?_
  by_cases hm : s ∈ met
  ·refine oS (step_cast (v' := .tuple #[.int .i64 ((met.idxOf s + 1 : Nat) : Int), .bool true]) (s_look2k (Ek := EkS) (k := s) rfl rfl meA) (by rw [hg, if_pos hm]; rfl)) ?_; refine oM ?_; refine oS sE ?_; refine oS sE (oA (oA (oZ hK2 (c_seq fun _ hK3 => ?_)))); refine cR fun _ hK4 => ?_; refine oM ?_; refine oS (s_not rfl) ?_; refine oZ hK4 ?_; refine cFZ hK3 (cR fun _ hK5 => ?_); refine oM (oA (oZ hK5 (c_ret ?_))); refine ?_; refine x_sub (Sub.refl _) (H' := (b13, .cells [.map (some bm)].toArray 159 (0, 0)) :: (bm, mxO EkS es c) :: (b14, .cells [.slice ma (met).length mc].toArray 84 (0, 0)) :: Sm) hzB ?_
   exact xR rfl rfl (⟨rfl, by rw [num_old hm]; exact ⟨bm, es, c, ma, mc, Sm, rfl, hO, hnd, hg⟩⟩)
  ·refine oS (step_cast (v' := .tuple #[.int .i64 0, .bool false]) (s_look2k (Ek := EkS) (k := s) rfl rfl meA) (by rw [hg, if_neg hm]; rfl)) ?_; refine oM ?_; refine oS sE ?_; refine oS sE (oA (oA (oZ hK2 (c_seq fun _ hK6 => ?_)))); refine cR fun _ hK7 => ?_; refine oM ?_; refine oS (s_not rfl) ?_; refine oZ hK7 ?_; refine cT (cR fun _ hK8 => ?_); refine oS sL ?_; refine oS sC ?_; refine oS (step_cast (v' := .int .i64 ((met.length + 1 : Nat) : Int)) (s_add rfl rfl (by omega)) rfl) ?_; refine oA (oZ hK8 (cR fun _ hK9 => ?_)); refine oS sL ?_; refine oS (s_ldB rfl (RdPK.cels (.own meA)) lnA) ?_; refine oM ?_; refine o_mset2 (Ek := EkS) (k := s) rfl rfl rfl pkA fun es' c' hset hel => ?_; refine oZ hK9 (c_region ?_); refine oS sL ?_; refine oS (s_ldB rfl (RdPK.cels (.own meA)) lnA) ?_; refine o_bs (E := E3) (xs := [s]) (vs := [_]) rfl rfl rfl rfl rfl (by decide) (by decide) fun b23 S23 hS23 => ?_; refine o_app hO (hS23.rdk hiA) rfl rfl rfl rfl (by simp only [List.length_append, List.length_singleton]; omega) (by simp only [List.length_append, List.length_singleton]; omega) rfl pkA fun a24 c24 S24 hS24 => ?_; refine o_store rfl rfl rfl upA ltA rfl ?_; refine oZ hK6 (c_seq fun _ hK10 => ?_)
   refine c_region ?_; refine o_step rfl (s_move rfl) ?_; refine o_step rfl (s_assign rfl) ?_; refine o_nil ?_; refine x_then (hK10 _ _ ?_); refine c_ret ?_; refine ?_; refine x_sub (Sub.refl _) (H' := (b13, .cells [.map (some bm)].toArray 159 (0, 0)) :: (bm, mxO EkS es' c') :: (b14, .cells [.slice a24 (met ++ [s]).length c24].toArray 84 (0, 0)) :: S24) hzB ?_; exact x_ret rfl (.tmp rfl (.nil)) (⟨by rw [List.idxOf_eq_length hm]; rfl, bm, es', c', a24, c24, S24, by simp only [addN, if_neg hm], by simpa only [addN, if_neg hm] using hS24, add_nodup hnd s, num_add hm hg hset⟩)
set_option maxHeartbeats 1000000 in
theorem row_fn (b5 b7 b12 c13 c14 b15 : Nat) (aa : Option Addr) (an ac : Nat) (da : Option Addr) (dn dc : Nat) (rds : List Sp) (Sr : Hp) (hr : OwnS E3 3 90 (.slice da dn dc) rds Sr) (hdn : dn = rds.length) (han : an = rds.length) (hdl : rds.length ≤ 300) (met : List Sp) (SS : Hp) (hS : StS c13 c14 met SS) (next : List (List Nat)) (ends : List Bool) (SW : Hp) (hW : WdS b12 next ends SW) (hnl : next.length ≤ 16777220) (hel : ends.length ≤ 16777220) (fr : Sp) (e : Bool) : HL.Fn Tryz.prog 107 [.agg (E3 (fr)).toArray, .bool e, .pointer (some ⟨b5, 0, none⟩), .pointer (some ⟨b7, 0, none⟩), .pointer (some ⟨b15, 0, none⟩), .pointer (some ⟨b12, 0, none⟩)] (fun _ => True) ((b5, .cells [.slice aa an ac].toArray 26 (0, 0)) :: (b7, .cells [.slice da dn dc].toArray 84 (0, 0)) :: (b15, .cells [.func (.func 106) [].toArray [.pointer (some ⟨c13, 0, none⟩), .pointer (some ⟨c14, 0, none⟩)].toArray].toArray 160 (0, 0)) :: (Sr ++ (SW ++ SS))) (fun _ S' => ∃ SS' SW', S' = ((b5, .cells [.slice aa an ac].toArray 26 (0, 0)) :: (b7, .cells [.slice da dn dc].toArray 84 (0, 0)) :: (b15, .cells [.func (.func 106) [].toArray [.pointer (some ⟨c13, 0, none⟩), .pointer (some ⟨c14, 0, none⟩)].toArray].toArray 160 (0, 0)) :: (Sr ++ (SW' ++ SS'))) ∧ StS c13 c14 (rowT rds fr met).2 SS' ∧ WdS b12 (next ++ [(rowT rds fr met).1]) (ends ++ [e]) SW') := by
  refine fn_of Tryz.func107 rfl rfl rfl fun w0 hw => ?_; subst han
  subst hdn
  have hdr := hr.sl
  refine cR fun _ hK1 => ?_; refine o_box rfl rfl rfl fun b6 => ?_; refine oZ hK1 (cR fun _ hK2 => ?_); refine oS sL ?_; refine oS sC ?_; refine o_make (E := Eix) (zx := 0) (n := rds.length) rfl rfl rfl (by omega) (by omega) rfl fun b14 S14 hS14 => ?_
  rw [← filZ_nil] at hS14
  have hs14 := hS14.sl
  rw [filZ_len (Nat.zero_le _)] at hs14
  refine oA (oZ hK2 (c_seq fun _ hK3 => ?_)); refine cR fun _ hK4 => ?_; refine oS sL ?_; refine oS sC (oM (oZ hK4 (c_block ?_))); refine c_loop3 (fun (k : Nat) (Sl0 : Hp) (St : Hp) => k ≤ rds.length ∧ StS c13 c14 (rowT (rds.take k) fr met).2 St ∧ OwnS Eix 1 3 (.slice (some ⟨b14, 0, none⟩) rds.length rds.length) (filZ 0 (rowT (rds.take k) fr met).1 rds.length) Sl0) (fun (k : Nat) (Sl0 : Hp) (St : Hp) => [(17, .int .i64 k)]) [(1, _), (3, _), (4, _), (5, _), (6, _), (8, _), (16, _)] (fun (k : Nat) (Sl0 : Hp) (St : Hp) => (b6, .cells (E3 fr).toArray 90 (0, 0)) :: (b5, .cells [.slice aa rds.length ac].toArray 26 (0, 0)) :: (b7, .cells [.slice da rds.length dc].toArray 84 (0, 0)) :: (b15, .cells [.func (.func 106) [].toArray [.pointer (some ⟨c13, 0, none⟩), .pointer (some ⟨c14, 0, none⟩)].toArray].toArray 160 (0, 0)) :: (Sl0 ++ (Sr ++ (SW ++ St)))) (fun (k : Nat) (Sl0 : Hp) (St : Hp) => rds.length - k) 0 S14 SS ⟨Nat.zero_le _, by simpa [rowT] using hS, by simpa [rowT] using hS14⟩ sbA sbA hzB ?_
  rintro k Sl0 St ⟨hk, hSt, hL⟩
  refine cR fun _ hK5 => ?_; refine oS (s_lss rfl rfl) ?_; refine oZ hK5 (c_seq fun _ hK6 => ?_); refine c_if rfl (fun hlt => ?_) (fun hlt => ?_)
  ·obtain ⟨r, hrk⟩ : ∃ r, rds[k]? = some r := gE
   have hrl := rowK_len (Nat.le_of_lt (show k < rds.length by omega)) fr met
   refine c_skip (xZ hK6 (c_seq fun _ hK7 => ?_)); refine c_block (cR fun _ hK8 => ?_); refine oM (oA (oZ hK8 (cR fun _ hK9 => ?_))); refine oS (s_ldB rfl (RdPK.cels (.own meA)) lnA) ?_; refine o_alloc (l := E3 0) (by rfl) rfl fun b10 => ?_; refine o_stW rfl rfl upA lnA lnA onA ?_; refine oZ hK9 (c_seq fun _ hK10 => ?_); refine cR fun _ hK11 => ?_; refine oM (oZ hK11 (c_block ?_)); refine c_loopB (fun (i : Nat) => i ≤ 3) (fun (i : Nat) => [(21, .int .i64 i)]) [(1, _), (3, _), (4, _), (5, _), (6, _), (8, _), (9, _), (10, _), (16, _), (17, _), (18, _), (19, _), (20, _)] (fun (i : Nat) => (b10, .cells (E3 (mapP (fun i w => w &&& wp r i) fr i)).toArray 90 (0, 0)) :: (b6, .cells (E3 fr).toArray 90 (0, 0)) :: (b5, .cells [.slice aa rds.length ac].toArray 26 (0, 0)) :: (b7, .cells [.slice da rds.length dc].toArray 84 (0, 0)) :: (b15, .cells [.func (.func 106) [].toArray [.pointer (some ⟨c13, 0, none⟩), .pointer (some ⟨c14, 0, none⟩)].toArray].toArray 160 (0, 0)) :: (Sl0 ++ (Sr ++ (SW ++ St)))) (fun (i : Nat) => 3 - i) 0 (by omega) sbA sbA hzB ?_
   rintro i hI
   refine cR fun _ hK12 => ?_; refine oS (s_lss rfl rfl) ?_; refine oZ hK12 (c_seq fun _ hK13 => ?_); refine c_if rfl (fun hl3 => ?_) (fun hl3 => ?_)
   ·refine c_skip (xZ hK13 (c_seq fun _ hK14 => ?_)); refine c_block (cR fun _ hK15 => ?_); refine oM (oA (oZ hK15 ?_)); refine c_drawE ((b10, .cells (E3 (mapP (fun i w => w &&& wp r i) fr i)).toArray 90 (0, 0)) :: (b6, .cells (E3 fr).toArray 90 (0, 0)) :: (b5, .cells [.slice aa rds.length ac].toArray 26 (0, 0)) :: (b7, .cells [.slice da rds.length dc].toArray 84 (0, 0)) :: (b15, .cells [.func (.func 106) [].toArray [.pointer (some ⟨c13, 0, none⟩), .pointer (some ⟨c14, 0, none⟩)].toArray].toArray 160 (0, 0)) :: (Sl0 ++ (Sr ++ (SW ++ St)))) (fun i => Nat.beq i 11) ?_; refine eP 0 rfl sM ?_; refine eP 1 rfl (s_idx1 rfl rfl (by omega)) ?_; refine eK 2 rfl (s_ld rfl ((RdPK.own meA).cel (j := i) (Es_get _ (by omega)) (by omega))) ?_; refine eK 3 rfl sL ?_; refine eP 4 rfl sM ?_; refine eP 5 rfl sM ?_; refine eP 6 rfl (s_idx rfl rfl hdr (by omega)) ?_; refine eP 7 rfl (s_indexA rfl rfl (by omega)) ?_; refine eK 8 rfl (s_ld rfl ((hr.rdk hiA).ld k i hrk (Es_get _ (by omega)) (by omega) (by simp only [Int.toNat_natCast]; omega))) ?_; refine eP 9 rfl (step_cast (s_and rfl rfl) (vs_and (wp _ i) (wp r i))) ?_; refine eP 10 rfl (s_idx1 rfl rfl (by omega)) ?_; refine eO 11 rfl ?_; refine o_store rfl rfl rfl upA (by show i < 3; omega) rfl ?_
    rw [Es_set _ _ (by omega)]
    refine o_nil ?_; refine x_oneL rfl ?_; refine e_done (by kernel_rfl) ?_; refine x_block (xZ hK14 (c_region ?_)); refine oS sD (oM (o_nil ?_)); exact xI (i + 1) (by omega)
   ·obtain rfl : i = 3 := by omega
    rw [mapP_and fr r]
    refine c_exit ?_; refine x_then_exit (x_then_exit (x_block_exit (xZ hK10 (c_region (oM (oM ?_)))))); refine oS sL ?_; refine oS (s_ldB rfl (RdPK.cels (.own meA)) lnA) ?_; refine o_callC (us := []) (vs := [_]) (cs := [.pointer (some ⟨c13, 0, none⟩), .pointer (some ⟨c14, 0, none⟩)]) (state_fn c13 c14 (rowT (rds.take k) fr met).2 St hSt (fr &&& r)) rfl rfl rfl (pkA) (fun _ _ => trivial) (fun v40 S40 ⟨hv40, hSt40⟩ => ?_); subst hv40
    refine oS (s_idx rfl rfl hs14 (by omega)) ?_; refine o_stS1 k ((rowT (rds.take k) fr met).2.idxOf (fr &&& r) + 1) hL pkA rfl rfl rfl (by rw [filZ_len (by omega)]; omega) (by first | rfl | omega | (rw [Int.toNat_natCast, Nat.mul_one])) fun S42 hS42 => ?_
    rw [filZ_set hrl (by omega)] at hS42
    refine o_nil (x_block (xZ hK7 (c_region ?_))); refine oS sD (oM (o_nil ?_)); exact xI (k + 1, _, _) ⟨by omega, by rw [rowK_succ hrk]; exact hSt40, by rw [rowK_succ hrk]; exact hS42⟩
  ·obtain rfl : k = rds.length := by omega
   rw [List.take_length] at hSt hL
   rw [filZ_full (by rw [rowT_len])] at hL
   refine c_exit ?_; refine x_then_exit (x_then_exit (x_block_exit (xZ hK3 (c_seq fun _ hK16 => ?_))))
   obtain ⟨na, nc, rows, ea, ec, Sn, Se, Sq, rfl, hn, he, hq, hnx⟩ := hW
   have hql := hq.len
   refine c_region ?_; refine oS sF ?_; refine oS sL ?_; refine oS (step_cast (v' := .slice (some ⟨b14, 0, none⟩) (rowT rds fr met).1.length rds.length) (s_move rfl) (by rw [rowT_len])) ?_; refine o_bs (E := Esl) (xs := [(⟨some ⟨b14, 0, none⟩, rds.length, (rowT rds fr met).1⟩ : Sl Nat)]) (vs := [_]) rfl rfl rfl rfl rfl (by decide) (by decide) fun b46 S46 hS46 => ?_; refine o_app hn (hS46.rdk hiA) rfl rfl rfl rfl (by simp only [List.length_append, List.length_singleton]; omega) (by simp only [List.length_append, List.length_singleton]; omega) rfl pkA fun a47 c47 S47 hS47 => ?_; refine oS sF ?_; refine o_store rfl rfl rfl upA ltA rfl ?_; refine oZ hK16 (c_region ?_); refine oS sF ?_; refine oS sL (oM ?_); refine o_bs (E := Ebo) (xs := [e]) (vs := [_]) rfl rfl rfl rfl rfl (by decide) (by decide) fun b52 S52 hS52 => ?_; refine o_app he (hS52.rdk hiA) rfl rfl rfl rfl (by simp only [List.length_append, List.length_singleton]; omega) (by simp only [List.length_append, List.length_singleton]; omega) rfl pkA fun a53 c53 S53 hS53 => ?_; refine oS sF ?_; refine o_store rfl rfl rfl upA ltA rfl ?_; refine o_nil ?_; refine x_sub (Sub.refl _) (H' := (b5, .cells [.slice aa rds.length ac].toArray 26 (0, 0)) :: (b7, .cells [.slice da rds.length dc].toArray 84 (0, 0)) :: (b15, .cells [.func (.func 106) [].toArray [.pointer (some ⟨c13, 0, none⟩), .pointer (some ⟨c14, 0, none⟩)].toArray].toArray 160 (0, 0)) :: (Sr ++ ((b12, .cells [.slice a47 (rows ++ [(⟨some ⟨b14, 0, none⟩, rds.length, (rowT rds fr met).1⟩ : Sl Nat)]).length c47, .slice a53 (ends ++ [e]).length c53].toArray 96 (0, 0)) :: (S47 ++ (S53 ++ (Sq ++ (Sl0 ++ St))))))) hzB ?_
   exact x_end rfl (.nil) (⟨St, (b12, .cells [.slice a47 (rows ++ [(⟨some ⟨b14, 0, none⟩, rds.length, (rowT rds fr met).1⟩ : Sl Nat)]).length c47, .slice a53 (ends ++ [e]).length c53].toArray 96 (0, 0)) :: (S47 ++ (S53 ++ (Sq ++ Sl0))), by simp only [List.cons_append, List.append_assoc], hSt, _, _, _, _, _, _, _, _, rfl, hS47, hS53, OwnL.snoc (s := ⟨some ⟨b14, 0, none⟩, rds.length, (rowT rds fr met).1⟩) hq (by simpa [Sl.v, rowT_len] using hL), by rw [List.map_append, ← hnx]; rfl⟩)
end Go.Proofs.YtmompllplidphaaGreatDoor
namespace Go.Proofs.YtmompllplidphaaGreatDoor
open Go Go.HL Go.Proofs Go.HL.Kl
theorem rHas_fn (c : Cl) (x : Nat) (hx : x < 256) : HL.Fn Tryz.prog 119 [.agg (Ec c).toArray, .int .u8 x] (fun _ => True) [] (fun v _ => v = .bool (c.getLsbD x)) := by
  refine fn_of Tryz.func119 rfl rfl rfl fun w0 hw => ?_; refine cR fun _ hK1 => ?_; refine o_box rfl rfl rfl fun b2 => ?_; refine oA (oZ hK1 (cR fun _ hK2 => ?_)); refine oM ?_; refine oS (step_cast (v' := .int .u8 ((x / 64 : Nat) : Int)) (s_quo rfl rfl (by decide)) (congrArg _ (quo64 hx))) ?_; refine oS (s_idx1 rfl rfl (by omega)) ?_; refine oS (s_ld rfl ((RdPK.own meA).cel (j := x / 64) (Ec_get _ (by omega)) (by omega))) ?_; refine oM ?_; refine oS (step_cast (v' := .int .u8 ((x % 64 : Nat) : Int)) (s_rem rfl rfl (by decide)) (congrArg _ (rem64 hx))) ?_; refine oS (s_shr rfl rfl (by omega)) ?_; refine oS (s_and rfl rfl) ?_; refine oS (step_cast (v' := .bool (c.getLsbD x)) (s_eql rfl rfl) (congrArg Value.bool (hasB c hx))) ?_; refine oA (oZ hK2 (c_ret ?_)); refine ?_; exact xR rfl rfl (rfl)
theorem or_fn (a b : Cl) : HL.Fn Tryz.prog 122 [.agg (Ec a).toArray, .agg (Ec b).toArray] (fun _ => True) [] (fun v _ => v = .agg (Ec (a ||| b)).toArray) := by
  refine fn_of Tryz.func122 rfl rfl rfl fun w0 hw => ?_
  rw [← mapW_or a b]
  refine cR fun _ hK1 => ?_; refine o_box rfl rfl rfl fun b2 => ?_; refine o_box rfl rfl rfl fun b3 => ?_; refine o_alloc (l := Ec 0#256) (by rw [Ec_zero]; rfl) rfl fun b4 => ?_; refine oZ hK1 (c_seq fun _ hK2 => ?_); refine cR fun _ hK3 => ?_; refine oM (oZ hK3 (c_block ?_)); refine c_loopB (fun (i : Nat) => i ≤ 4) (fun (i : Nat) => [(6, .int .i64 i)]) [(2, _), (3, _), (4, _)] (fun (i : Nat) => [(b4, .cells (Ec 0#256).toArray 39 (0, 0)), (b3, .cells (Ec b).toArray 39 (0, 0)), (b2, .cells (Ec (mapW (fun i w => w ||| wd b i) a i)).toArray 39 (0, 0))]) (fun (i : Nat) => 4 - i) 0 (by omega) sbA sbA hzB ?_
  rintro i hI
  refine cR fun _ hK4 => ?_; refine oS (s_lss rfl rfl) ?_; refine oZ hK4 (c_seq fun _ hK5 => ?_); refine c_if rfl (fun hlt => ?_) (fun hlt => ?_)
  · skip
    refine c_skip (xZ hK5 (c_seq fun _ hK6 => ?_)); refine c_block (cR fun _ hK7 => ?_); refine oM (oA (oZ hK7 ?_)); refine c_tail 8 (by kernel_rfl) ?_; refine .op rfl (s_move rfl) ?_; refine .op rfl (s_idx1 rfl rfl (by omega)) ?_; refine .op rfl (s_ld rfl ((RdPK.own meA).cel (j := i) (Ec_get _ (by omega)) (by omega))) ?_; refine .op rfl (s_move rfl) ?_; refine .op rfl (s_idx1 rfl rfl (by omega)) ?_; refine .op rfl (s_ld rfl ((RdPK.own meA).cel (j := i) (Ec_get _ (by omega)) (by omega))) ?_; refine .op rfl (step_cast (s_or rfl rfl) (v_or (wd _ i) (wd b i))) ?_; refine .op rfl (s_idx1 rfl rfl (by omega)) ?_; refine .nil ?_; refine o_store rfl rfl rfl upA (by show i < 4; omega) rfl ?_
    rw [Ec_set _ _ (by omega)]
    refine o_nil (x_block (xZ hK6 (c_region ?_))); refine oS sD (oM (o_nil ?_)); exact xI (i + 1) (by omega)
  · skip
    obtain rfl : i = 4 := by omega
    refine c_exit ?_; refine x_then_exit (x_then_exit (x_block_exit (xZ hK2 (cR fun _ hK8 => ?_)))); refine oS (s_ldB rfl (RdPK.cels (.own meA)) lnA) ?_; refine o_stW rfl rfl upA lnA lnA (by first | exact Ec_one _ | exact flat_one _ _ | exact one_rep rfl | (simp [Value.oneCell']; done)) ?_; refine oZ hK8 (c_ret ?_); refine ?_; exact x_ret rfl (.agg inferInstance inferInstance rfl (RdPK.cels (.own meA)) lnA (.nil)) (rfl)
theorem and_fn (a b : Cl) : HL.Fn Tryz.prog 103 [.agg (Ec a).toArray, .agg (Ec b).toArray] (fun _ => True) [] (fun v _ => v = .agg (Ec (a &&& b)).toArray) := by
  refine fn_of Tryz.func103 rfl rfl rfl fun w0 hw => ?_
  rw [← mapW_and a b]
  refine cR fun _ hK1 => ?_; refine o_box rfl rfl rfl fun b2 => ?_; refine o_box rfl rfl rfl fun b3 => ?_; refine o_alloc (l := Ec 0#256) (by rw [Ec_zero]; rfl) rfl fun b4 => ?_; refine oZ hK1 (c_seq fun _ hK2 => ?_); refine cR fun _ hK3 => ?_; refine oM (oZ hK3 (c_block ?_)); refine c_loopB (fun (i : Nat) => i ≤ 4) (fun (i : Nat) => [(6, .int .i64 i)]) [(2, _), (3, _), (4, _)] (fun (i : Nat) => [(b4, .cells (Ec 0#256).toArray 39 (0, 0)), (b3, .cells (Ec b).toArray 39 (0, 0)), (b2, .cells (Ec (mapW (fun i w => w &&& wd b i) a i)).toArray 39 (0, 0))]) (fun (i : Nat) => 4 - i) 0 (by omega) sbA sbA hzB ?_
  rintro i hI
  refine cR fun _ hK4 => ?_; refine oS (s_lss rfl rfl) ?_; refine oZ hK4 (c_seq fun _ hK5 => ?_); refine c_if rfl (fun hlt => ?_) (fun hlt => ?_)
  · skip
    refine c_skip (xZ hK5 (c_seq fun _ hK6 => ?_)); refine c_block (cR fun _ hK7 => ?_); refine oM (oA (oZ hK7 ?_)); refine c_tail 8 (by kernel_rfl) ?_; refine .op rfl (s_move rfl) ?_; refine .op rfl (s_idx1 rfl rfl (by omega)) ?_; refine .op rfl (s_ld rfl ((RdPK.own meA).cel (j := i) (Ec_get _ (by omega)) (by omega))) ?_; refine .op rfl (s_move rfl) ?_; refine .op rfl (s_idx1 rfl rfl (by omega)) ?_; refine .op rfl (s_ld rfl ((RdPK.own meA).cel (j := i) (Ec_get _ (by omega)) (by omega))) ?_; refine .op rfl (step_cast (s_and rfl rfl) (v_and (wd _ i) (wd b i))) ?_; refine .op rfl (s_idx1 rfl rfl (by omega)) ?_; refine .nil ?_; refine o_store rfl rfl rfl upA (by show i < 4; omega) rfl ?_
    rw [Ec_set _ _ (by omega)]
    refine o_nil (x_block (xZ hK6 (c_region ?_))); refine oS sD (oM (o_nil ?_)); exact xI (i + 1) (by omega)
  · skip
    obtain rfl : i = 4 := by omega
    refine c_exit ?_; refine x_then_exit (x_then_exit (x_block_exit (xZ hK2 (cR fun _ hK8 => ?_)))); refine oS (s_ldB rfl (RdPK.cels (.own meA)) lnA) ?_; refine o_stW rfl rfl upA lnA lnA (by first | exact Ec_one _ | exact flat_one _ _ | exact one_rep rfl | (simp [Value.oneCell']; done)) ?_; refine oZ hK8 (c_ret ?_); refine ?_; exact x_ret rfl (.agg inferInstance inferInstance rfl (RdPK.cels (.own meA)) lnA (.nil)) (rfl)
theorem not_fn (a : Cl) : HL.Fn Tryz.prog 104 [.agg (Ec a).toArray] (fun _ => True) [] (fun v _ => v = .agg (Ec (~~~a)).toArray) := by
  refine fn_of Tryz.func104 rfl rfl rfl fun w0 hw => ?_
  rw [← mapW_not a]
  refine cR fun _ hK1 => ?_; refine o_box rfl rfl rfl fun b1 => ?_; refine o_alloc (l := Ec 0#256) (by rw [Ec_zero]; rfl) rfl fun b2 => ?_; refine oZ hK1 (c_seq fun _ hK2 => ?_); refine cR fun _ hK3 => ?_; refine oM (oZ hK3 (c_block ?_)); refine c_loopB (fun (i : Nat) => i ≤ 4) (fun (i : Nat) => [(4, .int .i64 i)]) [(1, _), (2, _)] (fun (i : Nat) => [(b2, .cells (Ec 0#256).toArray 39 (0, 0)), (b1, .cells (Ec (mapW (fun _ w => ~~~w) a i)).toArray 39 (0, 0))]) (fun (i : Nat) => 4 - i) 0 (by omega) sbA sbA hzB ?_
  rintro i hI
  refine cR fun _ hK4 => ?_; refine oS (s_lss rfl rfl) ?_; refine oZ hK4 (c_seq fun _ hK5 => ?_); refine c_if rfl (fun hlt => ?_) (fun hlt => ?_)
  · skip
    refine c_skip (xZ hK5 (c_seq fun _ hK6 => ?_)); refine c_block (cR fun _ hK7 => ?_); refine oM (oA (oZ hK7 (c_region (oM (oM ?_))))); refine oS (s_idx1 rfl rfl (by omega)) ?_; refine oS (s_ld rfl ((RdPK.own meA).cel (j := i) (Ec_get _ (by omega)) (by omega))) ?_; refine oS (step_cast (s_com rfl) (v_com (wd _ i))) ?_; refine oS (s_idx1 rfl rfl (by omega)) ?_; refine o_store rfl rfl rfl upA (by show i < 4; omega) rfl ?_
    rw [Ec_set _ _ (by omega)]
    refine o_nil (x_block (xZ hK6 (c_region ?_))); refine oS sD (oM (o_nil ?_)); exact xI (i + 1) (by omega)
  · skip
    obtain rfl : i = 4 := by omega
    refine c_exit ?_; refine x_then_exit (x_then_exit (x_block_exit (xZ hK2 (cR fun _ hK8 => ?_)))); refine oS (s_ldB rfl (RdPK.cels (.own meA)) lnA) ?_; refine o_stW rfl rfl upA lnA lnA (by first | exact Ec_one _ | exact flat_one _ _ | exact one_rep rfl | (simp [Value.oneCell']; done)) ?_; refine oZ hK8 (c_ret ?_); refine ?_; exact x_ret rfl (.agg inferInstance inferInstance rfl (RdPK.cels (.own meA)) lnA (.nil)) (rfl)
theorem range_fn (lo hi : Nat) (hlo : lo < 256) (hhi : hi < 256) : HL.Fn Tryz.prog 102 [.int .u8 lo, .int .u8 hi] (fun _ => True) [] (fun v _ => v = .agg (Ec (rng lo hi)).toArray) := by
  refine fn_of Tryz.func102 rfl rfl rfl fun w0 hw => ?_; refine cR fun _ hK1 => ?_; refine o_alloc (l := Ec 0#256) (by rw [Ec_zero]; rfl) rfl fun b4 => ?_; refine oZ hK1 (cR fun _ hK2 => ?_); refine o_alloc (l := Ec 0#256) (by rw [Ec_zero]; rfl) rfl fun b5 => ?_; refine oZ hK2 (c_seq fun _ hK3 => ?_); refine cR fun _ hK4 => ?_; refine oM ?_; refine oS (step_cast (v' := .int .i64 ((lo : Nat) : Int)) (s_conv rfl) (congrArg _ (conv64 (by omega)))) ?_; refine oA (oZ hK4 (c_block ?_))
  rw [← show rngTo lo lo = 0#256 from rngTo_low (Nat.le_refl _)]
  refine c_loopB (fun (x : Nat) => lo ≤ x ∧ x ≤ max lo (hi + 1)) (fun (x : Nat) => [(6, .int .i64 x)]) [(1, _), (4, _), (5, _)] (fun (x : Nat) => [(b5, .cells (Ec (rngTo lo x)).toArray 39 (0, 0)), (b4, .cells (Ec (rngTo lo lo)).toArray 39 (0, 0))]) (fun (x : Nat) => 256 - x) lo ⟨by omega, by omega⟩ sbA sbA hzB ?_
  rintro x ⟨hx1, hx2⟩
  refine c_seq fun _ hK5 => ?_; refine cR fun _ hK6 => ?_; refine oM (oM ?_); refine oS (step_cast (v' := .int .i64 ((hi : Nat) : Int)) (s_conv rfl) (congrArg _ (conv64 (by omega)))) ?_; refine oS (s_leq rfl rfl) ?_; refine oZ hK6 ?_; refine c_if rfl (fun hle => ?_) (fun hle => ?_)
  · skip
    have hx : x < 256 := by omega
    refine c_skip (xZ hK5 (c_seq fun _ hK7 => ?_)); refine c_block ?_; refine c_tail 9 (by kernel_rfl) ?_; refine .op rfl (s_move rfl) ?_; refine .op rfl (step_cast (v' := .int .i64 ((x / 64 : Nat) : Int)) (s_shr rfl rfl (by decide)) (congrArg _ (shr6_i64 hx))) ?_; refine .op rfl (s_idx1 rfl rfl (by omega)) ?_; refine .op rfl (s_ld rfl ((RdPK.own meA).cel (j := x / 64) (Ec_get _ (by omega)) (by omega))) ?_; refine .op rfl (s_move rfl) ?_; refine .op rfl (step_cast (v' := .int .i64 ((x % 64 : Nat) : Int)) (s_and rfl rfl) (congrArg _ (and63_i64 hx))) ?_; refine .op rfl (step_cast (v' := Ew (1#64 <<< (x % 64))) (s_shl rfl rfl (by omega)) (v_shl1 (by omega))) ?_; refine .op rfl (step_cast (s_or rfl rfl) (v_or (wd (rngTo lo x) (x / 64)) (1#64 <<< (x % 64)))) ?_; refine .op rfl (s_idx1 rfl rfl (by omega)) ?_; refine .nil ?_; refine o_store rfl rfl rfl upA (by show x / 64 < 4; omega) rfl ?_
    rw [Ec_set _ _ (by omega)]
    refine o_nil (x_block (xZ hK7 (c_region (oM ?_)))); refine oS sD (oA (o_nil ?_))
    rw [with_eq _ (by omega), ← rngTo_step (by omega)]
    exact xI (x + 1) ⟨by omega, by omega⟩
  · skip
    have hend := rng_end (lo := lo) (hi := hi) (x := x) (by omega) (by omega) (by omega)
    rw [hend]
    refine c_exit ?_; refine x_then_exit (x_then_exit (x_block_exit (xZ hK3 (cR fun _ hK8 => ?_)))); refine oS (s_ldB rfl (RdPK.cels (.own meA)) lnA) ?_; refine o_stW rfl rfl upA lnA lnA (by first | exact Ec_one _ | exact flat_one _ _ | exact one_rep rfl | (simp [Value.oneCell']; done)) ?_; refine oZ hK8 (c_ret ?_); refine ?_; exact x_ret rfl (.agg inferInstance inferInstance rfl (RdPK.cels (.own meA)) lnA (.nil)) (rfl)
theorem rSize_fn (c : Cl) : HL.Fn Tryz.prog 120 [.agg (Ec c).toArray] (fun _ => True) [] (fun v _ => v = .int .i64 (size c)) := by
  refine fn_of Tryz.func120 rfl rfl rfl fun w0 hw => ?_; refine cR fun _ hK1 => ?_; refine o_box rfl rfl rfl fun b1 => ?_; refine oA (oZ hK1 (cR fun _ hK2 => ?_)); refine oA (oZ hK2 (c_seq fun _ hK3 => ?_)); refine cR fun _ hK4 => ?_; refine oA (oZ hK4 (c_block ?_)); refine c_loopB (fun (i : Nat) => i ≤ 256) (fun (i : Nat) => [(4, .int .i64 i), (3, .int .i64 (sizeTo c i))]) [(1, _), (2, _)] (fun (i : Nat) => [(b1, .cells (Ec c).toArray 39 (0, 0))]) (fun (i : Nat) => 256 - i) 0 (by omega) sbA sbA hzB ?_
  rintro i hi
  have hsz := sizeTo_le c i
  have hst := sizeTo_step c i
  refine c_seq fun _ hK5 => ?_; refine cR fun _ hK6 => ?_; refine oM ?_; refine oS (s_lss rfl rfl) ?_; refine oZ hK6 ?_; refine c_if rfl (fun hlt => ?_) (fun hlt => ?_)
  · skip
    refine c_skip (xZ hK5 (c_seq fun _ hK7 => ?_)); refine c_block (cR fun _ hK8 => ?_); refine oS (s_ldB rfl (RdPK.cels (.own meA)) lnA) ?_; refine oM ?_; refine oS (step_cast (v' := .int .u8 ((i : Nat) : Int)) (s_conv rfl) (congrArg _ (conv8 (by omega)))) ?_; refine o_callP (rHas_fn c i (by omega)) rfl rfl rfl (fun _ _ => trivial) (fun v12 hv12 => ?_)
    cases ha : BitVec.getLsbD c i
    · skip
      rw [ha] at hv12
      subst hv12; refine oZ hK8 ?_; refine cF (c_skip (x_block (xZ hK7 (c_region (oM ?_))))); refine oS sD (oA (o_nil ?_)); exact x_then (x_inv (i + 1) (by omega) (by first | omega | (dsimp only; omega)) (by refine Sub.cons rfl (Sub.cons' rfl (by rw [hst, ha]; rfl) sbA)) hzB)
    · skip
      rw [ha] at hv12
      subst hv12; refine oZ hK8 ?_; refine cT (c_region (oM ?_)); refine oS sD (oA (o_nil (x_block (xZ hK7 (c_region (oM ?_)))))); refine oS sD (oA (o_nil ?_)); exact x_then (x_inv (i + 1) (by omega) (by first | omega | (dsimp only; omega)) (by refine Sub.cons rfl (Sub.cons' rfl (by rw [hst, ha]; rfl) sbA)) hzB)
  · skip
    obtain rfl : i = 256 := by omega
    refine c_exit ?_; refine x_then_exit (x_then_exit (x_block_exit (xZ hK3 (cR fun _ hK9 => ?_)))); refine oM (oA (oZ hK9 (c_ret ?_))); refine ?_; exact xR rfl rfl (rfl)
end Go.Proofs.YtmompllplidphaaGreatDoor
