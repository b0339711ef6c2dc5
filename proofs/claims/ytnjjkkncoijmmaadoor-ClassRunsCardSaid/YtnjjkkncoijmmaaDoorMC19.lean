/- Part of the proofs over this seat: see the text that holds the theorem. Conditions: each theorem bears its own. -/
import Derived.Test.YtnjjkkncoijmmaaDoorMC11
import Derived.Test.YtnjjkkncoijmmaaDoorHl
namespace Go.HL.Kl
open Go Go.HL
/-! four slices -/
def H4 (S : Nat → Hp) (R : Hp) : Hp := S 0 ++ (S 1 ++ (S 2 ++ (S 3 ++ R)))
def R4 (S : Nat → Hp) (k : Nat) (R : Hp) : Hp := match k with
  | 0 => S 1 ++ (S 2 ++ (S 3 ++ R))
  | 1 => S 0 ++ (S 2 ++ (S 3 ++ R))
  | 2 => S 0 ++ (S 1 ++ (S 3 ++ R))
  | _ => S 0 ++ (S 1 ++ (S 2 ++ R))
def up {α : Type} (f : Nat → α) (k : Nat) (v : α) : Nat → α := fun j => if j = k then v else f j
theorem up_eq {α : Type} (f : Nat → α) (k : Nat) (v : α) : up f k v k = v := if_pos rfl
theorem up_ne {α : Type} (f : Nat → α) {k j : Nat} (v : α) (h : j ≠ k) : up f k v j = f j := if_neg h
def f4 {α : Type} (x0 x1 x2 x3 : α) : Nat → α := fun j => match j with
  | 0 => x0
  | 1 => x1
  | 2 => x2
  | _ => x3
theorem pick4 {S : Nat → Hp} {R : Hp} {k : Nat} (hk : k < 4) : Pick (H4 S R) (S k) (R4 S k R) := by
  match k, hk with
  | 0, _ => exact .here
  | 1, _ => exact .app .here
  | 2, _ => exact .app (.app .here)
  | 3, _ => exact .app (.app (.app .here))
theorem hin4 {S : Nat → Hp} {R : Hp} {k : Nat} (hk : k < 4) : HIn (S k) (H4 S R) := by
  match k, hk with
  | 0, _ => exact HIn.here
  | 1, _ => exact HIn.app HIn.here
  | 2, _ => exact HIn.app (HIn.app HIn.here)
  | 3, _ => exact HIn.app (HIn.app (HIn.app HIn.here))
theorem hin4R {S : Nat → Hp} {R A : Hp} (h : HIn A R) : HIn A (H4 S R) := HIn.app (HIn.app (HIn.app (HIn.app h)))
theorem hin8 {S G : Nat → Hp} {R : Hp} {k : Nat} (hk : k < 4) : HIn (S k ++ G k) (H4 S (H4 G R)) := fun p hp => by
  rcases List.mem_append.1 hp with h | h
  · exact hin4 hk p h
  · exact hin4R (hin4 hk) p h
theorem put4 {S : Nat → Hp} {R S' : Hp} {k : Nat} (hk : k < 4) : HSub (S' ++ R4 S k R) (H4 (up S k S') R) := by
  match k, hk with
  | 0, _ => exact HSub.refl _
  | 1, _ => exact HSub.of_perm (List.perm_append_comm_assoc _ _ _)
  | 2, _ => exact HSub.of_perm ((List.perm_append_comm_assoc _ _ _).trans (List.Perm.append_left _ (List.perm_append_comm_assoc _ _ _)))
  | 3, _ => exact HSub.of_perm ((List.perm_append_comm_assoc _ _ _).trans (List.Perm.append_left _ ((List.perm_append_comm_assoc _ _ _).trans (List.Perm.append_left _ (List.perm_append_comm_assoc _ _ _)))))
theorem put4p {S : Nat → Hp} {R S' : Hp} {k : Nat} (hk : k < 4) : (S' ++ R4 S k R).Perm (H4 (up S k S') R) := by
  match k, hk with
  | 0, _ => exact .refl _
  | 1, _ => exact List.perm_append_comm_assoc _ _ _
  | 2, _ => exact (List.perm_append_comm_assoc _ _ _).trans (List.Perm.append_left _ (List.perm_append_comm_assoc _ _ _))
  | 3, _ => exact (List.perm_append_comm_assoc _ _ _).trans (List.Perm.append_left _ ((List.perm_append_comm_assoc _ _ _).trans (List.Perm.append_left _ (List.perm_append_comm_assoc _ _ _))))
theorem H4_perm {S : Nat → Hp} {R R' : Hp} (h : R.Perm R') : (H4 S R).Perm (H4 S R') := List.Perm.append_left _ (List.Perm.append_left _ (List.Perm.append_left _ (List.Perm.append_left _ h)))
theorem H4_out {S : Nat → Hp} {A R : Hp} : (A ++ H4 S R).Perm (H4 S (A ++ R)) :=
  (List.perm_append_comm_assoc _ _ _).trans (List.Perm.append_left _ ((List.perm_append_comm_assoc _ _ _).trans (List.Perm.append_left _ ((List.perm_append_comm_assoc _ _ _).trans (List.Perm.append_left _ (List.perm_append_comm_assoc _ _ _))))))
theorem add4p {G : Nat → Hp} {R G' : Hp} {k : Nat} (hk : k < 4) : (G' ++ H4 G R).Perm (H4 (up G k (G' ++ G k)) R) := by
  refine List.Perm.trans (List.Perm.append_left _ ((pick4 (S := G) hk).perm)) ?_
  rw [← List.append_assoc]
  exact put4p hk
theorem put8 {S G : Nat → Hp} {R S' G' Z : Hp} {p : Nat × Obj} {k : Nat} (hk : k < 4) : HSub (S' ++ (G' ++ (Z ++ (p :: R4 S k (H4 G R))))) (p :: H4 (up S k S') (H4 (up G k (G' ++ G k)) R)) := by
  refine HSub.trans (HSub.keeps (HSub.keeps (HSub.skips (HSub.refl _)))) (HSub.of_perm ?_)
  refine List.Perm.trans (List.Perm.append_left _ List.perm_middle) (List.Perm.trans List.perm_middle (List.Perm.cons _ ?_))
  refine List.Perm.trans (List.perm_append_comm_assoc _ _ _) ?_
  refine List.Perm.trans (List.Perm.append_left _ (put4p hk)) ?_
  exact H4_out.trans (H4_perm (add4p hk))
/-- the lists of the four, as they come -/
def L0 (c d : Cl) (j : Nat) : List (Nat × Nat) := match j with
  | 2 => runs d
  | _ => runs c
theorem L0_len (c d : Cl) (j : Nat) : (L0 c d j).length ≤ 256 := by unfold L0; split <;> exact Nat.le_trans (runsB_le _) (memsTo_len _ 256)
abbrev lv (c d : Cl) (a : Nat → Option Addr) (n : Nat → Nat) (j : Nat) : Value := .slice (a j) (L0 c d j).length (n j)
def v4 (f : Nat → Value) : List Value := [f 0, f 1, f 2, f 3]
theorem v4_get {f : Nat → Value} {k : Nat} (h : k < 4) : (v4 f)[k]? = some (f k) := by
  match k, h with
  | 0, _ => rfl
  | 1, _ => rfl
  | 2, _ => rfl
  | 3, _ => rfl
theorem v4_set {f : Nat → Value} {k : Nat} (h : k < 4) (v : Value) : (v4 f).set k v = v4 (up f k v) := by
  match k, h with
  | 0, _ => rfl
  | 1, _ => rfl
  | 2, _ => rfl
  | 3, _ => rfl
theorem v4_one {f : Nat → Value} (h : ∀ j, (f j).oneCell' = true) : ∀ v ∈ v4 f, v.oneCell' = true := by
  intro v hv
  simp only [v4, List.mem_cons, List.not_mem_nil, or_false] at hv
  rcases hv with rfl | rfl | rfl | rfl <;> exact h _
theorem v4_congr {f g : Nat → Value} (h : ∀ j, j < 4 → f j = g j) : v4 f = v4 g := by
  simp only [v4, h 0 (by decide), h 1 (by decide), h 2 (by decide), h 3 (by decide)]
/-- the four slices and the array that holds them -/
structure R4s (c d : Cl) where
  b : Nat
  a : Nat → Option Addr
  n : Nat → Nat
  S : Nat → Hp
  own : ∀ j, j < 4 → OwnS Er 2 36 (lv c d a n j) (L0 c d j) (S j)
theorem own4 {c d : Cl} {a0 a1 a2 a3 : Option Addr} {n0 n1 n2 n3 : Nat} {S0 S1 S2 S3 : Hp} (h0 : OwnS Er 2 36 (.slice a0 (runs c).length n0) (runs c) S0) (h1 : OwnS Er 2 36 (.slice a1 (runs c).length n1) (runs c) S1) (h2 : OwnS Er 2 36 (.slice a2 (runs d).length n2) (runs d) S2) (h3 : OwnS Er 2 36 (.slice a3 (runs c).length n3) (runs c) S3) :
    ∀ j, j < 4 → OwnS Er 2 36 (lv c d (f4 a0 a1 a2 a3) (f4 n0 n1 n2 n3) j) (L0 c d j) (f4 S0 S1 S2 S3 j) := by
  intro j hj
  match j, hj with
  | 0, _ => exact h0
  | 1, _ => exact h1
  | 2, _ => exact h2
  | 3, _ => exact h3
/-- the four, written over -/
structure ST (c d : Cl) (a : Nat → Option Addr) (n : Nat → Nat) (X : Nat → List (Nat × Nat)) (S : Nat → Hp) : Prop where
  len : ∀ j, j < 4 → (X j).length = (L0 c d j).length
  own : ∀ j, j < 4 → OwnS Er 2 36 (lv c d a n j) (X j) (S j)
theorem ST.sl {c d : Cl} {a : Nat → Option Addr} {n : Nat → Nat} {X : Nat → List (Nat × Nat)} {S : Nat → Hp} (h : ST c d a n X S) {k : Nat} (hk : k < 4) : IsSl (lv c d a n k) (L0 c d k).length := by
  rw [← h.len k hk]; have := (h.own k hk).sl; exact this
theorem ST.put {c d : Cl} {a : Nat → Option Addr} {n : Nat → Nat} {X : Nat → List (Nat × Nat)} {S : Nat → Hp} (h : ST c d a n X S) {k i : Nat} {m : Nat × Nat} {S' : Hp} (ho : OwnS Er 2 36 (lv c d a n k) ((X k).set i m) S') : ST c d a n (up X k ((X k).set i m)) (up S k S') := by
  refine ⟨fun j hj => ?_, fun j hj => ?_⟩ <;> by_cases e : j = k
  · subst e; rw [up_eq, List.length_set]; exact h.len j hj
  · rw [up_ne _ _ e]; exact h.len j hj
  · subst e; rw [up_eq, up_eq]; exact ho
  · rw [up_ne _ _ e, up_ne _ _ e]; exact h.own j hj
/-- marked at the beginning -/
def MK (x : List (Nat × Nat)) (i : Nat) (m : Nat × Nat) : Prop := ∀ q, q < i → x[q]? = some m
theorem MK.zero (x : List (Nat × Nat)) (m : Nat × Nat) : MK x 0 m := fun q h => absurd h (Nat.not_lt_zero _)
theorem MK.set {X : Nat → List (Nat × Nat)} {k i : Nat} {m : Nat × Nat} (h : MK (X k) i m) (hi : i < (X k).length) : MK (up X k ((X k).set i m) k) (i + 1) m := by
  rw [up_eq]
  intro q hq
  by_cases e : q = i
  · subst e; exact List.getElem?_set_self hi
  · rw [List.getElem?_set_ne (fun h => e h.symm)]; exact h q (by omega)
theorem old_up {X : Nat → List (Nat × Nat)} {k : Nat} {z : List (Nat × Nat)} {p : Nat → List (Nat × Nat) → Prop} (h : ∀ j, j < k → p j (X j)) : ∀ j, j < k → p j (up X k z j) := by
  intro j hj; rw [up_ne _ _ (by omega)]; exact h j hj
theorem next_of {X : Nat → List (Nat × Nat)} {k : Nat} {p : Nat → List (Nat × Nat) → Prop} (h : ∀ j, j < k → p j (X j)) (hk : p k (X k)) : ∀ j, j < k + 1 → p j (X j) := by
  intro j hj
  by_cases e : j = k
  · subst e; exact hk
  · exact h j (by omega)
/-! grown -/
def wv (k : Nat) (B : Nat → Option Addr) (Y : Nat → List (Nat × Nat)) (N : Nat → Nat) (j : Nat) : Value := if j < k then .slice (B j) (Y j).length (N j) else .slice none 0 0
theorem wv_zero (B : Nat → Option Addr) (Y : Nat → List (Nat × Nat)) (N : Nat → Nat) : v4 (wv 0 B Y N) = [.slice none 0 0, .slice none 0 0, .slice none 0 0, .slice none 0 0] := rfl
theorem wv_get {k m : Nat} {B : Nat → Option Addr} {Y : Nat → List (Nat × Nat)} {N : Nat → Nat} (h : m < 4) (hk : m < k) : (v4 (wv k B Y N))[m]? = some (.slice (B m) (Y m).length (N m)) := by
  rw [v4_get h, wv, if_pos hk]
theorem wv_next {k : Nat} {B : Nat → Option Addr} {Y : Nat → List (Nat × Nat)} {N : Nat → Nat} (h : k < 4) {v : Value} (hv : v = .slice (B k) (Y k).length (N k)) : (v4 (wv k B Y N)).set k v = v4 (wv (k + 1) B Y N) := by
  rw [v4_set h]
  refine v4_congr fun j hj => ?_
  by_cases e : j = k
  · subst e; rw [up_eq, wv, if_pos (by omega)]; exact hv
  · rw [up_ne _ _ e]
    unfold wv
    by_cases e2 : j < k
    · rw [if_pos e2, if_pos (by omega)]
    · rw [if_neg e2, if_neg (by omega)]
theorem wv_set {k : Nat} {B : Nat → Option Addr} {Y : Nat → List (Nat × Nat)} {N : Nat → Nat} (h : k < 4) {a : Option Addr} {y : List (Nat × Nat)} {n : Nat} : (v4 (wv (k + 1) B Y N)).set k (.slice a y.length n) = v4 (wv (k + 1) (up B k a) (up Y k y) (up N k n)) := by
  rw [v4_set h]
  refine v4_congr fun j hj => ?_
  unfold wv
  by_cases e : j = k
  · subst e; rw [up_eq, up_eq, up_eq, up_eq, if_pos (by omega)]
  · rw [up_ne _ _ e, up_ne _ _ e, up_ne _ _ e, up_ne _ _ e]
/-- grown by marks -/
def GR (y : List (Nat × Nat)) (l i : Nat) (m : Nat × Nat) : Prop := y.length = l + i ∧ ∀ q, l ≤ q → q < l + i → y[q]? = some m
theorem GR.zero {y : List (Nat × Nat)} {l : Nat} {m : Nat × Nat} (h : y.length = l) : GR y l 0 m := ⟨h, fun q h1 h2 => by omega⟩
theorem GR.app {Y : Nat → List (Nat × Nat)} {k l i : Nat} {m : Nat × Nat} (h : GR (Y k) l i m) : GR (up Y k (Y k ++ [m]) k) l (i + 1) m := by
  rw [up_eq]
  refine ⟨by rw [List.length_append, h.1]; rfl, fun q h1 h2 => ?_⟩
  by_cases e : q = l + i
  · subst e; rw [← h.1, List.getElem?_append_right (Nat.le_refl _), Nat.sub_self]; rfl
  · rw [List.getElem?_append_left (by rw [h.1]; omega)]; exact h.2 q h1 (by omega)
/-- all four: what was is still readable, what grows is owned -/
abbrev K4 (c d : Cl) (a : Nat → Option Addr) (n : Nat → Nat) (X : Nat → List (Nat × Nat)) (B : Nat → Option Addr) (N : Nat → Nat) (Y : Nat → List (Nat × Nat)) (S G : Nat → Hp) : Prop :=
  ∀ j, j < 4 → Keep Er 2 36 (lv c d a n j) (X j) (.slice (B j) (Y j).length (N j)) (Y j) (S j) (G j)
theorem K4.start {c d : Cl} {a : Nat → Option Addr} {n : Nat → Nat} {X : Nat → List (Nat × Nat)} {S : Nat → Hp} (h : ST c d a n X S) : K4 c d a n X a n X S (fun _ => []) := by
  intro j hj
  have := Keep.start (h.own j hj)
  rw [show (Value.slice (a j) (X j).length (n j)) = lv c d a n j from by rw [h.len j hj]]
  exact this
theorem K4.app {c d : Cl} {a : Nat → Option Addr} {n : Nat → Nat} {X : Nat → List (Nat × Nat)} {B : Nat → Option Addr} {N : Nat → Nat} {Y : Nat → List (Nat × Nat)} {S G : Nat → Hp} (h : K4 c d a n X B N Y S G) {k : Nat} (hk : k < 4) {m : Nat × Nat} {a' : Option Addr} {c' : Nat} {S' G' : Hp} (ho : OwnS Er 2 36 (.slice a' (Y k ++ [m]).length c') (Y k ++ [m]) S') (hG : (G' = [] ∧ ∃ q, Value.slice (B k) (Y k).length (N k) = .slice a' q c') ∨ G' = S k) :
    K4 c d a n X (up B k a') (up N k c') (up Y k (Y k ++ [m])) (up S k S') (up G k (G' ++ G k)) := by
  intro j hj
  by_cases e : j = k
  · subst e; rw [up_eq, up_eq, up_eq, up_eq, up_eq]; exact (h j hj).app ho hG
  · rw [up_ne _ _ e, up_ne _ _ e, up_ne _ _ e, up_ne _ _ e, up_ne _ _ e]; exact h j hj
theorem same_up {α : Type} {f g : Nat → α} {k : Nat} {z : α} (h : ∀ j, k < j → j < 4 → f j = g j) : ∀ j, k < j → j < 4 → up f k z j = g j := fun j h1 h2 => by rw [up_ne _ _ (by omega)]; exact h j h1 h2
end Go.HL.Kl
