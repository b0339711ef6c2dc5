/- Parts of a regex, by index: as the program's loops write them. Conditions: none. -/
import Derived.Test.YtmompllplidphaaDoorMT8Z
import Derived.Test.YtmompllplidphaaDoorHlB
import Derived.Test.YtmompllplidphaaDoorProg
import Derived.KernelRfl
import Derived.StillTail
namespace Go.HL.Sts
open Go Go.HL Go.HL.Kl Go.HL.Kl.Mc
def getF (p : Pt) (i : Nat) : Sp := if i = 0 then p.f0 else p.f1
def getL (p : Pt) (i : Nat) : Sp := if i = 0 then p.l0 else p.l1
def getN (p : Pt) (i k : Nat) : Bool := if i = 0 then (if k = 0 then p.n00 else p.n01) else (if k = 0 then p.n10 else p.n11)
def setF (p : Pt) (i : Nat) (s : Sp) : Pt := if i = 0 then { p with f0 := s } else { p with f1 := s }
def setL (p : Pt) (i : Nat) (s : Sp) : Pt := if i = 0 then { p with l0 := s } else { p with l1 := s }
def setN (p : Pt) (i k : Nat) (b : Bool) : Pt := if i = 0 then (if k = 0 then { p with n00 := b } else { p with n01 := b }) else (if k = 0 then { p with n10 := b } else { p with n11 := b })
theorem two {i : Nat} (h : i < 2) : i = 0 ∨ i = 1 := by omega
theorem three {i : Nat} (h : i < 3) : i = 0 ∨ i = 1 ∨ i = 2 := by omega
theorem Ep4_len (p : Pt) : (Ep4 p).length = 16 := rfl
theorem Es_sub {s : Sp} {j : Nat} {u : Value} (h : (E3 s)[j]? = some u) : j < 3 := by
  have := (List.getElem?_eq_some_iff.1 h).1
  simpa [E3] using this
theorem Ep4_F {p : Pt} {i off : Nat} (hi : i < 2) (ho : off = 4 + i * 3) : ∀ j u, (E3 (getF p i))[j]? = some u → (Ep4 p)[off + j]? = some u := by
  intro j u h
  subst ho
  have hj := Es_sub h
  rcases two hi with rfl | rfl <;> rcases three hj with rfl | rfl | rfl <;> exact h
theorem Ep4_L {p : Pt} {i off : Nat} (hi : i < 2) (ho : off = 10 + i * 3) : ∀ j u, (E3 (getL p i))[j]? = some u → (Ep4 p)[off + j]? = some u := by
  intro j u h
  subst ho
  have hj := Es_sub h
  rcases two hi with rfl | rfl <;> rcases three hj with rfl | rfl | rfl <;> exact h
theorem Ep4_N {p : Pt} {i k off : Nat} (hi : i < 2) (hk : k < 2) (ho : off = i * 2 + k) : (Ep4 p)[off]? = some (.bool (getN p i k)) := by
  subst ho
  rcases two hi with rfl | rfl <;> rcases two hk with rfl | rfl <;> rfl
theorem Ep4_setF {p : Pt} {i off : Nat} {s : Sp} (hi : i < 2) (ho : off = 4 + i * 3) : splice (Ep4 p) off (E3 s) = Ep4 (setF p i s) := by
  subst ho
  rcases two hi with rfl | rfl <;> rfl
theorem Ep4_setL {p : Pt} {i off : Nat} {s : Sp} (hi : i < 2) (ho : off = 10 + i * 3) : splice (Ep4 p) off (E3 s) = Ep4 (setL p i s) := by
  subst ho
  rcases two hi with rfl | rfl <;> rfl
theorem Ep4_setN {p : Pt} {i k off : Nat} {b : Bool} (hi : i < 2) (hk : k < 2) (ho : off = i * 2 + k) : (Ep4 p).set off (.bool b) = Ep4 (setN p i k b) := by
  subst ho
  rcases two hi with rfl | rfl <;> rcases two hk with rfl | rfl <;> rfl
/-! one or the other -/
def alt1 (p b : Pt) (i : Nat) : Pt := setL (setF p i (getF p i ||| getF b i)) i (getL p i ||| getL b i)
def altN (p b : Pt) (i : Nat) : Nat → Pt
  | 0 => p
  | k + 1 => setN (altN p b i k) i k (getN (altN p b i k) i k || getN b i k)
def altTo (a b : Pt) : Nat → Pt
  | 0 => a
  | i + 1 => altN (alt1 (altTo a b i) b i) b i 2
theorem altTo_end (a b : Pt) : altTo a b 2 = altP a b := by cases a; cases b; rfl
theorem altN_t {p b : Pt} {i k : Nat} (h : getN (altN p b i k) i k = true) : setN (altN p b i k) i k true = altN p b i (k + 1) := by simp [altN, h]
theorem altN_f {p b : Pt} {i k : Nat} (h : getN (altN p b i k) i k = false) : setN (altN p b i k) i k (getN b i k) = altN p b i (k + 1) := by simp [altN, h]
/-! one behind the other -/
def cat1 (c a b : Pt) (i : Nat) : Pt := setL (setF c i (getF a i)) i (getL b i)
def cat2 (c a b : Pt) (i : Nat) : Pt := if getN a i 0 then setF c i (getF c i ||| getF b i) else c
def cat3 (c a b : Pt) (i : Nat) : Pt := if getN b 0 i then setL c i (getL c i ||| getL a i) else c
def catN (c a b : Pt) (i : Nat) : Nat → Pt
  | 0 => c
  | k + 1 => setN (catN c a b i k) i k (getN a i k && getN b i k)
def catTo (a b : Pt) : Nat → Pt
  | 0 => zeroP
  | i + 1 => catN (cat3 (cat2 (cat1 (catTo a b i) a b i) a b i) a b i) a b i 2
theorem catTo_end (a b : Pt) : catTo a b 2 = catP a b := by
  obtain ⟨a0, a1, a2, a3, a4, a5, a6, a7⟩ := a
  obtain ⟨b0, b1, b2, b3, b4, b5, b6, b7⟩ := b
  cases a0 <;> cases a2 <;> cases b0 <;> cases b1 <;> rfl
theorem catN_t {c a b : Pt} {i k : Nat} (h : getN a i k = true) : setN (catN c a b i k) i k (getN b i k) = catN c a b i (k + 1) := by simp [catN, h]
theorem catN_f {c a b : Pt} {i k : Nat} (h : getN a i k = false) : setN (catN c a b i k) i k false = catN c a b i (k + 1) := by simp [catN, h]
theorem cat2_t {c a b : Pt} {i : Nat} (h : getN a i 0 = true) : setF c i (getF c i ||| getF b i) = cat2 c a b i := by simp [cat2, h]
theorem cat2_f {c a b : Pt} {i : Nat} (h : ¬ getN a i 0 = true) : cat2 c a b i = c := by simp [cat2, h]
theorem cat3_t {c a b : Pt} {i : Nat} (h : getN b 0 i = true) : setL c i (getL c i ||| getL a i) = cat3 c a b i := by simp [cat3, h]
theorem cat3_f {c a b : Pt} {i : Nat} (h : ¬ getN b 0 i = true) : cat3 c a b i = c := by simp [cat3, h]
theorem cat1_eq {c a b : Pt} {i : Nat} : setL (setF c i (getF a i)) i (getL b i) = cat1 c a b i := rfl
/-! the places that can follow: row by row -/
theorem joinF_get {l : List Sp} {a b : Sp} {p : Nat} {s : Sp} (h : l[p]? = some s) : (joinF l a b)[p]? = some (if a.getLsbD p then s ||| b else s) := by
  simp [joinF, h]
def joinTo (l : List Sp) (a b : Sp) (n : Nat) : List Sp := (joinF l a b).take n ++ l.drop n
theorem joinTo_len (l : List Sp) (a b : Sp) (n : Nat) : (joinTo l a b n).length = l.length := by
  simp [joinTo, joinF_len]; omega
theorem joinTo_get {l : List Sp} {a b : Sp} {n : Nat} {s : Sp} (h : l[n]? = some s) : (joinTo l a b n)[n]? = some s := by
  have hn := (List.getElem?_eq_some_iff.1 h).1
  unfold joinTo
  rw [List.getElem?_append_right (by rw [List.length_take]; exact Nat.min_le_left _ _), List.getElem?_drop]
  simp only [List.length_take, joinF_len]
  rw [show n + (n - min n l.length) = n by omega]
  exact h
theorem joinTo_yes {l : List Sp} {a b : Sp} {n : Nat} {s : Sp} (h : l[n]? = some s) (ha : a.getLsbD n = true) : (joinTo l a b n).set n (s ||| b) = joinTo l a b (n + 1) := by
  have hn := (List.getElem?_eq_some_iff.1 h).1
  have hg := joinF_get (a := a) (b := b) h
  rw [if_pos ha] at hg
  unfold joinTo
  have h1 : ((joinF l a b).take n).length = n := by simp [joinF_len]; omega
  rw [List.set_append_right _ _ (by omega), h1, Nat.sub_self, List.drop_eq_getElem_cons hn, List.set_cons_zero, List.take_add_one, hg]
  simp
theorem joinTo_no {l : List Sp} {a b : Sp} {n : Nat} {s : Sp} (h : l[n]? = some s) (ha : a.getLsbD n = false) : joinTo l a b n = joinTo l a b (n + 1) := by
  have hn := (List.getElem?_eq_some_iff.1 h).1
  have hg := joinF_get (a := a) (b := b) h
  simp only [ha, Bool.false_eq_true, if_false] at hg
  unfold joinTo
  rw [List.take_add_one, hg, List.drop_eq_getElem_cons hn]
  rw [List.getElem?_eq_getElem hn] at h
  simp at h
  simp [h]
theorem joinTo_end (l : List Sp) (a b : Sp) : joinTo l a b l.length = joinF l a b := by
  unfold joinTo
  rw [List.take_of_length_le (by simp [joinF_len]), List.drop_length, List.append_nil]
end Go.HL.Sts
namespace Go.HL.Sts
open Go Go.HL
theorem quoS {p : Nat} (h : p < 24) : IntKind.i64.wrap ((p : Int).tdiv 8) = ((p / 8 : Nat) : Int) := by
  have : ∀ p : Fin 24, IntKind.i64.wrap ((p.val : Int).tdiv 8) = ((p.val / 8 : Nat) : Int) := by decide +kernel
  exact this ⟨p, h⟩
theorem remS {p : Nat} (h : p < 24) : (p : Int).tmod 8 = ((p % 8 : Nat) : Int) := by
  have : ∀ p : Fin 24, (p.val : Int).tmod 8 = ((p.val % 8 : Nat) : Int) := by decide +kernel
  exact this ⟨p, h⟩
theorem Ep_zero {w : BitVec 8} : ((w.toNat : Int) = 0) ↔ w = 0#8 := by
  constructor
  · intro h; exact BitVec.eq_of_toNat_eq (by simp; omega)
  · rintro rfl; rfl
theorem meet_yes {s t : Sp} {i : Nat} (h : wp s i &&& wp t i ≠ 0#8) : s &&& t ≠ 0 := by
  intro e
  apply h
  rw [← wp_and, e]
  simp [wp]
theorem meet_no {s t : Sp} (h : ∀ i, i < 3 → wp s i &&& wp t i = 0#8) : s &&& t = 0 := by
  apply ext_wp
  intro i hi
  rw [wp_and, h i hi]
  simp [wp]
theorem meet_next {s t : Sp} {n : Nat} (h : ∀ i, i < n → wp s i &&& wp t i = 0#8) (hn : wp s n &&& wp t n = 0#8) : ∀ i, i < n + 1 → wp s i &&& wp t i = 0#8 := fun i hi => by
  rcases Nat.lt_or_ge i n with h' | h'
  · exact h i h'
  · have : i = n := by omega
    subst this; exact hn
end Go.HL.Sts
namespace Go.Proofs.YtmompllplidphaaDoor
open Go.HL Go.Proofs
instance : Mixed Tryd.prog := ⟨by kernel_rfl⟩
instance g3 : TG Tryd.prog 3 true := ⟨by kernel_rfl⟩
instance u3 : TU Tryd.prog 3 ((Go.TypeDesc.int Go.IntKind.i64)) := ⟨Tryd.underlying3⟩
instance g4 : TG Tryd.prog 4 true := ⟨by kernel_rfl⟩
instance u4 : TU Tryd.prog 4 (Go.TypeDesc.bool) := ⟨Tryd.underlying4⟩
instance g5 : TG Tryd.prog 5 true := ⟨by kernel_rfl⟩
instance u5 : TU Tryd.prog 5 ((Go.TypeDesc.int Go.IntKind.u8)) := ⟨Tryd.underlying5⟩
instance u9 : TU Tryd.prog 9 (Go.TypeDesc.string) := ⟨Tryd.underlying9⟩
instance g22 : TG Tryd.prog 22 true := ⟨by kernel_rfl⟩
instance u22 : TU Tryd.prog 22 ((Go.TypeDesc.slice 54)) := ⟨Tryd.underlying22⟩
instance g23 : TG Tryd.prog 23 true := ⟨by kernel_rfl⟩
instance u23 : TU Tryd.prog 23 ((Go.TypeDesc.slice 46)) := ⟨Tryd.underlying23⟩
instance g24 : TG Tryd.prog 24 true := ⟨by kernel_rfl⟩
instance u24 : TU Tryd.prog 24 ((Go.TypeDesc.slice 4)) := ⟨Tryd.underlying24⟩
instance g26 : TG Tryd.prog 26 false := ⟨by kernel_rfl⟩
instance b26 : TB Tryd.prog 26 [(0, 1), (1, 1), (2, 1)] := ⟨by kernel_rfl⟩
instance s26 : TS Tryd.prog 26 [(22, 0), (23, 1), (24, 2)] := ts_of (by kernel_rfl)
instance u27 : TU Tryd.prog 27 ((Go.TypeDesc.slice 5)) := ⟨Tryd.underlying27⟩
instance g37 : TG Tryd.prog 37 true := ⟨by kernel_rfl⟩
instance u37 : TU Tryd.prog 37 ((Go.TypeDesc.slice 57)) := ⟨Tryd.underlying37⟩
instance g46 : TG Tryd.prog 46 true := ⟨by kernel_rfl⟩
instance u46 : TU Tryd.prog 46 ((Go.TypeDesc.slice 3)) := ⟨Tryd.underlying46⟩
instance g52 : TG Tryd.prog 52 true := ⟨by kernel_rfl⟩
instance u52 : TU Tryd.prog 52 ((Go.TypeDesc.int Go.IntKind.u64)) := ⟨Tryd.underlying52⟩
instance g54 : TG Tryd.prog 54 false := ⟨by kernel_rfl⟩
instance e54 : EG Tryd.prog 54 := ⟨by kernel_rfl⟩
instance u54 : TU Tryd.prog 54 ((Go.TypeDesc.array 4 52)) := ⟨Tryd.underlying54⟩
instance g55 : TG Tryd.prog 55 true := ⟨by kernel_rfl⟩
instance u55 : TU Tryd.prog 55 ((Go.TypeDesc.int Go.IntKind.i8)) := ⟨Tryd.underlying55⟩
instance g57 : TG Tryd.prog 57 false := ⟨by kernel_rfl⟩
instance e57 : EG Tryd.prog 57 := ⟨by kernel_rfl⟩
instance b57 : TB Tryd.prog 57 [(0, 1), (1, 4), (5, 1), (6, 1), (7, 1), (8, 1)] := ⟨by kernel_rfl⟩
instance tq57 : TQ Tryd.prog 57 [(55, 0), (54, 1), (3, 5), (3, 6), (3, 7), (3, 8)] := ⟨by kernel_rfl⟩
instance s57 : TS Tryd.prog 57 [(55, 0), (54, 1), (3, 5), (3, 6), (3, 7), (3, 8)] := ts_of (by kernel_rfl)
instance g65 : TG Tryd.prog 65 false := ⟨by kernel_rfl⟩
instance u65 : TU Tryd.prog 65 ((Go.TypeDesc.array 256 3)) := ⟨Tryd.underlying65⟩
instance g78 : TG Tryd.prog 78 true := ⟨by kernel_rfl⟩
instance u78 : TU Tryd.prog 78 ((Go.TypeDesc.slice 84)) := ⟨Tryd.underlying78⟩
instance b80 : TB Tryd.prog 80 [(0, 1), (1, 1), (2, 1)] := ⟨by kernel_rfl⟩
instance s80 : TS Tryd.prog 80 [(37, 0), (22, 1), (78, 2)] := ts_of (by kernel_rfl)
instance u81 : TU Tryd.prog 81 ((Go.TypeDesc.array 2 4)) := ⟨Tryd.underlying81⟩
instance u82 : TU Tryd.prog 82 ((Go.TypeDesc.array 2 81)) := ⟨Tryd.underlying82⟩
instance g84 : TG Tryd.prog 84 false := ⟨by kernel_rfl⟩
instance u84 : TU Tryd.prog 84 ((Go.TypeDesc.array 3 5)) := ⟨Tryd.underlying84⟩
instance u85 : TU Tryd.prog 85 ((Go.TypeDesc.array 2 84)) := ⟨Tryd.underlying85⟩
instance g87 : TG Tryd.prog 87 false := ⟨by kernel_rfl⟩
instance b87 : TB Tryd.prog 87 [(0, 4), (4, 6), (10, 6)] := ⟨by kernel_rfl⟩
instance s87 : TS Tryd.prog 87 [(82, 0), (85, 4), (85, 10)] := ts_of (by kernel_rfl)
instance g91 : TG Tryd.prog 91 false := ⟨by kernel_rfl⟩
instance s91 : TS Tryd.prog 91 [(23, 0), (24, 1)] := ts_of (by kernel_rfl)
instance u95 : TU Tryd.prog 95 ((Go.TypeDesc.map 3 3)) := ⟨Tryd.underlying95⟩
instance u104 : TU Tryd.prog 104 ((Go.TypeDesc.slice 24)) := ⟨Tryd.underlying104⟩
instance g109 : TG Tryd.prog 109 false := ⟨by kernel_rfl⟩
instance u109 : TU Tryd.prog 109 ((Go.TypeDesc.array 2 3)) := ⟨Tryd.underlying109⟩
instance g111 : TG Tryd.prog 111 false := ⟨by kernel_rfl⟩
instance b111 : TB Tryd.prog 111 [(0, 2), (2, 1), (3, 1)] := ⟨by kernel_rfl⟩
instance s111 : TS Tryd.prog 111 [(109, 0), (3, 2), (5, 3)] := ts_of (by kernel_rfl)
instance u112 : TU Tryd.prog 112 ((Go.TypeDesc.slice 111)) := ⟨Tryd.underlying112⟩
instance g113 : TG Tryd.prog 113 true := ⟨by kernel_rfl⟩
instance u113 : TU Tryd.prog 113 ((Go.TypeDesc.map 109 3)) := ⟨Tryd.underlying113⟩
instance b125 : TB Tryd.prog 125 [(0, 1), (1, 1), (2, 1)] := ⟨by kernel_rfl⟩
instance s125 : TS Tryd.prog 125 [(37, 0), (3, 1), (24, 2)] := ts_of (by kernel_rfl)
instance g132 : TG Tryd.prog 132 true := ⟨by kernel_rfl⟩
instance u132 : TU Tryd.prog 132 ((Go.TypeDesc.map 84 3)) := ⟨Tryd.underlying132⟩
instance g133 : TG Tryd.prog 133 true := ⟨by kernel_rfl⟩
instance u139 : TU Tryd.prog 139 ((Go.TypeDesc.array 64 5)) := ⟨Tryd.underlying139⟩
instance i3 : TI Tryd.prog 3 1 8 := ti_of (by kernel_rfl)
instance i4 : TI Tryd.prog 4 1 1 := ti_of (by kernel_rfl)
instance i5 : TI Tryd.prog 5 1 1 := ti_of (by kernel_rfl)
instance i22 : TI Tryd.prog 22 1 24 := ti_of (by kernel_rfl)
instance i23 : TI Tryd.prog 23 1 24 := ti_of (by kernel_rfl)
instance i24 : TI Tryd.prog 24 1 24 := ti_of (by kernel_rfl)
instance i26 : TI Tryd.prog 26 3 72 := ti_of (by kernel_rfl)
instance i37 : TI Tryd.prog 37 1 24 := ti_of (by kernel_rfl)
instance i46 : TI Tryd.prog 46 1 24 := ti_of (by kernel_rfl)
instance i52 : TI Tryd.prog 52 1 8 := ti_of (by kernel_rfl)
instance i54 : TI Tryd.prog 54 4 32 := ti_of (by kernel_rfl)
instance i55 : TI Tryd.prog 55 1 1 := ti_of (by kernel_rfl)
instance i57 : TI Tryd.prog 57 9 72 := ti_of (by kernel_rfl)
instance i65 : TI Tryd.prog 65 256 2048 := ti_of (by kernel_rfl)
instance i78 : TI Tryd.prog 78 1 24 := ti_of (by kernel_rfl)
instance i81 : TI Tryd.prog 81 2 2 := ti_of (by kernel_rfl)
instance i82 : TI Tryd.prog 82 4 4 := ti_of (by kernel_rfl)
instance i84 : TI Tryd.prog 84 3 3 := ti_of (by kernel_rfl)
instance i85 : TI Tryd.prog 85 6 6 := ti_of (by kernel_rfl)
instance i87 : TI Tryd.prog 87 16 16 := ti_of (by kernel_rfl)
instance i91 : TI Tryd.prog 91 2 48 := ti_of (by kernel_rfl)
instance i109 : TI Tryd.prog 109 2 16 := ti_of (by kernel_rfl)
instance i111 : TI Tryd.prog 111 4 32 := ti_of (by kernel_rfl)
instance i113 : TI Tryd.prog 113 1 8 := ti_of (by kernel_rfl)
instance i132 : TI Tryd.prog 132 1 8 := ti_of (by kernel_rfl)
instance i133 : TI Tryd.prog 133 1 8 := ti_of (by kernel_rfl)
instance z3 : TZ Tryd.prog 3 (.int .i64 0) := tz_of (by kernel_rfl)
instance z4 : TZ Tryd.prog 4 (.bool false) := tz_of (by kernel_rfl)
instance z5 : TZ Tryd.prog 5 (.int .u8 0) := tz_of (by kernel_rfl)
instance z24 : TZ Tryd.prog 24 (.slice none 0 0) := tz_of (by kernel_rfl)
instance z26 : TZ Tryd.prog 26 (.agg [.slice none 0 0, .slice none 0 0, .slice none 0 0].toArray) := tz_of (by kernel_rfl)
instance z46 : TZ Tryd.prog 46 (.slice none 0 0) := tz_of (by kernel_rfl)
instance z54 : TZ Tryd.prog 54 (.agg [.int .u64 0, .int .u64 0, .int .u64 0, .int .u64 0].toArray) := tz_of (by kernel_rfl)
instance z57 : TZ Tryd.prog 57 (.agg [.int .i8 0, .int .u64 0, .int .u64 0, .int .u64 0, .int .u64 0, .int .i64 0, .int .i64 0, .int .i64 0, .int .i64 0].toArray) := tz_of (by kernel_rfl)
instance z65 : TZ Tryd.prog 65 (.agg (List.replicate 256 (.int .i64 0)).toArray) := tz_of (by kernel_rfl)
instance z78 : TZ Tryd.prog 78 (.slice none 0 0) := tz_of (by kernel_rfl)
instance z80 : TZ Tryd.prog 80 (.agg [.slice none 0 0, .slice none 0 0, .slice none 0 0].toArray) := tz_of (by kernel_rfl)
instance z81 : TZ Tryd.prog 81 (.agg [.bool false, .bool false].toArray) := tz_of (by kernel_rfl)
instance z82 : TZ Tryd.prog 82 (.agg [.bool false, .bool false, .bool false, .bool false].toArray) := tz_of (by kernel_rfl)
instance z84 : TZ Tryd.prog 84 (.agg [.int .u8 0, .int .u8 0, .int .u8 0].toArray) := tz_of (by kernel_rfl)
instance z85 : TZ Tryd.prog 85 (.agg [.int .u8 0, .int .u8 0, .int .u8 0, .int .u8 0, .int .u8 0, .int .u8 0].toArray) := tz_of (by kernel_rfl)
instance z87 : TZ Tryd.prog 87 (.agg [.bool false, .bool false, .bool false, .bool false, .int .u8 0, .int .u8 0, .int .u8 0, .int .u8 0, .int .u8 0, .int .u8 0, .int .u8 0, .int .u8 0, .int .u8 0, .int .u8 0, .int .u8 0, .int .u8 0].toArray) := tz_of (by kernel_rfl)
instance z91 : TZ Tryd.prog 91 (.agg [.slice none 0 0, .slice none 0 0].toArray) := tz_of (by kernel_rfl)
instance z109 : TZ Tryd.prog 109 (.agg [.int .i64 0, .int .i64 0].toArray) := tz_of (by kernel_rfl)
instance z111 : TZ Tryd.prog 111 (.agg [.int .i64 0, .int .i64 0, .int .i64 0, .int .u8 0].toArray) := tz_of (by kernel_rfl)
instance z113 : TZ Tryd.prog 113 (.map none) := tz_of (by kernel_rfl)
instance z125 : TZ Tryd.prog 125 (.agg [.slice none 0 0, .int .i64 0, .slice none 0 0].toArray) := tz_of (by kernel_rfl)
instance z132 : TZ Tryd.prog 132 (.map none) := tz_of (by kernel_rfl)
instance z133 : TZ Tryd.prog 133 (.nilFunc) := tz_of (by kernel_rfl)
end Go.Proofs.YtmompllplidphaaDoor
namespace Go.Proofs.YtmompllplidphaaDoor
open Go Go.HL Go.Proofs Go.HL.Kl Go.HL.Kl.Mc Go.HL.Sts
theorem with_fn (s : Sp) (p : Nat) (hp : p < 24) : HL.Fn Tryd.prog 80 [.agg (E3 (s)).toArray, .int .i64 p] (fun _ => True) [] (fun v _ => v = .agg (E3 (s ||| pit p)).toArray) := by
  refine fn_of Tryd.func80 rfl rfl rfl fun w0 hw => ?_
  rw [← withs_eq s hp]
  refine c_seq fun _ hK1 => ?_
  refine c_region ?_
  refine o_box rfl rfl rfl fun b2 => ?_
  refine o_alloc (l := E3 0) (by rfl) rfl fun b4 => ?_
  refine o_nil ?_
  refine x_then (hK1 _ _ ?_)
  refine c_seq fun _ hK2 => ?_
  refine c_tail 9 (by kernel_rfl) ?_
  refine .op rfl (s_move rfl) ?_
  refine .op rfl (step_cast (v' := .int .i64 ((p / 8 : Nat) : Int)) (s_quo rfl rfl (by decide)) (congrArg _ (quoS hp))) ?_
  refine .op rfl (s_idx1 rfl rfl (by omega)) ?_
  refine .op rfl (s_ld rfl ((RdPK.own meA).cel (j := p / 8) (Es_get _ (by omega)) (by omega))) ?_
  refine .op rfl (s_move rfl) ?_
  refine .op rfl (step_cast (v' := .int .i64 ((p % 8 : Nat) : Int)) (s_rem rfl rfl (by decide)) (congrArg _ (remS hp))) ?_
  refine .op rfl (step_cast (v' := Ep (1#8 <<< (p % 8))) (s_shl rfl rfl (by omega)) (vs_shl1 (by omega))) ?_
  refine .op rfl (step_cast (s_or rfl rfl) (vs_or (wp s (p / 8)) (1#8 <<< (p % 8)))) ?_
  refine .op rfl (s_idx1 rfl rfl (by omega)) ?_
  refine .nil ?_
  refine o_store rfl rfl rfl upA (by show p / 8 < 3; omega) rfl ?_
  rw [Es_set _ _ (by omega)]
  refine o_nil ?_
  refine x_then (hK2 _ _ ?_)
  refine c_seq fun _ hK3 => ?_
  refine c_region ?_
  refine o_step rfl (s_ldB rfl (RdPK.cels (.own meA)) lnA) ?_
  refine o_stW rfl rfl upA lnA lnA onA ?_
  refine o_nil ?_
  refine x_then (hK3 _ _ ?_)
  refine c_ret ?_
  refine ?_
  exact x_ret rfl (.agg inferInstance inferInstance rfl (RdPK.cels (.own meA)) lnA (.nil)) (rfl)
theorem hasS_fn (s : Sp) (p : Nat) (hp : p < 24) : HL.Fn Tryd.prog 90 [.agg (E3 (s)).toArray, .int .i64 p] (fun _ => True) [] (fun v _ => v = .bool (s.getLsbD p)) := by
  refine fn_of Tryd.func90 rfl rfl rfl fun w0 hw => ?_
  refine c_seq fun _ hK1 => ?_
  refine c_region ?_
  refine o_box rfl rfl rfl fun b2 => ?_
  refine o_step rfl (s_assign rfl) ?_
  refine o_nil ?_
  refine x_then (hK1 _ _ ?_)
  refine c_seq fun _ hK2 => ?_
  refine c_region ?_
  refine o_step rfl (s_move rfl) ?_
  refine o_step rfl (step_cast (v' := .int .i64 ((p / 8 : Nat) : Int)) (s_quo rfl rfl (by decide)) (congrArg _ (quoS hp))) ?_
  refine o_step rfl (s_idx1 rfl rfl (by omega)) ?_
  refine o_step rfl (s_ld rfl ((RdPK.own meA).cel (j := p / 8) (Es_get _ (by omega)) (by omega))) ?_
  refine o_step rfl (s_move rfl) ?_
  refine o_step rfl (step_cast (v' := .int .i64 ((p % 8 : Nat) : Int)) (s_rem rfl rfl (by decide)) (congrArg _ (remS hp))) ?_
  refine o_step rfl (s_shr rfl rfl (by omega)) ?_
  refine o_step rfl (s_and rfl rfl) ?_
  refine o_step rfl (step_cast (v' := .bool (s.getLsbD p)) (s_eql rfl rfl) (congrArg Value.bool (hasS s hp))) ?_
  refine o_step rfl (s_assign rfl) ?_
  refine o_nil ?_
  refine x_then (hK2 _ _ ?_)
  refine c_ret ?_
  refine ?_
  exact x_ret rfl (.tmp rfl (.nil)) (rfl)
theorem orS_fn (a b : Sp) : HL.Fn Tryd.prog 91 [.agg (E3 (a)).toArray, .agg (E3 (b)).toArray] (fun _ => True) [] (fun v _ => v = .agg (E3 (a ||| b)).toArray) := by
  refine fn_of Tryd.func91 rfl rfl rfl fun w0 hw => ?_
  rw [← mapP_or a b]
  refine c_seq fun _ hK1 => ?_
  refine c_region ?_
  refine o_box rfl rfl rfl fun b2 => ?_
  refine o_box rfl rfl rfl fun b3 => ?_
  refine o_alloc (l := E3 0) (by rfl) rfl fun b4 => ?_
  refine o_nil ?_
  refine x_then (hK1 _ _ ?_)
  refine c_seq fun _ hK2 => ?_
  refine c_seq fun _ hK3 => ?_
  refine c_region ?_
  refine o_step rfl (s_move rfl) ?_
  refine o_nil ?_
  refine x_then (hK3 _ _ ?_)
  refine c_block ?_
  refine c_loopB (fun (i : Nat) => i ≤ 3) (fun (i : Nat) => [(6, .int .i64 i)]) [(2, _), (3, _), (4, _)] (fun (i : Nat) => [(b4, .cells (E3 0).toArray 84 (0, 0)), (b3, .cells (E3 (b)).toArray 84 (0, 0)), (b2, .cells (E3 ((mapP (fun i w => w ||| wp b i) a i))).toArray 84 (0, 0))]) (fun (i : Nat) => 3 - i) 0 (by omega) sbA sbA hzB ?_
  rintro i hI
  refine c_seq fun _ hK4 => ?_
  refine c_region ?_
  refine o_step rfl (s_lss rfl rfl) ?_
  refine o_nil ?_
  refine x_then (hK4 _ _ ?_)
  refine c_seq fun _ hK5 => ?_
  refine c_if rfl (fun hlt => ?_) (fun hlt => ?_)
  ·
   refine c_skip ?_
   refine x_then (hK5 _ _ ?_)
   refine c_seq fun _ hK6 => ?_
   refine c_block ?_
   refine c_seq fun _ hK7 => ?_
   refine c_region ?_
   refine o_step rfl (s_move rfl) ?_
   refine o_step rfl (s_assign rfl) ?_
   refine o_nil ?_
   refine x_then (hK7 _ _ ?_)
   refine c_tail 8 (by kernel_rfl) ?_
   refine .op rfl (s_move rfl) ?_
   refine .op rfl (s_idx1 rfl rfl (by omega)) ?_
   refine .op rfl (s_ld rfl ((RdPK.own meA).cel (j := i) (Es_get _ (by omega)) (by omega))) ?_
   refine .op rfl (s_move rfl) ?_
   refine .op rfl (s_idx1 rfl rfl (by omega)) ?_
   refine .op rfl (s_ld rfl ((RdPK.own meA).cel (j := i) (Es_get _ (by omega)) (by omega))) ?_
   refine .op rfl (step_cast (s_or rfl rfl) (vs_or (wp _ i) (wp b i))) ?_
   refine .op rfl (s_idx1 rfl rfl (by omega)) ?_
   refine .nil ?_
   refine o_store rfl rfl rfl upA (by show i < 3; omega) rfl ?_
   rw [Es_set _ _ (by omega)]
   refine o_nil ?_
   refine x_block ?_
   refine x_then (hK6 _ _ ?_)
   refine c_region ?_
   refine o_step rfl (s_add rfl rfl (by omega)) ?_
   refine o_step rfl (s_move rfl) ?_
   refine o_nil ?_
   exact x_then (x_inv (i + 1) (by omega) (by first | omega | (dsimp only; omega)) sbA hzB)
  ·
   obtain rfl : i = 3 := by omega
   refine c_exit ?_
   refine x_then_exit ?_
   refine x_then_exit ?_
   refine x_block_exit ?_
   refine x_then (hK2 _ _ ?_)
   refine c_seq fun _ hK8 => ?_
   refine c_region ?_
   refine o_step rfl (s_ldB rfl (RdPK.cels (.own meA)) lnA) ?_
   refine o_stW rfl rfl upA lnA lnA onA ?_
   refine o_nil ?_
   refine x_then (hK8 _ _ ?_)
   refine c_ret ?_
   refine ?_
   exact x_ret rfl (.agg inferInstance inferInstance rfl (RdPK.cels (.own meA)) lnA (.nil)) (rfl)
theorem meets_fn (a b : Sp) : HL.Fn Tryd.prog 92 [.agg (E3 (a)).toArray, .agg (E3 (b)).toArray] (fun _ => True) [] (fun v _ => v = .bool (decide (a &&& b ≠ 0))) := by
  refine fn_of Tryd.func92 rfl rfl rfl fun w0 hw => ?_
  refine c_seq fun _ hK1 => ?_
  refine c_region ?_
  refine o_box rfl rfl rfl fun b2 => ?_
  refine o_box rfl rfl rfl fun b3 => ?_
  refine o_step rfl (s_assign rfl) ?_
  refine o_nil ?_
  refine x_then (hK1 _ _ ?_)
  refine c_seq fun _ hK2 => ?_
  refine c_seq fun _ hK3 => ?_
  refine c_region ?_
  refine o_step rfl (s_move rfl) ?_
  refine o_nil ?_
  refine x_then (hK3 _ _ ?_)
  refine c_block ?_
  -- not carried: 4
  refine c_loopB (fun (i : Nat) => i ≤ 3 ∧ ∀ j, j < i → wp a j &&& wp b j = 0#8) (fun (i : Nat) => [(6, .int .i64 i)]) [(2, _), (3, _)] (fun (i : Nat) => [(b3, .cells (E3 (b)).toArray 84 (0, 0)), (b2, .cells (E3 (a)).toArray 84 (0, 0))]) (fun (i : Nat) => 3 - i) 0 ⟨by omega, fun _ h => absurd h (Nat.not_lt_zero _)⟩ sbA sbA hzB ?_
  rintro i ⟨hI, hz⟩
  refine c_seq fun _ hK4 => ?_
  refine c_region ?_
  refine o_step rfl (s_lss rfl rfl) ?_
  refine o_nil ?_
  refine x_then (hK4 _ _ ?_)
  refine c_seq fun _ hK5 => ?_
  refine c_if rfl (fun hlt => ?_) (fun hlt => ?_)
  ·
   refine c_skip ?_
   refine x_then (hK5 _ _ ?_)
   refine c_seq fun _ hK6 => ?_
   refine c_block ?_
   refine c_seq fun _ hK7 => ?_
   refine c_region ?_
   refine o_step rfl (s_move rfl) ?_
   refine o_step rfl (s_assign rfl) ?_
   refine o_nil ?_
   refine x_then (hK7 _ _ ?_)
   refine c_seq fun _ hK8 => ?_
   refine c_quiet (by kernel_rfl) ?_
   refine .op rfl (s_move rfl) ?_
   refine .op rfl (s_idx1 rfl rfl (by omega)) ?_
   refine .op rfl (s_ld rfl ((RdPK.own meA).cel (j := i) (Es_get _ (by omega)) (by omega))) ?_
   refine .op rfl (s_move rfl) ?_
   refine .op rfl (s_idx1 rfl rfl (by omega)) ?_
   refine .op rfl (s_ld rfl ((RdPK.own meA).cel (j := i) (Es_get _ (by omega)) (by omega))) ?_
   refine .op rfl (step_cast (s_and rfl rfl) (vs_and (wp a i) (wp b i))) ?_
   by_cases hm : wp a i &&& wp b i ≠ 0#8
   ·
    refine .op rfl (step_cast (v' := .bool true) (s_neq rfl rfl) (congrArg Value.bool (decide_eq_true (fun h => hm (Ep_zero.1 h))))) ?_
    refine .nil ?_
    refine x_then (hK8 _ _ ?_)
    refine c_true rfl ?_
    refine c_seq fun _ hK9 => ?_
    refine c_region ?_
    refine o_step rfl (s_assign rfl) ?_
    refine o_nil ?_
    refine x_then (hK9 _ _ ?_)
    refine c_ret ?_
    refine x_block_ret (x_then_ret (x_then_ret (x_block_ret (x_then_ret (?_)))))
    exact x_ret rfl (.tmp rfl (.nil)) (congrArg Value.bool (decide_eq_true (meet_yes hm)).symm)
   ·
    refine .op rfl (step_cast (v' := .bool false) (s_neq rfl rfl) (congrArg Value.bool (decide_eq_false (fun h => hm (fun e => h (Ep_zero.2 e)))))) ?_
    refine .nil ?_
    refine x_then (hK8 _ _ ?_)
    refine c_false rfl ?_
    refine c_skip ?_
    refine x_block ?_
    refine x_then (hK6 _ _ ?_)
    refine c_region ?_
    refine o_step rfl (s_add rfl rfl (by omega)) ?_
    refine o_step rfl (s_move rfl) ?_
    refine o_nil ?_
    exact x_then (x_inv (i + 1) ⟨by omega, meet_next hz (Classical.not_not.1 hm)⟩ (by first | omega | (dsimp only; omega)) sbA hzB)
  ·
   obtain rfl : i = 3 := by omega
   refine c_exit ?_
   refine x_then_exit ?_
   refine x_then_exit ?_
   refine x_block_exit ?_
   refine x_then (hK2 _ _ ?_)
   refine c_seq fun _ hK10 => ?_
   refine c_region ?_
   refine o_step rfl (s_assign rfl) ?_
   refine o_nil ?_
   refine x_then (hK10 _ _ ?_)
   refine c_ret ?_
   refine ?_
   exact x_ret rfl (.tmp rfl (.nil)) (congrArg Value.bool (decide_eq_false (fun h => h (meet_no hz))).symm)
theorem nothing_fn  : HL.Fn Tryd.prog 82 [] (fun _ => True) [] (fun v _ => v = .agg (Ep4 (nothP)).toArray) := by
  refine fn_of Tryd.func82 rfl rfl rfl fun w0 hw => ?_
  refine c_seq fun _ hK1 => ?_
  refine c_region ?_
  refine o_alloc (l := Ep4 zeroP) (by rfl) rfl fun b0 => ?_
  refine o_nil ?_
  refine x_then (hK1 _ _ ?_)
  refine c_seq fun _ hK2 => ?_
  refine c_region ?_
  refine o_step rfl (s_buildA (cs := [_, _]) (vs := [_, _]) rfl rfl (.cons rfl rfl rfl rfl (.cons rfl rfl rfl rfl (.nil)))) ?_
  refine o_step rfl (s_buildA (cs := [_, _]) (vs := [_, _]) rfl rfl (.cons rfl rfl rfl rfl (.cons rfl rfl rfl rfl (.nil)))) ?_
  refine o_step rfl (s_buildA (cs := [_, _, _, _]) (vs := [_, _]) rfl rfl (.cons rfl rfl rfl rfl (.cons rfl rfl rfl rfl (.nil)))) ?_
  refine o_step rfl (s_build (cs := [_, _, _, _, _, _, _, _, _, _, _, _, _, _, _, _]) (vs := [_]) rfl rfl (.cons rfl rfl rfl rfl rfl (.nil))) ?_
  refine o_stW rfl rfl upA lnA lnA onA ?_
  refine o_nil ?_
  refine x_then (hK2 _ _ ?_)
  refine c_ret ?_
  refine ?_
  exact x_ret rfl (.agg inferInstance inferInstance rfl (RdPK.cels (.own meA)) lnA (.nil)) (rfl)
end Go.Proofs.YtmompllplidphaaDoor
namespace Go.HL
open Go
section
variable {P : Program} {ro : Option Nat} {ops : Array Oper} {Q : Pst} {md : Region.Mode} {S S0 : World → Prop} {late : Nat → Bool}
def waitsT (md : Region.Mode) (ops : Array Oper) : Nat → Nat → Nat → Bool
  | 0, _, _ => false
  | n + 1, j, i => match ops[j]? with
    | some o => o.after.toList.any fun e => Region.binds md e && (e.on == i || waitsT md ops n e.on i)
    | none => false
def Closed (md : Region.Mode) (ops : Array Oper) (li : Array Bool) : Prop := ∀ j oj, ops[j]? = some oj → li.getD j false = true → ∀ e ∈ oj.after, Region.binds md e = true → li.getD e.on false = true
def closedB (md : Region.Mode) (ops : Array Oper) (li : Array Bool) : Bool := (List.range ops.size).all fun j => !(li.getD j false) || (match ops[j]? with
  | some o => o.after.toList.all fun e => !(Region.binds md e) || li.getD e.on false
  | none => true)
theorem closedB_spec {li : Array Bool} (h : closedB md ops li = true) : Closed md ops li := fun j oj hj hl e he hb => by
  have hlt : j < ops.size := (Array.getElem?_eq_some_iff.1 hj).1
  have h1 := List.all_eq_true.1 h j (List.mem_range.2 hlt)
  rw [hl, hj] at h1
  simp only [Bool.not_true, Bool.false_or] at h1
  have h2 := List.all_eq_true.1 h1 e (by simpa using he)
  rw [hb] at h2
  simpa using h2
def lateTB (md : Region.Mode) (ops : Array Oper) (late : Nat → Bool) (f i : Nat) : Bool := (List.range ops.size).all fun j => !late j || waitsT md ops f j i
theorem lateTB_spec {f i : Nat} (h : lateTB md ops late f i = true) : ∀ j oj, ops[j]? = some oj → late j = true → ∃ f, waitsT md ops f j i = true := fun j oj hj hlj => by
  have hlt : j < ops.size := (Array.getElem?_eq_some_iff.1 hj).1
  have h1 := List.all_eq_true.1 h j (List.mem_range.2 hlt)
  rw [hlj] at h1
  simp only [Bool.not_true, Bool.false_or] at h1
  exact ⟨f, h1⟩
theorem Closed.waits {li : Array Bool} (hcl : Closed md ops li) {i : Nat} : ∀ (f j : Nat), waitsT md ops f j i = true → (∀ o, ops[j]? = some o → ∀ e ∈ o.after, Region.binds md e = true → li.getD e.on false = true) → li.getD i false = true
  | 0, _, h, _ => by cases h
  | f + 1, j, h, hp => by
    unfold waitsT at h
    split at h
    · rename_i o ho
      obtain ⟨e, he, hb⟩ := List.any_eq_true.1 h
      simp only [Bool.and_eq_true, Bool.or_eq_true, beq_iff_eq] at hb
      have hm : e ∈ o.after := by simpa using he
      have h1 := hp o ho e hm hb.1
      rcases hb.2 with h2 | h2
      · rw [← h2]; exact h1
      · exact hcl.waits f e.on h2 fun o' ho' x hx hbx => hcl e.on o' ho' h1 x hx hbx
    · cases h
theorem Closed.set {li : Array Bool} (hcl : Closed md ops li) {j : Nat} (hp : ∀ o, ops[j]? = some o → ∀ e ∈ o.after, Region.binds md e = true → li.getD e.on false = true) : Closed md ops (li.setIfInBounds j true) := fun k ok hk hl e he hb => by
  by_cases h : j = k
  · subst h; exact getD_set_true (hp ok hk e he hb)
  · rw [getD_set_ne false h] at hl
    exact getD_set_true (hcl k ok hk hl e he hb)
theorem wpL_firstT {i : Nat} {o : Oper} {v : Value} (hi : ops[i]? = some o) (hsel : ∀ (j : Nat) (o : Oper) cs b, ops[j]? = some o → o.op ≠ .select cs b) (hQ : ∀ c a w, Q (.panic c) (a.put o.dst v) w → Q (.panic c) a w)
    (hl : ∀ j oj, ops[j]? = some oj → late j = true → ∃ f, waitsT md ops f j i = true) :
    ∀ (n : Nat) (li : Array Bool) (a : Act) (w : World),
      (∀ j oj, ops[j]? = some oj → j ≠ i → li.getD j true = false → (∀ e ∈ oj.after, Region.binds md e = true → e.on ≠ i) → o.apart ops oj = true) →
      Closed md ops li → i ∈ Region.ready md ops li → YieldsIf P ops S o v a → S w → S0 w → wpL ro P md ops Q S S0 late n (li.setIfInBounds i true) (a.put o.dst v) w → wpL ro P md ops Q S S0 late (n + 1) li a w := by
  intro n
  induction n with
  | zero =>
    intro li a w _ hcl hr hy hS hS0 h
    refine ⟨fun h0 => absurd (h0 ▸ hr) (by simp), fun j hj => ?_⟩
    by_cases e : j = i
    · subst e; exact yif_op hi hy hS ⟨fun _ h => h, hS0, h⟩
    · have := ready_mono hj e
      rw [h.1] at this; cases this
  | succ n ih =>
    intro li a w hf hcl hr hy hS hS0 h
    refine ⟨fun h0 => absurd (h0 ▸ hr) (by simp), fun j hj => ?_⟩
    by_cases e : j = i
    · subst e; exact yif_op hi hy hS ⟨fun _ h => h, hS0, h⟩
    · have h1 := h.2 j (ready_mono hj e)
      obtain ⟨hu, oj, hoj, hall⟩ := mem_ready.1 hj
      have hno : ∀ x ∈ oj.after, Region.binds md x = true → x.on ≠ i := by
        intro x hx hb he
        have e1 := hall x hx hb
        have e0 := (mem_ready.1 hr).1
        rw [he] at e1
        rcases Nat.lt_or_ge i li.size with hs | hs
        · simp [hs] at e0 e1; rw [e0] at e1; cases e1
        · simp [Array.getElem?_eq_none hs] at e1
      have hlate : late j = false := by
        cases hj' : late j
        · rfl
        · obtain ⟨f, hwt⟩ := hl j oj hoj hj'
          have h9 := hcl.waits f j hwt fun o' ho' x hx hb => by rw [hoj] at ho'; cases ho'; exact hall x hx hb
          rw [getD_both (mem_ready.1 hr).1] at h9; cases h9
      have h2 := wpOpR_putIf hoj (hf j oj hoj e hu hno) (fun cs b => hsel i o cs b hi) (fun cs b => hsel j oj cs b hoj) hQ hy h1
      have hf' : ∀ k ok, ops[k]? = some ok → k ≠ i → (li.setIfInBounds j true).getD k true = false → (∀ x ∈ ok.after, Region.binds md x = true → x.on ≠ i) → o.apart ops ok = true := by
        intro k ok hk hki hun hn
        refine hf k ok hk hki ?_ hn
        by_cases ejk : j = k
        · subst ejk; exact hu
        · rwa [getD_set_ne true ejk] at hun
      refine wpOpIn_mono (fun a' w' h3 => ⟨h3.2.1, h3.2.2.1, ih (li.setIfInBounds j true) a' w' hf' (hcl.set fun o' ho' x hx hb => by rw [hoj] at ho'; cases ho'; exact hall x hx hb) (ready_mono hr (Ne.symm e)) h3.1 (h3.2.1 hlate hS) h3.2.2.1 ?_⟩) h2
      rw [Array.setIfInBounds_comm _ _ e]
      exact h3.2.2.2
end
section
variable {P : Program} {κ : Cx} {Q : Pst} {L L' : Loc} {H H' : Hp} {ops : Array Oper} {rest : List Oper} {ty t t' : TypeId} {d : Nat} {pos : String} {af : Array Edge} {v u : Value} {x y z : Operand} {op : Op} {late : Nat → Bool}
theorem e_takeT (i : Nat) {fuel : Nat} {listed : Array Bool} {Hs : Hp} {g : Option (Nat × Bool)} (hi : ops[i]? = some ⟨some d, op, ty, pos, af, g⟩) (hsl : Region.noSelect ops = true) (hfr : Region.free .any ops listed i = true) (hr : (Region.ready .any ops listed).contains i = true)
    (f : Nat) (hcl : closedB .any ops listed = true) (hlt : lateTB .any ops late f i = true) (hg : ∀ a : Act, Fr a κ.n κ.ds L → Region.wanted ⟨some d, op, ty, pos, af, g⟩ (yielded ops a.tmps) = true) (hn : Nat.blt d κ.n = true) (hS : HSub H Hs) (hs : Step P κ op ty L Hs v) (h : E P κ ops Q Hs late fuel (listed.setIfInBounds i true) ((d, v) :: L) H) : E P κ ops Q Hs late (fuel + 1) listed L H := by
  refine ⟨fun ro a w hro ok => ?_⟩
  exact wpL_firstT hi (Region.noSelect_spec hsl) (fun c a w h => h.elim) (lateTB_spec hlt) fuel listed a w (Region.free_spec hi hfr) (closedB_spec hcl) (by simpa using hr)
    (.inl ⟨hg a ok.fr, fun w' st => hs.out a.eval w' _ _ _ _ (fun x u hu => ok.fr.ev hu) st⟩) (ok.st.sub hS) (ok.st.sub HSub.nil) (h.out ro _ _ hro ⟨ok.fr.put hn v, ok.st⟩)
end
end Go.HL
namespace Go.HL
open Go
section
variable {P : Program} {κ : Cx} {Q : Pst} {L L' : Loc} {H H' : Hp} {ops : Array Oper} {rest : List Oper} {ty t t' : TypeId} {d : Nat} {pos : String} {af : Array Edge} {v u : Value} {x y z : Operand} {α : Type} {E : α → List Value} {k : Nat}
theorem Fn.sub {f : FuncId} {args : List Value} {pre : World → Prop} {S : Hp} {post post' : Value → Hp → Prop} (h : Fn P f args pre S post) (hq : ∀ v S', post v S' → ∃ S2, HSub S' S2 ∧ post' v S2) : Fn P f args pre S post' :=
  ⟨h.enters, fun w hw hS => (h.calls w hw hS).mono fun e w' hpost => by
    obtain ⟨v, S', he, hv, hst⟩ := hpost.out
    obtain ⟨S2, h1, h2⟩ := hq _ _ hv
    exact ⟨v, S2, he, h2, hst.sub h1⟩⟩
end
end Go.HL
