/- The contract of the functions that look whether a list of nodes is well shaped. Conditions: none. -/
import Derived.Test.YtopmnmigpbdddaaGreatDoorMT3Z
import Derived.Test.YtopmnmigpbdddaaGreatDoorHlB
import Derived.Test.YtopmnmigpbdddaaGreatDoorHTZ
namespace Go.HL
open Go
theorem St.apart_M {α : Type} {E : α → List Value} {k : Nat} [he : Enc E k] {a : Option Addr} {c : Nat} {xs : List α} {w0 w : World} {M : List Nat} {S H : Hp} (st : St w0 w M H) (hin : HIn S H) (hr : Rd E w0 (.slice a xs.length c) xs) (ha : Apart M (.slice a xs.length c)) (hk : 0 < k) : Apart (keys S) (.slice a xs.length c) := by
  intro A n c' hv hn hm
  have ha' := ha A n c' hv hn
  cases hv
  obtain ⟨⟨b', o⟩, hmS, hb⟩ := List.mem_map.1 hm
  have hb : b' = A.block := hb
  subst hb
  rcases st.own _ _ (hin _ hmS) with h1 | h1
  · exact ha' h1
  have hl : 0 < xs.length := by omega
  obtain ⟨u, hu⟩ : ∃ u, (flat E xs)[0]? = some u := by
    have : 0 < (flat E xs).length := by rw [flat_len]; exact Nat.mul_pos hl hk
    exact ⟨_, List.getElem?_eq_getElem this⟩
  have h2 := hr.get 0 u hu
  have h3 : A.block < w0.heap.size := by
    rcases Nat.lt_or_ge A.block w0.heap.size with h' | h'
    · exact h'
    · simp [World.cell?, ea, sblk, oblk, Array.getElem?_eq_none h'] at h2
  omega
end Go.HL
namespace Go.HL.Kl.Mc
open Go Go.HL Go.HL.Kl
def LookB (T bx : Nat) (ra : Option Addr) (rc : Nat) (re : List Nd) (i : Nat) (ea : Option Addr) (ec : Nat) (en : List Bool) : Nat × Obj := (bx, .cells [.slice ra re.length rc, .int .i64 i, .slice ea en.length ec].toArray T (0, 0))
def NodeP (T bx : Nat) (ra : Option Addr) (rc : Nat) (re : List Nd) (r : Option (Nat × List Bool)) (v : Value) (S' : Hp) : Prop :=
  match r with
  | none => v = .bool false
  | some (i', en') => v = .bool true ∧ ∃ ea' ec' Se', S' = LookB T bx ra rc re i' ea' ec' en' :: Se' ∧ OwnS Ebo 1 4 (.slice ea' en'.length ec') en' Se'
def NodeC (P : Program) (fn T : Nat) (f : Nat) : Prop := ∀ (bx : Nat) (ra : Option Addr) (rc : Nat) (re : List Nd) (i wi g : Nat) (ea : Option Addr) (ec : Nat) (en : List Bool) (Se : Hp), (∀ x ∈ re, -128 ≤ x.op ∧ x.op < 128) → wi + f = 260 → i ≤ re.length → en.length ≤ 255 → g ≤ 64 → OwnS Ebo 1 4 (.slice ea en.length ec) en Se →
  Fn P fn [.pointer (some ⟨bx, 0, none⟩), .int .i64 wi, .int .i64 g] (fun w => Rd En w (.slice ra re.length rc) re ∧ Apart (keys (LookB T bx ra rc re i ea ec en :: Se)) (.slice ra re.length rc)) (LookB T bx ra rc re i ea ec en :: Se) (NodeP T bx ra rc re (shN re f i en g))
theorem hin_node {p q : Nat × Obj} {S : Hp} : HIn (p :: S) (p :: q :: S) := fun r hr => by
  rcases List.mem_cons.1 hr with rfl | h
  · exact List.mem_cons_self
  · exact List.mem_cons_of_mem _ (List.mem_cons_of_mem _ h)
theorem shN_end {re : List Nd} {f i g : Nat} {en : List Bool} (h : re.length ≤ i) : shN re f i en g = none := by
  cases f with
  | zero => rfl
  | succ f => simp only [shN]; rw [List.getElem?_eq_none h]
theorem shN_bad {re : List Nd} {f i g : Nat} {en : List Bool} {x : Nd} (hx : re[i]? = some x) (h : ndOk x = false) : shN re (f + 1) i en g = none := by
  simp only [shN, hx]; rw [if_neg (by rw [h]; decide)]
theorem shN_gate {re : List Nd} {f i g : Nat} {en : List Bool} {x : Nd} (hx : re[i]? = some x) (h : gate x en g = none) : shN re (f + 1) i en g = none := by
  simp only [shN, hx, h]; split <;> rfl
theorem shN_kids {re : List Nd} {f i g g1 : Nat} {en en1 : List Bool} {x : Nd} (hx : re[i]? = some x) (hg : gate x en g = some (en1, g1)) (h : kidsN (fun i en => shN re f i en g1) x.kids.toNat (i + 1) en1 = none) : shN re (f + 1) i en g = none := by
  simp only [shN, hx, hg, h]; split <;> rfl
theorem shN_some {re : List Nd} {f i g g1 i2 : Nat} {en en1 en2 : List Bool} {x : Nd} (hx : re[i]? = some x) (hok : ndOk x = true) (hg : gate x en g = some (en1, g1)) (h : kidsN (fun i en => shN re f i en g1) x.kids.toNat (i + 1) en1 = some (i2, en2)) :
    shN re (f + 1) i en g = some (i2, if x.op = 7 then en2.set (x.n.toNat - 1) true else en2) := by
  simp only [shN, hx, hg, h]; rw [if_pos hok]
theorem kidsN_snoc {step : Nat → List Bool → Option (Nat × List Bool)} : ∀ {k i : Nat} {en : List Bool} {i2 : Nat} {en2 : List Bool} {r : Option (Nat × List Bool)}, kidsN step k i en = some (i2, en2) → step i2 en2 = r → kidsN step (k + 1) i en = r
  | 0, i, en, i2, en2, r, h, hs => by
    simp only [kidsN, Option.some.injEq, Prod.mk.injEq] at h
    obtain ⟨rfl, rfl⟩ := h
    simp only [kidsN, hs]
    cases r <;> rfl
  | k + 1, i, en, i2, en2, r, h, hs => by
    simp only [kidsN] at h
    split at h
    · cases h
    · rename_i i' en' hst
      have := kidsN_snoc h hs
      rw [kidsN, hst]
      exact this
theorem kidsN_none {step : Nat → List Bool → Option (Nat × List Bool)} : ∀ {n k i : Nat} {en : List Bool}, kidsN step k i en = none → k ≤ n → kidsN step n i en = none
  | n, 0, i, en, h, _ => by simp [kidsN] at h
  | 0, k + 1, i, en, h, hk => by omega
  | n + 1, k + 1, i, en, h, hk => by
    simp only [kidsN] at h ⊢
    split at h
    · rfl
    · exact kidsN_none h (by omega)
theorem gate_len {x : Nd} {en en1 : List Bool} {g g1 : Nat} (h : gate x en g = some (en1, g1)) (he : en.length ≤ 255) (hg : g ≤ 64) : en.length ≤ en1.length ∧ en1.length ≤ 255 ∧ g1 ≤ 64 ∧ (x.op = 7 → x.n = en.length + 1 ∧ en1.length = en.length + 1) := by
  unfold gate at h
  split at h
  · split at h
    · cases h; exact ⟨Nat.le_refl _, he, hg, fun h7 => by omega⟩
    · cases h
  · split at h
    · split at h
      · rename_i h8 h7 hh
        cases h
        simp only [List.length_append, List.length_singleton]
        exact ⟨by omega, by omega, by omega, fun _ => ⟨hh.1, trivial⟩⟩
      · cases h
    · cases h; exact ⟨Nat.le_refl _, he, hg, fun h7 => absurd h7 ‹_›⟩
theorem kidsN_len {step : Nat → List Bool → Option (Nat × List Bool)} (hs : ∀ i en i' en', en.length ≤ 255 → step i en = some (i', en') → en.length ≤ en'.length ∧ en'.length ≤ 255) : ∀ {k i : Nat} {en : List Bool} {i2 : Nat} {en2 : List Bool}, en.length ≤ 255 → kidsN step k i en = some (i2, en2) → en.length ≤ en2.length ∧ en2.length ≤ 255
  | 0, i, en, i2, en2, he, h => by
    simp only [kidsN, Option.some.injEq, Prod.mk.injEq] at h
    obtain ⟨_, rfl⟩ := h
    exact ⟨Nat.le_refl _, he⟩
  | k + 1, i, en, i2, en2, he, h => by
    simp only [kidsN] at h
    split at h
    · cases h
    · rename_i i' en' hst
      have h1 := hs _ _ _ _ he hst
      have h2 := kidsN_len hs h1.2 h
      omega
theorem shN_len {re : List Nd} : ∀ {f i g : Nat} {en : List Bool} {i' : Nat} {en' : List Bool}, en.length ≤ 255 → g ≤ 64 → shN re f i en g = some (i', en') → en.length ≤ en'.length ∧ en'.length ≤ 255
  | 0, i, g, en, i', en', _, _, h => by cases h
  | f + 1, i, g, en, i', en', he, hg, h => by
    simp only [shN] at h
    split at h
    · cases h
    · split at h
      · split at h
        · cases h
        · rename_i en1 g1 hgt
          split at h
          · cases h
          · rename_i i2 en2 hk
            simp only [Option.some.injEq, Prod.mk.injEq] at h
            obtain ⟨-, rfl⟩ := h
            obtain ⟨h1, h2, h3, _⟩ := gate_len hgt he hg
            have h4 := kidsN_len (fun i en i' en' he h => shN_len he h3 h) h2 hk
            split
            · simp only [List.length_set]; omega
            · omega
      · cases h
theorem shN_le {re : List Nd} {f i g : Nat} {en : List Bool} {i' : Nat} {en' : List Bool} (h : shN re f i en g = some (i', en')) : i' ≤ re.length := by
  obtain ⟨x, ks, ht⟩ := shN_tree _ _ _ _ _ _ h
  exact ht.le
theorem shN_lt {re : List Nd} {f i g : Nat} {en : List Bool} {i' : Nat} {en' : List Bool} (h : shN re f i en g = some (i', en')) : i < i' := by
  obtain ⟨x, ks, ht⟩ := shN_tree _ _ _ _ _ _ h
  have := ht.len
  omega
theorem get_false {en : List Bool} {j : Nat} (h : ¬ en[j]? = some true) (hj : j < en.length) : en[j]? = some false := by
  rw [List.getElem?_eq_getElem hj] at h ⊢
  cases hb : en[j]
  · rfl
  · rw [hb] at h; exact absurd rfl h
theorem gate_other {x : Nd} {en : List Bool} {g : Nat} (h8 : ¬ x.op = 8) (h7 : ¬ x.op = 7) : gate x en g = some (en, g) := by rw [gate, if_neg h8, if_neg h7]
theorem gate_ref {x : Nd} {en : List Bool} {g : Nat} (h8 : x.op = 8) (h1 : 1 ≤ x.n) (h2 : x.n ≤ en.length) (h3 : en[x.n.toNat - 1]? = some true) : gate x en g = some (en, g) := by rw [gate, if_pos h8, if_pos ⟨h1, h2, h3⟩]
theorem gate_no8 {x : Nd} {en : List Bool} {g : Nat} (h8 : x.op = 8) (h : ¬ (1 ≤ x.n ∧ x.n ≤ en.length ∧ en[x.n.toNat - 1]? = some true)) : gate x en g = none := by rw [gate, if_pos h8, if_neg h]
theorem gate_grp {x : Nd} {en : List Bool} {g : Nat} (h7 : x.op = 7) (h : x.n = en.length + 1 ∧ x.n ≤ 255 ∧ g < 64) : gate x en g = some (en ++ [false], g + 1) := by rw [gate, if_neg (by omega), if_pos h7, if_pos h]
theorem gate_no7 {x : Nd} {en : List Bool} {g : Nat} (h7 : x.op = 7) (h : ¬ (x.n = en.length + 1 ∧ x.n ≤ 255 ∧ g < 64)) : gate x en g = none := by rw [gate, if_neg (by omega), if_pos h7, if_neg h]
end Go.HL.Kl.Mc

/- Subtrees of a list of nodes; weights; numbers converted. Conditions: none. -/
namespace Go.HL.Kl.Mc
open Go Go.HL Go.HL.Kl
theorem wrap_i64z {x : Int} (h1 : -9223372036854775808 ≤ x) (h2 : x < 9223372036854775808) : IntKind.i64.wrap x = x := by
  simp [IntKind.wrap, IntKind.signed, IntKind.bits]; omega
section
variable {P : Program} {κ : Cx} {L : HL.Loc} {H : Hp} {ty t t' : TypeId} {x : Operand}
theorem s_convI {ds : TypeDesc} {k' : IntKind} {a : Int} [TU P t ds] [TU P t' (.int .i64)] (hx : ev L x = some (.int k' a)) (h : -9223372036854775808 ≤ a ∧ a < 9223372036854775808) : Step P κ (.convert t t' x) ty L H (.int .i64 a) :=
  step_cast (s_conv hx) (congrArg _ (wrap_i64z h.1 h.2))
end
theorem nd_set {x : Nd} : ∀ (j : Nat) u, (Ec x.set)[j]? = some u → (En x)[1 + j]? = some u := by
  intro j u h
  rw [show 1 + j = j + 1 by omega]
  simp only [En, List.getElem?_cons_succ]
  rw [List.getElem?_append_left (List.getElem?_eq_some_iff.1 h).1]; exact h
theorem F.num_le : ∀ f : F, f.num ≤ f.size
  | .nil => Nat.le_refl _
  | .nd x ks r => by have := F.num_le r; simp only [F.num, F.size]; omega
structure Part (re : List Nd) (f : F) (i i' : Nat) : Prop where
  wf : f.wf
  flat : re.drop i = f.flat ++ re.drop i'
  len : i' = i + f.size
  le : i' ≤ re.length
theorem Part.head {re : List Nd} {x : Nd} {ks r : F} {i i' : Nat} (h : Part re (.nd x ks r) i i') : re[i]? = some x ∧ Part re ks (i + 1) (i + 1 + ks.size) ∧ Part re r (i + 1 + ks.size) i' := by
  have hl := h.len
  have hle := h.le
  simp only [F.size] at hl
  have hf := h.flat
  simp only [F.flat, List.cons_append, List.append_assoc] at hf
  have h0 : re[i]? = some x := by
    have := congrArg (fun l => l[0]?) hf
    simpa using this
  have h1 : re.drop (i + 1) = ks.flat ++ (r.flat ++ re.drop i') := by
    have := congrArg (List.drop 1) hf
    rw [List.drop_drop] at this
    simpa using this
  have h2 : re.drop (i + 1 + ks.size) = r.flat ++ re.drop i' := by
    have := congrArg (List.drop ks.size) h1
    rw [List.drop_drop, ← F.flat_size, List.drop_left] at this
    rw [← F.flat_size]; exact this
  exact ⟨h0, ⟨h.wf.2.2.1, by rw [h2]; exact h1, rfl, by omega⟩, ⟨h.wf.2.2.2, h2, by omega, hle⟩⟩
theorem Part.one {re : List Nd} {x : Nd} {ks r : F} {i i' : Nat} (h : Part re (.nd x ks r) i i') : Part re (.nd x ks .nil) i (i + 1 + ks.size) := by
  obtain ⟨h0, h1, h2⟩ := h.head
  have hlt : i < re.length := (List.getElem?_eq_some_iff.1 h0).1
  refine ⟨⟨h.wf.1, h.wf.2.1, h.wf.2.2.1, trivial⟩, ?_, by simp [F.size]; omega, h1.le⟩
  rw [List.drop_eq_getElem_cons hlt, h1.flat]
  rw [List.getElem?_eq_getElem hlt] at h0
  simp at h0
  simp [F.flat, h0]
theorem gate_not7 {x : Nd} {en : List Bool} {g : Nat} (h7 : ¬ x.op = 7) (h8 : x.op = 8 → 1 ≤ x.n ∧ x.n ≤ en.length ∧ en[x.n.toNat - 1]? = some true) : gate x en g = some (en, g) := by
  by_cases h : x.op = 8
  · obtain ⟨a, b, c⟩ := h8 h; exact gate_ref h a b c
  · exact gate_other h h7
theorem TreeAt.part {re : List Nd} {d i i' : Nat} {x : Nd} {ks : F} (h : TreeAt re d i i' x ks) : Part re (.nd x ks .nil) i i' :=
  ⟨h.wf, by rw [h.flat]; simp [F.flat], by rw [h.len]; simp [F.size]; omega, h.le⟩
def WeighC (P : Program) (fn : Nat) (x : Nd) (ks : F) : Prop := ∀ (ra : Option Addr) (rc : Nat) (re : List Nd) (i i' : Nat), (∀ x ∈ re, -128 ≤ x.op ∧ x.op < 128) → Part re (.nd x ks .nil) i i' →
  Fn P fn [.slice ra re.length rc, .int .i64 i] (fun w => Rd En w (.slice ra re.length rc) re) [] (fun v _ => v = .tuple #[.int .i64 (cut (F.nd x ks .nil).weight), .int .i64 i'])
theorem cut_le (n : Nat) : cut n ≤ 16385 := by unfold cut; omega
theorem weight_one (x : Nd) (ks : F) : (F.nd x ks .nil).weight = 1 + times x * ks.weight := by simp [F.weight]
theorem mul_le {a b : Nat} (ha : a ≤ 16385) (hb : b ≤ 256) : a * b ≤ 4194560 := Nat.mul_le_mul ha hb
theorem mul_leZ {a b : Nat} (ha : a ≤ 16385) (hb : b ≤ 256) : (a : Int) * b ≤ 4194560 := by
  rw [← Int.natCast_mul]; have := mul_le ha hb; omega
theorem mul_0Z (a b : Nat) : 0 ≤ (a : Int) * b := by
  rw [← Int.natCast_mul]; omega
theorem cut_fin {t a : Nat} (ht : 1 ≤ t) : min ((cut a : Int) * t + 1) 16385 = (cut (1 + t * a) : Nat) := by
  rw [← cut_mul ht]
  have : (cut a : Int) * t + 1 = ((1 + t * cut a : Nat) : Int) := by rw [Nat.mul_comm]; push_cast; omega
  rw [this]; unfold cut; omega
theorem flds_iff {x : Nd} : flds x = true ↔ (1 ≤ x.op ∧ x.op ≤ 8) ∧ (x.op = 1 ∨ x.set = 0) ∧ (x.op = 7 ∨ x.op = 8 ∨ x.n = 0) ∧ (x.op = 6 → 0 ≤ x.mn ∧ x.mn ≤ 255 ∧ (x.mx = -1 ∨ x.mn ≤ x.mx ∧ x.mx ≤ 255)) ∧ (x.op ≠ 6 → x.mn = 0 ∧ x.mx = 0) := by
  simp only [flds, Bool.and_eq_true, Bool.or_eq_true, decide_eq_true_eq]
  by_cases h6 : x.op = 6
  · rw [if_pos h6]
    simp only [decide_eq_true_eq]
    constructor
    · rintro ⟨⟨⟨a, b⟩, c⟩, d⟩; exact ⟨a, b, by omega, fun _ => d, fun h => absurd h6 h⟩
    · rintro ⟨a, b, c, d, _⟩; exact ⟨⟨⟨a, b⟩, by omega⟩, d h6⟩
  · rw [if_neg h6]
    simp only [decide_eq_true_eq]
    constructor
    · rintro ⟨⟨⟨a, b⟩, c⟩, d⟩; exact ⟨a, b, by omega, fun h => absurd h h6, fun _ => d⟩
    · rintro ⟨a, b, c, _, d⟩; exact ⟨⟨⟨a, b⟩, by omega⟩, d h6⟩
theorem Ec_lenM (c : Kl.Cl) : (Ec c).length = 4 := Enc.len (E := Ec) c
end Go.HL.Kl.Mc

/- Which lists are well shaped, as an answer. Conditions: none. -/
namespace Go.HL.Kl.Mc
open Go Go.HL Go.HL.Kl
theorem flat_inj : ∀ (f g : F) (r s : List Nd), f.wf → g.wf → f.num = g.num → f.flat ++ r = g.flat ++ s → f = g ∧ r = s
  | .nil, .nil, r, s, _, _, _, h => ⟨rfl, h⟩
  | .nil, .nd _ _ _, _, _, _, _, hn, _ => by simp [F.num] at hn
  | .nd _ _ _, .nil, _, _, _, _, hn, _ => by simp [F.num] at hn
  | .nd x ks f, .nd y js g, r, s, hf, hg, hn, h => by
    simp only [F.flat, List.cons_append, List.append_assoc, List.cons.injEq] at h
    obtain ⟨rfl, h⟩ := h
    have hk : ks.num = js.num := by have := hf.2.1; have := hg.2.1; omega
    obtain ⟨e1, h1⟩ := flat_inj ks js _ _ hf.2.2.1 hg.2.2.1 hk h
    obtain ⟨e2, h2⟩ := flat_inj f g _ _ hf.2.2.2 hg.2.2.2 (by simpa [F.num] using hn) h1
    exact ⟨by rw [e1, e2], h2⟩
def ShpP (re : List Nd) : Prop := (∃ en, shN re 260 0 [] 0 = some (re.length, en)) ∧ ∃ x ks, Shp re x ks
noncomputable def shapedB (re : List Nd) : Bool := @decide (ShpP re) (Classical.propDecidable _)
theorem shapedB_iff {re : List Nd} : shapedB re = true ↔ ShpP re := by
  unfold shapedB
  constructor
  · intro h; exact @of_decide_eq_true _ (Classical.propDecidable _) h
  · intro h; exact @decide_eq_true _ (Classical.propDecidable _) h
theorem shapedB_no {re : List Nd} (h : ¬ ShpP re) : shapedB re = false := Bool.eq_false_iff.2 fun h' => h (shapedB_iff.1 h')
theorem shp_none {re : List Nd} (h : shN re 260 0 [] 0 = none) : shapedB re = false := shapedB_no fun ⟨⟨en, h'⟩, _⟩ => by rw [h] at h'; cases h'
theorem shp_end {re : List Nd} {j : Nat} {en : List Bool} (h : shN re 260 0 [] 0 = some (j, en)) (hj : j ≠ re.length) : shapedB re = false := shapedB_no fun ⟨⟨en', h'⟩, _⟩ => by
  rw [h] at h'; cases h'; exact hj rfl
theorem shp_tree {re : List Nd} {en : List Bool} (h : shN re 260 0 [] 0 = some (re.length, en)) : ∃ x ks, Part re (.nd x ks .nil) 0 re.length ∧ ks.depth + 1 ≤ 260 ∧ shapedB re = decide (cut (F.nd x ks .nil).weight ≤ 16384) := by
  obtain ⟨x, ks, ht⟩ := shN_tree _ _ _ _ _ _ h
  have hp := ht.part
  have hflat : re = x :: ks.flat := by simpa using ht.flat
  refine ⟨x, ks, hp, ht.dep, ?_⟩
  by_cases hw : (F.nd x ks .nil).weight ≤ 16384
  · rw [decide_eq_true (by unfold cut; omega)]
    exact shapedB_iff.2 ⟨⟨en, h⟩, x, ks, ⟨ht.wf, hflat, ht.dep, hw⟩⟩
  · rw [decide_eq_false (by unfold cut; omega)]
    refine shapedB_no fun ⟨_, y, js, hs⟩ => hw ?_
    have := flat_inj (.nd x ks .nil) (.nd y js .nil) [] [] ht.wf hs.wf rfl (by simp only [F.flat, List.append_nil]; rw [← hflat, ← hs.flat])
    rw [this.1]; exact hs.weight
noncomputable def refsB (re : List Nd) : Bool := shapedB re && re.any fun x => x.op == 8
theorem refs_yes {re : List Nd} {x : Nd} (hs : shapedB re = true) (hx : x ∈ re) (h8 : x.op = 8) : refsB re = true := by
  rw [refsB, hs, Bool.true_and, List.any_eq_true]
  exact ⟨x, hx, by simp [h8]⟩
theorem refs_no {re : List Nd} (h : ∀ j (x : Nd), j < re.length → re[j]? = some x → ¬ x.op = 8) : refsB re = false := by
  have : (re.any fun x => x.op == 8) = false := by
    rw [Bool.eq_false_iff]
    intro h'
    obtain ⟨x, hx, h8⟩ := List.any_eq_true.1 h'
    obtain ⟨j, hj⟩ := List.getElem?_of_mem hx
    exact h j x (List.getElem?_eq_some_iff.1 hj).1 hj (by simpa using h8)
  rw [refsB, this, Bool.and_false]
theorem refs_step {re : List Nd} {j : Nat} {x : Nd} (h : ∀ q (x : Nd), q < j → re[q]? = some x → ¬ x.op = 8) (hx : re[j]? = some x) (h8 : ¬ x.op = 8) : ∀ q (x : Nd), q < j + 1 → re[q]? = some x → ¬ x.op = 8 := by
  intro q y hq hy
  by_cases e : q = j
  · subst e; rw [hx] at hy; cases hy; exact h8
  · exact h q y (by omega) hy
theorem refs_shp {re : List Nd} (h : shapedB re = false) : refsB re = false := by rw [refsB, h, Bool.false_and]
theorem cut_fin2 {t a : Nat} (ht : 1 ≤ t) : min (1 + (t : Int) * (cut a : Int)) 16385 = (cut (1 + t * a) : Nat) := by
  rw [← cut_fin ht, Int.mul_comm, Int.add_comm]
end Go.HL.Kl.Mc

/- Where nodes end; the code of a regex, made step by step. Conditions: none. -/
namespace Go.HL.Kl.Mc
open Go Go.HL Go.HL.Kl
def Eix (n : Nat) : List Value := [.int .i64 n]
instance : Enc Eix 1 := ⟨fun _ => rfl, fun _ _ h => by simp [Eix] at h; subst h; rfl⟩
def EndsOk (re : List Nd) (a : Nat) (l : List Nat) : Prop := l.length = re.length ∧ ∀ (i : Nat) (x : Nd) (ks r : F) (i' : Nat), a ≤ i → Part re (.nd x ks r) i i' → l[i]? = some (i + 1 + ks.size)
theorem Part.at {re : List Nd} : ∀ (f : F) (i i' : Nat), Part re f i i' → ∀ j, i ≤ j → j < i' → ∃ x ks r j', Part re (.nd x ks r) j j'
  | .nil, i, i', h, j, h1, h2 => by have := h.len; simp [F.size] at this; omega
  | .nd x ks r, i, i', h, j, h1, h2 => by
    obtain ⟨_, hk, hr⟩ := h.head
    by_cases e : j = i
    · subst e; exact ⟨x, ks, r, i', h⟩
    by_cases e2 : j < i + 1 + ks.size
    · exact Part.at ks _ _ hk j (by omega) e2
    · exact Part.at r _ _ hr j (by omega) h2
theorem Part.uniq {re : List Nd} {x y : Nd} {ks js r s : F} {i i' i2 : Nat} (h : Part re (.nd x ks r) i i') (h' : Part re (.nd y js s) i i2) : ks = js := by
  have h1 := h.one; have h2 := h'.one
  have := flat_inj (.nd x ks .nil) (.nd y js .nil) _ _ h1.wf h2.wf rfl (h1.flat.symm.trans h2.flat)
  have := this.1
  simp at this
  exact this.2
theorem EndsOk.start {re : List Nd} {l : List Nat} (h : l.length = re.length) : EndsOk re re.length l := ⟨h, fun i x ks r i' hi hp => by
  have := (List.getElem?_eq_some_iff.1 hp.head.1).1; omega⟩
theorem EndsOk.step {re : List Nd} {a : Nat} {l : List Nat} {x : Nd} {ks r : F} {i' : Nat} (h : EndsOk re (a + 1) l) (hp : Part re (.nd x ks r) a i') : EndsOk re a (l.set a (a + 1 + ks.size)) := by
  have hlt : a < re.length := (List.getElem?_eq_some_iff.1 hp.head.1).1
  refine ⟨by rw [List.length_set]; exact h.1, fun i y js s i2 hi hq => ?_⟩
  by_cases e : a = i
  · subst e
    rw [List.getElem?_set_self (by rw [h.1]; exact hlt), hp.uniq hq]
  · rw [List.getElem?_set_ne e]; exact h.2 i y js s i2 (by omega) hq
theorem F.size_nil {f : F} (h : f.size = 0) : f = .nil := by
  cases f with
  | nil => rfl
  | nd x ks r => simp [F.size] at h
end Go.HL.Kl.Mc

/- The code of a regex, made step by step: appended to, patched. Conditions: none. -/
namespace Go.HL.Kl.Mc
open Go Go.HL Go.HL.Kl
theorem Ein_zero (o x y : Int) : Ein ⟨o, 0, x, y⟩ = [.int .i8 o, .int .u64 0, .int .u64 0, .int .u64 0, .int .u64 0, .int .i64 x, .int .i64 y] := by
  show _ :: (Ec 0#256 ++ _) = _
  rw [Ec_zero]; rfl
def codeOne (x : Nd) (ks : F) (b : Nat) : List In := oneC x (fun b => code ks false b 0) (fun b => code ks true b (b + lenM ks true)) (lenM ks false) b
def lenT (x : Nd) (ks : F) : Nat := lenOne x (lenM ks false) (lenM ks true)
theorem codeOne_len (x : Nd) (ks : F) (b : Nat) : (codeOne x ks b).length = lenT x ks := oneC_len (fun b => code_len ks false b 0) (fun b => code_len ks true b _) b
theorem code_cat (x : Nd) (ks r : F) (b e : Nat) : code (.nd x ks r) false b e = codeOne x ks b ++ code r false (b + lenT x ks) 0 := by simp only [code, Bool.false_eq_true, if_false]; rfl
theorem code_one (x : Nd) (ks : F) (b e : Nat) : code (.nd x ks .nil) false b e = codeOne x ks b := by rw [code_cat]; simp [code]
theorem lenM_cat (x : Nd) (ks r : F) : lenM (.nd x ks r) false = lenT x ks + lenM r false := by simp [lenM, lenT]
theorem copies_snoc {c : Nat → List In} {L : Nat} : ∀ k b, copies c L (k + 1) b = copies c L k b ++ c (b + k * L)
  | 0, b => by simp [copies]
  | k + 1, b => by
    rw [copies, copies_snoc k (b + L), copies, List.append_assoc]
    congr 3
    rw [Nat.succ_mul]; omega
theorem opts_snoc {c : Nat → List In} {L e : Nat} : ∀ k b, opts c L e (k + 1) b = opts c L e k b ++ (⟨5, 0, (b + k * (L + 1) + 1 : Nat), e⟩ :: c (b + k * (L + 1) + 1))
  | 0, b => by simp [opts]
  | k + 1, b => by
    rw [opts, opts_snoc k (b + 1 + L), opts]
    simp only [List.cons_append, List.append_assoc]
    rw [show b + 1 + L + k * (L + 1) + 1 = b + (k + 1) * (L + 1) + 1 by rw [Nat.succ_mul]; omega]
theorem opts_head {c : Nat → List In} {L e k b : Nat} : opts c L e (k + 1) b = ⟨5, 0, (b + 1 : Nat), e⟩ :: (c (b + 1) ++ opts c L e k (b + 1 + L)) := rfl
theorem set_mid {α : Type} {A B : List α} {a b : α} {n : Nat} (h : A.length = n) : (A ++ a :: B).set n b = A ++ b :: B := by
  subst h
  rw [List.set_append_right _ _ (Nat.le_refl _)]
  simp
theorem get_mid {α : Type} {A B : List α} {a : α} {n : Nat} (h : A.length = n) : (A ++ a :: B)[n]? = some a := by
  subst h
  rw [List.getElem?_append_right (Nat.le_refl _)]
  simp
theorem opts_patch {c : Nat → List In} {L e : Nat} (hl : ∀ b, (c b).length = L) {M : List In} {q n : Nat} (hq : q < n) :
    (M ++ (opts c L e q M.length ++ opts c L 0 (n - q) (M.length + q * (L + 1))))[M.length + q * (L + 1)]? = some ⟨5, 0, (M.length + q * (L + 1) + 1 : Nat), 0⟩ ∧
    (M ++ (opts c L e q M.length ++ opts c L 0 (n - q) (M.length + q * (L + 1)))).set (M.length + q * (L + 1)) ⟨5, 0, (M.length + q * (L + 1) + 1 : Nat), e⟩ =
    M ++ (opts c L e (q + 1) M.length ++ opts c L 0 (n - (q + 1)) (M.length + (q + 1) * (L + 1))) := by
  obtain ⟨r, hr⟩ : ∃ r, n - q = r + 1 := ⟨n - q - 1, by omega⟩
  have hr2 : n - (q + 1) = r := by omega
  have h1 : (M ++ opts c L e q M.length).length = M.length + q * (L + 1) := by rw [List.length_append, opts_len hl]
  rw [hr, hr2, opts_head, ← List.append_assoc]
  refine ⟨get_mid h1, ?_⟩
  rw [set_mid h1, opts_snoc, show M.length + (q + 1) * (L + 1) = M.length + q * (L + 1) + 1 + L by rw [Nat.succ_mul]; omega]
  simp [List.append_assoc]
theorem star_fin {x : Nd} {c : Nat → List In} {L : Nat} {m m1 : List In} (hcl : ∀ b, (c b).length = L) (hmx : x.mx = -1) (hm1 : m1 = m ++ copies c L x.mn.toNat m.length) :
    (m1 ++ (⟨5, 0, (m1.length + 1 : Nat), (m1.length + L + 2 : Nat)⟩ : In) :: (c (m1.length + 1) ++ [⟨4, 0, (m1.length : Nat), 0⟩])) = m ++ repC x c L m.length := by
  have hl : m1.length = m.length + x.mn.toNat * L := by rw [hm1, List.length_append, copies_len hcl]
  unfold repC
  rw [hl, hm1]
  simp only [hmx, if_true, List.append_assoc]
theorem opts_fin {x : Nd} {c : Nat → List In} {L k : Nat} {m m1 : List In} (hcl : ∀ b, (c b).length = L) (hmx : ¬ x.mx = -1) (hm1 : m1 = m ++ copies c L x.mn.toNat m.length) (hk : k = (x.mx - x.mn).toNat) :
    m1 ++ opts c L (m1.length + k * (L + 1)) k m1.length = m ++ repC x c L m.length := by
  have hl : m1.length = m.length + x.mn.toNat * L := by rw [hm1, List.length_append, copies_len hcl]
  unfold repC
  subst hk
  rw [hl, hm1]
  simp only [hmx, if_false, List.append_assoc]
def jmps : F → Nat → List Nat
  | .nil, _ => []
  | .nd x ks r, b => match r with
    | .nil => []
    | _ => (b + 1 + lenT x ks) :: jmps r (b + lenT x ks + 2)
theorem jmps_more (x : Nd) (ks : F) (y : Nd) (js s : F) (b : Nat) : jmps (.nd x ks (.nd y js s)) b = (b + 1 + lenT x ks) :: jmps (.nd y js s) (b + lenT x ks + 2) := rfl
theorem code_more (x : Nd) (ks : F) (y : Nd) (js s : F) (b e : Nat) : code (.nd x ks (.nd y js s)) true b e = ⟨5, 0, (b + 1 : Nat), (b + lenT x ks + 2 : Nat)⟩ :: (codeOne x ks (b + 1) ++ (⟨4, 0, e, 0⟩ :: code (.nd y js s) true (b + lenT x ks + 2) e)) := rfl
theorem code_last (x : Nd) (ks : F) (b e : Nat) : code (.nd x ks .nil) true b e = codeOne x ks b := rfl
theorem lenM_more (x : Nd) (ks : F) (y : Nd) (js s : F) : lenM (.nd x ks (.nd y js s)) true = lenT x ks + 2 + lenM (.nd y js s) true := rfl
theorem lenM_last (x : Nd) (ks : F) : lenM (.nd x ks .nil) true = lenT x ks := by simp [lenM, lenT]
def patch (l : List In) (ps : List Nat) (e : Nat) : List In := ps.foldl (fun l p => l.set p ⟨4, 0, e, 0⟩) l
theorem patch_len (ps : List Nat) (e : Nat) : ∀ l, (patch l ps e).length = l.length := by
  induction ps with
  | nil => intro l; rfl
  | cons p ps ih => intro l; simp only [patch, List.foldl_cons] at ih ⊢; rw [ih]; simp
theorem patch_snoc (l : List In) (ps : List Nat) (p e : Nat) : patch l (ps ++ [p]) e = (patch l ps e).set p ⟨4, 0, e, 0⟩ := by simp [patch]
theorem patch_alt (e : Nat) : ∀ (f : F) (M : List In), patch (M ++ code f true M.length 0) (jmps f M.length) e = M ++ code f true M.length e
  | .nil, M => rfl
  | .nd x ks .nil, M => rfl
  | .nd x ks (.nd y js s), M => by
    rw [jmps_more, code_more, code_more]
    have h1 : (M ++ (⟨5, 0, (M.length + 1 : Nat), (M.length + lenT x ks + 2 : Nat)⟩ :: codeOne x ks (M.length + 1)) : List In).length = M.length + 1 + lenT x ks := by
      simp only [List.length_append, List.length_cons, codeOne_len]; omega
    have e1 : ∀ (t : In) (B : List In), M ++ ((⟨5, 0, (M.length + 1 : Nat), (M.length + lenT x ks + 2 : Nat)⟩ : In) :: (codeOne x ks (M.length + 1) ++ (t :: B))) = (M ++ (⟨5, 0, (M.length + 1 : Nat), (M.length + lenT x ks + 2 : Nat)⟩ :: codeOne x ks (M.length + 1))) ++ t :: B := by intro t B; simp
    show patch ((M ++ _).set _ _) _ e = _
    rw [e1, set_mid h1, e1]
    have h2 := patch_alt e (.nd y js s) ((M ++ (⟨5, 0, (M.length + 1 : Nat), (M.length + lenT x ks + 2 : Nat)⟩ :: codeOne x ks (M.length + 1))) ++ [⟨4, 0, (e : Int), 0⟩])
    have h3 : ((M ++ (⟨5, 0, (M.length + 1 : Nat), (M.length + lenT x ks + 2 : Nat)⟩ :: codeOne x ks (M.length + 1))) ++ [(⟨4, 0, (e : Int), 0⟩ : In)]).length = M.length + lenT x ks + 2 := by
      rw [List.length_append, h1]; simp; omega
    rw [h3] at h2
    simp only [List.append_assoc, List.singleton_append, List.cons_append] at h2 ⊢
    exact h2
end Go.HL.Kl.Mc

/- The code of a node, by its kind; the jumps of alternatives. Conditions: none. -/
namespace Go.HL.Kl.Mc
open Go Go.HL Go.HL.Kl
section
variable {x : Nd} {ks : F} {b : Nat}
theorem codeOne_1 (h : x.op = 1) : codeOne x ks b = [⟨1, x.set, 0, 0⟩] := by simp [codeOne, oneC, h]
theorem codeOne_2 (h : x.op = 2) : codeOne x ks b = [⟨2, 0, 0, 0⟩] := by simp [codeOne, oneC, h]
theorem codeOne_3 (h : x.op = 3) : codeOne x ks b = [⟨3, 0, 0, 0⟩] := by simp [codeOne, oneC, h]
theorem codeOne_5 (h : x.op = 5) : codeOne x ks b = code ks true b (b + lenM ks true) := by simp [codeOne, oneC, h]
theorem codeOne_6 (h : x.op = 6) : codeOne x ks b = repC x (fun b => code ks false b 0) (lenM ks false) b := by simp [codeOne, oneC, h]
theorem codeOne_c (h1 : x.op ≠ 1) (h2 : x.op ≠ 2) (h3 : x.op ≠ 3) (h5 : x.op ≠ 5) (h6 : x.op ≠ 6) : codeOne x ks b = code ks false b 0 := by simp [codeOne, oneC, h1, h2, h3, h5, h6]
theorem lenT_s (h : x.op = 1 ∨ x.op = 2 ∨ x.op = 3) : lenT x ks = 1 := by rw [lenT, lenOne, if_pos h]
theorem lenT_5 (h : x.op = 5) : lenT x ks = lenM ks true := by rw [lenT, lenOne, if_neg (by omega), if_pos h]
theorem lenT_6 (h : x.op = 6) : lenT x ks = x.mn.toNat * lenM ks false + (if x.mx = -1 then lenM ks false + 2 else (x.mx - x.mn).toNat * (lenM ks false + 1)) := by rw [lenT, lenOne, if_neg (by omega), if_neg (by omega), if_pos h]
theorem lenT_c (h1 : x.op ≠ 1) (h2 : x.op ≠ 2) (h3 : x.op ≠ 3) (h5 : x.op ≠ 5) (h6 : x.op ≠ 6) : lenT x ks = lenM ks false := by rw [lenT, lenOne, if_neg (by omega), if_neg h5, if_neg h6]
end
theorem rep_kid {x : Nd} {ks : F} (hw : (F.nd x ks .nil).wf) (h6 : x.op = 6) : ∃ y js, ks = .nd y js .nil := by
  have hk : x.kids = 1 := by
    have h := hw.1
    simp only [ndOk, Bool.and_eq_true, kidsOk] at h
    have h := h.2
    rw [if_pos (.inl h6)] at h
    simpa using h
  have hn := hw.2.1
  cases ks with
  | nil => simp [F.num] at hn; omega
  | nd y js r =>
    cases r with
    | nil => exact ⟨y, js, rfl⟩
    | nd _ _ _ => simp only [F.num] at hn; omega
theorem alt_ne {x : Nd} {ks : F} (hw : (F.nd x ks .nil).wf) (h5 : x.op = 5) : ks ≠ .nil := by
  rintro rfl
  have := alt_kids hw.1 h5
  have := hw.2.1
  simp [F.num] at this
  omega
def IsJ (l : List In) (p : Nat) : Prop := ∃ v : Int, l[p]? = some ⟨4, 0, v, 0⟩
theorem jmps_isJ : ∀ (f : F) (M : List In), ∀ p ∈ jmps f M.length, IsJ (M ++ code f true M.length 0) p
  | .nil, M, p, h => by cases h
  | .nd x ks .nil, M, p, h => by cases h
  | .nd x ks (.nd y js s), M, p, h => by
    rw [jmps_more] at h
    rw [code_more]
    have h1 : (M ++ (⟨5, 0, (M.length + 1 : Nat), (M.length + lenT x ks + 2 : Nat)⟩ :: codeOne x ks (M.length + 1)) : List In).length = M.length + 1 + lenT x ks := by
      simp only [List.length_append, List.length_cons, codeOne_len]; omega
    have e1 : ∀ (t : In) (B : List In), M ++ ((⟨5, 0, (M.length + 1 : Nat), (M.length + lenT x ks + 2 : Nat)⟩ : In) :: (codeOne x ks (M.length + 1) ++ (t :: B))) = (M ++ (⟨5, 0, (M.length + 1 : Nat), (M.length + lenT x ks + 2 : Nat)⟩ :: codeOne x ks (M.length + 1))) ++ t :: B := by intro t B; simp
    rw [e1]
    rcases List.mem_cons.1 h with rfl | h
    · exact ⟨_, get_mid h1⟩
    · have h2 := jmps_isJ (.nd y js s) ((M ++ (⟨5, 0, (M.length + 1 : Nat), (M.length + lenT x ks + 2 : Nat)⟩ :: codeOne x ks (M.length + 1))) ++ [⟨4, 0, ((0 : Nat) : Int), 0⟩]) p
      have h3 : ((M ++ (⟨5, 0, (M.length + 1 : Nat), (M.length + lenT x ks + 2 : Nat)⟩ :: codeOne x ks (M.length + 1))) ++ [(⟨4, 0, ((0 : Nat) : Int), 0⟩ : In)]).length = M.length + lenT x ks + 2 := by
        rw [List.length_append, h1]; simp; omega
      rw [h3] at h2
      have h4 := h2 h
      rw [List.append_assoc] at h4
      exact h4
theorem patch_isJ {e : Nat} (ps : List Nat) : ∀ (l : List In) (p : Nat), IsJ l p → IsJ (patch l ps e) p := by
  induction ps with
  | nil => intro l p h; exact h
  | cons q ps ih =>
    intro l p h
    refine ih _ p ?_
    by_cases e : q = p
    · subst e
      obtain ⟨v, hv⟩ := h
      exact ⟨_, List.getElem?_set_self (List.getElem?_eq_some_iff.1 hv).1⟩
    · obtain ⟨v, hv⟩ := h
      exact ⟨v, by rw [List.getElem?_set_ne e]; exact hv⟩
theorem patch_take {l : List In} {ps : List Nat} {q p e : Nat} (h : ps[q]? = some p) : (patch l (ps.take q) e).set p ⟨4, 0, e, 0⟩ = patch l (ps.take (q + 1)) e := by
  rw [List.take_add_one, h]
  exact (patch_snoc _ _ _ _).symm
theorem alt_step {y z : Nd} {ks1 js s : F} {m2 : List In} : m2 ++ code (.nd y ks1 (.nd z js s)) true m2.length 0 =
    (m2 ++ (⟨5, 0, (m2.length + 1 : Nat), (m2.length + 1 + lenT y ks1 + 1 : Nat)⟩ :: (codeOne y ks1 (m2.length + 1) ++ [⟨4, 0, 0, 0⟩]))) ++ code (.nd z js s) true (m2.length + 1 + lenT y ks1 + 1) 0 := by
  rw [code_more, show m2.length + lenT y ks1 + 2 = m2.length + 1 + lenT y ks1 + 1 by omega]
  simp
end Go.HL.Kl.Mc

/- What Compile answers. Conditions: none. -/
namespace Go.HL.Kl.Mc
open Go Go.HL Go.HL.Kl
theorem F.size_weight : ∀ f : F, f.size ≤ f.weight
  | .nil => Nat.le_refl _
  | .nd x ks r => by
    have h1 := F.size_weight ks
    have h2 := F.size_weight r
    have h3 : ks.weight ≤ times x * ks.weight := Nat.le_mul_of_pos_left _ (times_pos x)
    simp only [F.size, F.weight]; omega
theorem mach_one (x : Nd) (ks : F) : mach (.nd x ks .nil) = codeOne x ks 0 ++ [⟨6, 0, 0, 0⟩] := by rw [mach, code_one]
theorem Shp.lenT {re : List Nd} {x : Nd} {ks : F} (h : Shp re x ks) : Mc.lenT x ks ≤ 65533 := by
  have h1 := (code_weight _ h.wf).1
  rw [lenM_cat] at h1
  have := h.weight
  simp only [F.num] at h1
  omega
theorem Shp.len {re : List Nd} {x : Nd} {ks : F} (h : Shp re x ks) : re.length ≤ 16384 := by
  have h1 := F.size_weight (.nd x ks .nil)
  have := h.weight
  rw [h.flat]
  simp only [F.size] at h1
  simp only [List.length_cons, F.flat_size]
  omega
theorem Shp.part {re : List Nd} {x : Nd} {ks : F} (h : Shp re x ks) : Part re (.nd x ks .nil) 0 re.length := by
  refine ⟨h.wf, by rw [List.drop_length, List.drop_zero, List.append_nil]; simp [F.flat, h.flat], ?_, Nat.le_refl _⟩
  rw [h.flat]; simp [F.size, F.flat_size]
inductive CompP (re : List Nd) (v : Value) (S' : Hp) : Prop
  | shape (hs : shapedB re = false) (hv : v = .tuple #[.slice none 0 0, .int .i64 49])
  | ref (hs : shapedB re = true) (hr : refsB re = true) (hv : v = .tuple #[.slice none 0 0, .int .i64 44])
  | ok {x : Nd} {ks : F} {a : Option Addr} (hs : shapedB re = true) (hr : refsB re = false) (h : Shp re x ks) (hv : v = .tuple #[.slice a (mach (.nd x ks .nil)).length (mach (.nd x ks .nil)).length, .int .i64 0]) (hm : RdS Ein (.slice a (mach (.nd x ks .nil)).length (mach (.nd x ks .nil)).length) (mach (.nd x ks .nil)) S')
inductive CompO (T : Nat) (re : List Nd) (v : Value) (S' : Hp) : Prop
  | shape (hs : shapedB re = false) (hv : v = .tuple #[.slice none 0 0, .int .i64 49]) (hn : S' = [])
  | ref (hs : shapedB re = true) (hr : refsB re = true) (hv : v = .tuple #[.slice none 0 0, .int .i64 44]) (hn : S' = [])
  | ok {x : Nd} {ks : F} {a : Option Addr} (hs : shapedB re = true) (hr : refsB re = false) (h : Shp re x ks) (hv : v = .tuple #[.slice a (mach (.nd x ks .nil)).length (mach (.nd x ks .nil)).length, .int .i64 0]) (hm : OwnS Ein 7 T (.slice a (mach (.nd x ks .nil)).length (mach (.nd x ks .nil)).length) (mach (.nd x ks .nil)) S')
end Go.HL.Kl.Mc

/- Which machines are well shaped, as an answer. Conditions: none. -/
namespace Go.HL.Kl.Mc
open Go Go.HL Go.HL.Kl
noncomputable def mokB (m : List In) : Bool := @decide (MOk m) (Classical.propDecidable _)
theorem mokB_iff {m : List In} : mokB m = true ↔ MOk m := by
  unfold mokB
  exact ⟨fun h => @of_decide_eq_true _ (Classical.propDecidable _) h, fun h => @decide_eq_true _ (Classical.propDecidable _) h⟩
theorem mokB_no {m : List In} (h : ¬ MOk m) : mokB m = false := Bool.eq_false_iff.2 fun h' => h (mokB_iff.1 h')
theorem cels_set {κ : Cx} {H : Hp} {v : Value} {m : List In} {q : Nat} {t : In} (h : RdK Ein κ H v m) (ht : m[q]? = some t) {o : Nat} (ho : o = soff v + (q * 7 + 1)) : Cels κ H ⟨sblk v, o, none⟩ (Ec t.set) := by
  refine ⟨fun w st j u hu => ?_⟩
  subst ho
  have hj : j < 4 := by have := (List.getElem?_eq_some_iff.1 hu).1; rw [Ec_lenM] at this; exact this
  have h1 : (flat Ein m)[q * 7 + (1 + j)]? = some u := by
    rw [flat_get Ein m ht (by omega), show 1 + j = j + 1 by omega]
    simp only [Ein, List.getElem?_cons_succ]
    rw [List.getElem?_append_left (List.getElem?_eq_some_iff.1 hu).1]; exact hu
  have := (h.out w st).get _ _ h1
  rw [Addr.add_lit, show soff v + (q * 7 + 1) + j = soff v + (q * 7 + (1 + j)) by omega]
  exact this
def MUp (m : List In) (q : Nat) : Prop := ∀ i t, i < q → m[i]? = some t → InOk (m.length - 1) t ∧ (t.op ≤ 3 → i + 1 < m.length)
theorem MUp.zero {m : List In} : MUp m 0 := fun i t h => by omega
theorem MUp.step {m : List In} {q : Nat} {t : In} (h : MUp m q) (ht : m[q]? = some t) (h1 : InOk (m.length - 1) t) (h2 : t.op ≤ 3 → q + 1 < m.length) : MUp m (q + 1) := by
  intro i u hi hu
  by_cases e : i = q
  · subst e; rw [ht] at hu; cases hu; exact ⟨h1, h2⟩
  · exact h i u (by omega) hu
theorem MUp.all {m : List In} (h : MUp m m.length) (h1 : 1 ≤ m.length) (h2 : m.length ≤ 65540) : mokB m = true := mokB_iff.2 ⟨h1, h2, fun i t ht => h i t (List.getElem?_eq_some_iff.1 ht).1 ht⟩
theorem mok_len {m : List In} (h : ¬ (1 ≤ m.length ∧ m.length ≤ 65540)) : mokB m = false := mokB_no fun h' => h ⟨h'.1, h'.2.1⟩
theorem mok_in {m : List In} {q : Nat} {t : In} (ht : m[q]? = some t) (h : ¬ InOk (m.length - 1) t) : mokB m = false := mokB_no fun h' => h (h'.2.2 q t ht).1
theorem mok_last {m : List In} {q : Nat} {t : In} (ht : m[q]? = some t) (h3 : t.op ≤ 3) (h : ¬ q + 1 < m.length) : mokB m = false := mokB_no fun h' => h ((h'.2.2 q t ht).2 h3)
def wantI (t : In) : In := ⟨t.op, if t.op = 1 then t.set else 0, if t.op = 4 ∨ t.op = 5 then t.x else 0, if t.op = 5 then t.y else 0⟩
theorem wantI_of {E : Nat} {t : In} (h : InOk E t) : t = wantI t := by
  obtain ⟨_, h2, h3, h4⟩ := h
  cases t with
  | mk o s x y =>
    simp only at h2 h3 h4
    simp only [wantI, In.mk.injEq, true_and]
    refine ⟨?_, ?_, ?_⟩
    · split
      · rfl
      · exact h2.resolve_left ‹_›
    · split
      · rfl
      · rw [if_neg ‹_›] at h3; omega
    · split
      · rfl
      · rw [if_neg ‹_›] at h4; omega
theorem InOk.bnd {E : Nat} {t : In} (h : InOk E t) : 0 ≤ t.x ∧ t.x ≤ E ∧ 0 ≤ t.y ∧ t.y ≤ E := by
  obtain ⟨_, _, h3, h4⟩ := h
  refine ⟨h3.1, ?_, h4.1, ?_⟩
  · have := h3.2; split at this <;> omega
  · have := h4.2; split at this <;> omega
theorem inOk_of {n : Nat} {t : In} (h1 : 1 ≤ t.op ∧ t.op ≤ 6) (h : t = wantI t) (hx : 0 ≤ t.x ∧ t.x < (n : Int)) (hy : 0 ≤ t.y ∧ t.y < (n : Int)) : InOk (n - 1) t := by
  cases t with
  | mk o s x y =>
    simp only [wantI, In.mk.injEq, true_and] at h
    obtain ⟨e1, e2, e3⟩ := h
    simp only at hx hy h1
    refine ok_mk h1.1 h1.2 ?_ hx.1 ?_ hy.1 ?_
    · by_cases h : o = 1
      · exact .inl h
      · rw [if_neg h] at e1; exact .inr e1
    · by_cases h : o = 4 ∨ o = 5
      · rw [if_pos h]; omega
      · rw [if_neg h] at e2 ⊢; omega
    · by_cases h : o = 5
      · rw [if_pos h]; omega
      · rw [if_neg h] at e3 ⊢; omega
theorem in_set {x : In} : ∀ (j : Nat) u, (Ec x.set)[j]? = some u → (Ein x)[1 + j]? = some u := by
  intro j u h
  rw [show 1 + j = j + 1 by omega]
  simp only [Ein, List.getElem?_cons_succ]
  rw [List.getElem?_append_left (List.getElem?_eq_some_iff.1 h).1]; exact h
end Go.HL.Kl.Mc

/- Sets of places, made: of one node, of two sets. Conditions: none. -/
namespace Go.HL.Kl.Mc
open Go Go.HL Go.HL.Kl
/-! forests, one behind the other -/
def F.app : F → F → F
  | .nil, g => g
  | .nd x ks r, g => .nd x ks (r.app g)
theorem F.num_app : ∀ f g : F, (f.app g).num = f.num + g.num
  | .nil, g => by simp [F.app, F.num]
  | .nd x ks r, g => by simp only [F.app, F.num, F.num_app r g]; omega
theorem F.flat_app : ∀ f g : F, (f.app g).flat = f.flat ++ g.flat
  | .nil, g => by simp [F.app, F.flat]
  | .nd x ks r, g => by simp [F.app, F.flat, F.flat_app r g]
theorem F.size_app : ∀ f g : F, (f.app g).size = f.size + g.size
  | .nil, g => by simp [F.app, F.size]
  | .nd x ks r, g => by simp only [F.app, F.size, F.size_app r g]; omega
theorem F.wf_app : ∀ {f g : F}, f.wf → g.wf → (f.app g).wf
  | .nil, g, _, h => h
  | .nd x ks r, g, ⟨a, b, c, d⟩, h => ⟨a, b, c, F.wf_app d h⟩
theorem Part.down {re : List Nd} {y : Nd} {js r : F} {p i' : Nat} (h : Part re (.nd y js r) p i') : Part re (js.app r) (p + 1) i' := by
  obtain ⟨_, h1, h2⟩ := h.head
  have hl := h.len
  simp only [F.size] at hl
  exact ⟨F.wf_app h1.wf h2.wf, by rw [h1.flat, h2.flat, F.flat_app, List.append_assoc], by rw [F.size_app]; omega, h.le⟩
theorem F.num_nil {f : F} (h : f.num = 0) : f = .nil := by
  cases f with
  | nil => rfl
  | nd x ks r => simp [F.num] at h
/-! lists of booleans -/
def bo0 (l : List Bool) (i : Nat) : Bool := l.getD i false
theorem bo0_get {l : List Bool} {i : Nat} (h : i < l.length) : l[i]? = some (bo0 l i) := by simp [bo0, h]
theorem bo0_true {l : List Bool} {i : Nat} : bo0 l i = true ↔ l[i]? = some true := by
  unfold bo0
  rw [List.getD_eq_getElem?_getD]
  cases l[i]? <;> simp
def orF (a b : List Bool) (i : Nat) : Bool := bo0 a i || bo0 b i
def orL (a b : List Bool) : List Bool := (List.range a.length).map (orF a b)
theorem orL_len (a b : List Bool) : (orL a b).length = a.length := by simp [orL]
theorem orL_get {a b : List Bool} {i : Nat} (h : i < a.length) : (orL a b)[i]? = some (orF a b i) := by
  unfold orL
  rw [List.getElem?_map, List.getElem?_range h]; rfl
def moreTo (a b : List Bool) (k : Nat) : Bool := (List.range k).any fun i => bo0 b i && !bo0 a i
def moreB (a b : List Bool) : Bool := moreTo a b a.length
theorem moreTo_succ {a b : List Bool} {k : Nat} : moreTo a b (k + 1) = (moreTo a b k || (bo0 b k && !bo0 a k)) := by simp [moreTo, List.range_succ]
theorem IsS.or {a b : List Bool} {N : Nat} {S T : Nat → Prop} (ha : IsS a N S) (hb : IsS b N T) : IsS (orL a b) N (fun q => S q ∨ T q) :=
  ⟨by rw [orL_len, ha.len], fun p hp => by
    rw [orL_get (by rw [ha.len]; omega), ← ha.get p hp, ← hb.get p hp, ← bo0_true, ← bo0_true]
    simp [orF]⟩
theorem IsS.no_more {a b : List Bool} {N : Nat} {S T : Nat → Prop} (ha : IsS a N S) (hb : IsS b N T) (h : moreB a b = false) : ∀ q, q ≤ N → T q → S q := fun q hq ht => by
  rw [← ha.get q hq, ← bo0_true]
  rw [← hb.get q hq, ← bo0_true] at ht
  have h1 := List.any_eq_false.1 h q (by rw [List.mem_range, ha.len]; omega)
  rw [ht] at h1
  simpa using h1
def cf (l : List Bool) : Nat := (List.range l.length).countP fun i => !bo0 l i
theorem cf_le (l : List Bool) : cf l ≤ l.length := by
  have := List.countP_le_length (p := fun i => !bo0 l i) (l := List.range l.length)
  simpa [cf] using this
theorem countP_mono {p q : Nat → Bool} (h : ∀ i, p i = true → q i = true) : ∀ n, (List.range n).countP p ≤ (List.range n).countP q
  | 0 => by simp
  | n + 1 => by
    have := countP_mono h n
    have h1 := h n
    simp only [List.range_succ, List.countP_append, List.countP_singleton]
    cases hp : p n <;> cases hq : q n <;> simp_all <;> omega
theorem countP_lt {p q : Nat → Bool} (h : ∀ i, p i = true → q i = true) : ∀ n k, k < n → q k = true → p k = false → (List.range n).countP p < (List.range n).countP q
  | n + 1, k, hk, h1, h2 => by
    simp only [List.range_succ, List.countP_append, List.countP_singleton]
    by_cases e : k = n
    · subst e
      have := countP_mono h k
      rw [h1, h2]; simp; omega
    · have := countP_lt h n k (by omega) h1 h2
      have h3 := h n
      cases hp : p n <;> cases hq : q n <;> simp_all <;> omega
theorem cf_more {a b : List Bool} (h : moreB a b = true) : cf (orL a b) < cf a := by
  obtain ⟨i, hi, hb⟩ := List.any_eq_true.1 h
  rw [List.mem_range] at hi
  simp only [Bool.and_eq_true, Bool.not_eq_true'] at hb
  unfold cf
  rw [orL_len]
  have e : ∀ j, j < a.length → bo0 (orL a b) j = orF a b j := fun j hj => by
    have := orL_get (b := b) hj
    simp [bo0, this]
  have e2 : (List.range a.length).countP (fun i => !bo0 (orL a b) i) = (List.range a.length).countP (fun i => !orF a b i) := by
    apply List.countP_congr
    intro j hj
    rw [e j (List.mem_range.1 hj)]
  rw [e2]
  refine countP_lt (fun j hj => ?_) _ i hi (by simp [hb.2]) (by simp [orF, hb.1])
  simp only [orF, Bool.not_eq_true', Bool.or_eq_false_iff] at hj ⊢
  exact hj.1
/-! the sets of single nodes -/
structure SetP (w : List UInt8) (s : Cl) (fr : List Bool) (j : Nat) (out : List Bool) : Prop where
  len : out.length = w.length + 1
  get : ∀ q : Nat, out[q]? = some true ↔ ∃ p, p < j ∧ q = p + 1 ∧ fr[p]? = some true ∧ ∃ b, w[p]? = some b ∧ s.getLsbD b.toNat = true
theorem rep_no {n q : Nat} : ¬ (List.replicate n false)[q]? = some true := fun h => by
  have := List.mem_of_getElem? h
  simp at this
theorem IsS.none {N : Nat} : IsS (List.replicate (N + 1) false) N (fun _ => False) := ⟨by simp, fun p _ => ⟨fun h => absurd h rep_no, False.elim⟩⟩
theorem IsS.only {N k : Nat} (hk : k ≤ N) {v : Bool} {p : Prop} (hv : v = true ↔ p) : IsS ((List.replicate (N + 1) false).set k v) N (fun q => q = k ∧ p) := by
  refine ⟨by simp, fun q hq => ?_⟩
  by_cases e : k = q
  · subst e
    rw [List.getElem?_set_self (by simp; omega), Option.some.injEq, hv]
    exact ⟨fun h => ⟨rfl, h⟩, fun h => h.2⟩
  · rw [List.getElem?_set_ne e]
    exact ⟨fun h => absurd h rep_no, fun h => absurd h.1.symm e⟩
theorem IsS.one {N k : Nat} (hk : k ≤ N) : IsS ((List.replicate (N + 1) false).set k true) N (fun q => q = k) := (IsS.only hk (p := True) (by simp)).iff fun q _ => by simp
/-! answers that are read together with what was handed in -/
def OutP (N : Nat) (S : Nat → Prop) (vf : Value) (fr : List Bool) (v : Value) (S' : Hp) : Prop :=
  ∃ (a : Option Addr) (c : Nat) (l : List Bool), v = .slice a l.length c ∧ IsS l N S ∧ ∀ W : World, (∀ b o, (b, o) ∈ S' → W.heap[b]? = some o) → Rd Ebo W vf fr → Rd Ebo W v l
def OverC (P : Program) (fn : Nat) (w : List UInt8) (x : Nd) (ks : F) : Prop := ∀ (ra : Option Addr) (rc : Nat) (re : List Nd) (ta : Option Addr) (tc i i' : Nat) (fa : Option Addr) (fc : Nat) (fr : List Bool) (S : Nat → Prop),
  (∀ x ∈ re, -128 ≤ x.op ∧ x.op < 128) → (∀ x ∈ re, ¬ x.op = 8) → w.length ≤ 1000000 → Part re (.nd x ks .nil) i i' → IsS fr w.length S → (∀ p, S p → p ≤ w.length) →
  Fn P fn [.slice ra re.length rc, .int .i64 i, .slice ta w.length tc, .slice fa fr.length fc] (fun W => Rd En W (.slice ra re.length rc) re ∧ Rd Eb W (.slice ta w.length tc) w ∧ Rd Ebo W (.slice fa fr.length fc) fr) [] (OutP w.length (img (der1 w x ks) S) (.slice fa fr.length fc) fr)
def RdC (vf : Value) (fr : List Bool) (v : Value) (l : List Bool) (S : Hp) : Prop := ∀ W : World, (∀ b o, (b, o) ∈ S → W.heap[b]? = some o) → Rd Ebo W vf fr → Rd Ebo W v l
theorem img_zero {D : Nat → Nat → Prop} {S : Nat → Prop} {q : Nat} : img (pow D 0) S q ↔ S q := ⟨fun ⟨p, h, e⟩ => by obtain rfl : p = q := e; exact h, fun h => ⟨q, h, rfl⟩⟩
theorem rounds_last {k : Nat} {x : Nd} {D : Nat → Nat → Prop} {S : Nat → Prop} (h0 : 0 ≤ x.mn) (hmx : x.mx = k) (q : Nat) : upTo D S x.mn.toNat k q ↔ img (rounds x D) S q := by
  rw [img_rounds h0]
  constructor
  · rintro ⟨j, h1, h2, h3⟩; exact ⟨j, h1, .inr (by omega), h3⟩
  · rintro ⟨j, h1, h2, h3⟩; exact ⟨j, h1, by omega, h3⟩
theorem img_cat {w : List UInt8} {y : Nd} {js r : F} {T : Nat → Prop} {p : Nat} : img (der w r false) (img (der1 w y js) T) p ↔ img (der w (.nd y js r) false) T p := by
  constructor
  · rintro ⟨t, ⟨u, h1, h2⟩, h3⟩; exact ⟨u, h1, der_cat.2 ⟨t, h2, h3⟩⟩
  · rintro ⟨u, h1, h2⟩; obtain ⟨t, h3, h4⟩ := der_cat.1 h2; exact ⟨t, ⟨u, h1, h3⟩, h4⟩
theorem img_nil {w : List UInt8} {T : Nat → Prop} {p : Nat} : img (der w .nil false) T p ↔ T p := ⟨fun ⟨u, h1, h2⟩ => by obtain rfl := der_nil.1 h2; exact h1, fun h => ⟨p, h, der_nil.2 rfl⟩⟩
theorem img_rep6 {w : List UInt8} {x : Nd} {ks : F} {T : Nat → Prop} {p : Nat} (h6 : x.op = 6) : img (der1 w x ks) T p ↔ img (rounds x (der w ks false)) T p := by
  simp only [img, der1_def, if_neg (show ¬ x.op = 1 by omega), if_neg (show ¬ x.op = 2 by omega), if_neg (show ¬ x.op = 3 by omega), if_neg (show ¬ x.op = 5 by omega), if_pos h6]
theorem grp_kid {x : Nd} {ks : F} (h : (F.nd x ks .nil).wf) (h7 : x.op = 7) : ∃ y js, ks = .nd y js .nil := by
  have h1 := h.1
  have h2 : (ks.num : Int) = x.kids := h.2.1
  simp only [ndOk, Bool.and_eq_true] at h1
  have h3 := h1.2
  rw [kidsOk, if_pos (.inr h7), decide_eq_true_eq] at h3
  cases ks with
  | nil => simp [F.num] at h2; omega
  | nd y js r =>
    cases r with
    | nil => exact ⟨y, js, rfl⟩
    | nd z a b => simp only [F.num] at h2; omega
end Go.HL.Kl.Mc

/- Where runs lead at a place: the search. Conditions: none. -/
namespace Go.HL.Kl.Mc
open Go Go.HL Go.HL.Kl
def succs (t : In) (n p i : Nat) : List Nat :=
  if t.op = 2 then (if p = 0 then [i + 1] else []) else if t.op = 3 then (if p = n then [i + 1] else [])
  else if t.op = 4 then [t.x.toNat] else if t.op = 5 then [t.x.toNat, t.y.toNat] else []
theorem eps_succs {m : List In} {n p i j : Nat} {t : In} (hm : MOk m) (ht : m[i]? = some t) : Eps m n p i j ↔ j ∈ succs t n p i := by
  have hb := (hm.2.2 i t ht).1.bnd
  unfold Eps succs
  constructor
  · rintro ⟨u, hu, h⟩
    rw [ht] at hu; cases hu
    rcases h with ⟨ho, h1, h2⟩ | ⟨ho, h1, h2⟩ | ⟨ho, h1⟩ | ⟨ho, h1 | h1⟩
    · rw [if_pos ho, if_pos h1, h2]; simp
    · rw [if_neg (by omega), if_pos ho, if_pos h1, h2]; simp
    · rw [if_neg (by omega), if_neg (by omega), if_pos ho, h1]; simp
    · rw [if_neg (by omega), if_neg (by omega), if_neg (by omega), if_pos ho, h1]; simp
    · rw [if_neg (by omega), if_neg (by omega), if_neg (by omega), if_pos ho, h1]; simp
  · intro h
    refine ⟨t, ht, ?_⟩
    split at h
    · split at h
      · simp at h; exact .inl ⟨‹_›, ‹_›, h⟩
      · cases h
    split at h
    · split at h
      · simp at h; exact .inr (.inl ⟨‹_›, ‹_›, h⟩)
      · cases h
    split at h
    · simp at h; exact .inr (.inr (.inl ⟨‹_›, by omega⟩))
    split at h
    · simp at h
      rcases h with h | h
      · exact .inr (.inr (.inr ⟨‹_›, .inl (by omega)⟩))
      · exact .inr (.inr (.inr ⟨‹_›, .inr (by omega)⟩))
    · cases h
structure Srch (m : List In) (n p from_ : Nat) (s0 sn : List Bool) (todo : List Nat) : Prop where
  len : sn.length = m.length
  a : ∀ i : Nat, s0[i]? = some true → sn[i]? = some true
  b : ∀ i : Nat, sn[i]? = some true → s0[i]? = some true ∨ EpsS m n p from_ i
  c : ∀ t ∈ todo, EpsS m n p from_ t ∧ t < m.length
  d : ∀ i j : Nat, sn[i]? = some true → Eps m n p i j → sn[j]? = some true ∨ j ∈ todo
  e : sn[from_]? = some true ∨ from_ ∈ todo
def unseen (l : List Bool) : Nat := l.countP (!·)
end Go.HL.Kl.Mc

/- Where runs lead, place by place. Conditions: none. -/
namespace Go.HL.Kl.Mc
open Go Go.HL Go.HL.Kl
def Begn (m : List In) (w : List UInt8) (f p j : Nat) : Prop := (p = f ∧ j = 0) ∨ (f < p ∧ ∃ i, j = i + 1 ∧ Run m w (0, f) (i, p - 1) ∧ Eat m w i (p - 1))
end Go.HL.Kl.Mc

/- What Ends answers. Conditions: none. -/
namespace Go.HL.Kl.Mc
open Go Go.HL Go.HL.Kl
def EndsP (m : List In) (w : List UInt8) (f : Int) (out : List Bool) : Prop := out.length = w.length + 1 ∧ ∀ t : Nat, out[t]? = some true ↔ MOk m ∧ ∃ g : Nat, f = g ∧ g ≤ w.length ∧ Hit m w g t
def SeenP (m : List In) (w : List UInt8) (p : Nat) (q : List Nat) (k : Nat) (sn : List Bool) : Prop :=
  sn.length = m.length ∧ (∀ i : Nat, sn[i]? = some true ↔ ∃ t j : Nat, t < k ∧ q[t]? = some j ∧ EpsS m w.length p j i) ∧ ∀ i j : Nat, sn[i]? = some true → Eps m w.length p i j → sn[j]? = some true
structure PassP (m : List In) (w : List UInt8) (p : Nat) (sn out : List Bool) (k : Nat) (o2 : List Bool) (q2 : List Nat) : Prop where
  len : o2.length = out.length
  st : ∀ j, j ∈ q2 ↔ ∃ i, i < k ∧ j = i + 1 ∧ sn[i]? = some true ∧ Eat m w i p
  out : ∀ t : Nat, o2[t]? = some true ↔ out[t]? = some true ∨ (t = p ∧ ∃ i u, i < k ∧ sn[i]? = some true ∧ m[i]? = some u ∧ u.op = 6)
  le : q2.length ≤ k
def EndsC (m : List In) (w : List UInt8) (f : Int) (v : Value) (S : Hp) : Prop := ∃ (a : Option Addr) (c : Nat) (out : List Bool), v = .slice a (w.length + 1) c ∧ OwnS Ebo 1 4 v out S ∧ EndsP m w f out
end Go.HL.Kl.Mc

/- Part of the proofs over this seat: see the text that holds the theorem. Conditions: each theorem bears its own. -/
namespace Go.Tab
open Go Go.HL

structure Fill {α : Type} (f : Nat → α) (n j : Nat) (l : List α) : Prop where
  len : l.length = n
  get : ∀ i, i < j → l[i]? = some (f i)
theorem Fill.zero {α : Type} {f : Nat → α} {l : List α} {n : Nat} (h : l.length = n) : Fill f n 0 l := ⟨h, fun _ h => by omega⟩
theorem Fill.step {α : Type} {f : Nat → α} {n j : Nat} {l : List α} (h : Fill f n j l) (hj : j < n) {y : α} (hy : y = f j) : Fill f n (j + 1) (l.set j y) := by
  refine ⟨by simp [h.len], fun i hi => ?_⟩
  subst hy
  by_cases e : j = i
  · subst e; rw [List.getElem?_set_self (by rw [h.len]; exact hj)]
  · rw [List.getElem?_set_ne e]; exact h.get i (by omega)
theorem Fill.done {α : Type} {f : Nat → α} {n j : Nat} {l : List α} (h : Fill f n j l) (hj : n ≤ j) : l = (List.range n).map f := by
  apply List.ext_getElem?
  intro i
  by_cases hi : i < n
  · rw [h.get i (by omega), List.getElem?_map, List.getElem?_range hi]; rfl
  · rw [List.getElem?_eq_none (by rw [h.len]; omega), List.getElem?_eq_none (by simp; omega)]

def idT : List UInt8 := (List.range 256).map UInt8.ofNat
def at0 (t : List UInt8) (i : Nat) : UInt8 := t.getD i 0
def thenT (t u : List UInt8) : List UInt8 := (List.range 256).map fun i => at0 u (at0 t i).toNat
def applyT (t b : List UInt8) : List UInt8 := (List.range b.length).map fun i => at0 t (at0 b i).toNat
def newAt (f t : List UInt8) : Nat → Option (List UInt8)
  | 0 => some idT
  | j + 1 => if at0 f j ∈ f.take j then none else (newAt f t j).map (·.set (at0 f j).toNat (at0 t j))
def newR (f t : List UInt8) : Option (List UInt8) := if f.length = t.length then newAt f t f.length else none
def zT : List UInt8 := List.replicate 256 0
def tabV (r : Option (List UInt8)) : Value := .tuple #[.agg (flat Eb (r.getD zT)).toArray, .int .i64 (if r.isSome then 0 else 60)]

def xyT : List UInt8 := (idT.set 97 120).set 98 121
attribute [irreducible] idT thenT applyT xyT
end Go.Tab

/- Lists with room behind them, of any kind. Conditions: none. -/
namespace Go.HL
open Go Go.Tab
section
variable {α : Type}
def wdlF (d : Nat → α) (xs : List α) (i : Nat) : α := (xs[i]?).getD (d i)
def wdl (d : Nat → α) (xs : List α) : List α := (List.range (xs.length + 64)).map (wdlF d xs)
theorem ext_upto {a b : List α} (hl : a.length = b.length) (h : ∀ i, i < a.length → a[i]? = b[i]?) : a = b := by
  apply List.ext_getElem?
  intro i
  by_cases hi : i < a.length
  · exact h i hi
  · rw [List.getElem?_eq_none (by omega), List.getElem?_eq_none (by omega)]
attribute [irreducible] wdl wdlF
end
end Go.HL

/- Spare instructions; the node of one byte. Conditions: none. -/
namespace Go.HL.Kl.Mc
open Go Go.HL Go.HL.Kl
def spI (i : Nat) : In := ⟨0, 0, ((1048576 * 9 + i + 1 : Nat) : Int), -7⟩
def letN (b : UInt8) : Nd := ⟨1, bit b.toNat, 0, 0, 0, 0⟩
end Go.HL.Kl.Mc

/- The known run: the machine of a* over aab. Conditions: none. -/
namespace Go.HL.Kl.Mc
open Go Go.HL Go.HL.Kl
def starN : Nd := ⟨6, 0, 0, 0, -1, 1⟩
def reW : List Nd := [starN, letN 97]
def ksW : F := .nd (letN 97) .nil .nil
def mW : List In := mach (.nd starN ksW .nil)
theorem Shp.uniq {re : List Nd} {x y : Nd} {ks js : F} (h : Shp re x ks) (h' : Shp re y js) : x = y ∧ ks = js := by
  have := flat_inj (.nd x ks .nil) (.nd y js .nil) [] [] h.wf h'.wf rfl (by simp only [F.flat, List.append_nil]; rw [← h.flat, ← h'.flat])
  simpa using this.1
def wW : List UInt8 := [97, 97, 98]
attribute [irreducible] mW
end Go.HL.Kl.Mc

/- Runs and derivations lead to the same places. Conditions: none. -/
namespace Go.HL.Kl.Mc
open Go Go.HL Go.HL.Kl
theorem no_refs {re : List Nd} (hs : shapedB re = true) (hr : refsB re = false) : ∀ x ∈ re, ¬ x.op = 8 := fun x hx h8 => by rw [refs_yes hs hx h8] at hr; cases hr
theorem Shp.mok {re : List Nd} {x : Nd} {ks : F} (h : Shp re x ks) : MOk (mach (.nd x ks .nil)) := mach_ok h.wf h.weight
end Go.HL.Kl.Mc
