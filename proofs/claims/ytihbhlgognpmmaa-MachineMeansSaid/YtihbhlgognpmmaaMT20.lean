/- Sets of places, made: of one node, of two sets. Conditions: none. -/
import Derived.Test.YtihbhlgognpmmaaMT9
import Derived.Test.YtihbhlgognpmmaaMT5
import Derived.Test.YtihbhlgognpmmaaMT14
namespace Go.HL.Kl.Mc
open Go Go.HL Go.HL.Kl
/-! forests, one behind the other -/
def F.app : F → F → F
  | .nil, g => g
  | .nd x ks r, g => .nd x ks (r.app g)
theorem F.num_app : ∀ f g : F, (f.app g).num = f.num + g.num
  | .nil, g => by simp [F.app, F.num]
  | .nd x ks r, g => by simp only [F.app, F.num, F.num_app r g]; omega
theorem F.flat_app : ∀ f g : F, (f.app g).flat = f.flat ++ g.flat
  | .nil, g => by simp [F.app, F.flat]
  | .nd x ks r, g => by simp [F.app, F.flat, F.flat_app r g]
theorem F.size_app : ∀ f g : F, (f.app g).size = f.size + g.size
  | .nil, g => by simp [F.app, F.size]
  | .nd x ks r, g => by simp only [F.app, F.size, F.size_app r g]; omega
theorem F.wf_app : ∀ {f g : F}, f.wf → g.wf → (f.app g).wf
  | .nil, g, _, h => h
  | .nd x ks r, g, ⟨a, b, c, d⟩, h => ⟨a, b, c, F.wf_app d h⟩
theorem Part.down {re : List Nd} {y : Nd} {js r : F} {p i' : Nat} (h : Part re (.nd y js r) p i') : Part re (js.app r) (p + 1) i' := by
  obtain ⟨_, h1, h2⟩ := h.head
  have hl := h.len
  simp only [F.size] at hl
  exact ⟨F.wf_app h1.wf h2.wf, by rw [h1.flat, h2.flat, F.flat_app, List.append_assoc], by rw [F.size_app]; omega, h.le⟩
theorem F.num_nil {f : F} (h : f.num = 0) : f = .nil := by
  cases f with
  | nil => rfl
  | nd x ks r => simp [F.num] at h
/-! lists of booleans -/
def bo0 (l : List Bool) (i : Nat) : Bool := l.getD i false
theorem bo0_get {l : List Bool} {i : Nat} (h : i < l.length) : l[i]? = some (bo0 l i) := by simp [bo0, h]
theorem bo0_true {l : List Bool} {i : Nat} : bo0 l i = true ↔ l[i]? = some true := by
  unfold bo0
  rw [List.getD_eq_getElem?_getD]
  cases l[i]? <;> simp
def orF (a b : List Bool) (i : Nat) : Bool := bo0 a i || bo0 b i
def orL (a b : List Bool) : List Bool := (List.range a.length).map (orF a b)
theorem orL_len (a b : List Bool) : (orL a b).length = a.length := by simp [orL]
theorem orL_get {a b : List Bool} {i : Nat} (h : i < a.length) : (orL a b)[i]? = some (orF a b i) := by
  unfold orL
  rw [List.getElem?_map, List.getElem?_range h]; rfl
/-- is there one of b that is not of a, among the first k? -/
def moreTo (a b : List Bool) (k : Nat) : Bool := (List.range k).any fun i => bo0 b i && !bo0 a i
def moreB (a b : List Bool) : Bool := moreTo a b a.length
theorem moreTo_zero {a b : List Bool} : moreTo a b 0 = false := rfl
theorem moreTo_succ {a b : List Bool} {k : Nat} : moreTo a b (k + 1) = (moreTo a b k || (bo0 b k && !bo0 a k)) := by simp [moreTo, List.range_succ]
theorem moreTo_yes {a b : List Bool} {k : Nat} (h : moreTo a b k = true) : moreTo a b (k + 1) = true := by rw [moreTo_succ, h]; rfl
theorem moreTo_no {a b : List Bool} {k : Nat} {v : Bool} (h : moreTo a b k = false) (hv : v = (bo0 b k && !bo0 a k)) : moreTo a b (k + 1) = v := by rw [moreTo_succ, h, hv]; rfl
theorem IsS.or {a b : List Bool} {N : Nat} {S T : Nat → Prop} (ha : IsS a N S) (hb : IsS b N T) : IsS (orL a b) N (fun q => S q ∨ T q) :=
  ⟨by rw [orL_len, ha.len], fun p hp => by
    rw [orL_get (by rw [ha.len]; omega), ← ha.get p hp, ← hb.get p hp, ← bo0_true, ← bo0_true]
    simp [orF]⟩
theorem IsS.no_more {a b : List Bool} {N : Nat} {S T : Nat → Prop} (ha : IsS a N S) (hb : IsS b N T) (h : moreB a b = false) : ∀ q, q ≤ N → T q → S q := fun q hq ht => by
  rw [← ha.get q hq, ← bo0_true]
  rw [← hb.get q hq, ← bo0_true] at ht
  have h1 := List.any_eq_false.1 h q (by rw [List.mem_range, ha.len]; omega)
  rw [ht] at h1
  simpa using h1
/-- how many are not in the set -/
def cf (l : List Bool) : Nat := (List.range l.length).countP fun i => !bo0 l i
theorem cf_le (l : List Bool) : cf l ≤ l.length := by
  have := List.countP_le_length (p := fun i => !bo0 l i) (l := List.range l.length)
  simpa [cf] using this
theorem countP_mono {p q : Nat → Bool} (h : ∀ i, p i = true → q i = true) : ∀ n, (List.range n).countP p ≤ (List.range n).countP q
  | 0 => by simp
  | n + 1 => by
    have := countP_mono h n
    have h1 := h n
    simp only [List.range_succ, List.countP_append, List.countP_singleton]
    cases hp : p n <;> cases hq : q n <;> simp_all <;> omega
theorem countP_lt {p q : Nat → Bool} (h : ∀ i, p i = true → q i = true) : ∀ n k, k < n → q k = true → p k = false → (List.range n).countP p < (List.range n).countP q
  | n + 1, k, hk, h1, h2 => by
    simp only [List.range_succ, List.countP_append, List.countP_singleton]
    by_cases e : k = n
    · subst e
      have := countP_mono h k
      rw [h1, h2]; simp; omega
    · have := countP_lt h n k (by omega) h1 h2
      have h3 := h n
      cases hp : p n <;> cases hq : q n <;> simp_all <;> omega
theorem cf_more {a b : List Bool} (h : moreB a b = true) : cf (orL a b) < cf a := by
  obtain ⟨i, hi, hb⟩ := List.any_eq_true.1 h
  rw [List.mem_range] at hi
  simp only [Bool.and_eq_true, Bool.not_eq_true'] at hb
  unfold cf
  rw [orL_len]
  have e : ∀ j, j < a.length → bo0 (orL a b) j = orF a b j := fun j hj => by
    have := orL_get (b := b) hj
    simp [bo0, this]
  have e2 : (List.range a.length).countP (fun i => !bo0 (orL a b) i) = (List.range a.length).countP (fun i => !orF a b i) := by
    apply List.countP_congr
    intro j hj
    rw [e j (List.mem_range.1 hj)]
  rw [e2]
  refine countP_lt (fun j hj => ?_) _ i hi (by simp [hb.2]) (by simp [orF, hb.1])
  simp only [orF, Bool.not_eq_true', Bool.or_eq_false_iff] at hj ⊢
  exact hj.1
/-! the sets of single nodes -/
structure SetP (w : List UInt8) (s : Cl) (fr : List Bool) (j : Nat) (out : List Bool) : Prop where
  len : out.length = w.length + 1
  get : ∀ q : Nat, out[q]? = some true ↔ ∃ p, p < j ∧ q = p + 1 ∧ fr[p]? = some true ∧ ∃ b, w[p]? = some b ∧ s.getLsbD b.toNat = true
theorem rep_no {n q : Nat} : ¬ (List.replicate n false)[q]? = some true := fun h => by
  have := List.mem_of_getElem? h
  simp at this
theorem SetP.zero {w : List UInt8} {s : Cl} {fr : List Bool} : SetP w s fr 0 (List.replicate (w.length + 1) false) :=
  ⟨by simp, fun q => ⟨fun h => absurd h rep_no, fun ⟨_, h, _⟩ => by omega⟩⟩
theorem SetP.step {w : List UInt8} {s : Cl} {fr out : List Bool} {j : Nat} (h : SetP w s fr j out) (hj : j < w.length) {v : Bool} (hv : v = true ↔ fr[j]? = some true ∧ ∃ b, w[j]? = some b ∧ s.getLsbD b.toNat = true) : SetP w s fr (j + 1) (out.set (j + 1) v) := by
  refine ⟨by rw [List.length_set]; exact h.len, fun q => ?_⟩
  by_cases e : j + 1 = q
  · subst e
    rw [List.getElem?_set_self (by rw [h.len]; omega), Option.some.injEq, hv]
    constructor
    · rintro ⟨h1, h2⟩; exact ⟨j, by omega, rfl, h1, h2⟩
    · rintro ⟨p, _, h2, h3, h4⟩
      obtain rfl : j = p := by omega
      exact ⟨h3, h4⟩
  · rw [List.getElem?_set_ne e, h.get]
    constructor
    · rintro ⟨p, h1, h2⟩; exact ⟨p, by omega, h2⟩
    · rintro ⟨p, h1, h2, h3⟩; exact ⟨p, by omega, h2, h3⟩
theorem SetP.done {w : List UInt8} {x : Nd} {ks : F} {fr out : List Bool} {S : Nat → Prop} (h : SetP w x.set fr w.length out) (h1 : x.op = 1) (hS : IsS fr w.length S) : IsS out w.length (img (der1 w x ks) S) := by
  refine ⟨h.len, fun q _ => (h.get q).trans ?_⟩
  simp only [img, der1_def, if_pos h1]
  constructor
  · rintro ⟨p, h2, rfl, h3, h4⟩; exact ⟨p, (hS.get p (by omega)).1 h3, rfl, h4⟩
  · rintro ⟨p, h2, rfl, b, hb, h4⟩
    have := (List.getElem?_eq_some_iff.1 hb).1
    exact ⟨p, this, rfl, (hS.get p (by omega)).2 h2, b, hb, h4⟩
theorem IsS.none {N : Nat} : IsS (List.replicate (N + 1) false) N (fun _ => False) := ⟨by simp, fun p _ => ⟨fun h => absurd h rep_no, False.elim⟩⟩
theorem IsS.only {N k : Nat} (hk : k ≤ N) {v : Bool} {p : Prop} (hv : v = true ↔ p) : IsS ((List.replicate (N + 1) false).set k v) N (fun q => q = k ∧ p) := by
  refine ⟨by simp, fun q hq => ?_⟩
  by_cases e : k = q
  · subst e
    rw [List.getElem?_set_self (by simp; omega), Option.some.injEq, hv]
    exact ⟨fun h => ⟨rfl, h⟩, fun h => h.2⟩
  · rw [List.getElem?_set_ne e]
    exact ⟨fun h => absurd h rep_no, fun h => absurd h.1.symm e⟩
theorem IsS.bol {w : List UInt8} {x : Nd} {ks : F} {fr : List Bool} {S : Nat → Prop} (h2 : x.op = 2) (hS : IsS fr w.length S) : IsS ((List.replicate (w.length + 1) false).set 0 (bo0 fr 0)) w.length (img (der1 w x ks) S) := by
  refine (IsS.only (Nat.zero_le _) (bo0_true.trans (hS.get 0 (Nat.zero_le _)))).iff fun q _ => ?_
  simp only [img, der1_def, if_neg (show ¬ x.op = 1 by omega), if_pos h2]
  exact ⟨fun ⟨h, h'⟩ => ⟨0, h', rfl, h⟩, fun ⟨p, h, h', h''⟩ => ⟨h'', h' ▸ h⟩⟩
theorem IsS.eol {w : List UInt8} {x : Nd} {ks : F} {fr : List Bool} {S : Nat → Prop} (h3 : x.op = 3) (hS : IsS fr w.length S) : IsS ((List.replicate (w.length + 1) false).set w.length (bo0 fr w.length)) w.length (img (der1 w x ks) S) := by
  refine (IsS.only (Nat.le_refl _) (bo0_true.trans (hS.get w.length (Nat.le_refl _)))).iff fun q _ => ?_
  simp only [img, der1_def, if_neg (show ¬ x.op = 1 by omega), if_neg (show ¬ x.op = 2 by omega), if_pos h3]
  exact ⟨fun ⟨h, h'⟩ => ⟨w.length, h', rfl, h⟩, fun ⟨p, h, h', h''⟩ => ⟨by omega, h' ▸ h⟩⟩
/-- one place -/
theorem IsS.one {N k : Nat} (hk : k ≤ N) : IsS ((List.replicate (N + 1) false).set k true) N (fun q => q = k) := (IsS.only hk (p := True) (by simp)).iff fun q _ => by simp
/-! answers that are read together with what was handed in -/
def OutP (N : Nat) (S : Nat → Prop) (vf : Value) (fr : List Bool) (v : Value) (S' : Hp) : Prop :=
  ∃ (a : Option Addr) (c : Nat) (l : List Bool), v = .slice a l.length c ∧ IsS l N S ∧ ∀ W : World, (∀ b o, (b, o) ∈ S' → W.heap[b]? = some o) → Rd Ebo W vf fr → Rd Ebo W v l
/-- the contract of over and of rounds -/
def OverC (P : Program) (fn : Nat) (w : List UInt8) (x : Nd) (ks : F) : Prop := ∀ (ra : Option Addr) (rc : Nat) (re : List Nd) (ta : Option Addr) (tc i i' : Nat) (fa : Option Addr) (fc : Nat) (fr : List Bool) (S : Nat → Prop),
  (∀ x ∈ re, -128 ≤ x.op ∧ x.op < 128) → (∀ x ∈ re, ¬ x.op = 8) → w.length ≤ 1000000 → Part re (.nd x ks .nil) i i' → IsS fr w.length S → (∀ p, S p → p ≤ w.length) →
  Fn P fn [.slice ra re.length rc, .int .i64 i, .slice ta w.length tc, .slice fa fr.length fc] (fun W => Rd En W (.slice ra re.length rc) re ∧ Rd Eb W (.slice ta w.length tc) w ∧ Rd Ebo W (.slice fa fr.length fc) fr) [] (OutP w.length (img (der1 w x ks) S) (.slice fa fr.length fc) fr)
/-- read, given a part of the heap and what was handed in -/
def RdC (vf : Value) (fr : List Bool) (v : Value) (l : List Bool) (S : Hp) : Prop := ∀ W : World, (∀ b o, (b, o) ∈ S → W.heap[b]? = some o) → Rd Ebo W vf fr → Rd Ebo W v l
theorem RdC.self {vf : Value} {fr : List Bool} : RdC vf fr vf fr [] := fun _ _ h => h
theorem RdC.of {vf v : Value} {fr l : List Bool} {S : Hp} (h : RdS Ebo v l S) : RdC vf fr v l S := fun W hs _ => h.out W hs
theorem RdC.trans {vf v u : Value} {fr l m : List Bool} {S S' : Hp} (h : RdC vf fr v l S) (h' : RdC v l u m S') : RdC vf fr u m (S' ++ S) := fun W hs hf =>
  h' W (fun b o hm => hs b o (List.mem_append_left _ hm)) (h W (fun b o hm => hs b o (List.mem_append_right _ hm)) hf)
theorem RdC.mono {vf v : Value} {fr l : List Bool} {S S' : Hp} (h : RdC vf fr v l S) (hs : HIn S S') : RdC vf fr v l S' := fun W hw hf => h W (fun b o hm => hw b o (hs _ hm)) hf
theorem RdC.rdk {n : Nat} {ds : List Deferred} {w0 : World} {H S : Hp} {vf v : Value} {fr l : List Bool} (h : RdC vf fr v l S) (hf : Rd Ebo w0 vf fr) (hs : HIn S H) : RdK Ebo ⟨n, ds, w0, []⟩ H v l :=
  ⟨fun W st => h W (fun b o hm => st.has b o (hs _ hm)) ((RdK.old0 (H := H) (n := n) (ds := ds) hf).out W st)⟩
theorem img_zero {D : Nat → Nat → Prop} {S : Nat → Prop} {q : Nat} : img (pow D 0) S q ↔ S q := ⟨fun ⟨p, h, e⟩ => by obtain rfl : p = q := e; exact h, fun h => ⟨q, h, rfl⟩⟩
theorem rounds_fixed {N k : Nat} {x : Nd} {D : Nat → Nat → Prop} {S : Nat → Prop} (h0 : 0 ≤ x.mn) (hmx : x.mx = -1) (hk : x.mn.toNat ≤ k) (hS : ∀ p, S p → p ≤ N) (hD : Inn N D) (h : ∀ q, q ≤ N → img (pow D (k + 1)) S q → upTo D S x.mn.toNat k q) (q : Nat) : upTo D S x.mn.toNat k q ↔ img (rounds x D) S q := by
  rw [img_rounds h0]
  constructor
  · rintro ⟨j, h1, _, h3⟩; exact ⟨j, h1, .inl hmx, h3⟩
  · rintro ⟨j, h1, _, h3⟩; exact upTo_fix hS hD hk h q ⟨j, h1, h3⟩
theorem rounds_last {k : Nat} {x : Nd} {D : Nat → Nat → Prop} {S : Nat → Prop} (h0 : 0 ≤ x.mn) (hmx : x.mx = k) (q : Nat) : upTo D S x.mn.toNat k q ↔ img (rounds x D) S q := by
  rw [img_rounds h0]
  constructor
  · rintro ⟨j, h1, h2, h3⟩; exact ⟨j, h1, .inr (by omega), h3⟩
  · rintro ⟨j, h1, h2, h3⟩; exact ⟨j, h1, by omega, h3⟩
theorem img_cat {w : List UInt8} {y : Nd} {js r : F} {T : Nat → Prop} {p : Nat} : img (der w r false) (img (der1 w y js) T) p ↔ img (der w (.nd y js r) false) T p := by
  constructor
  · rintro ⟨t, ⟨u, h1, h2⟩, h3⟩; exact ⟨u, h1, der_cat.2 ⟨t, h2, h3⟩⟩
  · rintro ⟨u, h1, h2⟩; obtain ⟨t, h3, h4⟩ := der_cat.1 h2; exact ⟨t, ⟨u, h1, h3⟩, h4⟩
theorem img_alt {w : List UInt8} {y : Nd} {js r : F} {T : Nat → Prop} {p : Nat} : img (der w (.nd y js r) true) T p ↔ img (der1 w y js) T p ∨ img (der w r true) T p := by
  constructor
  · rintro ⟨u, h1, h2⟩; exact (der_alt.1 h2).imp (fun h => ⟨u, h1, h⟩) fun h => ⟨u, h1, h⟩
  · rintro (⟨u, h1, h2⟩ | ⟨u, h1, h2⟩)
    · exact ⟨u, h1, der_alt.2 (.inl h2)⟩
    · exact ⟨u, h1, der_alt.2 (.inr h2)⟩
theorem img_nil {w : List UInt8} {T : Nat → Prop} {p : Nat} : img (der w .nil false) T p ↔ T p := ⟨fun ⟨u, h1, h2⟩ => by obtain rfl := der_nil.1 h2; exact h1, fun h => ⟨p, h, der_nil.2 rfl⟩⟩
theorem img_nil' {w : List UInt8} {T : Nat → Prop} {p : Nat} : ¬ img (der w .nil true) T p := fun ⟨u, h1, h2⟩ => der_nil'.1 h2
theorem img_inn {w : List UInt8} {x : Nd} {ks : F} {T : Nat → Prop} (h : ∀ p, T p → p ≤ w.length) : ∀ p, img (der1 w x ks) T p → p ≤ w.length := fun p ⟨u, h1, h2⟩ => der1_inn _ _ (h u h1) h2
theorem img_else {w : List UInt8} {x : Nd} {ks : F} {T : Nat → Prop} {p : Nat} (h1 : ¬ x.op = 1) (h2 : ¬ x.op = 2) (h3 : ¬ x.op = 3) (h5 : ¬ x.op = 5) (h6 : ¬ x.op = 6) : img (der1 w x ks) T p ↔ img (der w ks false) T p := by
  simp only [img, der1_def, if_neg h1, if_neg h2, if_neg h3, if_neg h5, if_neg h6]
theorem img_alt5 {w : List UInt8} {x : Nd} {ks : F} {T : Nat → Prop} {p : Nat} (h5 : x.op = 5) : img (der1 w x ks) T p ↔ img (der w ks true) T p := by
  simp only [img, der1_def, if_neg (show ¬ x.op = 1 by omega), if_neg (show ¬ x.op = 2 by omega), if_neg (show ¬ x.op = 3 by omega), if_pos h5]
theorem img_rep6 {w : List UInt8} {x : Nd} {ks : F} {T : Nat → Prop} {p : Nat} (h6 : x.op = 6) : img (der1 w x ks) T p ↔ img (rounds x (der w ks false)) T p := by
  simp only [img, der1_def, if_neg (show ¬ x.op = 1 by omega), if_neg (show ¬ x.op = 2 by omega), if_neg (show ¬ x.op = 3 by omega), if_neg (show ¬ x.op = 5 by omega), if_pos h6]
theorem grp_kid {x : Nd} {ks : F} (h : (F.nd x ks .nil).wf) (h7 : x.op = 7) : ∃ y js, ks = .nd y js .nil := by
  have h1 := h.1
  have h2 : (ks.num : Int) = x.kids := h.2.1
  simp only [ndOk, Bool.and_eq_true] at h1
  have h3 := h1.2
  rw [kidsOk, if_pos (.inr h7), decide_eq_true_eq] at h3
  cases ks with
  | nil => simp [F.num] at h2; omega
  | nd y js r =>
    cases r with
    | nil => exact ⟨y, js, rfl⟩
    | nd z a b => simp only [F.num] at h2; omega
theorem OutP.of {N n c : Nat} {S : Nat → Prop} {vf : Value} {fr l : List Bool} {a : Option Addr} {S' : Hp} (h : OwnS Ebo 1 4 (.slice a n c) l S') (hn : l.length = n) (hi : IsS l N S) : OutP N S vf fr (.slice a n c) S' := ⟨a, c, l, by rw [hn], hi, by subst hn; exact RdC.of h.rds⟩
theorem shortB {c n : Nat} {m : Int} (hc : (c : Int) ≤ m) (hm : m ≤ 33554432) (hn : n ≤ 1000000) : c * (n + 2) ≤ 33554432 * 1000002 := Nat.mul_le_mul (by omega) (by omega)
end Go.HL.Kl.Mc
