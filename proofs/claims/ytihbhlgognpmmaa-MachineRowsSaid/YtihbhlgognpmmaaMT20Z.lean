/- Sets of places, made: of one node, of two sets. Conditions: none. -/
import Derived.Test.YtihbhlgognpmmaaMT9Z
import Derived.Test.YtihbhlgognpmmaaMT4Z
import Derived.Test.YtihbhlgognpmmaaNW9Z
import Derived.Test.YtihbhlgognpmmaaNW15Z
import Derived.Test.YtihbhlgognpmmaaNW11Z
import Derived.Test.YtihbhlgognpmmaaMT7Z
import Derived.Test.YtihbhlgognpmmaaHlB
namespace Go.HL.Kl.Mc
open Go Go.HL Go.HL.Kl
/-! forests, one behind the other -/
def F.app : F → F → F
  | .nil, g => g
  | .nd x ks r, g => .nd x ks (r.app g)
theorem F.num_app : ∀ f g : F, (f.app g).num = f.num + g.num
  | .nil, g => by simp [F.app, F.num]
  | .nd x ks r, g => by simp only [F.app, F.num, F.num_app r g]; omega
theorem F.flat_app : ∀ f g : F, (f.app g).flat = f.flat ++ g.flat
  | .nil, g => by simp [F.app, F.flat]
  | .nd x ks r, g => by simp [F.app, F.flat, F.flat_app r g]
theorem F.size_app : ∀ f g : F, (f.app g).size = f.size + g.size
  | .nil, g => by simp [F.app, F.size]
  | .nd x ks r, g => by simp only [F.app, F.size, F.size_app r g]; omega
theorem F.wf_app : ∀ {f g : F}, f.wf → g.wf → (f.app g).wf
  | .nil, g, _, h => h
  | .nd x ks r, g, ⟨a, b, c, d⟩, h => ⟨a, b, c, F.wf_app d h⟩
theorem Part.down {re : List Nd} {y : Nd} {js r : F} {p i' : Nat} (h : Part re (.nd y js r) p i') : Part re (js.app r) (p + 1) i' := by
  obtain ⟨_, h1, h2⟩ := h.head
  have hl := h.len
  simp only [F.size] at hl
  exact ⟨F.wf_app h1.wf h2.wf, by rw [h1.flat, h2.flat, F.flat_app, List.append_assoc], by rw [F.size_app]; omega, h.le⟩
theorem F.num_nil {f : F} (h : f.num = 0) : f = .nil := by
  cases f with
  | nil => rfl
  | nd x ks r => simp [F.num] at h
/-! lists of booleans -/
def bo0 (l : List Bool) (i : Nat) : Bool := l.getD i false
theorem bo0_get {l : List Bool} {i : Nat} (h : i < l.length) : l[i]? = some (bo0 l i) := by simp [bo0, h]
theorem bo0_true {l : List Bool} {i : Nat} : bo0 l i = true ↔ l[i]? = some true := by
  unfold bo0
  rw [List.getD_eq_getElem?_getD]
  cases l[i]? <;> simp
def orF (a b : List Bool) (i : Nat) : Bool := bo0 a i || bo0 b i
def orL (a b : List Bool) : List Bool := (List.range a.length).map (orF a b)
theorem orL_len (a b : List Bool) : (orL a b).length = a.length := by simp [orL]
theorem orL_get {a b : List Bool} {i : Nat} (h : i < a.length) : (orL a b)[i]? = some (orF a b i) := by
  unfold orL
  rw [List.getElem?_map, List.getElem?_range h]; rfl
/-- is there one of b that is not of a, among the first k? -/
def moreTo (a b : List Bool) (k : Nat) : Bool := (List.range k).any fun i => bo0 b i && !bo0 a i
def moreB (a b : List Bool) : Bool := moreTo a b a.length
theorem moreTo_zero {a b : List Bool} : moreTo a b 0 = false := rfl
theorem moreTo_succ {a b : List Bool} {k : Nat} : moreTo a b (k + 1) = (moreTo a b k || (bo0 b k && !bo0 a k)) := by simp [moreTo, List.range_succ]
theorem moreTo_yes {a b : List Bool} {k : Nat} (h : moreTo a b k = true) : moreTo a b (k + 1) = true := by rw [moreTo_succ, h]; rfl
theorem moreTo_no {a b : List Bool} {k : Nat} {v : Bool} (h : moreTo a b k = false) (hv : v = (bo0 b k && !bo0 a k)) : moreTo a b (k + 1) = v := by rw [moreTo_succ, h, hv]; rfl
theorem IsS.or {a b : List Bool} {N : Nat} {S T : Nat → Prop} (ha : IsS a N S) (hb : IsS b N T) : IsS (orL a b) N (fun q => S q ∨ T q) :=
  ⟨by rw [orL_len, ha.len], fun p hp => by
    rw [orL_get (by rw [ha.len]; omega), ← ha.get p hp, ← hb.get p hp, ← bo0_true, ← bo0_true]
    simp [orF]⟩
theorem IsS.no_more {a b : List Bool} {N : Nat} {S T : Nat → Prop} (ha : IsS a N S) (hb : IsS b N T) (h : moreB a b = false) : ∀ q, q ≤ N → T q → S q := fun q hq ht => by
  rw [← ha.get q hq, ← bo0_true]
  rw [← hb.get q hq, ← bo0_true] at ht
  have h1 := List.any_eq_false.1 h q (by rw [List.mem_range, ha.len]; omega)
  rw [ht] at h1
  simpa using h1
/-- how many are not in the set -/
def cf (l : List Bool) : Nat := (List.range l.length).countP fun i => !bo0 l i
theorem cf_le (l : List Bool) : cf l ≤ l.length := by
  have := List.countP_le_length (p := fun i => !bo0 l i) (l := List.range l.length)
  simpa [cf] using this
theorem countP_mono {p q : Nat → Bool} (h : ∀ i, p i = true → q i = true) : ∀ n, (List.range n).countP p ≤ (List.range n).countP q
  | 0 => by simp
  | n + 1 => by
    have := countP_mono h n
    have h1 := h n
    simp only [List.range_succ, List.countP_append, List.countP_singleton]
    cases hp : p n <;> cases hq : q n <;> simp_all <;> omega
theorem countP_lt {p q : Nat → Bool} (h : ∀ i, p i = true → q i = true) : ∀ n k, k < n → q k = true → p k = false → (List.range n).countP p < (List.range n).countP q
  | n + 1, k, hk, h1, h2 => by
    simp only [List.range_succ, List.countP_append, List.countP_singleton]
    by_cases e : k = n
    · subst e
      have := countP_mono h k
      rw [h1, h2]; simp; omega
    · have := countP_lt h n k (by omega) h1 h2
      have h3 := h n
      cases hp : p n <;> cases hq : q n <;> simp_all <;> omega
theorem cf_more {a b : List Bool} (h : moreB a b = true) : cf (orL a b) < cf a := by
  obtain ⟨i, hi, hb⟩ := List.any_eq_true.1 h
  rw [List.mem_range] at hi
  simp only [Bool.and_eq_true, Bool.not_eq_true'] at hb
  unfold cf
  rw [orL_len]
  have e : ∀ j, j < a.length → bo0 (orL a b) j = orF a b j := fun j hj => by
    have := orL_get (b := b) hj
    simp [bo0, this]
  have e2 : (List.range a.length).countP (fun i => !bo0 (orL a b) i) = (List.range a.length).countP (fun i => !orF a b i) := by
    apply List.countP_congr
    intro j hj
    rw [e j (List.mem_range.1 hj)]
  rw [e2]
  refine countP_lt (fun j hj => ?_) _ i hi (by simp [hb.2]) (by simp [orF, hb.1])
  simp only [orF, Bool.not_eq_true', Bool.or_eq_false_iff] at hj ⊢
  exact hj.1
/-! the sets of single nodes -/
structure SetP (w : List UInt8) (s : Cl) (fr : List Bool) (j : Nat) (out : List Bool) : Prop where
  len : out.length = w.length + 1
  get : ∀ q : Nat, out[q]? = some true ↔ ∃ p, p < j ∧ q = p + 1 ∧ fr[p]? = some true ∧ ∃ b, w[p]? = some b ∧ s.getLsbD b.toNat = true
theorem rep_no {n q : Nat} : ¬ (List.replicate n false)[q]? = some true := fun h => by
  have := List.mem_of_getElem? h
  simp at this
theorem SetP.zero {w : List UInt8} {s : Cl} {fr : List Bool} : SetP w s fr 0 (List.replicate (w.length + 1) false) :=
  ⟨by simp, fun q => ⟨fun h => absurd h rep_no, fun ⟨_, h, _⟩ => by omega⟩⟩
theorem SetP.step {w : List UInt8} {s : Cl} {fr out : List Bool} {j : Nat} (h : SetP w s fr j out) (hj : j < w.length) {v : Bool} (hv : v = true ↔ fr[j]? = some true ∧ ∃ b, w[j]? = some b ∧ s.getLsbD b.toNat = true) : SetP w s fr (j + 1) (out.set (j + 1) v) := by
  refine ⟨by rw [List.length_set]; exact h.len, fun q => ?_⟩
  by_cases e : j + 1 = q
  · subst e
    rw [List.getElem?_set_self (by rw [h.len]; omega), Option.some.injEq, hv]
    constructor
    · rintro ⟨h1, h2⟩; exact ⟨j, by omega, rfl, h1, h2⟩
    · rintro ⟨p, _, h2, h3, h4⟩
      obtain rfl : j = p := by omega
      exact ⟨h3, h4⟩
  · rw [List.getElem?_set_ne e, h.get]
    constructor
    · rintro ⟨p, h1, h2⟩; exact ⟨p, by omega, h2⟩
    · rintro ⟨p, h1, h2, h3⟩; exact ⟨p, by omega, h2, h3⟩
theorem SetP.done {w : List UInt8} {x : Nd} {ks : F} {fr out : List Bool} {S : Nat → Prop} (h : SetP w x.set fr w.length out) (h1 : x.op = 1) (hS : IsS fr w.length S) : IsS out w.length (img (der1 w x ks) S) := by
  refine ⟨h.len, fun q _ => (h.get q).trans ?_⟩
  simp only [img, der1_def, if_pos h1]
  constructor
  · rintro ⟨p, h2, rfl, h3, h4⟩; exact ⟨p, (hS.get p (by omega)).1 h3, rfl, h4⟩
  · rintro ⟨p, h2, rfl, b, hb, h4⟩
    have := (List.getElem?_eq_some_iff.1 hb).1
    exact ⟨p, this, rfl, (hS.get p (by omega)).2 h2, b, hb, h4⟩
theorem IsS.none {N : Nat} : IsS (List.replicate (N + 1) false) N (fun _ => False) := ⟨by simp, fun p _ => ⟨fun h => absurd h rep_no, False.elim⟩⟩
theorem IsS.only {N k : Nat} (hk : k ≤ N) {v : Bool} {p : Prop} (hv : v = true ↔ p) : IsS ((List.replicate (N + 1) false).set k v) N (fun q => q = k ∧ p) := by
  refine ⟨by simp, fun q hq => ?_⟩
  by_cases e : k = q
  · subst e
    rw [List.getElem?_set_self (by simp; omega), Option.some.injEq, hv]
    exact ⟨fun h => ⟨rfl, h⟩, fun h => h.2⟩
  · rw [List.getElem?_set_ne e]
    exact ⟨fun h => absurd h rep_no, fun h => absurd h.1.symm e⟩
theorem IsS.bol {w : List UInt8} {x : Nd} {ks : F} {fr : List Bool} {S : Nat → Prop} (h2 : x.op = 2) (hS : IsS fr w.length S) : IsS ((List.replicate (w.length + 1) false).set 0 (bo0 fr 0)) w.length (img (der1 w x ks) S) := by
  refine (IsS.only (Nat.zero_le _) (bo0_true.trans (hS.get 0 (Nat.zero_le _)))).iff fun q _ => ?_
  simp only [img, der1_def, if_neg (show ¬ x.op = 1 by omega), if_pos h2]
  exact ⟨fun ⟨h, h'⟩ => ⟨0, h', rfl, h⟩, fun ⟨p, h, h', h''⟩ => ⟨h'', h' ▸ h⟩⟩
theorem IsS.eol {w : List UInt8} {x : Nd} {ks : F} {fr : List Bool} {S : Nat → Prop} (h3 : x.op = 3) (hS : IsS fr w.length S) : IsS ((List.replicate (w.length + 1) false).set w.length (bo0 fr w.length)) w.length (img (der1 w x ks) S) := by
  refine (IsS.only (Nat.le_refl _) (bo0_true.trans (hS.get w.length (Nat.le_refl _)))).iff fun q _ => ?_
  simp only [img, der1_def, if_neg (show ¬ x.op = 1 by omega), if_neg (show ¬ x.op = 2 by omega), if_pos h3]
  exact ⟨fun ⟨h, h'⟩ => ⟨w.length, h', rfl, h⟩, fun ⟨p, h, h', h''⟩ => ⟨by omega, h' ▸ h⟩⟩
/-- one place -/
theorem IsS.one {N k : Nat} (hk : k ≤ N) : IsS ((List.replicate (N + 1) false).set k true) N (fun q => q = k) := (IsS.only hk (p := True) (by simp)).iff fun q _ => by simp
/-! answers that are read together with what was handed in -/
def OutP (N : Nat) (S : Nat → Prop) (vf : Value) (fr : List Bool) (v : Value) (S' : Hp) : Prop :=
  ∃ (a : Option Addr) (c : Nat) (l : List Bool), v = .slice a l.length c ∧ IsS l N S ∧ ∀ W : World, (∀ b o, (b, o) ∈ S' → W.heap[b]? = some o) → Rd Ebo W vf fr → Rd Ebo W v l
/-- the contract of over and of rounds -/
def OverC (P : Program) (fn : Nat) (w : List UInt8) (x : Nd) (ks : F) : Prop := ∀ (ra : Option Addr) (rc : Nat) (re : List Nd) (ta : Option Addr) (tc i i' : Nat) (fa : Option Addr) (fc : Nat) (fr : List Bool) (S : Nat → Prop),
  (∀ x ∈ re, -128 ≤ x.op ∧ x.op < 128) → (∀ x ∈ re, ¬ x.op = 8) → w.length ≤ 1000000 → Part re (.nd x ks .nil) i i' → IsS fr w.length S → (∀ p, S p → p ≤ w.length) →
  Fn P fn [.slice ra re.length rc, .int .i64 i, .slice ta w.length tc, .slice fa fr.length fc] (fun W => Rd En W (.slice ra re.length rc) re ∧ Rd Eb W (.slice ta w.length tc) w ∧ Rd Ebo W (.slice fa fr.length fc) fr) [] (OutP w.length (img (der1 w x ks) S) (.slice fa fr.length fc) fr)
/-- read, given a part of the heap and what was handed in -/
def RdC (vf : Value) (fr : List Bool) (v : Value) (l : List Bool) (S : Hp) : Prop := ∀ W : World, (∀ b o, (b, o) ∈ S → W.heap[b]? = some o) → Rd Ebo W vf fr → Rd Ebo W v l
theorem RdC.self {vf : Value} {fr : List Bool} : RdC vf fr vf fr [] := fun _ _ h => h
theorem RdC.of {vf v : Value} {fr l : List Bool} {S : Hp} (h : RdS Ebo v l S) : RdC vf fr v l S := fun W hs _ => h.out W hs
theorem RdC.trans {vf v u : Value} {fr l m : List Bool} {S S' : Hp} (h : RdC vf fr v l S) (h' : RdC v l u m S') : RdC vf fr u m (S' ++ S) := fun W hs hf =>
  h' W (fun b o hm => hs b o (List.mem_append_left _ hm)) (h W (fun b o hm => hs b o (List.mem_append_right _ hm)) hf)
theorem RdC.mono {vf v : Value} {fr l : List Bool} {S S' : Hp} (h : RdC vf fr v l S) (hs : HIn S S') : RdC vf fr v l S' := fun W hw hf => h W (fun b o hm => hw b o (hs _ hm)) hf
theorem RdC.rdk {n : Nat} {ds : List Deferred} {w0 : World} {H S : Hp} {vf v : Value} {fr l : List Bool} (h : RdC vf fr v l S) (hf : Rd Ebo w0 vf fr) (hs : HIn S H) : RdK Ebo ⟨n, ds, w0, []⟩ H v l :=
  ⟨fun W st => h W (fun b o hm => st.has b o (hs _ hm)) ((RdK.old0 (H := H) (n := n) (ds := ds) hf).out W st)⟩
theorem img_zero {D : Nat → Nat → Prop} {S : Nat → Prop} {q : Nat} : img (pow D 0) S q ↔ S q := ⟨fun ⟨p, h, e⟩ => by obtain rfl : p = q := e; exact h, fun h => ⟨q, h, rfl⟩⟩
theorem rounds_fixed {N k : Nat} {x : Nd} {D : Nat → Nat → Prop} {S : Nat → Prop} (h0 : 0 ≤ x.mn) (hmx : x.mx = -1) (hk : x.mn.toNat ≤ k) (hS : ∀ p, S p → p ≤ N) (hD : Inn N D) (h : ∀ q, q ≤ N → img (pow D (k + 1)) S q → upTo D S x.mn.toNat k q) (q : Nat) : upTo D S x.mn.toNat k q ↔ img (rounds x D) S q := by
  rw [img_rounds h0]
  constructor
  · rintro ⟨j, h1, _, h3⟩; exact ⟨j, h1, .inl hmx, h3⟩
  · rintro ⟨j, h1, _, h3⟩; exact upTo_fix hS hD hk h q ⟨j, h1, h3⟩
theorem rounds_last {k : Nat} {x : Nd} {D : Nat → Nat → Prop} {S : Nat → Prop} (h0 : 0 ≤ x.mn) (hmx : x.mx = k) (q : Nat) : upTo D S x.mn.toNat k q ↔ img (rounds x D) S q := by
  rw [img_rounds h0]
  constructor
  · rintro ⟨j, h1, h2, h3⟩; exact ⟨j, h1, .inr (by omega), h3⟩
  · rintro ⟨j, h1, h2, h3⟩; exact ⟨j, h1, by omega, h3⟩
theorem img_cat {w : List UInt8} {y : Nd} {js r : F} {T : Nat → Prop} {p : Nat} : img (der w r false) (img (der1 w y js) T) p ↔ img (der w (.nd y js r) false) T p := by
  constructor
  · rintro ⟨t, ⟨u, h1, h2⟩, h3⟩; exact ⟨u, h1, der_cat.2 ⟨t, h2, h3⟩⟩
  · rintro ⟨u, h1, h2⟩; obtain ⟨t, h3, h4⟩ := der_cat.1 h2; exact ⟨t, ⟨u, h1, h3⟩, h4⟩
theorem img_alt {w : List UInt8} {y : Nd} {js r : F} {T : Nat → Prop} {p : Nat} : img (der w (.nd y js r) true) T p ↔ img (der1 w y js) T p ∨ img (der w r true) T p := by
  constructor
  · rintro ⟨u, h1, h2⟩; exact (der_alt.1 h2).imp (fun h => ⟨u, h1, h⟩) fun h => ⟨u, h1, h⟩
  · rintro (⟨u, h1, h2⟩ | ⟨u, h1, h2⟩)
    · exact ⟨u, h1, der_alt.2 (.inl h2)⟩
    · exact ⟨u, h1, der_alt.2 (.inr h2)⟩
theorem img_nil {w : List UInt8} {T : Nat → Prop} {p : Nat} : img (der w .nil false) T p ↔ T p := ⟨fun ⟨u, h1, h2⟩ => by obtain rfl := der_nil.1 h2; exact h1, fun h => ⟨p, h, der_nil.2 rfl⟩⟩
theorem img_nil' {w : List UInt8} {T : Nat → Prop} {p : Nat} : ¬ img (der w .nil true) T p := fun ⟨u, h1, h2⟩ => der_nil'.1 h2
theorem img_inn {w : List UInt8} {x : Nd} {ks : F} {T : Nat → Prop} (h : ∀ p, T p → p ≤ w.length) : ∀ p, img (der1 w x ks) T p → p ≤ w.length := fun p ⟨u, h1, h2⟩ => der1_inn _ _ (h u h1) h2
theorem img_else {w : List UInt8} {x : Nd} {ks : F} {T : Nat → Prop} {p : Nat} (h1 : ¬ x.op = 1) (h2 : ¬ x.op = 2) (h3 : ¬ x.op = 3) (h5 : ¬ x.op = 5) (h6 : ¬ x.op = 6) : img (der1 w x ks) T p ↔ img (der w ks false) T p := by
  simp only [img, der1_def, if_neg h1, if_neg h2, if_neg h3, if_neg h5, if_neg h6]
theorem img_alt5 {w : List UInt8} {x : Nd} {ks : F} {T : Nat → Prop} {p : Nat} (h5 : x.op = 5) : img (der1 w x ks) T p ↔ img (der w ks true) T p := by
  simp only [img, der1_def, if_neg (show ¬ x.op = 1 by omega), if_neg (show ¬ x.op = 2 by omega), if_neg (show ¬ x.op = 3 by omega), if_pos h5]
theorem img_rep6 {w : List UInt8} {x : Nd} {ks : F} {T : Nat → Prop} {p : Nat} (h6 : x.op = 6) : img (der1 w x ks) T p ↔ img (rounds x (der w ks false)) T p := by
  simp only [img, der1_def, if_neg (show ¬ x.op = 1 by omega), if_neg (show ¬ x.op = 2 by omega), if_neg (show ¬ x.op = 3 by omega), if_neg (show ¬ x.op = 5 by omega), if_pos h6]
theorem grp_kid {x : Nd} {ks : F} (h : (F.nd x ks .nil).wf) (h7 : x.op = 7) : ∃ y js, ks = .nd y js .nil := by
  have h1 := h.1
  have h2 : (ks.num : Int) = x.kids := h.2.1
  simp only [ndOk, Bool.and_eq_true] at h1
  have h3 := h1.2
  rw [kidsOk, if_pos (.inr h7), decide_eq_true_eq] at h3
  cases ks with
  | nil => simp [F.num] at h2; omega
  | nd y js r =>
    cases r with
    | nil => exact ⟨y, js, rfl⟩
    | nd z a b => simp only [F.num] at h2; omega
theorem OutP.of {N n c : Nat} {S : Nat → Prop} {vf : Value} {fr l : List Bool} {a : Option Addr} {S' : Hp} (h : OwnS Ebo 1 4 (.slice a n c) l S') (hn : l.length = n) (hi : IsS l N S) : OutP N S vf fr (.slice a n c) S' := ⟨a, c, l, by rw [hn], hi, by subst hn; exact RdC.of h.rds⟩
theorem shortB {c n : Nat} {m : Int} (hc : (c : Int) ≤ m) (hm : m ≤ 33554432) (hn : n ≤ 1000000) : c * (n + 2) ≤ 33554432 * 1000002 := Nat.mul_le_mul (by omega) (by omega)
end Go.HL.Kl.Mc

/- Runs and derivations lead to the same places. Conditions: none. -/
namespace Go.HL.Kl.Mc
open Go Go.HL Go.HL.Kl
theorem ends_isS {x : Nd} {ks : F} {w : List UInt8} {p : Nat} {out : List Bool} (hw : (F.nd x ks .nil).wf) (hM : MOk (mach (.nd x ks .nil))) (hp : p ≤ w.length) (h : EndsP (mach (.nd x ks .nil)) w (p : Int) out) : IsS out w.length (der1 w x ks p) :=
  ⟨h.1, fun q _ => (h.2 q).trans ⟨fun ⟨_, g, hg, _, hh⟩ => by
    obtain rfl : p = g := by omega
    exact (mach_hit hw).1 hh, fun hd => ⟨hM, p, rfl, hp, (mach_hit hw).2 hd⟩⟩⟩
theorem no_refs {re : List Nd} (hs : shapedB re = true) (hr : refsB re = false) : ∀ x ∈ re, ¬ x.op = 8 := fun x hx h8 => by rw [refs_yes hs hx h8] at hr; cases hr
theorem Shp.mok {re : List Nd} {x : Nd} {ks : F} (h : Shp re x ks) : MOk (mach (.nd x ks .nil)) := mach_ok h.wf h.weight
end Go.HL.Kl.Mc

/- Machines of parts: rows of sets, searched and put together. Conditions: none. -/
namespace Go.HL.Kl.Mc
open Go Go.HL Go.HL.Kl
/-- rows of sets -/
structure RowsP (rs : List (Sl Bool)) (N : Nat) (D : Nat → Nat → Prop) : Prop where
  len : rs.length = N + 1
  get : ∀ p, p ≤ N → ∃ s, rs[p]? = some s ∧ IsS s.xs N (D p)
/-- the first k rows -/
structure RowsTo (rs : List (Sl Bool)) (N k : Nat) (D : Nat → Nat → Prop) : Prop where
  len : rs.length = k
  get : ∀ p, p < k → ∃ s, rs[p]? = some s ∧ IsS s.xs N (D p)
theorem RowsTo.zero {N : Nat} {D : Nat → Nat → Prop} : RowsTo [] N 0 D := ⟨rfl, fun p h => by omega⟩
theorem RowsTo.step {rs : List (Sl Bool)} {N k : Nat} {D : Nat → Nat → Prop} {s : Sl Bool} (h : RowsTo rs N k D) (hs : IsS s.xs N (D k)) : RowsTo (rs ++ [s]) N (k + 1) D := by
  refine ⟨by simp [h.len], fun p hp => ?_⟩
  by_cases e : p = k
  · subst e
    exact ⟨s, by rw [List.getElem?_append_right (by rw [h.len]; omega), h.len]; simp, hs⟩
  · obtain ⟨u, hu, hi⟩ := h.get p (by omega)
    exact ⟨u, by rw [List.getElem?_append_left (List.getElem?_eq_some_iff.1 hu).1]; exact hu, hi⟩
theorem RowsTo.done {rs : List (Sl Bool)} {N : Nat} {D : Nat → Nat → Prop} (h : RowsTo rs N (N + 1) D) : RowsP rs N D := ⟨h.len, fun p hp => h.get p (by omega)⟩
/-- rows that a part of the heap bears -/
structure RdRows (W : World) (v : Value) (rs : List (Sl Bool)) : Prop where
  out : Rd (Esl (α := Bool)) W v rs
  row : ∀ s ∈ rs, Rd Ebo W (.slice s.a s.xs.length s.c) s.xs
/-! a set, added place by place -/
def orTo (a b : List Bool) (i : Nat) : List Bool := (List.range a.length).map fun j => if j < i then orF a b j else bo0 a j
theorem orTo_len (a b : List Bool) (i : Nat) : (orTo a b i).length = a.length := by simp [orTo]
theorem orTo_get {a b : List Bool} {i j : Nat} (h : j < a.length) : (orTo a b i)[j]? = some (if j < i then orF a b j else bo0 a j) := by
  unfold orTo
  rw [List.getElem?_map, List.getElem?_range h]; rfl
theorem orTo_zero (a b : List Bool) : orTo a b 0 = a := by
  apply List.ext_getElem?
  intro j
  by_cases hj : j < a.length
  · rw [orTo_get hj, if_neg (by omega), bo0_get hj]
  · rw [List.getElem?_eq_none (by rw [orTo_len]; omega), List.getElem?_eq_none (by omega)]
theorem orTo_all (a b : List Bool) : orTo a b a.length = orL a b := by
  apply List.ext_getElem?
  intro j
  by_cases hj : j < a.length
  · rw [orTo_get hj, if_pos hj, orL_get hj]
  · rw [List.getElem?_eq_none (by rw [orTo_len]; omega), List.getElem?_eq_none (by rw [orL_len]; omega)]
theorem orTo_set {a b : List Bool} {i : Nat} (hi : i < a.length) : (orTo a b i).set i (orF a b i) = orTo a b (i + 1) := by
  apply List.ext_getElem?
  intro j
  by_cases hj : j < a.length
  · by_cases e : i = j
    · subst e
      rw [List.getElem?_set_self (by rw [orTo_len]; exact hi), orTo_get hi, if_pos (by omega)]
    · rw [List.getElem?_set_ne e, orTo_get hj, orTo_get hj]
      by_cases h : j < i
      · rw [if_pos h, if_pos (by omega)]
      · rw [if_neg h, if_neg (by omega)]
  · rw [List.getElem?_eq_none (by rw [List.length_set, orTo_len]; omega), List.getElem?_eq_none (by rw [orTo_len]; omega)]
theorem orTo_bo {a b : List Bool} {i : Nat} (hi : i < a.length) : bo0 (orTo a b i) i = bo0 a i := by
  have := orTo_get (b := b) (i := i) hi
  rw [if_neg (by omega)] at this
  simp [bo0, this]
def fromTo (D : Nat → Nat → Prop) (P : Nat → Prop) (k q : Nat) : Prop := ∃ p, p < k ∧ P p ∧ D p q
theorem fromTo_zero {D : Nat → Nat → Prop} {P : Nat → Prop} {N : Nat} : IsS (List.replicate (N + 1) false) N (fromTo D P 0) := IsS.none.iff fun q _ => ⟨False.elim, fun ⟨_, h, _⟩ => by omega⟩
theorem fromTo_no {D : Nat → Nat → Prop} {P : Nat → Prop} {N k : Nat} {l : List Bool} (h : IsS l N (fromTo D P k)) (hn : ¬ P k) : IsS l N (fromTo D P (k + 1)) := h.iff fun q _ =>
  ⟨fun ⟨p, h1, h2⟩ => ⟨p, by omega, h2⟩, fun ⟨p, h1, h2, h3⟩ => ⟨p, Nat.lt_of_le_of_ne (by omega) (fun e => hn (e ▸ h2)), h2, h3⟩⟩
theorem fromTo_yes {D : Nat → Nat → Prop} {P : Nat → Prop} {N k : Nat} {l r : List Bool} (h : IsS l N (fromTo D P k)) (hr : IsS r N (D k)) (hy : P k) : IsS (orL l r) N (fromTo D P (k + 1)) := (h.or hr).iff fun q _ =>
  ⟨fun h => h.elim (fun ⟨p, h1, h2⟩ => ⟨p, by omega, h2⟩) fun h => ⟨k, by omega, hy, h⟩, fun ⟨p, h1, h2, h3⟩ => if e : p = k then .inr (e ▸ h3) else .inl ⟨p, by omega, h2, h3⟩⟩
theorem fromTo_all {D : Nat → Nat → Prop} {P : Nat → Prop} {N : Nat} {l : List Bool} (h : IsS l N (fromTo D P (N + 1))) (hP : ∀ p, P p → p ≤ N) : IsS l N (img D P) := h.iff fun q _ =>
  ⟨fun ⟨p, _, h2, h3⟩ => ⟨p, h2, h3⟩, fun ⟨p, h2, h3⟩ => ⟨p, by have := hP p h2; omega, h2, h3⟩⟩
/-! again and again: a search -/
structure AgP (N : Nat) (D : Nat → Nat → Prop) (p : Nat) (out : List Bool) (todo : List Nat) : Prop where
  len : out.length = N + 1
  me : out[p]? = some true
  sound : ∀ q : Nat, out[q]? = some true → ∃ k, pow D k p q
  td : ∀ t ∈ todo, out[t]? = some true
  closed : ∀ q : Nat, out[q]? = some true → q ∉ todo → ∀ r, r ≤ N → D q r → out[r]? = some true
theorem AgP.start {N p : Nat} {D : Nat → Nat → Prop} (hp : p ≤ N) : AgP N D p ((List.replicate (N + 1) false).set p true) [p] := by
  have hq : ∀ q : Nat, ((List.replicate (N + 1) false).set p true)[q]? = some true → q = p := fun q h => by
    by_cases e : p = q
    · exact e.symm
    · rw [List.getElem?_set_ne e] at h; exact absurd h rep_no
  have hm : ((List.replicate (N + 1) false).set p true)[p]? = some true := List.getElem?_set_self (by simp; omega)
  exact ⟨by simp, hm, fun q h => ⟨0, (hq q h).symm⟩, fun t ht => by obtain rfl := List.mem_singleton.1 ht; exact hm, fun q h hn => absurd (List.mem_singleton.2 (hq q h)) hn⟩
/-- the place t at hand, its first k targets looked at -/
structure AgK (N : Nat) (D : Nat → Nat → Prop) (p t k : Nat) (out : List Bool) (todo : List Nat) : Prop where
  len : out.length = N + 1
  me : out[p]? = some true
  tt : out[t]? = some true
  sound : ∀ q : Nat, out[q]? = some true → ∃ k, pow D k p q
  td : ∀ t ∈ todo, out[t]? = some true
  closed : ∀ q : Nat, out[q]? = some true → q ∉ todo → q ≠ t → ∀ r, r ≤ N → D q r → out[r]? = some true
  part : ∀ r, r < k → D t r → out[r]? = some true
theorem AgP.pop {N p t : Nat} {D : Nat → Nat → Prop} {out : List Bool} {tl : List Nat} (h : AgP N D p out (tl ++ [t])) : AgK N D p t 0 out tl :=
  ⟨h.len, h.me, h.td t (by simp), h.sound, fun u hu => h.td u (by simp [hu]), fun q hq hn ht => h.closed q hq (by simp [hn, ht]), fun r hr => by omega⟩
theorem AgK.no {N p t k : Nat} {D : Nat → Nat → Prop} {out : List Bool} {td : List Nat} (h : AgK N D p t k out td) (hn : D t k → out[k]? = some true) : AgK N D p t (k + 1) out td :=
  ⟨h.len, h.me, h.tt, h.sound, h.td, h.closed, fun r hr hd => if e : r = k then e ▸ hn (e ▸ hd) else h.part r (by omega) hd⟩
theorem AgK.yes {N p t k : Nat} {D : Nat → Nat → Prop} {out : List Bool} {td : List Nat} (h : AgK N D p t k out td) (hk : k ≤ N) (hd : D t k) : AgK N D p t (k + 1) (out.set k true) (td ++ [k]) := by
  have hup : ∀ q : Nat, out[q]? = some true → (out.set k true)[q]? = some true := fun q hq => by
    rw [List.getElem?_set]
    split
    · rw [if_pos (by rw [h.len]; omega)]
    · exact hq
  have hme : (out.set k true)[k]? = some true := List.getElem?_set_self (by rw [h.len]; omega)
  refine ⟨by rw [List.length_set]; exact h.len, hup _ h.me, hup _ h.tt, fun q hq => ?_, fun u hu => ?_, fun q hq hn ht r hr hqr => ?_, fun r hr hd' => ?_⟩
  · by_cases e : k = q
    · subst e
      obtain ⟨j, hj⟩ := h.sound t h.tt
      exact ⟨j + 1, pow_succ'.2 ⟨t, hj, hd⟩⟩
    · rw [List.getElem?_set_ne e] at hq; exact h.sound q hq
  · rcases List.mem_append.1 hu with hu | hu
    · exact hup _ (h.td u hu)
    · obtain rfl := List.mem_singleton.1 hu; exact hme
  · by_cases e : k = q
    · subst e; exact absurd (List.mem_append_right _ (List.mem_singleton.2 rfl)) hn
    · rw [List.getElem?_set_ne e] at hq
      exact hup _ (h.closed q hq (fun hm => hn (List.mem_append_left _ hm)) ht r hr hqr)
  · by_cases e : r = k
    · subst e; exact hme
    · exact hup _ (h.part r (by omega) hd')
theorem AgK.done {N p t k : Nat} {D : Nat → Nat → Prop} {out : List Bool} {td : List Nat} (h : AgK N D p t k out td) (hk : N + 1 ≤ k) : AgP N D p out td :=
  ⟨h.len, h.me, h.sound, h.td, fun q hq hn r hr hqr => if e : q = t then h.part r (by omega) (e ▸ hqr) else h.closed q hq hn e r hr hqr⟩
theorem AgP.done {N p : Nat} {D : Nat → Nat → Prop} {out : List Bool} (h : AgP N D p out []) (hD : Inn N D) (hp : p ≤ N) : IsS out N (fun q => ∃ k, pow D k p q) := by
  refine ⟨h.len, fun q _ => ⟨h.sound q, fun ⟨k, hk⟩ => ?_⟩⟩
  have key : ∀ k q, pow D k p q → out[q]? = some true := by
    intro k
    induction k with
    | zero => intro q hq; obtain rfl : p = q := hq; exact h.me
    | succ k ih =>
      intro q hq
      obtain ⟨t, h1, h2⟩ := pow_succ'.1 hq
      exact h.closed t (ih t h1) (by simp) q (hD t q (pow_inn hD k p t hp h1) h2) h2
  exact key k q hk
/-! regexes with other numbers of groups -/
def mvN (g : Nat) (x : Nd) : Nd := if 0 < x.n then { x with n := IntKind.i64.wrap (x.n + g) } else x
def F.mv (g : Nat) : F → F
  | .nil => .nil
  | .nd x ks r => .nd (mvN g x) (ks.mv g) (r.mv g)
theorem mvN_op (g : Nat) (x : Nd) : (mvN g x).op = x.op ∧ (mvN g x).set = x.set ∧ (mvN g x).mn = x.mn ∧ (mvN g x).mx = x.mx ∧ (mvN g x).kids = x.kids := by
  unfold mvN; split <;> exact ⟨rfl, rfl, rfl, rfl, rfl⟩
theorem mvN_ok {g : Nat} {x : Nd} (h : ndOk x = true) : ndOk (mvN g x) = true := by
  obtain ⟨h1, h2, h3, h4, h5⟩ := mvN_op g x
  simp only [ndOk, Bool.and_eq_true] at h ⊢
  refine ⟨?_, ?_⟩
  · have hf := flds_iff.1 h.1
    refine flds_iff.2 ?_
    rw [h1, h2, h3, h4]
    refine ⟨hf.1, hf.2.1, ?_, hf.2.2.2⟩
    rcases hf.2.2.1 with e | e | e
    · exact .inl e
    · exact .inr (.inl e)
    · refine .inr (.inr ?_)
      unfold mvN; rw [if_neg (by omega)]; exact e
  · unfold kidsOk at h ⊢; rw [h1, h5]; exact h.2
theorem F.mv_num (g : Nat) : ∀ f : F, (f.mv g).num = f.num
  | .nil => rfl
  | .nd x ks r => by simp only [F.mv, F.num, F.mv_num g r]
theorem F.mv_wf (g : Nat) : ∀ {f : F}, f.wf → (f.mv g).wf
  | .nil, _ => trivial
  | .nd x ks r, ⟨a, b, c, d⟩ => ⟨mvN_ok a, by rw [F.mv_num, (mvN_op g x).2.2.2.2]; exact b, F.mv_wf g c, F.mv_wf g d⟩
theorem F.mv_flat (g : Nat) : ∀ f : F, (f.mv g).flat = f.flat.map (mvN g)
  | .nil => rfl
  | .nd x ks r => by simp [F.mv, F.flat, F.mv_flat g ks, F.mv_flat g r]
theorem rounds_congr {x y : Nd} {D : Nat → Nat → Prop} (h : x.mn = y.mn) (h' : x.mx = y.mx) : rounds x D = rounds y D := by
  funext p q; unfold rounds; rw [h, h']
theorem der_mv (w : List UInt8) (g : Nat) : ∀ (f : F) (m : Bool), der w (f.mv g) m = der w f m
  | .nil, m => rfl
  | .nd x ks r, m => by
    obtain ⟨h1, h2, h3, h4, h5⟩ := mvN_op g x
    funext p q
    have e1 := der_mv w g ks true
    have e2 := der_mv w g ks false
    have e3 := der_mv w g r m
    have e4 := der_mv w g r true
    have e5 := der_mv w g r false
    simp only [F.mv, der, h1, h2, e1, e2, e4, e5, rounds_congr h3 h4]
theorem der1_mv (w : List UInt8) (g : Nat) (x : Nd) (ks : F) : der1 w (mvN g x) (ks.mv g) = der1 w x ks := by
  funext p q
  exact congrFun (congrFun (der_mv w g (.nd x ks .nil) false) p) q
/-- two regexes under one node -/
def catN : Nd := ⟨4, 0, 0, 0, 0, 2⟩
def altN : Nd := ⟨5, 0, 0, 0, 0, 2⟩
def twoL (n : Nd) (a b : List Nd) (g : Nat) : List Nd := n :: (a ++ b.map (mvN g))
theorem Shp.two {n : Nd} {a b : List Nd} {xa xb y : Nd} {ka kb js : F} {g : Nat} (hn : ndOk n = true) (h2 : n.kids = 2) (ha : Shp a xa ka) (hb : Shp b xb kb) (h : Shp (twoL n a b g) y js) : y = n ∧ js = .nd xa ka (.nd (mvN g xb) (kb.mv g) .nil) := by
  have hbw := F.mv_wf g hb.wf
  have hwf : (F.nd n (.nd xa ka (.nd (mvN g xb) (kb.mv g) .nil)) .nil).wf := ⟨hn, by rw [h2]; rfl, ⟨ha.wf.1, ha.wf.2.1, ha.wf.2.2.1, hbw⟩, trivial⟩
  have := flat_inj (.nd y js .nil) (.nd n (.nd xa ka (.nd (mvN g xb) (kb.mv g) .nil)) .nil) [] [] h.wf hwf rfl (by
    have e := h.flat
    have eb := congrArg (List.map (mvN g)) hb.flat
    simp only [List.map_cons, ← F.mv_flat] at eb
    simp only [F.flat, List.append_nil]
    rw [← e, twoL, eb, ha.flat]; simp)
  simpa using this.1
theorem Shp.rep1 {a : List Nd} {xa y : Nd} {ka js : F} (ha : Shp a xa ka) (h : Shp (starN :: a) y js) : y = starN ∧ js = .nd xa ka .nil := by
  have hwf : (F.nd starN (.nd xa ka .nil) .nil).wf := ⟨by decide +kernel, rfl, ⟨ha.wf.1, ha.wf.2.1, ha.wf.2.2.1, trivial⟩, trivial⟩
  have := flat_inj (.nd y js .nil) (.nd starN (.nd xa ka .nil) .nil) [] [] h.wf hwf rfl (by
    simp only [F.flat, List.append_nil]
    rw [← h.flat, ha.flat])
  simpa using this.1
theorem der1_cat2 {w : List UInt8} {xa xb : Nd} {ka kb : F} {g p q : Nat} : der1 w catN (.nd xa ka (.nd (mvN g xb) (kb.mv g) .nil)) p q ↔ img (der1 w xb kb) (der1 w xa ka p) q := by
  have h := img_else (w := w) (x := catN) (ks := .nd xa ka (.nd (mvN g xb) (kb.mv g) .nil)) (T := fun t => t = p) (p := q) (by decide) (by decide) (by decide) (by decide) (by decide)
  simp only [img, exists_eq_left] at h
  rw [h, der_cat]
  constructor
  · rintro ⟨t, h1, h2⟩
    exact ⟨t, h1, by rw [← der1_mv w g xb kb]; exact h2⟩
  · rintro ⟨t, h1, h2⟩
    exact ⟨t, h1, by rw [← der1_mv w g xb kb] at h2; exact h2⟩
theorem der1_alt2 {w : List UInt8} {xa xb : Nd} {ka kb : F} {g p q : Nat} : der1 w altN (.nd xa ka (.nd (mvN g xb) (kb.mv g) .nil)) p q ↔ der1 w xa ka p q ∨ der1 w xb kb p q := by
  have h := img_alt5 (w := w) (x := altN) (ks := .nd xa ka (.nd (mvN g xb) (kb.mv g) .nil)) (T := fun t => t = p) (p := q) rfl
  simp only [img, exists_eq_left] at h
  rw [h, der_alt, der_alt, der1_mv]
  exact or_congr_right ⟨fun h => h.elim id fun h => (der_nil'.1 h).elim, .inl⟩
theorem der1_star {w : List UInt8} {xa : Nd} {ka : F} {p q : Nat} : der1 w starN (.nd xa ka .nil) p q ↔ ∃ k, pow (der1 w xa ka) k p q := by
  have h := img_rep6 (w := w) (x := starN) (ks := .nd xa ka .nil) (T := fun t => t = p) (p := q) rfl
  simp only [img, exists_eq_left] at h
  rw [h]
  constructor
  · rintro ⟨k, _, _, h⟩; exact ⟨k, h⟩
  · rintro ⟨k, h⟩; exact ⟨k, Int.natCast_nonneg k, .inl rfl, h⟩
theorem mvN_rng {g : Nat} {b : List Nd} (h : ∀ x ∈ b, -128 ≤ x.op ∧ x.op < 128) : ∀ x ∈ b.map (mvN g), -128 ≤ x.op ∧ x.op < 128 := fun x hx => by
  obtain ⟨y, hy, rfl⟩ := List.mem_map.1 hx
  rw [(mvN_op g y).1]; exact h y hy
theorem twoL_rng {n : Nd} {a b : List Nd} {g : Nat} (hn : -128 ≤ n.op ∧ n.op < 128) (ha : ∀ x ∈ a, -128 ≤ x.op ∧ x.op < 128) (hb : ∀ x ∈ b, -128 ≤ x.op ∧ x.op < 128) : ∀ x ∈ twoL n a b g, -128 ≤ x.op ∧ x.op < 128 := fun x hx => by
  rcases List.mem_cons.1 hx with rfl | hx
  · exact hn
  · exact (List.mem_append.1 hx).elim (ha x) (mvN_rng hb x)
theorem cons_rng {n : Nd} {a : List Nd} (hn : -128 ≤ n.op ∧ n.op < 128) (ha : ∀ x ∈ a, -128 ≤ x.op ∧ x.op < 128) : ∀ x ∈ n :: a, -128 ≤ x.op ∧ x.op < 128 := fun x hx => (List.mem_cons.1 hx).elim (fun e => e ▸ hn) (ha x)
theorem twoL_len {n : Nd} {a b : List Nd} {g : Nat} : (twoL n a b g).length = a.length + b.length + 1 := by simp [twoL]
theorem cat_ok : ndOk catN = true := by decide +kernel
theorem alt_ok : ndOk altN = true := by decide +kernel
end Go.HL.Kl.Mc
namespace Go.HL.Kl.Mc
open Go Go.HL Go.HL.Kl
def mvTo (g : Nat) (b : List Nd) (j : Nat) : List Nd := (b.take j).map (mvN g) ++ b.drop j
theorem mvTo_len (g : Nat) (b : List Nd) (j : Nat) : (mvTo g b j).length = b.length := by simp [mvTo]; omega
theorem mvTo_zero (g : Nat) (b : List Nd) : mvTo g b 0 = b := by simp [mvTo]
theorem mvTo_all (g : Nat) (b : List Nd) : mvTo g b b.length = b.map (mvN g) := by simp [mvTo]
theorem mvTo_at {g : Nat} {b : List Nd} {j : Nat} {x : Nd} (h : b[j]? = some x) : mvTo g b j = (b.take j).map (mvN g) ++ x :: b.drop (j + 1) := by
  have hj := (List.getElem?_eq_some_iff.1 h).1
  rw [List.getElem?_eq_getElem hj, Option.some.injEq] at h
  rw [mvTo, List.drop_eq_getElem_cons hj, h]
theorem mvTo_len' {g : Nat} {b : List Nd} {j : Nat} {x : Nd} (h : b[j]? = some x) : ((b.take j).map (mvN g)).length = j := by
  have := (List.getElem?_eq_some_iff.1 h).1
  simp; omega
theorem mvTo_get {g : Nat} {b : List Nd} {j : Nat} {x : Nd} (h : b[j]? = some x) : (mvTo g b j)[j]? = some x := by rw [mvTo_at h, get_mid (mvTo_len' h)]
theorem mvTo_set {g : Nat} {b : List Nd} {j : Nat} {x : Nd} (h : b[j]? = some x) : (mvTo g b j).set j (mvN g x) = mvTo g b (j + 1) := by
  rw [mvTo_at h, set_mid (mvTo_len' h), mvTo, List.take_add_one, h]
  simp
theorem mvTo_skip {g : Nat} {b : List Nd} {j : Nat} {x : Nd} (h : b[j]? = some x) (hn : ¬ 0 < x.n) : mvTo g b j = mvTo g b (j + 1) := by
  rw [← mvTo_set h, mvTo_at h, set_mid (mvTo_len' h), mvN, if_neg hn]
/-- the answer of runs -/
def RowsC (N : Nat) (D : Nat → Nat → Prop) (v : Value) (S : Hp) : Prop := ∃ (a : Option Addr) (c : Nat) (rs : List (Sl Bool)), v = .slice a rs.length c ∧ RowsP rs N D ∧ ∀ W : World, (∀ b o, (b, o) ∈ S → W.heap[b]? = some o) → RdRows W (.slice a rs.length c) rs
theorem RowsC.of {N : Nat} {D : Nat → Nat → Prop} {q : Sl (Sl Bool)} {S S' : Hp} {T : Nat} (h : RowsTo q.xs N (N + 1) D) (ho : OwnS (Esl (α := Bool)) 1 T (.slice q.a q.xs.length q.c) q.xs S) (hr : ∀ s ∈ q.xs, RdS Ebo (.slice s.a s.xs.length s.c) s.xs S') : RowsC N D (.slice q.a q.xs.length q.c) (S ++ S') :=
  ⟨_, _, q.xs, rfl, h.done, fun W hW => ⟨ho.rd fun b o hm => hW b o (List.mem_append_left _ hm), fun s hs => (hr s hs).out W fun b o hm => hW b o (List.mem_append_right _ hm)⟩⟩
/-- read as rows, in every world that bears this part -/
def RdRS (v : Value) (rs : List (Sl Bool)) (S : Hp) : Prop := ∀ W : World, (∀ b o, (b, o) ∈ S → W.heap[b]? = some o) → RdRows W v rs
theorem RdRS.at {v : Value} {rs : List (Sl Bool)} {S H : Hp} {w0 w : World} (h : RdRS v rs S) (hs : HIn S H) (st : St w0 w [] H) : RdRows w v rs := h w fun b o hm => st.has b o (hs _ hm)
theorem RdRS.rdk {v : Value} {rs : List (Sl Bool)} {S H : Hp} {κ : Cx} (h : RdRS v rs S) (hs : HIn S H) : RdK (Esl (α := Bool)) κ H v rs := ⟨fun w st => (h w fun b o hm => st.has b o (hs _ hm)).out⟩
theorem RdRS.row {v : Value} {rs : List (Sl Bool)} {S H : Hp} {κ : Cx} {s : Sl Bool} (h : RdRS v rs S) (hm : s ∈ rs) (hs : HIn S H) : RdK Ebo κ H (.slice s.a s.xs.length s.c) s.xs := ⟨fun w st => (h w fun b o hm => st.has b o (hs _ hm)).row s hm⟩
end Go.HL.Kl.Mc

/- What Compile answers, as a pair; nodes written out. Conditions: none. -/
namespace Go.HL.Kl.Mc
open Go Go.HL Go.HL.Kl
/-- an answer of Compile that is good -/
def CompOk (re : List Nd) (sv : Value) (S : Hp) (x : Nd) (ks : F) : Prop := ∃ a, shapedB re = true ∧ refsB re = false ∧ Shp re x ks ∧ sv = .slice a (mach (.nd x ks .nil)).length (mach (.nd x ks .nil)).length ∧ RdS Ein (.slice a (mach (.nd x ks .nil)).length (mach (.nd x ks .nil)).length) (mach (.nd x ks .nil)) S
theorem CompP.pair {re : List Nd} {v : Value} {S : Hp} (h : CompP re v S) : ∃ sv e, v = .tuple #[sv, .int .i64 e] ∧ (e = 0 → ∃ x ks, CompOk re sv S x ks) := by
  cases h with
  | shape hs hv => exact ⟨_, _, hv, fun h => by omega⟩
  | ref hs hr hv => exact ⟨_, _, hv, fun h => by omega⟩
  | ok hs hr h hv hm => exact ⟨_, _, hv, fun _ => ⟨_, _, _, hs, hr, h, rfl, hm⟩⟩
theorem En_cat : En catN = [.int .i8 4, .int .u64 0, .int .u64 0, .int .u64 0, .int .u64 0, .int .i64 0, .int .i64 0, .int .i64 0, .int .i64 2] := by
  show _ :: (Ec 0#256 ++ _) = _
  rw [Ec_zero]; rfl
theorem En_alt : En altN = [.int .i8 5, .int .u64 0, .int .u64 0, .int .u64 0, .int .u64 0, .int .i64 0, .int .i64 0, .int .i64 0, .int .i64 2] := by
  show _ :: (Ec 0#256 ++ _) = _
  rw [Ec_zero]; rfl
end Go.HL.Kl.Mc

/- Rows of bytes, so many times. Conditions: none. -/
namespace Go.HL.Kl.Mc
open Go Go.HL Go.HL.Kl
/-! well shaped: forests without groups and references -/
def F.plain : F → Prop
  | .nil => True
  | .nd x ks r => (¬ x.op = 7 ∧ ¬ x.op = 8) ∧ ks.plain ∧ r.plain
theorem shN_full {re : List Nd} : ∀ (f : F) (d g i i' : Nat) (en : List Bool), Part re f i i' → f.depth ≤ d → f.plain → kidsN (fun i en => shN re d i en g) f.num i en = some (i', en)
  | .nil, d, g, i, i', en, h, _, _ => by
    have := h.len
    simp [F.size] at this
    subst this; rfl
  | .nd x ks r, d, g, i, i', en, h, hd, hp => by
    obtain ⟨hx, hk, hr⟩ := h.head
    simp only [F.depth] at hd
    obtain ⟨d', rfl⟩ : ∃ d', d = d' + 1 := ⟨d - 1, by omega⟩
    have hkn : x.kids.toNat = ks.num := by have : (ks.num : Int) = x.kids := h.wf.2.1; omega
    have h1 := shN_full ks d' g (i + 1) _ en hk (by omega) hp.2.1
    have h2 := shN_some hx h.wf.1 (gate_other (en := en) (g := g) hp.1.2 hp.1.1) (by rw [hkn]; exact h1)
    rw [if_neg hp.1.1] at h2
    show (match shN re (d' + 1) i en g with | none => none | some (i', en') => kidsN (fun i en => shN re (d' + 1) i en g) r.num i' en') = _
    rw [h2]
    exact shN_full r (d' + 1) g _ i' en hr (by omega) hp.2.2
theorem Shp.good {re : List Nd} {x : Nd} {ks : F} (h : Shp re x ks) (hp : (F.nd x ks .nil).plain) : shapedB re = true ∧ refsB re = false := by
  have h1 := shN_full (.nd x ks .nil) 260 0 0 re.length [] h.part (by have := h.dep; simp only [F.depth]; omega) hp
  have h2 : shN re 260 0 [] 0 = some (re.length, []) := by
    simp only [F.num, kidsN] at h1
    cases hs : shN re 260 0 [] 0 with
    | none => simp [hs] at h1
    | some q => obtain ⟨a, b⟩ := q; simpa [hs] using h1
  refine ⟨shapedB_iff.2 ⟨⟨[], h2⟩, x, ks, h⟩, refs_no fun j y hj hy h8 => ?_⟩
  have key : ∀ f : F, f.plain → ∀ y ∈ f.flat, ¬ y.op = 8 := by
    intro f
    induction f with
    | nil => intro _ y hy; cases hy
    | nd z a b iha ihb =>
      rintro ⟨h1, h2, h3⟩ y hy
      rcases List.mem_cons.1 hy with rfl | hy
      · exact h1.2
      · exact (List.mem_append.1 hy).elim (iha h2 y) (ihb h3 y)
  have hm := List.mem_of_getElem? hy
  rw [h.flat] at hm
  exact key _ hp y (by simpa [F.flat] using hm) h8
/-! the row's regex -/
def endN : Nd := ⟨4, 0, 0, 0, 0, 0⟩
def rowN (n : Nat) : Nd := ⟨4, 0, 0, 0, 0, (n : Int) + 1⟩
def timN (l m : Nat) : Nd := ⟨6, 0, 0, l, (l : Int) + m, 1⟩
def rowF : List UInt8 → F
  | [] => .nd endN .nil .nil
  | b :: bs => .nd (letN b) .nil (rowF bs)
def rowR (row : List UInt8) (l m : Nat) : List Nd := timN l m :: rowN row.length :: (row.map letN ++ [endN])
theorem rowF_num : ∀ row, (rowF row).num = row.length + 1
  | [] => rfl
  | b :: bs => by simp [rowF, F.num, rowF_num bs]
theorem rowF_flat : ∀ row, (rowF row).flat = row.map letN ++ [endN]
  | [] => rfl
  | b :: bs => by simp [rowF, F.flat, rowF_flat bs]
theorem let_ok' (b : UInt8) : ndOk (letN b) = true := by
  have : flds (letN b) = true := flds_iff.2 ⟨by simp [letN], .inl rfl, .inr (.inr rfl), (fun h => by cases h), fun _ => ⟨rfl, rfl⟩⟩
  rw [ndOk, this]; rfl
theorem end_ok : ndOk endN = true := by decide +kernel
theorem rowF_wf : ∀ row, (rowF row).wf
  | [] => ⟨end_ok, rfl, trivial, trivial⟩
  | b :: bs => ⟨let_ok' b, rfl, trivial, rowF_wf bs⟩
theorem rowF_plain : ∀ row, (rowF row).plain
  | [] => ⟨⟨by decide, by decide⟩, trivial, trivial⟩
  | b :: bs => ⟨⟨by simp [letN], by simp [letN]⟩, trivial, rowF_plain bs⟩
theorem rowF_depth : ∀ row, (rowF row).depth = 1
  | [] => rfl
  | b :: bs => by simp [rowF, F.depth, rowF_depth bs]
theorem rowF_weight : ∀ row, (rowF row).weight = row.length + 1
  | [] => rfl
  | b :: bs => by simp [rowF, F.weight, rowF_weight bs]; omega
theorem row_ok {n : Nat} (h : 1 ≤ n) : ndOk (rowN n) = true := by
  have h1 : flds (rowN n) = true := flds_iff.2 ⟨by simp [rowN], .inr rfl, .inr (.inr rfl), (fun h => by cases h), fun _ => ⟨rfl, rfl⟩⟩
  have h2 : kidsOk (rowN n) = true := by
    unfold kidsOk rowN
    simp; omega
  rw [ndOk, h1, h2]; rfl
theorem tim_ok {l m : Nat} (hl : l ≤ 30) (hm : m ≤ 30) : ndOk (timN l m) = true := by
  have h1 : flds (timN l m) = true := flds_iff.2 ⟨by simp [timN], .inr rfl, .inr (.inr rfl), (fun _ => ⟨by simp [timN], by simp [timN]; omega, .inr (by simp [timN]; omega)⟩), fun h => absurd rfl h⟩
  rw [ndOk, h1]; rfl
theorem rowR_shp {row : List UInt8} {l m : Nat} (h1 : 1 ≤ row.length) (h2 : row.length ≤ 40) (hl : l ≤ 30) (hm : m ≤ 30) : Shp (rowR row l m) (timN l m) (.nd (rowN row.length) (rowF row) .nil) := by
  refine ⟨⟨tim_ok hl hm, rfl, ⟨row_ok h1, by rw [rowF_num]; rfl, rowF_wf row, trivial⟩, trivial⟩, by simp [rowR, F.flat, rowF_flat], by simp [F.depth, rowF_depth], ?_⟩
  have t1 : times (rowN row.length) = 1 := by simp [times, rowN]
  have t2 : times (timN l m) ≤ 60 := by
    have h0 : ¬ ((l : Int) + m < 0) := by omega
    simp only [times, timN, if_true, h0, if_false]
    omega
  rw [weight_one, weight_one, rowF_weight, t1]
  have : times (timN l m) * (1 + 1 * (row.length + 1)) ≤ 60 * 42 := Nat.mul_le_mul t2 (by omega)
  omega
theorem rowR_good {row : List UInt8} {l m : Nat} (h1 : 1 ≤ row.length) (h2 : row.length ≤ 40) (hl : l ≤ 30) (hm : m ≤ 30) : shapedB (rowR row l m) = true ∧ refsB (rowR row l m) = false :=
  (rowR_shp h1 h2 hl hm).good ⟨⟨by simp [timN], by simp [timN]⟩, ⟨⟨by simp [rowN], by simp [rowN]⟩, rowF_plain row, trivial⟩, trivial⟩
theorem rowR_rng (row : List UInt8) (l m : Nat) : ∀ x ∈ rowR row l m, -128 ≤ x.op ∧ x.op < 128 := fun x hx => by
  rcases List.mem_cons.1 hx with rfl | hx
  · simp [timN]
  rcases List.mem_cons.1 hx with rfl | hx
  · simp [rowN]
  rcases List.mem_append.1 hx with hx | hx
  · obtain ⟨b, _, rfl⟩ := List.mem_map.1 hx
    simp [letN]
  · obtain rfl := List.mem_singleton.1 hx
    decide
theorem CompP.good {re : List Nd} {v : Value} {S : Hp} {x : Nd} {ks : F} (h : CompP re v S) (hs : Shp re x ks) (hg : shapedB re = true ∧ refsB re = false) : ∃ a, v = .tuple #[.slice a (mach (.nd x ks .nil)).length (mach (.nd x ks .nil)).length, .int .i64 0] ∧ RdS Ein (.slice a (mach (.nd x ks .nil)).length (mach (.nd x ks .nil)).length) (mach (.nd x ks .nil)) S := by
  cases h with
  | shape h1 => rw [hg.1] at h1; cases h1
  | ref _ h1 => rw [hg.2] at h1; cases h1
  | ok _ _ h hv hm =>
    obtain ⟨rfl, rfl⟩ := h.uniq hs
    exact ⟨_, hv, hm⟩
/-! its derivations -/
def Mt (row w : List UInt8) (p : Nat) : Prop := (w.drop p).take row.length = row
theorem der_let {w : List UInt8} {b : UInt8} {p q : Nat} : der1 w (letN b) .nil p q ↔ q = p + 1 ∧ w[p]? = some b := by
  rw [der1_def, if_pos (show (letN b).op = 1 from rfl)]
  refine and_congr_right fun _ => ⟨fun ⟨c, hc, hs⟩ => ?_, fun h => ⟨b, h, ?_⟩⟩
  · rw [show (letN b).set = bit b.toNat from rfl, bit_get c.toNat_lt, decide_eq_true_eq] at hs
    rw [hc, UInt8.toNat_inj.1 hs]
  · rw [show (letN b).set = bit b.toNat from rfl, bit_get b.toNat_lt, decide_eq_true_eq]
theorem mt_cons {b : UInt8} {bs w : List UInt8} {p : Nat} : Mt (b :: bs) w p ↔ w[p]? = some b ∧ Mt bs w (p + 1) := by
  unfold Mt
  rcases Nat.lt_or_ge p w.length with h | h
  · rw [List.drop_eq_getElem_cons h, List.getElem?_eq_getElem h, List.length_cons, List.take_succ_cons]
    simp
  · rw [List.drop_of_length_le h, List.getElem?_eq_none h]
    simp
theorem der_row {w : List UInt8} : ∀ {row : List UInt8} {p q : Nat}, der w (rowF row) false p q ↔ q = p + row.length ∧ Mt row w p
  | [], p, q => by
    rw [rowF, der_cat]
    simp only [der_nil]
    have h : ∀ p q, der1 w endN .nil p q ↔ p = q := fun p q => by
      rw [der1_def, if_neg (by decide), if_neg (by decide), if_neg (by decide), if_neg (by decide), if_neg (by decide), der_nil]
    simp only [h, Mt]
    simp
    exact eq_comm
  | b :: bs, p, q => by
    rw [rowF, der_cat]
    simp only [der_let, mt_cons, der_row (row := bs), List.length_cons]
    constructor
    · rintro ⟨t, ⟨rfl, h1⟩, rfl, h2⟩; exact ⟨by omega, h1, h2⟩
    · rintro ⟨rfl, h1, h2⟩; exact ⟨p + 1, ⟨rfl, h1⟩, by omega, h2⟩
theorem pow_row {row w : List UInt8} : ∀ {k q : Nat}, pow (fun p q => q = p + row.length ∧ Mt row w p) k 0 q ↔ q = k * row.length ∧ ∀ j, j < k → Mt row w (j * row.length)
  | 0, q => by simp [pow]; exact eq_comm
  | k + 1, q => by
    rw [pow_succ']
    simp only [pow_row (k := k)]
    constructor
    · rintro ⟨t, ⟨rfl, h1⟩, rfl, h2⟩
      exact ⟨(Nat.succ_mul _ _).symm, fun j hj => if e : j = k then e ▸ h2 else h1 j (by omega)⟩
    · rintro ⟨rfl, h1⟩
      exact ⟨k * row.length, ⟨rfl, fun j hj => h1 j (by omega)⟩, Nat.succ_mul _ _, h1 k (by omega)⟩
theorem der_tim {row w : List UInt8} {l m q : Nat} : der1 w (timN l m) (.nd (rowN row.length) (rowF row) .nil) 0 q ↔ ∃ k, l ≤ k ∧ k ≤ l + m ∧ q = k * row.length ∧ ∀ j, j < k → Mt row w (j * row.length) := by
  have h := img_rep6 (w := w) (x := timN l m) (ks := .nd (rowN row.length) (rowF row) .nil) (T := fun t => t = 0) (p := q) rfl
  simp only [img, exists_eq_left] at h
  rw [h]
  have hD : der w (.nd (rowN row.length) (rowF row) .nil) false = fun p q => q = p + row.length ∧ Mt row w p := by
    funext p q
    refine propext ?_
    have h2 := img_else (w := w) (x := rowN row.length) (ks := rowF row) (T := fun t => t = p) (p := q) (by simp [rowN]) (by simp [rowN]) (by simp [rowN]) (by simp [rowN]) (by simp [rowN])
    simp only [img, exists_eq_left] at h2
    exact h2.trans der_row
  rw [hD]
  constructor
  · rintro ⟨k, h1, h2, h3⟩
    refine ⟨k, ?_, ?_, pow_row.1 h3⟩
    · have : (l : Int) ≤ k := h1
      omega
    · rcases h2 with h2 | h2
      · have : (l : Int) + m = -1 := h2
        omega
      · have : (k : Int) ≤ (l : Int) + m := h2
        omega
  · rintro ⟨k, h1, h2, h3⟩
    exact ⟨k, show (l : Int) ≤ k by omega, .inr (show (k : Int) ≤ (l : Int) + m by omega), pow_row.2 h3⟩
/-- the greatest number of rounds -/
def Most (row w : List UInt8) (n k : Nat) : Prop := k ≤ n ∧ (∀ j, j < k → Mt row w (j * row.length)) ∧ (k = n ∨ ¬ Mt row w (k * row.length))
theorem row_want {row w : List UInt8} {l m k q : Nat} (hr : 1 ≤ row.length) (h : Most row w (l + m) k) : der1 w (timN l m) (.nd (rowN row.length) (rowF row) .nil) 0 q ↔ q % row.length = 0 ∧ q / row.length ≤ k ∧ l ≤ q / row.length := by
  rw [der_tim]
  constructor
  · rintro ⟨j, h1, h2, rfl, h3⟩
    rw [Nat.mul_mod_left, Nat.mul_div_cancel _ (by omega)]
    refine ⟨rfl, Nat.le_of_not_lt fun hlt => ?_, h1⟩
    rcases h.2.2 with e | e
    · omega
    · exact e (h3 k hlt)
  · rintro ⟨h1, h2, h3⟩
    exact ⟨q / row.length, h3, Nat.le_trans h2 h.1, by rw [Nat.mul_comm]; have := Nat.div_add_mod q row.length; omega, fun j hj => h.2.1 j (by omega)⟩
theorem mt_len {row w : List UInt8} {p : Nat} (h : Mt row w p) (hr : 1 ≤ row.length) : p + row.length ≤ w.length := by
  have := congrArg List.length h
  rw [List.length_take, List.length_drop] at this
  omega
theorem row_isS {row w : List UInt8} {l m k q : Nat} {out : List Bool} (hr : 1 ≤ row.length) (h : Most row w (l + m) k) (hi : IsS out w.length (der1 w (timN l m) (.nd (rowN row.length) (rowF row) .nil) 0)) (hq : q ≤ w.length) : bo0 out q = decide (q % row.length = 0 ∧ q / row.length ≤ k ∧ l ≤ q / row.length) := by
  rw [Bool.eq_iff_iff, bo0_true, hi.get q hq, row_want hr h, decide_eq_true_eq]
theorem remN {a b : Nat} : ((a : Int)).tmod (b : Int) = ((a % b : Nat) : Int) := (Int.ofNat_tmod a b).symm
theorem quoN {a b : Nat} (h : a ≤ 1000000) : IntKind.i64.wrap ((a : Int).tdiv (b : Int)) = ((a / b : Nat) : Int) := by
  have e : (a : Int).tdiv (b : Int) = ((a / b : Nat) : Int) := (Int.ofNat_tdiv a b).symm
  have := Nat.div_le_self a b
  rw [e]
  generalize a / b = c at this
  exact wrap_i64z (by omega) (by omega)
theorem u8_ne {x y : UInt8} : decide ((x.toNat : Int) ≠ (y.toNat : Int)) = !decide (x = y) := by
  by_cases h : x = y
  · subst h; simp
  · have : ¬ x.toNat = y.toNat := fun e => h (UInt8.toNat_inj.1 e)
    simp [h]; omega
theorem En_end : En endN = [.int .i8 4, .int .u64 0, .int .u64 0, .int .u64 0, .int .u64 0, .int .i64 0, .int .i64 0, .int .i64 0, .int .i64 0] := by
  show _ :: (Ec 0#256 ++ _) = _
  rw [Ec_zero]; rfl
theorem En_row (n : Nat) : En (rowN n) = [.int .i8 4, .int .u64 0, .int .u64 0, .int .u64 0, .int .u64 0, .int .i64 0, .int .i64 0, .int .i64 0, .int .i64 ((n : Int) + 1)] := by
  show _ :: (Ec 0#256 ++ _) = _
  rw [Ec_zero]; rfl
theorem En_tim (l m : Nat) : En (timN l m) = [.int .i8 6, .int .u64 0, .int .u64 0, .int .u64 0, .int .u64 0, .int .i64 0, .int .i64 l, .int .i64 ((l : Int) + m), .int .i64 1] := by
  show _ :: (Ec 0#256 ++ _) = _
  rw [Ec_zero]; rfl
theorem mulB {k n : Nat} (hk : k ≤ 61) (hn : n ≤ 40) : k * n ≤ 2440 := Nat.mul_le_mul hk hn
theorem mulZ {k n : Nat} (hk : k ≤ 61) (hn : n ≤ 40) {x : Int} (hx : x = (k : Int)) : -9223372036854775808 ≤ x * (n : Int) ∧ x * (n : Int) ≤ 9223372036854775807 := by
  have h := mulB hk hn
  subst hx
  rw [show (k : Int) * (n : Int) = ((k * n : Nat) : Int) from (by push_cast; rfl)]
  generalize k * n = z at h
  omega
end Go.HL.Kl.Mc

/- A slice out of the middle of one. Conditions: none. -/
namespace Go.HL
open Go
def midA (a : Option Addr) (c lo k : Nat) : Option Addr := if c = lo then a else a.map (·.add (lo * k))
section
variable {P : Program} {κ : Cx} {L : HL.Loc} {H : Hp} {ty t : TypeId} {x y z : Operand}
/-- 's[l:h]' -/
theorem s_slice_mid {e s by' n c : Nat} {a : Option Addr} {kl kh : IntKind} {l h : Int} [TU P t (.slice e)] [TI P e s by'] (hx : ev L x = some (.slice a n c)) (hy : ev L y = some (.int kl l)) (hz : ev L z = some (.int kh h)) (hb : 0 ≤ l ∧ l ≤ h ∧ h ≤ c) :
    Step P κ (.slice t x (some y) (some z) none) ty L H (.slice (midA a c l.toNat s) (h.toNat - l.toNat) (c - l.toNat)) :=
  ⟨fun ρ w d pos af g hρ _ => by
    have b1 : 0 ≤ h ∧ h ≤ c := by omega
    have b2 : 0 ≤ l ∧ l ≤ (h.toNat : Int) := by omega
    have b3 : 0 ≤ l ∧ l ≤ max h 0 := by omega
    have e2 : (Instr.slice t (.slice a n c) (some (.int kl l)) (some (.int kh h)) none).run P w = .ok (.slice (midA a c l.toNat s) (h.toNat - l.toNat) (c - l.toNat)) w := by
      simp [Instr.slice, run_u, Instr.sliceBounds, Instr.sliceBound, asIntOf, b1, b2, b3, run_size, midA]
    simp [execOp, hρ _ _ hx, hρ _ _ hy, hρ _ _ hz, Instr.sliceAt, run_u, e2]⟩
end
theorem flat_mid {α : Type} (E : α → List Value) {k : Nat} [h : Enc E k] (xs : List α) (lo m : Nat) {j : Nat} {u : Value} (hu : (flat E ((xs.drop lo).take m))[j]? = some u) : (flat E xs)[lo * k + j]? = some u := by
  have e : xs = xs.take lo ++ ((xs.drop lo).take m ++ (xs.drop lo).drop m) := by rw [List.take_append_drop, List.take_append_drop]
  have hj : j < (flat E ((xs.drop lo).take m)).length := by
    rcases Nat.lt_or_ge j (flat E ((xs.drop lo).take m)).length with h' | h'
    · exact h'
    · rw [List.getElem?_eq_none h'] at hu; cases hu
  rcases Nat.lt_or_ge lo xs.length with hl | hl
  · rw [e, flat_append, flat_append]
    have hlen : (flat E (xs.take lo)).length = lo * k := by rw [flat_len, List.length_take, Nat.min_eq_left (by omega)]
    rw [List.getElem?_append_right (by omega), hlen, Nat.add_sub_cancel_left, List.getElem?_append_left hj]
    exact hu
  · rw [List.drop_of_length_le hl] at hj; simp [flat] at hj
theorem Rd.mid {α : Type} {E : α → List Value} {k : Nat} [he : Enc E k] {w : World} {a : Option Addr} {n c : Nat} {xs : List α} (h : Rd E w (.slice a n c) xs) (lo hi : Nat) (h1 : lo ≤ hi) (h2 : hi ≤ xs.length) :
    Rd E w (.slice (midA a c lo k) ((xs.drop lo).take (hi - lo)).length (c - lo)) ((xs.drop lo).take (hi - lo)) := by
  have hs := h.sl
  obtain ⟨⟨a', c', hv, hn, h0, hsp⟩, hle⟩ := hs
  simp only [Value.slice.injEq] at hv
  obtain ⟨rfl, rfl, rfl⟩ := hv
  have hlen : ((xs.drop lo).take (hi - lo)).length = hi - lo := by simp; omega
  have hA : ∀ A, midA a c lo k = some A → hi - lo ≠ 0 → A.spot = none := by
    intro A hA hz
    unfold midA at hA
    rw [if_neg (by omega)] at hA
    cases a with
    | none => cases hA
    | some B =>
      have := hsp B rfl (by omega)
      simp only [Option.map_some, Option.some.injEq] at hA
      subst hA
      unfold Addr.add
      split
      · exact this
      · rfl
  refine ⟨⟨⟨_, _, rfl, by rw [hlen]; omega, fun hm => ?_, fun A hA' hz => hA A hA' (by rw [hlen] at hz; exact hz)⟩, by rw [hlen]; omega⟩, fun j u hu => ?_⟩
  · unfold midA at hm
    split at hm
    · have := h0 hm; omega
    · cases a with
      | none => have := h0 rfl; omega
      | some B => cases hm
  · have hne : hi - lo ≠ 0 := by
      intro e
      rw [e, List.take_zero] at hu
      simp [flat] at hu
    have hg := h.get (lo * k + j) u (flat_mid E xs lo (hi - lo) hu)
    have e : ea (.slice (midA a c lo k) ((xs.drop lo).take (hi - lo)).length (c - lo)) j = ea (.slice a xs.length c) (lo * k + j) := by
      unfold midA
      rw [if_neg (by omega)]
      cases a with
      | none => have := h0 rfl; omega
      | some B =>
        simp only [ea, sblk, soff, Option.map_some, oblk, ooff]
        unfold Addr.add
        split
        · rename_i hz; rw [hz, Nat.zero_add]
        · simp only [Nat.add_assoc]
    rw [e]
    exact hg
end Go.HL
