/- Sets of places, made: of one node, of two sets. Conditions: none. -/
import Derived.Test.YtihbhlgognpmmaaDoorMT9Z
import Derived.Test.YtihbhlgognpmmaaDoorMT3Z
namespace Go.HL.Kl.Mc
open Go Go.HL Go.HL.Kl
/-! forests, one behind the other -/
def F.app : F → F → F
  | .nil, g => g
  | .nd x ks r, g => .nd x ks (r.app g)
theorem F.num_app : ∀ f g : F, (f.app g).num = f.num + g.num
  | .nil, g => by simp [F.app, F.num]
  | .nd x ks r, g => by simp only [F.app, F.num, F.num_app r g]; omega
theorem F.flat_app : ∀ f g : F, (f.app g).flat = f.flat ++ g.flat
  | .nil, g => by simp [F.app, F.flat]
  | .nd x ks r, g => by simp [F.app, F.flat, F.flat_app r g]
theorem F.size_app : ∀ f g : F, (f.app g).size = f.size + g.size
  | .nil, g => by simp [F.app, F.size]
  | .nd x ks r, g => by simp only [F.app, F.size, F.size_app r g]; omega
theorem F.wf_app : ∀ {f g : F}, f.wf → g.wf → (f.app g).wf
  | .nil, g, _, h => h
  | .nd x ks r, g, ⟨a, b, c, d⟩, h => ⟨a, b, c, F.wf_app d h⟩
theorem Part.down {re : List Nd} {y : Nd} {js r : F} {p i' : Nat} (h : Part re (.nd y js r) p i') : Part re (js.app r) (p + 1) i' := by
  obtain ⟨_, h1, h2⟩ := h.head
  have hl := h.len
  simp only [F.size] at hl
  exact ⟨F.wf_app h1.wf h2.wf, by rw [h1.flat, h2.flat, F.flat_app, List.append_assoc], by rw [F.size_app]; omega, h.le⟩
theorem F.num_nil {f : F} (h : f.num = 0) : f = .nil := by
  cases f with
  | nil => rfl
  | nd x ks r => simp [F.num] at h
/-! lists of booleans -/
def bo0 (l : List Bool) (i : Nat) : Bool := l.getD i false
theorem bo0_get {l : List Bool} {i : Nat} (h : i < l.length) : l[i]? = some (bo0 l i) := by simp [bo0, h]
theorem bo0_true {l : List Bool} {i : Nat} : bo0 l i = true ↔ l[i]? = some true := by
  unfold bo0
  rw [List.getD_eq_getElem?_getD]
  cases l[i]? <;> simp
def orF (a b : List Bool) (i : Nat) : Bool := bo0 a i || bo0 b i
def orL (a b : List Bool) : List Bool := (List.range a.length).map (orF a b)
theorem orL_len (a b : List Bool) : (orL a b).length = a.length := by simp [orL]
theorem orL_get {a b : List Bool} {i : Nat} (h : i < a.length) : (orL a b)[i]? = some (orF a b i) := by
  unfold orL
  rw [List.getElem?_map, List.getElem?_range h]; rfl
/-- is there one of b that is not of a, among the first k? -/
def moreTo (a b : List Bool) (k : Nat) : Bool := (List.range k).any fun i => bo0 b i && !bo0 a i
def moreB (a b : List Bool) : Bool := moreTo a b a.length
theorem moreTo_zero {a b : List Bool} : moreTo a b 0 = false := rfl
theorem moreTo_succ {a b : List Bool} {k : Nat} : moreTo a b (k + 1) = (moreTo a b k || (bo0 b k && !bo0 a k)) := by simp [moreTo, List.range_succ]
theorem moreTo_yes {a b : List Bool} {k : Nat} (h : moreTo a b k = true) : moreTo a b (k + 1) = true := by rw [moreTo_succ, h]; rfl
theorem moreTo_no {a b : List Bool} {k : Nat} {v : Bool} (h : moreTo a b k = false) (hv : v = (bo0 b k && !bo0 a k)) : moreTo a b (k + 1) = v := by rw [moreTo_succ, h, hv]; rfl
theorem IsS.or {a b : List Bool} {N : Nat} {S T : Nat → Prop} (ha : IsS a N S) (hb : IsS b N T) : IsS (orL a b) N (fun q => S q ∨ T q) :=
  ⟨by rw [orL_len, ha.len], fun p hp => by
    rw [orL_get (by rw [ha.len]; omega), ← ha.get p hp, ← hb.get p hp, ← bo0_true, ← bo0_true]
    simp [orF]⟩
theorem IsS.no_more {a b : List Bool} {N : Nat} {S T : Nat → Prop} (ha : IsS a N S) (hb : IsS b N T) (h : moreB a b = false) : ∀ q, q ≤ N → T q → S q := fun q hq ht => by
  rw [← ha.get q hq, ← bo0_true]
  rw [← hb.get q hq, ← bo0_true] at ht
  have h1 := List.any_eq_false.1 h q (by rw [List.mem_range, ha.len]; omega)
  rw [ht] at h1
  simpa using h1
/-- how many are not in the set -/
def cf (l : List Bool) : Nat := (List.range l.length).countP fun i => !bo0 l i
theorem cf_le (l : List Bool) : cf l ≤ l.length := by
  have := List.countP_le_length (p := fun i => !bo0 l i) (l := List.range l.length)
  simpa [cf] using this
theorem countP_mono {p q : Nat → Bool} (h : ∀ i, p i = true → q i = true) : ∀ n, (List.range n).countP p ≤ (List.range n).countP q
  | 0 => by simp
  | n + 1 => by
    have := countP_mono h n
    have h1 := h n
    simp only [List.range_succ, List.countP_append, List.countP_singleton]
    cases hp : p n <;> cases hq : q n <;> simp_all <;> omega
theorem countP_lt {p q : Nat → Bool} (h : ∀ i, p i = true → q i = true) : ∀ n k, k < n → q k = true → p k = false → (List.range n).countP p < (List.range n).countP q
  | n + 1, k, hk, h1, h2 => by
    simp only [List.range_succ, List.countP_append, List.countP_singleton]
    by_cases e : k = n
    · subst e
      have := countP_mono h k
      rw [h1, h2]; simp; omega
    · have := countP_lt h n k (by omega) h1 h2
      have h3 := h n
      cases hp : p n <;> cases hq : q n <;> simp_all <;> omega
theorem cf_more {a b : List Bool} (h : moreB a b = true) : cf (orL a b) < cf a := by
  obtain ⟨i, hi, hb⟩ := List.any_eq_true.1 h
  rw [List.mem_range] at hi
  simp only [Bool.and_eq_true, Bool.not_eq_true'] at hb
  unfold cf
  rw [orL_len]
  have e : ∀ j, j < a.length → bo0 (orL a b) j = orF a b j := fun j hj => by
    have := orL_get (b := b) hj
    simp [bo0, this]
  have e2 : (List.range a.length).countP (fun i => !bo0 (orL a b) i) = (List.range a.length).countP (fun i => !orF a b i) := by
    apply List.countP_congr
    intro j hj
    rw [e j (List.mem_range.1 hj)]
  rw [e2]
  refine countP_lt (fun j hj => ?_) _ i hi (by simp [hb.2]) (by simp [orF, hb.1])
  simp only [orF, Bool.not_eq_true', Bool.or_eq_false_iff] at hj ⊢
  exact hj.1
/-! the sets of single nodes -/
structure SetP (w : List UInt8) (s : Cl) (fr : List Bool) (j : Nat) (out : List Bool) : Prop where
  len : out.length = w.length + 1
  get : ∀ q : Nat, out[q]? = some true ↔ ∃ p, p < j ∧ q = p + 1 ∧ fr[p]? = some true ∧ ∃ b, w[p]? = some b ∧ s.getLsbD b.toNat = true
theorem rep_no {n q : Nat} : ¬ (List.replicate n false)[q]? = some true := fun h => by
  have := List.mem_of_getElem? h
  simp at this
theorem SetP.zero {w : List UInt8} {s : Cl} {fr : List Bool} : SetP w s fr 0 (List.replicate (w.length + 1) false) :=
  ⟨by simp, fun q => ⟨fun h => absurd h rep_no, fun ⟨_, h, _⟩ => by omega⟩⟩
theorem SetP.step {w : List UInt8} {s : Cl} {fr out : List Bool} {j : Nat} (h : SetP w s fr j out) (hj : j < w.length) {v : Bool} (hv : v = true ↔ fr[j]? = some true ∧ ∃ b, w[j]? = some b ∧ s.getLsbD b.toNat = true) : SetP w s fr (j + 1) (out.set (j + 1) v) := by
  refine ⟨by rw [List.length_set]; exact h.len, fun q => ?_⟩
  by_cases e : j + 1 = q
  · subst e
    rw [List.getElem?_set_self (by rw [h.len]; omega), Option.some.injEq, hv]
    constructor
    · rintro ⟨h1, h2⟩; exact ⟨j, by omega, rfl, h1, h2⟩
    · rintro ⟨p, _, h2, h3, h4⟩
      obtain rfl : j = p := by omega
      exact ⟨h3, h4⟩
  · rw [List.getElem?_set_ne e, h.get]
    constructor
    · rintro ⟨p, h1, h2⟩; exact ⟨p, by omega, h2⟩
    · rintro ⟨p, h1, h2, h3⟩; exact ⟨p, by omega, h2, h3⟩
theorem SetP.done {w : List UInt8} {x : Nd} {ks : F} {fr out : List Bool} {S : Nat → Prop} (h : SetP w x.set fr w.length out) (h1 : x.op = 1) (hS : IsS fr w.length S) : IsS out w.length (img (der1 w x ks) S) := by
  refine ⟨h.len, fun q _ => (h.get q).trans ?_⟩
  simp only [img, der1_def, if_pos h1]
  constructor
  · rintro ⟨p, h2, rfl, h3, h4⟩; exact ⟨p, (hS.get p (by omega)).1 h3, rfl, h4⟩
  · rintro ⟨p, h2, rfl, b, hb, h4⟩
    have := (List.getElem?_eq_some_iff.1 hb).1
    exact ⟨p, this, rfl, (hS.get p (by omega)).2 h2, b, hb, h4⟩
theorem IsS.none {N : Nat} : IsS (List.replicate (N + 1) false) N (fun _ => False) := ⟨by simp, fun p _ => ⟨fun h => absurd h rep_no, False.elim⟩⟩
theorem IsS.only {N k : Nat} (hk : k ≤ N) {v : Bool} {p : Prop} (hv : v = true ↔ p) : IsS ((List.replicate (N + 1) false).set k v) N (fun q => q = k ∧ p) := by
  refine ⟨by simp, fun q hq => ?_⟩
  by_cases e : k = q
  · subst e
    rw [List.getElem?_set_self (by simp; omega), Option.some.injEq, hv]
    exact ⟨fun h => ⟨rfl, h⟩, fun h => h.2⟩
  · rw [List.getElem?_set_ne e]
    exact ⟨fun h => absurd h rep_no, fun h => absurd h.1.symm e⟩
theorem IsS.bol {w : List UInt8} {x : Nd} {ks : F} {fr : List Bool} {S : Nat → Prop} (h2 : x.op = 2) (hS : IsS fr w.length S) : IsS ((List.replicate (w.length + 1) false).set 0 (bo0 fr 0)) w.length (img (der1 w x ks) S) := by
  refine (IsS.only (Nat.zero_le _) (bo0_true.trans (hS.get 0 (Nat.zero_le _)))).iff fun q _ => ?_
  simp only [img, der1_def, if_neg (show ¬ x.op = 1 by omega), if_pos h2]
  exact ⟨fun ⟨h, h'⟩ => ⟨0, h', rfl, h⟩, fun ⟨p, h, h', h''⟩ => ⟨h'', h' ▸ h⟩⟩
theorem IsS.eol {w : List UInt8} {x : Nd} {ks : F} {fr : List Bool} {S : Nat → Prop} (h3 : x.op = 3) (hS : IsS fr w.length S) : IsS ((List.replicate (w.length + 1) false).set w.length (bo0 fr w.length)) w.length (img (der1 w x ks) S) := by
  refine (IsS.only (Nat.le_refl _) (bo0_true.trans (hS.get w.length (Nat.le_refl _)))).iff fun q _ => ?_
  simp only [img, der1_def, if_neg (show ¬ x.op = 1 by omega), if_neg (show ¬ x.op = 2 by omega), if_pos h3]
  exact ⟨fun ⟨h, h'⟩ => ⟨w.length, h', rfl, h⟩, fun ⟨p, h, h', h''⟩ => ⟨by omega, h' ▸ h⟩⟩
/-- one place -/
theorem IsS.one {N k : Nat} (hk : k ≤ N) : IsS ((List.replicate (N + 1) false).set k true) N (fun q => q = k) := (IsS.only hk (p := True) (by simp)).iff fun q _ => by simp
/-! answers that are read together with what was handed in -/
def OutP (N : Nat) (S : Nat → Prop) (vf : Value) (fr : List Bool) (v : Value) (S' : Hp) : Prop :=
  ∃ (a : Option Addr) (c : Nat) (l : List Bool), v = .slice a l.length c ∧ IsS l N S ∧ ∀ W : World, (∀ b o, (b, o) ∈ S' → W.heap[b]? = some o) → Rd Ebo W vf fr → Rd Ebo W v l
/-- the contract of over and of rounds -/
def OverC (P : Program) (fn : Nat) (w : List UInt8) (x : Nd) (ks : F) : Prop := ∀ (ra : Option Addr) (rc : Nat) (re : List Nd) (ta : Option Addr) (tc i i' : Nat) (fa : Option Addr) (fc : Nat) (fr : List Bool) (S : Nat → Prop),
  (∀ x ∈ re, -128 ≤ x.op ∧ x.op < 128) → (∀ x ∈ re, ¬ x.op = 8) → w.length ≤ 1000000 → Part re (.nd x ks .nil) i i' → IsS fr w.length S → (∀ p, S p → p ≤ w.length) →
  Fn P fn [.slice ra re.length rc, .int .i64 i, .slice ta w.length tc, .slice fa fr.length fc] (fun W => Rd En W (.slice ra re.length rc) re ∧ Rd Eb W (.slice ta w.length tc) w ∧ Rd Ebo W (.slice fa fr.length fc) fr) [] (OutP w.length (img (der1 w x ks) S) (.slice fa fr.length fc) fr)
/-- read, given a part of the heap and what was handed in -/
def RdC (vf : Value) (fr : List Bool) (v : Value) (l : List Bool) (S : Hp) : Prop := ∀ W : World, (∀ b o, (b, o) ∈ S → W.heap[b]? = some o) → Rd Ebo W vf fr → Rd Ebo W v l
theorem RdC.self {vf : Value} {fr : List Bool} : RdC vf fr vf fr [] := fun _ _ h => h
theorem RdC.of {vf v : Value} {fr l : List Bool} {S : Hp} (h : RdS Ebo v l S) : RdC vf fr v l S := fun W hs _ => h.out W hs
theorem RdC.trans {vf v u : Value} {fr l m : List Bool} {S S' : Hp} (h : RdC vf fr v l S) (h' : RdC v l u m S') : RdC vf fr u m (S' ++ S) := fun W hs hf =>
  h' W (fun b o hm => hs b o (List.mem_append_left _ hm)) (h W (fun b o hm => hs b o (List.mem_append_right _ hm)) hf)
theorem RdC.mono {vf v : Value} {fr l : List Bool} {S S' : Hp} (h : RdC vf fr v l S) (hs : HIn S S') : RdC vf fr v l S' := fun W hw hf => h W (fun b o hm => hw b o (hs _ hm)) hf
theorem RdC.rdk {n : Nat} {ds : List Deferred} {w0 : World} {H S : Hp} {vf v : Value} {fr l : List Bool} (h : RdC vf fr v l S) (hf : Rd Ebo w0 vf fr) (hs : HIn S H) : RdK Ebo ⟨n, ds, w0, []⟩ H v l :=
  ⟨fun W st => h W (fun b o hm => st.has b o (hs _ hm)) ((RdK.old0 (H := H) (n := n) (ds := ds) hf).out W st)⟩
theorem img_zero {D : Nat → Nat → Prop} {S : Nat → Prop} {q : Nat} : img (pow D 0) S q ↔ S q := ⟨fun ⟨p, h, e⟩ => by obtain rfl : p = q := e; exact h, fun h => ⟨q, h, rfl⟩⟩
theorem rounds_fixed {N k : Nat} {x : Nd} {D : Nat → Nat → Prop} {S : Nat → Prop} (h0 : 0 ≤ x.mn) (hmx : x.mx = -1) (hk : x.mn.toNat ≤ k) (hS : ∀ p, S p → p ≤ N) (hD : Inn N D) (h : ∀ q, q ≤ N → img (pow D (k + 1)) S q → upTo D S x.mn.toNat k q) (q : Nat) : upTo D S x.mn.toNat k q ↔ img (rounds x D) S q := by
  rw [img_rounds h0]
  constructor
  · rintro ⟨j, h1, _, h3⟩; exact ⟨j, h1, .inl hmx, h3⟩
  · rintro ⟨j, h1, _, h3⟩; exact upTo_fix hS hD hk h q ⟨j, h1, h3⟩
theorem rounds_last {k : Nat} {x : Nd} {D : Nat → Nat → Prop} {S : Nat → Prop} (h0 : 0 ≤ x.mn) (hmx : x.mx = k) (q : Nat) : upTo D S x.mn.toNat k q ↔ img (rounds x D) S q := by
  rw [img_rounds h0]
  constructor
  · rintro ⟨j, h1, h2, h3⟩; exact ⟨j, h1, .inr (by omega), h3⟩
  · rintro ⟨j, h1, h2, h3⟩; exact ⟨j, h1, by omega, h3⟩
theorem img_cat {w : List UInt8} {y : Nd} {js r : F} {T : Nat → Prop} {p : Nat} : img (der w r false) (img (der1 w y js) T) p ↔ img (der w (.nd y js r) false) T p := by
  constructor
  · rintro ⟨t, ⟨u, h1, h2⟩, h3⟩; exact ⟨u, h1, der_cat.2 ⟨t, h2, h3⟩⟩
  · rintro ⟨u, h1, h2⟩; obtain ⟨t, h3, h4⟩ := der_cat.1 h2; exact ⟨t, ⟨u, h1, h3⟩, h4⟩
theorem img_alt {w : List UInt8} {y : Nd} {js r : F} {T : Nat → Prop} {p : Nat} : img (der w (.nd y js r) true) T p ↔ img (der1 w y js) T p ∨ img (der w r true) T p := by
  constructor
  · rintro ⟨u, h1, h2⟩; exact (der_alt.1 h2).imp (fun h => ⟨u, h1, h⟩) fun h => ⟨u, h1, h⟩
  · rintro (⟨u, h1, h2⟩ | ⟨u, h1, h2⟩)
    · exact ⟨u, h1, der_alt.2 (.inl h2)⟩
    · exact ⟨u, h1, der_alt.2 (.inr h2)⟩
theorem img_nil {w : List UInt8} {T : Nat → Prop} {p : Nat} : img (der w .nil false) T p ↔ T p := ⟨fun ⟨u, h1, h2⟩ => by obtain rfl := der_nil.1 h2; exact h1, fun h => ⟨p, h, der_nil.2 rfl⟩⟩
theorem img_nil' {w : List UInt8} {T : Nat → Prop} {p : Nat} : ¬ img (der w .nil true) T p := fun ⟨u, h1, h2⟩ => der_nil'.1 h2
theorem img_inn {w : List UInt8} {x : Nd} {ks : F} {T : Nat → Prop} (h : ∀ p, T p → p ≤ w.length) : ∀ p, img (der1 w x ks) T p → p ≤ w.length := fun p ⟨u, h1, h2⟩ => der1_inn _ _ (h u h1) h2
theorem img_else {w : List UInt8} {x : Nd} {ks : F} {T : Nat → Prop} {p : Nat} (h1 : ¬ x.op = 1) (h2 : ¬ x.op = 2) (h3 : ¬ x.op = 3) (h5 : ¬ x.op = 5) (h6 : ¬ x.op = 6) : img (der1 w x ks) T p ↔ img (der w ks false) T p := by
  simp only [img, der1_def, if_neg h1, if_neg h2, if_neg h3, if_neg h5, if_neg h6]
theorem img_alt5 {w : List UInt8} {x : Nd} {ks : F} {T : Nat → Prop} {p : Nat} (h5 : x.op = 5) : img (der1 w x ks) T p ↔ img (der w ks true) T p := by
  simp only [img, der1_def, if_neg (show ¬ x.op = 1 by omega), if_neg (show ¬ x.op = 2 by omega), if_neg (show ¬ x.op = 3 by omega), if_pos h5]
theorem img_rep6 {w : List UInt8} {x : Nd} {ks : F} {T : Nat → Prop} {p : Nat} (h6 : x.op = 6) : img (der1 w x ks) T p ↔ img (rounds x (der w ks false)) T p := by
  simp only [img, der1_def, if_neg (show ¬ x.op = 1 by omega), if_neg (show ¬ x.op = 2 by omega), if_neg (show ¬ x.op = 3 by omega), if_neg (show ¬ x.op = 5 by omega), if_pos h6]
theorem grp_kid {x : Nd} {ks : F} (h : (F.nd x ks .nil).wf) (h7 : x.op = 7) : ∃ y js, ks = .nd y js .nil := by
  have h1 := h.1
  have h2 : (ks.num : Int) = x.kids := h.2.1
  simp only [ndOk, Bool.and_eq_true] at h1
  have h3 := h1.2
  rw [kidsOk, if_pos (.inr h7), decide_eq_true_eq] at h3
  cases ks with
  | nil => simp [F.num] at h2; omega
  | nd y js r =>
    cases r with
    | nil => exact ⟨y, js, rfl⟩
    | nd z a b => simp only [F.num] at h2; omega
theorem OutP.of {N n c : Nat} {S : Nat → Prop} {vf : Value} {fr l : List Bool} {a : Option Addr} {S' : Hp} (h : OwnS Ebo 1 4 (.slice a n c) l S') (hn : l.length = n) (hi : IsS l N S) : OutP N S vf fr (.slice a n c) S' := ⟨a, c, l, by rw [hn], hi, by subst hn; exact RdC.of h.rds⟩
theorem shortB {c n : Nat} {m : Int} (hc : (c : Int) ≤ m) (hm : m ≤ 33554432) (hn : n ≤ 1000000) : c * (n + 2) ≤ 33554432 * 1000002 := Nat.mul_le_mul (by omega) (by omega)
end Go.HL.Kl.Mc

/- Part of the proofs over this seat: see the text that holds the theorem. Conditions: each theorem bears its own. -/
namespace Go.Proofs.YtihbhlgognpmmaaDoor
open Go Go.HL Go.Proofs Go.HL.Kl Go.HL.Kl.Mc
theorem rWeight_fn (ra : Option Addr) (rc : Nat) (re : List Nd) (hre : ∀ x ∈ re, -128 ≤ x.op ∧ x.op < 128) : HL.Fn Tryd.prog 15 [.slice ra re.length rc] (fun w => Rd En w (.slice ra re.length rc) re) [] (fun v _ => ∃ n : Nat, n ≤ 16385 ∧ v = .int .i64 n) := by
  refine fn_of Tryd.func15 rfl rfl rfl fun w0 hw => ?_
  refine c_seq fun _ hK1 => ?_
  refine c_region ?_
  refine o_step rfl (s_assign rfl) ?_
  refine o_nil ?_
  refine x_then (hK1 _ _ ?_)
  refine c_seq fun _ hK2 => ?_
  refine c_seq fun _ hK3 => ?_
  refine c_region ?_
  refine o_step rfl (s_move rfl) ?_
  refine o_callP (rShaped_fn ra rc re hre) rfl rfl rfl (fun w st => (RdK.old0 hw).out w st) (fun v6 hv6 => ?_)
  subst hv6
  cases hsb : shapedB re
  ·
   refine o_step rfl (s_not rfl) ?_
   refine o_nil ?_
   refine x_then (hK3 _ _ ?_)
   refine c_true rfl ?_
   refine c_seq fun _ hK4 => ?_
   refine c_region ?_
   refine o_step rfl (s_assign rfl) ?_
   refine o_nil ?_
   refine x_then (hK4 _ _ ?_)
   refine c_ret ?_
   refine x_then_ret (?_)
   exact x_ret rfl (.tmp rfl (.nil)) (⟨0, by omega, rfl⟩)
  ·
   obtain ⟨_, x, ks, hs⟩ := shapedB_iff.1 hsb
   refine o_step rfl (s_not rfl) ?_
   refine o_nil ?_
   refine x_then (hK3 _ _ ?_)
   refine c_false rfl ?_
   refine c_skip ?_
   refine x_then (hK2 _ _ ?_)
   refine c_seq fun _ hK5 => ?_
   refine c_region ?_
   refine o_step rfl (s_move rfl) ?_
   refine o_callP (rWeigh_fn (ks.size + 1) x ks (by omega) ra rc re 0 _ hre hs.part) rfl rfl rfl (fun w st => (RdK.old0 hw).out w st) (fun v10 hv10 => ?_)
   subst hv10
   refine o_step rfl (s_move rfl) ?_
   refine o_step rfl (s_extract rfl rfl) ?_
   refine o_step rfl (s_extract rfl rfl) ?_
   refine o_step rfl (s_assign rfl) ?_
   refine o_step rfl (s_assign rfl) ?_
   refine o_nil ?_
   refine x_then (hK5 _ _ ?_)
   refine c_seq fun _ hK6 => ?_
   refine c_region ?_
   refine o_step rfl (s_move rfl) ?_
   refine o_step rfl (s_assign rfl) ?_
   refine o_nil ?_
   refine x_then (hK6 _ _ ?_)
   refine c_ret ?_
   refine ?_
   exact x_ret rfl (.tmp rfl (.nil)) (⟨_, cut_le _, rfl⟩)

set_option maxHeartbeats 1000000 in
theorem beyond_fn (ra : Option Addr) (rc : Nat) (re : List Nd) (hre : ∀ x ∈ re, -128 ≤ x.op ∧ x.op < 128) : HL.Fn Tryd.prog 6 [.slice ra re.length rc] (fun w => Rd En w (.slice ra re.length rc) re) [] (fun v _ => ∃ b, v = .bool b) := by
  refine fn_of Tryd.func6 rfl rfl rfl fun w0 hw => ?_
  have hsl := hw.sl
  have hbl := hsl.le
  refine c_seq fun _ hK1 => ?_
  refine c_region ?_
  refine o_step rfl (s_assign rfl) ?_
  refine o_nil ?_
  refine x_then (hK1 _ _ ?_)
  refine c_seq fun _ hK2 => ?_
  refine c_region ?_
  refine o_step rfl (s_assign rfl) ?_
  refine o_nil ?_
  refine x_then (hK2 _ _ ?_)
  refine c_seq fun _ hK3 => ?_
  refine c_seq fun _ hK4 => ?_
  refine c_region ?_
  refine o_step rfl (s_assign rfl) ?_
  refine o_nil ?_
  refine x_then (hK4 _ _ ?_)
  refine c_block ?_
  -- not carried: 2
  refine c_loop3 (fun (j : Nat) (q : Sl Int) (S : Hp) => j ≤ re.length ∧ q.xs.length ≤ 65536 ∧ OwnS Ei 1 3 (.slice q.a q.xs.length q.c) q.xs S) (fun (j : Nat) (q : Sl Int) (S : Hp) => [(4, .int .i64 j), (3, .slice q.a q.xs.length q.c)]) [(0, _)] (fun (j : Nat) (q : Sl Int) (S : Hp) => S) (fun (j : Nat) (q : Sl Int) (S : Hp) => re.length - j) 0 ⟨none, 0, []⟩ [] ⟨by omega, by simp, .nil⟩ sbA sbA hzB ?_
  rintro j q0 S0 ⟨hj, hq0, hO0⟩
  refine c_seq fun _ hK5 => ?_
  refine c_seq fun _ hK6 => ?_
  refine c_region ?_
  refine o_step rfl (s_move rfl) ?_
  refine o_step rfl (s_move rfl) ?_
  refine o_step rfl (s_len rfl) ?_
  by_cases hjl : j < re.length
  ·
   obtain ⟨x, hx⟩ : ∃ x, re[j]? = some x := ⟨_, List.getElem?_eq_getElem hjl⟩
   refine o_step rfl (step_cast (v' := .bool true) (s_lss rfl rfl) (by rw [decide_eq_true (by omega)])) ?_
   refine o_nil ?_
   refine x_then (hK6 _ _ ?_)
   refine c_true rfl ?_
   refine c_skip ?_
   refine x_then (hK5 _ _ ?_)
   refine c_seq fun _ hK7 => ?_
   refine c_block ?_
   refine c_seq fun _ hK8 => ?_
   refine c_block ?_
   refine c_loop2 (fun (q : Sl Int) (S : Hp) => q.xs.length ≤ 65536 ∧ OwnS Ei 1 3 (.slice q.a q.xs.length q.c) q.xs S) (fun (q : Sl Int) (S : Hp) => [(3, .slice q.a q.xs.length q.c)]) [(0, _), (4, _), (5, _), (6, _), (7, _), (8, _)] (fun (q : Sl Int) (S : Hp) => S) (fun (q : Sl Int) (S : Hp) => q.xs.length) q0 S0 ⟨hq0, hO0⟩ sbA sbA hzB ?_
   rintro q S ⟨hq, hO⟩
   have hOs := hO.sl
   have hOc := hOs.cap
   refine c_seq fun _ hK9 => ?_
   refine c_seq fun _ hK10 => ?_
   refine c_region ?_
   refine o_step rfl (s_move rfl) ?_
   refine o_step rfl (s_len rfl) ?_
   by_cases hp0 : (q.xs.length : Int) > 0
   ·
    obtain ⟨u, hu⟩ : ∃ u, q.xs[q.xs.length - 1]? = some u := ⟨_, List.getElem?_eq_getElem (by omega)⟩
    have hO1 := hO.pre (q.xs.length - 1) (by omega)
    have hql1 : (q.xs.take (q.xs.length - 1)).length = q.xs.length - 1 := by rw [List.length_take]; omega
    refine o_step rfl (step_cast (v' := .bool true) (s_gtr rfl rfl) (by rw [decide_eq_true (by omega)])) ?_
    refine o_step rfl (s_move rfl) ?_
    refine o_yes rfl rfl ?_
    refine o_step rfl (s_move rfl) ?_
    refine o_yes rfl rfl ?_
    refine o_step rfl (s_move rfl) ?_
    refine o_yes rfl rfl ?_
    refine o_step rfl (s_len rfl) ?_
    refine o_yes rfl rfl ?_
    refine o_step rfl (s_sub rfl rfl (by omega)) ?_
    refine o_yes rfl rfl ?_
    refine o_step rfl (s_idx rfl rfl hOs (by omega)) ?_
    refine o_yes rfl rfl ?_
    refine o_step rfl (s_ld rfl ((hO.rdk hiA).ld (q.xs.length - 1) 0 hu rfl (by decide) (by omega))) ?_
    refine o_yes rfl rfl ?_
    by_cases hle : u ≤ 0
    ·
     refine o_step rfl (step_cast (v' := .bool true) (s_leq rfl rfl) (by rw [decide_eq_true (by omega)])) ?_
     refine o_step rfl (s_pick_t rfl rfl) ?_
     refine o_nil ?_
     refine x_then (hK10 _ _ ?_)
     refine c_true rfl ?_
     refine c_skip ?_
     refine x_then (hK9 _ _ ?_)
     refine c_block ?_
     refine c_region ?_
     refine o_step rfl (s_move rfl) ?_
     refine o_step rfl (s_move rfl) ?_
     refine o_step rfl (s_len rfl) ?_
     refine o_step rfl (s_sub rfl rfl (by omega)) ?_
     refine o_step rfl (step_cast (v' := .slice q.a (q.xs.take (q.xs.length - 1)).length q.c) (s_slice_hi rfl rfl (by omega)) (by rw [hql1]; congr 1; omega)) ?_
     refine o_step rfl (s_assign rfl) ?_
     refine o_nil ?_
     refine x_block ?_
     exact x_then (x_inv (⟨q.a, q.c, q.xs.take (q.xs.length - 1)⟩, S) ⟨by rw [hql1]; omega, by dsimp only; rw [hql1]; exact hO1⟩ (by dsimp only; rw [hql1]; omega) sbA hzB)
    ·
     refine o_step rfl (step_cast (v' := .bool false) (s_leq rfl rfl) (by rw [decide_eq_false (by omega)])) ?_
     refine o_step rfl (s_pick_t rfl rfl) ?_
     refine o_nil ?_
     refine x_then (hK10 _ _ ?_)
     refine c_false rfl ?_
     refine c_exit ?_
     refine x_then_exit ?_
     refine x_then_exit ?_
     refine x_block_exit ?_
     refine x_then (hK8 _ _ ?_)
     refine c_seq fun _ hK11 => ?_
     refine c_seq fun _ hK12 => ?_
     refine c_region ?_
     refine o_step rfl (s_move rfl) ?_
     refine o_step rfl (s_len rfl) ?_
     by_cases hp1 : (q.xs.length : Int) > 0
     ·
      obtain ⟨u2, hu2⟩ : ∃ u, q.xs[q.xs.length - 1]? = some u := ⟨_, List.getElem?_eq_getElem (by omega)⟩
      refine o_step rfl (step_cast (v' := .bool true) (s_gtr rfl rfl) (by rw [decide_eq_true (by omega)])) ?_
      refine o_nil ?_
      refine x_then (hK12 _ _ ?_)
      refine c_true rfl ?_
      refine c_region ?_
      refine o_step rfl (s_move rfl) ?_
      refine o_step rfl (s_move rfl) ?_
      refine o_step rfl (s_len rfl) ?_
      refine o_step rfl (s_sub rfl rfl (by omega)) ?_
      refine o_step rfl (s_move rfl) ?_
      refine o_step rfl (s_move rfl) ?_
      refine o_step rfl (s_len rfl) ?_
      refine o_step rfl (s_sub rfl rfl (by omega)) ?_
      refine o_step rfl (s_idx rfl rfl hOs (by omega)) ?_
      refine o_step rfl (s_ld rfl ((hO.rdk hiA).ld (q.xs.length - 1) 0 hu2 rfl (by decide) (by omega))) ?_
      refine o_step rfl (s_subw rfl rfl) ?_
      refine o_step rfl (s_idx rfl rfl hOs (by omega)) ?_
      refine o_stS1 (q.xs.length - 1) _ hO pkA rfl rfl rfl (by omega) (by omega) fun S' hS' => ?_
      have hO := hS'
      refine o_nil ?_
      refine x_then (hK11 _ _ ?_)
      refine c_seq fun _ hK13 => ?_
      refine c_region ?_
      refine o_step rfl (s_move rfl) ?_
      refine o_step rfl (s_move rfl) ?_
      refine o_step rfl (s_move rfl) ?_
      refine o_step rfl (s_idx rfl rfl hsl (by omega)) ?_
      refine o_step rfl (s_field rfl rfl (by decide)) ?_
      refine o_step rfl (s_ld rfl ((RdK.old0 hw).ld j 8 hx rfl (by decide) (by omega))) ?_
      refine o_bs (E := Ei) (xs := [x.kids]) (vs := [_]) rfl rfl rfl rfl rfl (by decide) (by decide) fun b49 S49 hS49 => ?_
      refine o_app hO (hS49.rdk hiA) rfl rfl rfl rfl (by simp; omega) (by simp; omega) rfl pkA fun a50 c50 S50 hS50 => ?_
      refine o_step rfl (s_assign rfl) ?_
      refine o_nil ?_
      refine x_then (hK13 _ _ ?_)
      refine c_seq fun _ hK14 => ?_
      refine c_region ?_
      refine o_step rfl (s_move rfl) ?_
      refine o_step rfl (s_len rfl) ?_
      refine o_step rfl (s_gtr rfl rfl) ?_
      refine o_nil ?_
      refine x_then (hK14 _ _ ?_)
      refine c_if rfl (fun hbig => ?_) (fun hbig => ?_)
      ·
       refine c_seq fun _ hK15 => ?_
       refine c_region ?_
       refine o_step rfl (s_assign rfl) ?_
       refine o_nil ?_
       refine x_then (hK15 _ _ ?_)
       refine c_ret ?_
       refine x_block_ret (x_then_ret (x_then_ret (x_block_ret (x_then_ret (?_)))))
       exact x_ret rfl (.tmp rfl (.nil)) (⟨_, rfl⟩)
      ·
       refine c_skip ?_
       refine x_block ?_
       refine x_then (hK7 _ _ ?_)
       refine c_region ?_
       refine o_step rfl (s_move rfl) ?_
       refine o_step rfl (s_add rfl rfl (by omega)) ?_
       refine o_step rfl (s_assign rfl) ?_
       refine o_nil ?_
       exact x_then (x_inv (j + 1, ⟨a50, c50, _⟩, S50) ⟨by omega, by dsimp only; omega, hS50⟩ (by first | omega | (dsimp only; omega)) sbA hzB)
     ·
      refine o_step rfl (step_cast (v' := .bool false) (s_gtr rfl rfl) (by rw [decide_eq_false (by omega)])) ?_
      refine o_nil ?_
      refine x_then (hK12 _ _ ?_)
      refine c_false rfl ?_
      refine c_skip ?_
      refine x_then (hK11 _ _ ?_)
      refine c_seq fun _ hK16 => ?_
      refine c_region ?_
      refine o_step rfl (s_move rfl) ?_
      refine o_step rfl (s_move rfl) ?_
      refine o_step rfl (s_move rfl) ?_
      refine o_step rfl (s_idx rfl rfl hsl (by omega)) ?_
      refine o_step rfl (s_field rfl rfl (by decide)) ?_
      refine o_step rfl (s_ld rfl ((RdK.old0 hw).ld j 8 hx rfl (by decide) (by omega))) ?_
      refine o_bs (E := Ei) (xs := [x.kids]) (vs := [_]) rfl rfl rfl rfl rfl (by decide) (by decide) fun b49 S49 hS49 => ?_
      refine o_app hO (hS49.rdk hiA) rfl rfl rfl rfl (by simp; omega) (by simp; omega) rfl pkA fun a50 c50 S50 hS50 => ?_
      refine o_step rfl (s_assign rfl) ?_
      refine o_nil ?_
      refine x_then (hK16 _ _ ?_)
      refine c_seq fun _ hK17 => ?_
      refine c_region ?_
      refine o_step rfl (s_move rfl) ?_
      refine o_step rfl (s_len rfl) ?_
      refine o_step rfl (s_gtr rfl rfl) ?_
      refine o_nil ?_
      refine x_then (hK17 _ _ ?_)
      refine c_if rfl (fun hbig => ?_) (fun hbig => ?_)
      ·
       refine c_seq fun _ hK18 => ?_
       refine c_region ?_
       refine o_step rfl (s_assign rfl) ?_
       refine o_nil ?_
       refine x_then (hK18 _ _ ?_)
       refine c_ret ?_
       refine x_block_ret (x_then_ret (x_then_ret (x_block_ret (x_then_ret (?_)))))
       exact x_ret rfl (.tmp rfl (.nil)) (⟨_, rfl⟩)
      ·
       refine c_skip ?_
       refine x_block ?_
       refine x_then (hK7 _ _ ?_)
       refine c_region ?_
       refine o_step rfl (s_move rfl) ?_
       refine o_step rfl (s_add rfl rfl (by omega)) ?_
       refine o_step rfl (s_assign rfl) ?_
       refine o_nil ?_
       exact x_then (x_inv (j + 1, ⟨a50, c50, _⟩, S50) ⟨by omega, by dsimp only; omega, hS50⟩ (by first | omega | (dsimp only; omega)) sbA hzB)
   ·
    refine o_step rfl (step_cast (v' := .bool false) (s_gtr rfl rfl) (by rw [decide_eq_false (by omega)])) ?_
    refine o_step rfl (s_move rfl) ?_
    refine o_no rfl rfl rfl rfl ?_
    refine o_no rfl rfl rfl rfl ?_
    refine o_no rfl rfl rfl rfl ?_
    refine o_no rfl rfl rfl rfl ?_
    refine o_no rfl rfl rfl rfl ?_
    refine o_no rfl rfl rfl rfl ?_
    refine o_no rfl rfl rfl rfl ?_
    refine o_step rfl (s_pick_f rfl rfl) ?_
    refine o_nil ?_
    refine x_then (hK10 _ _ ?_)
    refine c_false rfl ?_
    refine c_exit ?_
    refine x_then_exit ?_
    refine x_then_exit ?_
    refine x_block_exit ?_
    refine x_then (hK8 _ _ ?_)
    refine c_seq fun _ hK19 => ?_
    refine c_seq fun _ hK20 => ?_
    refine c_region ?_
    refine o_step rfl (s_move rfl) ?_
    refine o_step rfl (s_len rfl) ?_
    by_cases hp1 : (q.xs.length : Int) > 0
    ·
     obtain ⟨u2, hu2⟩ : ∃ u, q.xs[q.xs.length - 1]? = some u := ⟨_, List.getElem?_eq_getElem (by omega)⟩
     refine o_step rfl (step_cast (v' := .bool true) (s_gtr rfl rfl) (by rw [decide_eq_true (by omega)])) ?_
     refine o_nil ?_
     refine x_then (hK20 _ _ ?_)
     refine c_true rfl ?_
     refine c_region ?_
     refine o_step rfl (s_move rfl) ?_
     refine o_step rfl (s_move rfl) ?_
     refine o_step rfl (s_len rfl) ?_
     refine o_step rfl (s_sub rfl rfl (by omega)) ?_
     refine o_step rfl (s_move rfl) ?_
     refine o_step rfl (s_move rfl) ?_
     refine o_step rfl (s_len rfl) ?_
     refine o_step rfl (s_sub rfl rfl (by omega)) ?_
     refine o_step rfl (s_idx rfl rfl hOs (by omega)) ?_
     refine o_step rfl (s_ld rfl ((hO.rdk hiA).ld (q.xs.length - 1) 0 hu2 rfl (by decide) (by omega))) ?_
     refine o_step rfl (s_subw rfl rfl) ?_
     refine o_step rfl (s_idx rfl rfl hOs (by omega)) ?_
     refine o_stS1 (q.xs.length - 1) _ hO pkA rfl rfl rfl (by omega) (by omega) fun S' hS' => ?_
     have hO := hS'
     refine o_nil ?_
     refine x_then (hK19 _ _ ?_)
     refine c_seq fun _ hK21 => ?_
     refine c_region ?_
     refine o_step rfl (s_move rfl) ?_
     refine o_step rfl (s_move rfl) ?_
     refine o_step rfl (s_move rfl) ?_
     refine o_step rfl (s_idx rfl rfl hsl (by omega)) ?_
     refine o_step rfl (s_field rfl rfl (by decide)) ?_
     refine o_step rfl (s_ld rfl ((RdK.old0 hw).ld j 8 hx rfl (by decide) (by omega))) ?_
     refine o_bs (E := Ei) (xs := [x.kids]) (vs := [_]) rfl rfl rfl rfl rfl (by decide) (by decide) fun b49 S49 hS49 => ?_
     refine o_app hO (hS49.rdk hiA) rfl rfl rfl rfl (by simp; omega) (by simp; omega) rfl pkA fun a50 c50 S50 hS50 => ?_
     refine o_step rfl (s_assign rfl) ?_
     refine o_nil ?_
     refine x_then (hK21 _ _ ?_)
     refine c_seq fun _ hK22 => ?_
     refine c_region ?_
     refine o_step rfl (s_move rfl) ?_
     refine o_step rfl (s_len rfl) ?_
     refine o_step rfl (s_gtr rfl rfl) ?_
     refine o_nil ?_
     refine x_then (hK22 _ _ ?_)
     refine c_if rfl (fun hbig => ?_) (fun hbig => ?_)
     ·
      refine c_seq fun _ hK23 => ?_
      refine c_region ?_
      refine o_step rfl (s_assign rfl) ?_
      refine o_nil ?_
      refine x_then (hK23 _ _ ?_)
      refine c_ret ?_
      refine x_block_ret (x_then_ret (x_then_ret (x_block_ret (x_then_ret (?_)))))
      exact x_ret rfl (.tmp rfl (.nil)) (⟨_, rfl⟩)
     ·
      refine c_skip ?_
      refine x_block ?_
      refine x_then (hK7 _ _ ?_)
      refine c_region ?_
      refine o_step rfl (s_move rfl) ?_
      refine o_step rfl (s_add rfl rfl (by omega)) ?_
      refine o_step rfl (s_assign rfl) ?_
      refine o_nil ?_
      exact x_then (x_inv (j + 1, ⟨a50, c50, _⟩, S50) ⟨by omega, by dsimp only; omega, hS50⟩ (by first | omega | (dsimp only; omega)) sbA hzB)
    ·
     refine o_step rfl (step_cast (v' := .bool false) (s_gtr rfl rfl) (by rw [decide_eq_false (by omega)])) ?_
     refine o_nil ?_
     refine x_then (hK20 _ _ ?_)
     refine c_false rfl ?_
     refine c_skip ?_
     refine x_then (hK19 _ _ ?_)
     refine c_seq fun _ hK24 => ?_
     refine c_region ?_
     refine o_step rfl (s_move rfl) ?_
     refine o_step rfl (s_move rfl) ?_
     refine o_step rfl (s_move rfl) ?_
     refine o_step rfl (s_idx rfl rfl hsl (by omega)) ?_
     refine o_step rfl (s_field rfl rfl (by decide)) ?_
     refine o_step rfl (s_ld rfl ((RdK.old0 hw).ld j 8 hx rfl (by decide) (by omega))) ?_
     refine o_bs (E := Ei) (xs := [x.kids]) (vs := [_]) rfl rfl rfl rfl rfl (by decide) (by decide) fun b49 S49 hS49 => ?_
     refine o_app hO (hS49.rdk hiA) rfl rfl rfl rfl (by simp; omega) (by simp; omega) rfl pkA fun a50 c50 S50 hS50 => ?_
     refine o_step rfl (s_assign rfl) ?_
     refine o_nil ?_
     refine x_then (hK24 _ _ ?_)
     refine c_seq fun _ hK25 => ?_
     refine c_region ?_
     refine o_step rfl (s_move rfl) ?_
     refine o_step rfl (s_len rfl) ?_
     refine o_step rfl (s_gtr rfl rfl) ?_
     refine o_nil ?_
     refine x_then (hK25 _ _ ?_)
     refine c_if rfl (fun hbig => ?_) (fun hbig => ?_)
     ·
      refine c_seq fun _ hK26 => ?_
      refine c_region ?_
      refine o_step rfl (s_assign rfl) ?_
      refine o_nil ?_
      refine x_then (hK26 _ _ ?_)
      refine c_ret ?_
      refine x_block_ret (x_then_ret (x_then_ret (x_block_ret (x_then_ret (?_)))))
      exact x_ret rfl (.tmp rfl (.nil)) (⟨_, rfl⟩)
     ·
      refine c_skip ?_
      refine x_block ?_
      refine x_then (hK7 _ _ ?_)
      refine c_region ?_
      refine o_step rfl (s_move rfl) ?_
      refine o_step rfl (s_add rfl rfl (by omega)) ?_
      refine o_step rfl (s_assign rfl) ?_
      refine o_nil ?_
      exact x_then (x_inv (j + 1, ⟨a50, c50, _⟩, S50) ⟨by omega, by dsimp only; omega, hS50⟩ (by first | omega | (dsimp only; omega)) sbA hzB)
  ·
   refine o_step rfl (step_cast (v' := .bool false) (s_lss rfl rfl) (by rw [decide_eq_false (by omega)])) ?_
   refine o_nil ?_
   refine x_then (hK6 _ _ ?_)
   refine c_false rfl ?_
   refine c_exit ?_
   refine x_then_exit ?_
   refine x_then_exit ?_
   refine x_block_exit ?_
   refine x_then (hK3 _ _ ?_)
   refine c_seq fun _ hK27 => ?_
   refine c_region ?_
   refine o_step rfl (s_assign rfl) ?_
   refine o_nil ?_
   refine x_then (hK27 _ _ ?_)
   refine c_ret ?_
   refine ?_
   exact x_ret rfl (.tmp rfl (.nil)) (⟨_, rfl⟩)

end Go.Proofs.YtihbhlgognpmmaaDoor

/- Part of the proofs over this seat: see the text that holds the theorem. Conditions: each theorem bears its own. -/
namespace Go.Proofs.YtihbhlgognpmmaaDoor
open Go Go.HL Go.Proofs Go.HL.Kl Go.HL.Kl.Mc
theorem behinds_fn (ra : Option Addr) (rc : Nat) (re : List Nd) (hre : ∀ x ∈ re, -128 ≤ x.op ∧ x.op < 128) (x0 : Nd) (ks0 : F) (hp0 : Part re (.nd x0 ks0 .nil) 0 re.length) (hrl : re.length ≤ 1000000) : HL.Fn Tryd.prog 24 [.slice ra re.length rc] (fun w => Rd En w (.slice ra re.length rc) re) [] (fun v S' => ∃ b l, v = .slice (some ⟨b, 0, none⟩) re.length re.length ∧ OwnS Eix 1 3 (.slice (some ⟨b, 0, none⟩) re.length re.length) l S' ∧ EndsOk re 0 l) := by
  refine fn_of Tryd.func24 rfl rfl rfl fun w0 hw => ?_
  have hsl := hw.sl
  have hbl := hsl.le
  refine c_seq fun _ hK1 => ?_
  refine c_region ?_
  refine o_step rfl (s_assign rfl) ?_
  refine o_nil ?_
  refine x_then (hK1 _ _ ?_)
  refine c_seq fun _ hK2 => ?_
  refine c_region ?_
  refine o_step rfl (s_move rfl) ?_
  refine o_step rfl (s_len rfl) ?_
  refine o_make (E := Eix) (zx := 0) (n := re.length) rfl rfl rfl (by omega) (by omega) rfl fun b8 S8 hS8 => ?_
  refine o_step rfl (s_assign rfl) ?_
  refine o_nil ?_
  refine x_then (hK2 _ _ ?_)
  refine c_seq fun _ hK3 => ?_
  refine c_seq fun _ hK4 => ?_
  refine c_region ?_
  refine o_step rfl (s_move rfl) ?_
  refine o_step rfl (s_len rfl) ?_
  refine o_step rfl (s_sub rfl rfl (by omega)) ?_
  refine o_step rfl (s_assign rfl) ?_
  refine o_nil ?_
  refine x_then (hK4 _ _ ?_)
  refine c_block ?_
  refine c_loop3 (fun (c : Nat) (l : List Nat) (S : Hp) => c ≤ re.length ∧ OwnS Eix 1 3 (.slice (some ⟨b8, 0, none⟩) re.length re.length) l S ∧ EndsOk re c l) (fun (c : Nat) (l : List Nat) (S : Hp) => [(4, .int .i64 ((c : Int) - 1))]) [(0, _), (2, _), (3, _)] (fun (c : Nat) (l : List Nat) (S : Hp) => S) (fun (c : Nat) (l : List Nat) (S : Hp) => c) re.length _ _ ⟨by omega, hS8, .start List.length_replicate⟩ sbA sbA hzB ?_
  rintro c l S ⟨hc, hS, hE⟩
  have hls := hS.sl
  have hEl := hE.1
  rw [hE.1] at hls
  refine c_seq fun _ hK5 => ?_
  refine c_seq fun _ hK6 => ?_
  refine c_region ?_
  refine o_step rfl (s_move rfl) ?_
  by_cases hc1 : 1 ≤ c
  ·
   obtain ⟨a, rfl⟩ : ∃ a, c = a + 1 := ⟨c - 1, by omega⟩
   obtain ⟨x, ks, r0, ia, hpa⟩ := hp0.at _ _ _ a (Nat.zero_le _) (by omega)
   obtain ⟨hx, hpk, _⟩ := hpa.head
   have hok : ndOk x = true := hpa.wf.1
   have hk0 := ndOk_kids hok
   have hkn : (ks.num : Int) = x.kids := hpa.wf.2.1
   have hns := F.num_le ks
   have hpkl := hpk.le
   refine o_step rfl (step_cast (v' := .bool true) (s_geq rfl rfl) (by rw [decide_eq_true (by omega)])) ?_
   refine o_nil ?_
   refine x_then (hK6 _ _ ?_)
   refine c_true rfl ?_
   refine c_skip ?_
   refine x_then (hK5 _ _ ?_)
   refine c_seq fun _ hK7 => ?_
   refine c_block ?_
   refine c_seq fun _ hK8 => ?_
   refine c_region ?_
   refine o_step rfl (s_move rfl) ?_
   refine o_step rfl (s_add rfl rfl (by omega)) ?_
   refine o_step rfl (s_assign rfl) ?_
   refine o_nil ?_
   refine x_then (hK8 _ _ ?_)
   refine c_seq fun _ hK9 => ?_
   refine c_seq fun _ hK10 => ?_
   refine c_region ?_
   refine o_step rfl (s_move rfl) ?_
   refine o_step rfl (s_move rfl) ?_
   refine o_step rfl (s_idx rfl rfl hsl (by omega)) ?_
   refine o_step rfl (s_field rfl rfl (by decide)) ?_
   refine o_step rfl (s_ld rfl ((RdK.old0 hw).ld a 8 hx rfl (by decide) (by omega))) ?_
   refine o_step rfl (s_move rfl) ?_
   refine o_nil ?_
   refine x_then (hK10 _ _ ?_)
   refine c_block ?_
   refine c_loop3 (fun (k : Nat) (to : Nat) (r1 : F) => k + r1.num = ks.num ∧ Part re r1 to (a + 1 + ks.size) ∧ a + 1 ≤ to) (fun (k : Nat) (to : Nat) (r1 : F) => [(23, .int .i64 k), (5, .int .i64 to)]) [(0, _), (2, _), (3, _), (4, _), (12, _), (13, _), (16, _), (17, _), (18, _), (19, _), (20, _), (21, _), (22, _)] (fun (k : Nat) (to : Nat) (r1 : F) => S) (fun (k : Nat) (to : Nat) (r1 : F) => ks.num - k) 0 (a + 1) ks ⟨by omega, hpk, Nat.le_refl _⟩ (by exact Sub.cons rfl (Sub.cons' rfl (by congr 1; omega) .nil)) sbA hzB ?_
   rintro k to r1 ⟨hkr, hpr, hto⟩
   refine c_seq fun _ hK11 => ?_
   refine c_region ?_
   by_cases hkl : (k : Int) < x.kids
   ·
    obtain ⟨y, ks1, r2, rfl⟩ : ∃ y ks1 r2, r1 = F.nd y ks1 r2 := by cases r1 with | nil => simp [F.num] at hkr; omega | nd y a b => exact ⟨y, a, b, rfl⟩
    obtain ⟨hy, hpy, hpt⟩ := hpr.head
    have hto2 := (List.getElem?_eq_some_iff.1 hy).1
    have hge := hE.2 to y ks1 r2 _ (by omega) hpr
    have hg2 := hpy.le
    refine o_step rfl (step_cast (v' := .bool true) (s_lss rfl rfl) (by rw [decide_eq_true (by omega)])) ?_
    refine o_nil ?_
    refine x_then (hK11 _ _ ?_)
    refine c_seq fun _ hK12 => ?_
    refine c_true rfl ?_
    refine c_skip ?_
    refine x_then (hK12 _ _ ?_)
    refine c_seq fun _ hK13 => ?_
    refine c_block ?_
    refine c_region ?_
    refine o_step rfl (s_move rfl) ?_
    refine o_step rfl (s_move rfl) ?_
    refine o_step rfl (s_idx rfl rfl hls (by omega)) ?_
    refine o_step rfl (s_ld rfl ((hS.rdk hiA).ld to 0 hge rfl (by decide) (by omega))) ?_
    refine o_step rfl (s_assign rfl) ?_
    refine o_nil ?_
    refine x_block ?_
    refine x_then (hK13 _ _ ?_)
    refine c_region ?_
    refine o_step rfl (s_add rfl rfl (by omega)) ?_
    refine o_step rfl (s_move rfl) ?_
    refine o_nil ?_
    exact x_then (x_inv (k + 1, to + 1 + ks1.size, r2) ⟨by simp only [F.num] at hkr; dsimp only; omega, hpt, by dsimp only; omega⟩ (by first | omega | (dsimp only; omega)) sbA hzB)
   ·
    obtain rfl : r1 = F.nil := by cases r1 with | nil => rfl | nd y a b => simp only [F.num] at hkr; omega
    have hto : to = a + 1 + ks.size := by have := hpr.len; simp [F.size] at this; omega
    subst hto
    refine o_step rfl (step_cast (v' := .bool false) (s_lss rfl rfl) (by rw [decide_eq_false (by omega)])) ?_
    refine o_nil ?_
    refine x_then (hK11 _ _ ?_)
    refine c_seq fun _ hK14 => ?_
    refine c_false rfl ?_
    refine c_exit ?_
    refine x_then_exit ?_
    refine x_then_exit ?_
    refine x_block_exit ?_
    refine x_then (hK9 _ _ ?_)
    refine c_region ?_
    refine o_step rfl (s_move rfl) ?_
    refine o_step rfl (s_move rfl) ?_
    refine o_step rfl (s_move rfl) ?_
    refine o_step rfl (s_idx rfl rfl hls (by omega)) ?_
    refine o_stS1 a (a + 1 + ks.size) hS pkA rfl rfl rfl (by omega) (by omega) fun S' hS' => ?_
    refine o_nil ?_
    refine x_block ?_
    refine x_then (hK7 _ _ ?_)
    refine c_region ?_
    refine o_step rfl (s_move rfl) ?_
    refine o_step rfl (s_sub rfl rfl (by omega)) ?_
    refine o_step rfl (s_assign rfl) ?_
    refine o_nil ?_
    exact x_then (x_inv (a, _, _) ⟨by omega, hS', hE.step hpa⟩ (by first | omega | (dsimp only; omega)) (by exact Sub.cons' rfl (by congr 1; omega) sbA) hzB)
  ·
   have hc0 : c = 0 := by omega
   refine o_step rfl (step_cast (v' := .bool false) (s_geq rfl rfl) (by rw [decide_eq_false (by omega)])) ?_
   refine o_nil ?_
   refine x_then (hK6 _ _ ?_)
   refine c_false rfl ?_
   refine c_exit ?_
   refine x_then_exit ?_
   refine x_then_exit ?_
   refine x_block_exit ?_
   refine x_then (hK3 _ _ ?_)
   refine c_seq fun _ hK15 => ?_
   refine c_region ?_
   refine o_step rfl (s_move rfl) ?_
   refine o_step rfl (s_assign rfl) ?_
   refine o_nil ?_
   refine x_then (hK15 _ _ ?_)
   refine c_ret ?_
   refine ?_
   exact x_ret rfl (.tmp rfl (.nil)) (⟨b8, l, rfl, hS, by rw [hc0] at hE; exact hE⟩)
end Go.Proofs.YtihbhlgognpmmaaDoor
