/- The known run: the machine of a* over aab. Conditions: none. -/
import Derived.Test.YtihbhlgognpmmaaNW13Z
import Derived.Test.YtihbhlgognpmmaaNW15Z
import Derived.Test.YtihbhlgognpmmaaMT9Z
import Derived.Test.YtihbhlgognpmmaaNW9Z
import Derived.Test.YtihbhlgognpmmaaMT4Z
import Derived.Test.YtihbhlgognpmmaaNW11Z
namespace Go.HL.Kl.Mc
open Go Go.HL Go.HL.Kl
def starN : Nd := ⟨6, 0, 0, 0, -1, 1⟩
def reW : List Nd := [starN, letN 97]
def ksW : F := .nd (letN 97) .nil .nil
def mW : List In := mach (.nd starN ksW .nil)
theorem let_ok : ndOk (letN 97) = true := by decide +kernel
theorem wfW : (F.nd starN ksW .nil).wf := ⟨by decide +kernel, rfl, ⟨let_ok, rfl, trivial, trivial⟩, trivial⟩
theorem shpW : Shp reW starN ksW := ⟨wfW, rfl, by decide, by decide +kernel⟩
theorem shapedW : shapedB reW = true := shapedB_iff.2 ⟨⟨[], by decide +kernel⟩, _, _, shpW⟩
theorem refsW : refsB reW = false := refs_no fun j x hj hx h8 => by
  have := List.mem_of_getElem? hx
  rcases List.mem_cons.1 this with rfl | this
  · cases h8
  · rcases List.mem_cons.1 this with rfl | this
    · cases h8
    · cases this
theorem Shp.uniq {re : List Nd} {x y : Nd} {ks js : F} (h : Shp re x ks) (h' : Shp re y js) : x = y ∧ ks = js := by
  have := flat_inj (.nd x ks .nil) (.nd y js .nil) [] [] h.wf h'.wf rfl (by simp only [F.flat, List.append_nil]; rw [← h.flat, ← h'.flat])
  simpa using this.1
theorem mokW : MOk mW := mach_ok wfW (by decide +kernel)
theorem compW {v : Value} {S : Hp} (h : CompP reW v S) : ∃ a, v = .tuple #[.slice a mW.length mW.length, .int .i64 0] ∧ RdS Ein (.slice a mW.length mW.length) mW S := by
  cases h with
  | shape hs => rw [shapedW] at hs; cases hs
  | ref _ hr => rw [refsW] at hr; cases hr
  | ok _ _ h hv hm =>
    obtain ⟨rfl, rfl⟩ := h.uniq shpW
    exact ⟨_, hv, hm⟩
theorem MOk.rng {m : List In} (h : MOk m) : ∀ t ∈ m, -128 ≤ t.op ∧ t.op < 128 := fun t ht => by
  obtain ⟨i, hi⟩ := List.getElem?_of_mem ht
  have := (h.2.2 i t hi).1.1
  omega
def wW : List UInt8 := [97, 97, 98]
theorem derW {p q : Nat} : der wW (.nd starN ksW .nil) false p q ↔ ∃ k, pow (fun p q => q = p + 1 ∧ wW[p]? = some 97) k p q := by
  have h1 : ∀ p q, der wW ksW false p q ↔ (q = p + 1 ∧ wW[p]? = some 97) := by
    intro p q
    have : der wW ksW false p q ↔ ∃ t, (t = p + 1 ∧ ∃ b, wW[p]? = some b ∧ (letN 97).set.getLsbD b.toNat = true) ∧ (false = false ∧ t = q) := Iff.rfl
    rw [this]
    constructor
    · rintro ⟨t, ⟨rfl, b, hb, hs⟩, _, rfl⟩
      refine ⟨rfl, ?_⟩
      rw [show (letN 97).set = bit (97 : UInt8).toNat from rfl, bit_get b.toNat_lt, decide_eq_true_eq] at hs
      rw [hb, UInt8.toNat_inj.1 hs]
    · rintro ⟨rfl, h⟩
      exact ⟨_, ⟨rfl, 97, h, by decide +kernel⟩, rfl, rfl⟩
  have h2 : der wW (.nd starN ksW .nil) false p q ↔ ∃ t, rounds starN (der wW ksW false) p t ∧ (false = false ∧ t = q) := Iff.rfl
  have h3 : (der wW ksW false) = fun p q => q = p + 1 ∧ wW[p]? = some 97 := by funext p q; exact propext (h1 p q)
  rw [h2, h3]
  constructor
  · rintro ⟨t, ⟨k, _, _, h⟩, _, rfl⟩; exact ⟨k, h⟩
  · rintro ⟨k, h⟩; exact ⟨q, ⟨k, Int.natCast_nonneg k, .inl rfl, h⟩, rfl, rfl⟩
theorem powW : ∀ {k p q : Nat}, pow (fun p q => q = p + 1 ∧ wW[p]? = some 97) k p q → q = p ∨ q ≤ 2
  | 0, p, q, h => .inl h.symm
  | k + 1, p, q, ⟨m, ⟨h1, h2⟩, h3⟩ => by
    have hp : p < 2 := by
      rcases Nat.lt_or_ge p 2 with h | h
      · exact h
      · rcases Nat.eq_or_lt_of_le h with h | h
        · subst h; cases h2
        · have : wW.length = 3 := rfl
          have := (List.getElem?_eq_some_iff.1 h2).1
          obtain rfl : p = 2 := by omega
          omega
    rcases powW h3 with h | h <;> omega
theorem endsW {out : List Bool} (h : EndsP mW wW (0 : Int) out) : out[0]? = some true ∧ out[1]? = some true ∧ out[2]? = some true ∧ out[3]? = some false := by
  have hy : ∀ t : Nat, (∃ k, pow (fun p q => q = p + 1 ∧ wW[p]? = some 97) k 0 t) → out[t]? = some true := fun t hk => (h.2 t).2 ⟨mokW, 0, rfl, by decide, (mach_hit wfW).2 (derW.2 hk)⟩
  refine ⟨hy 0 ⟨0, rfl⟩, hy 1 ⟨1, 1, ⟨rfl, rfl⟩, rfl⟩, hy 2 ⟨2, 1, ⟨rfl, rfl⟩, 2, ⟨rfl, rfl⟩, rfl⟩, ?_⟩
  have hl : out.length = 4 := h.1
  rw [List.getElem?_eq_getElem (by omega)]
  cases hb : out[3]'(by omega) with
  | false => rfl
  | true =>
    obtain ⟨_, g, hg, _, hh⟩ := (h.2 3).1 (by rw [List.getElem?_eq_getElem (by omega), hb])
    obtain rfl : g = 0 := by omega
    obtain ⟨k, hk⟩ := derW.1 ((mach_hit wfW).1 hh)
    rcases powW hk with h | h <;> omega
theorem reW_rng : ∀ x ∈ reW, -128 ≤ x.op ∧ x.op < 128 := fun x hx => by
  rcases List.mem_cons.1 hx with rfl | hx
  · decide
  · rcases List.mem_cons.1 hx with rfl | hx
    · exact ⟨by decide, by decide⟩
    · cases hx
theorem En_star : En starN = [.int .i8 6, .int .u64 0, .int .u64 0, .int .u64 0, .int .u64 0, .int .i64 0, .int .i64 0, .int .i64 (-1), .int .i64 1] := by
  show _ :: (Ec 0#256 ++ _) = _
  rw [Ec_zero]; rfl
attribute [irreducible] mW
end Go.HL.Kl.Mc

/- Sets of places, made: of one node, of two sets. Conditions: none. -/
namespace Go.HL.Kl.Mc
open Go Go.HL Go.HL.Kl
/-! forests, one behind the other -/
def F.app : F → F → F
  | .nil, g => g
  | .nd x ks r, g => .nd x ks (r.app g)
theorem F.num_app : ∀ f g : F, (f.app g).num = f.num + g.num
  | .nil, g => by simp [F.app, F.num]
  | .nd x ks r, g => by simp only [F.app, F.num, F.num_app r g]; omega
theorem F.flat_app : ∀ f g : F, (f.app g).flat = f.flat ++ g.flat
  | .nil, g => by simp [F.app, F.flat]
  | .nd x ks r, g => by simp [F.app, F.flat, F.flat_app r g]
theorem F.size_app : ∀ f g : F, (f.app g).size = f.size + g.size
  | .nil, g => by simp [F.app, F.size]
  | .nd x ks r, g => by simp only [F.app, F.size, F.size_app r g]; omega
theorem F.wf_app : ∀ {f g : F}, f.wf → g.wf → (f.app g).wf
  | .nil, g, _, h => h
  | .nd x ks r, g, ⟨a, b, c, d⟩, h => ⟨a, b, c, F.wf_app d h⟩
theorem Part.down {re : List Nd} {y : Nd} {js r : F} {p i' : Nat} (h : Part re (.nd y js r) p i') : Part re (js.app r) (p + 1) i' := by
  obtain ⟨_, h1, h2⟩ := h.head
  have hl := h.len
  simp only [F.size] at hl
  exact ⟨F.wf_app h1.wf h2.wf, by rw [h1.flat, h2.flat, F.flat_app, List.append_assoc], by rw [F.size_app]; omega, h.le⟩
theorem F.num_nil {f : F} (h : f.num = 0) : f = .nil := by
  cases f with
  | nil => rfl
  | nd x ks r => simp [F.num] at h
/-! lists of booleans -/
def bo0 (l : List Bool) (i : Nat) : Bool := l.getD i false
theorem bo0_get {l : List Bool} {i : Nat} (h : i < l.length) : l[i]? = some (bo0 l i) := by simp [bo0, h]
theorem bo0_true {l : List Bool} {i : Nat} : bo0 l i = true ↔ l[i]? = some true := by
  unfold bo0
  rw [List.getD_eq_getElem?_getD]
  cases l[i]? <;> simp
def orF (a b : List Bool) (i : Nat) : Bool := bo0 a i || bo0 b i
def orL (a b : List Bool) : List Bool := (List.range a.length).map (orF a b)
theorem orL_len (a b : List Bool) : (orL a b).length = a.length := by simp [orL]
theorem orL_get {a b : List Bool} {i : Nat} (h : i < a.length) : (orL a b)[i]? = some (orF a b i) := by
  unfold orL
  rw [List.getElem?_map, List.getElem?_range h]; rfl
/-- is there one of b that is not of a, among the first k? -/
def moreTo (a b : List Bool) (k : Nat) : Bool := (List.range k).any fun i => bo0 b i && !bo0 a i
def moreB (a b : List Bool) : Bool := moreTo a b a.length
theorem moreTo_zero {a b : List Bool} : moreTo a b 0 = false := rfl
theorem moreTo_succ {a b : List Bool} {k : Nat} : moreTo a b (k + 1) = (moreTo a b k || (bo0 b k && !bo0 a k)) := by simp [moreTo, List.range_succ]
theorem moreTo_yes {a b : List Bool} {k : Nat} (h : moreTo a b k = true) : moreTo a b (k + 1) = true := by rw [moreTo_succ, h]; rfl
theorem moreTo_no {a b : List Bool} {k : Nat} {v : Bool} (h : moreTo a b k = false) (hv : v = (bo0 b k && !bo0 a k)) : moreTo a b (k + 1) = v := by rw [moreTo_succ, h, hv]; rfl
theorem IsS.or {a b : List Bool} {N : Nat} {S T : Nat → Prop} (ha : IsS a N S) (hb : IsS b N T) : IsS (orL a b) N (fun q => S q ∨ T q) :=
  ⟨by rw [orL_len, ha.len], fun p hp => by
    rw [orL_get (by rw [ha.len]; omega), ← ha.get p hp, ← hb.get p hp, ← bo0_true, ← bo0_true]
    simp [orF]⟩
theorem IsS.no_more {a b : List Bool} {N : Nat} {S T : Nat → Prop} (ha : IsS a N S) (hb : IsS b N T) (h : moreB a b = false) : ∀ q, q ≤ N → T q → S q := fun q hq ht => by
  rw [← ha.get q hq, ← bo0_true]
  rw [← hb.get q hq, ← bo0_true] at ht
  have h1 := List.any_eq_false.1 h q (by rw [List.mem_range, ha.len]; omega)
  rw [ht] at h1
  simpa using h1
/-- how many are not in the set -/
def cf (l : List Bool) : Nat := (List.range l.length).countP fun i => !bo0 l i
theorem cf_le (l : List Bool) : cf l ≤ l.length := by
  have := List.countP_le_length (p := fun i => !bo0 l i) (l := List.range l.length)
  simpa [cf] using this
theorem countP_mono {p q : Nat → Bool} (h : ∀ i, p i = true → q i = true) : ∀ n, (List.range n).countP p ≤ (List.range n).countP q
  | 0 => by simp
  | n + 1 => by
    have := countP_mono h n
    have h1 := h n
    simp only [List.range_succ, List.countP_append, List.countP_singleton]
    cases hp : p n <;> cases hq : q n <;> simp_all <;> omega
theorem countP_lt {p q : Nat → Bool} (h : ∀ i, p i = true → q i = true) : ∀ n k, k < n → q k = true → p k = false → (List.range n).countP p < (List.range n).countP q
  | n + 1, k, hk, h1, h2 => by
    simp only [List.range_succ, List.countP_append, List.countP_singleton]
    by_cases e : k = n
    · subst e
      have := countP_mono h k
      rw [h1, h2]; simp; omega
    · have := countP_lt h n k (by omega) h1 h2
      have h3 := h n
      cases hp : p n <;> cases hq : q n <;> simp_all <;> omega
theorem cf_more {a b : List Bool} (h : moreB a b = true) : cf (orL a b) < cf a := by
  obtain ⟨i, hi, hb⟩ := List.any_eq_true.1 h
  rw [List.mem_range] at hi
  simp only [Bool.and_eq_true, Bool.not_eq_true'] at hb
  unfold cf
  rw [orL_len]
  have e : ∀ j, j < a.length → bo0 (orL a b) j = orF a b j := fun j hj => by
    have := orL_get (b := b) hj
    simp [bo0, this]
  have e2 : (List.range a.length).countP (fun i => !bo0 (orL a b) i) = (List.range a.length).countP (fun i => !orF a b i) := by
    apply List.countP_congr
    intro j hj
    rw [e j (List.mem_range.1 hj)]
  rw [e2]
  refine countP_lt (fun j hj => ?_) _ i hi (by simp [hb.2]) (by simp [orF, hb.1])
  simp only [orF, Bool.not_eq_true', Bool.or_eq_false_iff] at hj ⊢
  exact hj.1
/-! the sets of single nodes -/
structure SetP (w : List UInt8) (s : Cl) (fr : List Bool) (j : Nat) (out : List Bool) : Prop where
  len : out.length = w.length + 1
  get : ∀ q : Nat, out[q]? = some true ↔ ∃ p, p < j ∧ q = p + 1 ∧ fr[p]? = some true ∧ ∃ b, w[p]? = some b ∧ s.getLsbD b.toNat = true
theorem rep_no {n q : Nat} : ¬ (List.replicate n false)[q]? = some true := fun h => by
  have := List.mem_of_getElem? h
  simp at this
theorem SetP.zero {w : List UInt8} {s : Cl} {fr : List Bool} : SetP w s fr 0 (List.replicate (w.length + 1) false) :=
  ⟨by simp, fun q => ⟨fun h => absurd h rep_no, fun ⟨_, h, _⟩ => by omega⟩⟩
theorem SetP.step {w : List UInt8} {s : Cl} {fr out : List Bool} {j : Nat} (h : SetP w s fr j out) (hj : j < w.length) {v : Bool} (hv : v = true ↔ fr[j]? = some true ∧ ∃ b, w[j]? = some b ∧ s.getLsbD b.toNat = true) : SetP w s fr (j + 1) (out.set (j + 1) v) := by
  refine ⟨by rw [List.length_set]; exact h.len, fun q => ?_⟩
  by_cases e : j + 1 = q
  · subst e
    rw [List.getElem?_set_self (by rw [h.len]; omega), Option.some.injEq, hv]
    constructor
    · rintro ⟨h1, h2⟩; exact ⟨j, by omega, rfl, h1, h2⟩
    · rintro ⟨p, _, h2, h3, h4⟩
      obtain rfl : j = p := by omega
      exact ⟨h3, h4⟩
  · rw [List.getElem?_set_ne e, h.get]
    constructor
    · rintro ⟨p, h1, h2⟩; exact ⟨p, by omega, h2⟩
    · rintro ⟨p, h1, h2, h3⟩; exact ⟨p, by omega, h2, h3⟩
theorem SetP.done {w : List UInt8} {x : Nd} {ks : F} {fr out : List Bool} {S : Nat → Prop} (h : SetP w x.set fr w.length out) (h1 : x.op = 1) (hS : IsS fr w.length S) : IsS out w.length (img (der1 w x ks) S) := by
  refine ⟨h.len, fun q _ => (h.get q).trans ?_⟩
  simp only [img, der1_def, if_pos h1]
  constructor
  · rintro ⟨p, h2, rfl, h3, h4⟩; exact ⟨p, (hS.get p (by omega)).1 h3, rfl, h4⟩
  · rintro ⟨p, h2, rfl, b, hb, h4⟩
    have := (List.getElem?_eq_some_iff.1 hb).1
    exact ⟨p, this, rfl, (hS.get p (by omega)).2 h2, b, hb, h4⟩
theorem IsS.none {N : Nat} : IsS (List.replicate (N + 1) false) N (fun _ => False) := ⟨by simp, fun p _ => ⟨fun h => absurd h rep_no, False.elim⟩⟩
theorem IsS.only {N k : Nat} (hk : k ≤ N) {v : Bool} {p : Prop} (hv : v = true ↔ p) : IsS ((List.replicate (N + 1) false).set k v) N (fun q => q = k ∧ p) := by
  refine ⟨by simp, fun q hq => ?_⟩
  by_cases e : k = q
  · subst e
    rw [List.getElem?_set_self (by simp; omega), Option.some.injEq, hv]
    exact ⟨fun h => ⟨rfl, h⟩, fun h => h.2⟩
  · rw [List.getElem?_set_ne e]
    exact ⟨fun h => absurd h rep_no, fun h => absurd h.1.symm e⟩
theorem IsS.bol {w : List UInt8} {x : Nd} {ks : F} {fr : List Bool} {S : Nat → Prop} (h2 : x.op = 2) (hS : IsS fr w.length S) : IsS ((List.replicate (w.length + 1) false).set 0 (bo0 fr 0)) w.length (img (der1 w x ks) S) := by
  refine (IsS.only (Nat.zero_le _) (bo0_true.trans (hS.get 0 (Nat.zero_le _)))).iff fun q _ => ?_
  simp only [img, der1_def, if_neg (show ¬ x.op = 1 by omega), if_pos h2]
  exact ⟨fun ⟨h, h'⟩ => ⟨0, h', rfl, h⟩, fun ⟨p, h, h', h''⟩ => ⟨h'', h' ▸ h⟩⟩
theorem IsS.eol {w : List UInt8} {x : Nd} {ks : F} {fr : List Bool} {S : Nat → Prop} (h3 : x.op = 3) (hS : IsS fr w.length S) : IsS ((List.replicate (w.length + 1) false).set w.length (bo0 fr w.length)) w.length (img (der1 w x ks) S) := by
  refine (IsS.only (Nat.le_refl _) (bo0_true.trans (hS.get w.length (Nat.le_refl _)))).iff fun q _ => ?_
  simp only [img, der1_def, if_neg (show ¬ x.op = 1 by omega), if_neg (show ¬ x.op = 2 by omega), if_pos h3]
  exact ⟨fun ⟨h, h'⟩ => ⟨w.length, h', rfl, h⟩, fun ⟨p, h, h', h''⟩ => ⟨by omega, h' ▸ h⟩⟩
/-- one place -/
theorem IsS.one {N k : Nat} (hk : k ≤ N) : IsS ((List.replicate (N + 1) false).set k true) N (fun q => q = k) := (IsS.only hk (p := True) (by simp)).iff fun q _ => by simp
/-! answers that are read together with what was handed in -/
def OutP (N : Nat) (S : Nat → Prop) (vf : Value) (fr : List Bool) (v : Value) (S' : Hp) : Prop :=
  ∃ (a : Option Addr) (c : Nat) (l : List Bool), v = .slice a l.length c ∧ IsS l N S ∧ ∀ W : World, (∀ b o, (b, o) ∈ S' → W.heap[b]? = some o) → Rd Ebo W vf fr → Rd Ebo W v l
/-- the contract of over and of rounds -/
def OverC (P : Program) (fn : Nat) (w : List UInt8) (x : Nd) (ks : F) : Prop := ∀ (ra : Option Addr) (rc : Nat) (re : List Nd) (ta : Option Addr) (tc i i' : Nat) (fa : Option Addr) (fc : Nat) (fr : List Bool) (S : Nat → Prop),
  (∀ x ∈ re, -128 ≤ x.op ∧ x.op < 128) → (∀ x ∈ re, ¬ x.op = 8) → w.length ≤ 1000000 → Part re (.nd x ks .nil) i i' → IsS fr w.length S → (∀ p, S p → p ≤ w.length) →
  Fn P fn [.slice ra re.length rc, .int .i64 i, .slice ta w.length tc, .slice fa fr.length fc] (fun W => Rd En W (.slice ra re.length rc) re ∧ Rd Eb W (.slice ta w.length tc) w ∧ Rd Ebo W (.slice fa fr.length fc) fr) [] (OutP w.length (img (der1 w x ks) S) (.slice fa fr.length fc) fr)
/-- read, given a part of the heap and what was handed in -/
def RdC (vf : Value) (fr : List Bool) (v : Value) (l : List Bool) (S : Hp) : Prop := ∀ W : World, (∀ b o, (b, o) ∈ S → W.heap[b]? = some o) → Rd Ebo W vf fr → Rd Ebo W v l
theorem RdC.self {vf : Value} {fr : List Bool} : RdC vf fr vf fr [] := fun _ _ h => h
theorem RdC.of {vf v : Value} {fr l : List Bool} {S : Hp} (h : RdS Ebo v l S) : RdC vf fr v l S := fun W hs _ => h.out W hs
theorem RdC.trans {vf v u : Value} {fr l m : List Bool} {S S' : Hp} (h : RdC vf fr v l S) (h' : RdC v l u m S') : RdC vf fr u m (S' ++ S) := fun W hs hf =>
  h' W (fun b o hm => hs b o (List.mem_append_left _ hm)) (h W (fun b o hm => hs b o (List.mem_append_right _ hm)) hf)
theorem RdC.mono {vf v : Value} {fr l : List Bool} {S S' : Hp} (h : RdC vf fr v l S) (hs : HIn S S') : RdC vf fr v l S' := fun W hw hf => h W (fun b o hm => hw b o (hs _ hm)) hf
theorem RdC.rdk {n : Nat} {ds : List Deferred} {w0 : World} {H S : Hp} {vf v : Value} {fr l : List Bool} (h : RdC vf fr v l S) (hf : Rd Ebo w0 vf fr) (hs : HIn S H) : RdK Ebo ⟨n, ds, w0, []⟩ H v l :=
  ⟨fun W st => h W (fun b o hm => st.has b o (hs _ hm)) ((RdK.old0 (H := H) (n := n) (ds := ds) hf).out W st)⟩
theorem img_zero {D : Nat → Nat → Prop} {S : Nat → Prop} {q : Nat} : img (pow D 0) S q ↔ S q := ⟨fun ⟨p, h, e⟩ => by obtain rfl : p = q := e; exact h, fun h => ⟨q, h, rfl⟩⟩
theorem rounds_fixed {N k : Nat} {x : Nd} {D : Nat → Nat → Prop} {S : Nat → Prop} (h0 : 0 ≤ x.mn) (hmx : x.mx = -1) (hk : x.mn.toNat ≤ k) (hS : ∀ p, S p → p ≤ N) (hD : Inn N D) (h : ∀ q, q ≤ N → img (pow D (k + 1)) S q → upTo D S x.mn.toNat k q) (q : Nat) : upTo D S x.mn.toNat k q ↔ img (rounds x D) S q := by
  rw [img_rounds h0]
  constructor
  · rintro ⟨j, h1, _, h3⟩; exact ⟨j, h1, .inl hmx, h3⟩
  · rintro ⟨j, h1, _, h3⟩; exact upTo_fix hS hD hk h q ⟨j, h1, h3⟩
theorem rounds_last {k : Nat} {x : Nd} {D : Nat → Nat → Prop} {S : Nat → Prop} (h0 : 0 ≤ x.mn) (hmx : x.mx = k) (q : Nat) : upTo D S x.mn.toNat k q ↔ img (rounds x D) S q := by
  rw [img_rounds h0]
  constructor
  · rintro ⟨j, h1, h2, h3⟩; exact ⟨j, h1, .inr (by omega), h3⟩
  · rintro ⟨j, h1, h2, h3⟩; exact ⟨j, h1, by omega, h3⟩
theorem img_cat {w : List UInt8} {y : Nd} {js r : F} {T : Nat → Prop} {p : Nat} : img (der w r false) (img (der1 w y js) T) p ↔ img (der w (.nd y js r) false) T p := by
  constructor
  · rintro ⟨t, ⟨u, h1, h2⟩, h3⟩; exact ⟨u, h1, der_cat.2 ⟨t, h2, h3⟩⟩
  · rintro ⟨u, h1, h2⟩; obtain ⟨t, h3, h4⟩ := der_cat.1 h2; exact ⟨t, ⟨u, h1, h3⟩, h4⟩
theorem img_alt {w : List UInt8} {y : Nd} {js r : F} {T : Nat → Prop} {p : Nat} : img (der w (.nd y js r) true) T p ↔ img (der1 w y js) T p ∨ img (der w r true) T p := by
  constructor
  · rintro ⟨u, h1, h2⟩; exact (der_alt.1 h2).imp (fun h => ⟨u, h1, h⟩) fun h => ⟨u, h1, h⟩
  · rintro (⟨u, h1, h2⟩ | ⟨u, h1, h2⟩)
    · exact ⟨u, h1, der_alt.2 (.inl h2)⟩
    · exact ⟨u, h1, der_alt.2 (.inr h2)⟩
theorem img_nil {w : List UInt8} {T : Nat → Prop} {p : Nat} : img (der w .nil false) T p ↔ T p := ⟨fun ⟨u, h1, h2⟩ => by obtain rfl := der_nil.1 h2; exact h1, fun h => ⟨p, h, der_nil.2 rfl⟩⟩
theorem img_nil' {w : List UInt8} {T : Nat → Prop} {p : Nat} : ¬ img (der w .nil true) T p := fun ⟨u, h1, h2⟩ => der_nil'.1 h2
theorem img_inn {w : List UInt8} {x : Nd} {ks : F} {T : Nat → Prop} (h : ∀ p, T p → p ≤ w.length) : ∀ p, img (der1 w x ks) T p → p ≤ w.length := fun p ⟨u, h1, h2⟩ => der1_inn _ _ (h u h1) h2
theorem img_else {w : List UInt8} {x : Nd} {ks : F} {T : Nat → Prop} {p : Nat} (h1 : ¬ x.op = 1) (h2 : ¬ x.op = 2) (h3 : ¬ x.op = 3) (h5 : ¬ x.op = 5) (h6 : ¬ x.op = 6) : img (der1 w x ks) T p ↔ img (der w ks false) T p := by
  simp only [img, der1_def, if_neg h1, if_neg h2, if_neg h3, if_neg h5, if_neg h6]
theorem img_alt5 {w : List UInt8} {x : Nd} {ks : F} {T : Nat → Prop} {p : Nat} (h5 : x.op = 5) : img (der1 w x ks) T p ↔ img (der w ks true) T p := by
  simp only [img, der1_def, if_neg (show ¬ x.op = 1 by omega), if_neg (show ¬ x.op = 2 by omega), if_neg (show ¬ x.op = 3 by omega), if_pos h5]
theorem img_rep6 {w : List UInt8} {x : Nd} {ks : F} {T : Nat → Prop} {p : Nat} (h6 : x.op = 6) : img (der1 w x ks) T p ↔ img (rounds x (der w ks false)) T p := by
  simp only [img, der1_def, if_neg (show ¬ x.op = 1 by omega), if_neg (show ¬ x.op = 2 by omega), if_neg (show ¬ x.op = 3 by omega), if_neg (show ¬ x.op = 5 by omega), if_pos h6]
theorem grp_kid {x : Nd} {ks : F} (h : (F.nd x ks .nil).wf) (h7 : x.op = 7) : ∃ y js, ks = .nd y js .nil := by
  have h1 := h.1
  have h2 : (ks.num : Int) = x.kids := h.2.1
  simp only [ndOk, Bool.and_eq_true] at h1
  have h3 := h1.2
  rw [kidsOk, if_pos (.inr h7), decide_eq_true_eq] at h3
  cases ks with
  | nil => simp [F.num] at h2; omega
  | nd y js r =>
    cases r with
    | nil => exact ⟨y, js, rfl⟩
    | nd z a b => simp only [F.num] at h2; omega
theorem OutP.of {N n c : Nat} {S : Nat → Prop} {vf : Value} {fr l : List Bool} {a : Option Addr} {S' : Hp} (h : OwnS Ebo 1 4 (.slice a n c) l S') (hn : l.length = n) (hi : IsS l N S) : OutP N S vf fr (.slice a n c) S' := ⟨a, c, l, by rw [hn], hi, by subst hn; exact RdC.of h.rds⟩
theorem shortB {c n : Nat} {m : Int} (hc : (c : Int) ≤ m) (hm : m ≤ 33554432) (hn : n ≤ 1000000) : c * (n + 2) ≤ 33554432 * 1000002 := Nat.mul_le_mul (by omega) (by omega)
end Go.HL.Kl.Mc

/- Runs and derivations lead to the same places. Conditions: none. -/
namespace Go.HL.Kl.Mc
open Go Go.HL Go.HL.Kl
theorem ends_isS {x : Nd} {ks : F} {w : List UInt8} {p : Nat} {out : List Bool} (hw : (F.nd x ks .nil).wf) (hM : MOk (mach (.nd x ks .nil))) (hp : p ≤ w.length) (h : EndsP (mach (.nd x ks .nil)) w (p : Int) out) : IsS out w.length (der1 w x ks p) :=
  ⟨h.1, fun q _ => (h.2 q).trans ⟨fun ⟨_, g, hg, _, hh⟩ => by
    obtain rfl : p = g := by omega
    exact (mach_hit hw).1 hh, fun hd => ⟨hM, p, rfl, hp, (mach_hit hw).2 hd⟩⟩⟩
theorem no_refs {re : List Nd} (hs : shapedB re = true) (hr : refsB re = false) : ∀ x ∈ re, ¬ x.op = 8 := fun x hx h8 => by rw [refs_yes hs hx h8] at hr; cases hr
theorem Shp.mok {re : List Nd} {x : Nd} {ks : F} (h : Shp re x ks) : MOk (mach (.nd x ks .nil)) := mach_ok h.wf h.weight
end Go.HL.Kl.Mc

/- Machines of parts: rows of sets, searched and put together. Conditions: none. -/
namespace Go.HL.Kl.Mc
open Go Go.HL Go.HL.Kl
/-- rows of sets -/
structure RowsP (rs : List (Sl Bool)) (N : Nat) (D : Nat → Nat → Prop) : Prop where
  len : rs.length = N + 1
  get : ∀ p, p ≤ N → ∃ s, rs[p]? = some s ∧ IsS s.xs N (D p)
/-- the first k rows -/
structure RowsTo (rs : List (Sl Bool)) (N k : Nat) (D : Nat → Nat → Prop) : Prop where
  len : rs.length = k
  get : ∀ p, p < k → ∃ s, rs[p]? = some s ∧ IsS s.xs N (D p)
theorem RowsTo.zero {N : Nat} {D : Nat → Nat → Prop} : RowsTo [] N 0 D := ⟨rfl, fun p h => by omega⟩
theorem RowsTo.step {rs : List (Sl Bool)} {N k : Nat} {D : Nat → Nat → Prop} {s : Sl Bool} (h : RowsTo rs N k D) (hs : IsS s.xs N (D k)) : RowsTo (rs ++ [s]) N (k + 1) D := by
  refine ⟨by simp [h.len], fun p hp => ?_⟩
  by_cases e : p = k
  · subst e
    exact ⟨s, by rw [List.getElem?_append_right (by rw [h.len]; omega), h.len]; simp, hs⟩
  · obtain ⟨u, hu, hi⟩ := h.get p (by omega)
    exact ⟨u, by rw [List.getElem?_append_left (List.getElem?_eq_some_iff.1 hu).1]; exact hu, hi⟩
theorem RowsTo.done {rs : List (Sl Bool)} {N : Nat} {D : Nat → Nat → Prop} (h : RowsTo rs N (N + 1) D) : RowsP rs N D := ⟨h.len, fun p hp => h.get p (by omega)⟩
/-- rows that a part of the heap bears -/
structure RdRows (W : World) (v : Value) (rs : List (Sl Bool)) : Prop where
  out : Rd (Esl (α := Bool)) W v rs
  row : ∀ s ∈ rs, Rd Ebo W (.slice s.a s.xs.length s.c) s.xs
/-! a set, added place by place -/
def orTo (a b : List Bool) (i : Nat) : List Bool := (List.range a.length).map fun j => if j < i then orF a b j else bo0 a j
theorem orTo_len (a b : List Bool) (i : Nat) : (orTo a b i).length = a.length := by simp [orTo]
theorem orTo_get {a b : List Bool} {i j : Nat} (h : j < a.length) : (orTo a b i)[j]? = some (if j < i then orF a b j else bo0 a j) := by
  unfold orTo
  rw [List.getElem?_map, List.getElem?_range h]; rfl
theorem orTo_zero (a b : List Bool) : orTo a b 0 = a := by
  apply List.ext_getElem?
  intro j
  by_cases hj : j < a.length
  · rw [orTo_get hj, if_neg (by omega), bo0_get hj]
  · rw [List.getElem?_eq_none (by rw [orTo_len]; omega), List.getElem?_eq_none (by omega)]
theorem orTo_all (a b : List Bool) : orTo a b a.length = orL a b := by
  apply List.ext_getElem?
  intro j
  by_cases hj : j < a.length
  · rw [orTo_get hj, if_pos hj, orL_get hj]
  · rw [List.getElem?_eq_none (by rw [orTo_len]; omega), List.getElem?_eq_none (by rw [orL_len]; omega)]
theorem orTo_set {a b : List Bool} {i : Nat} (hi : i < a.length) : (orTo a b i).set i (orF a b i) = orTo a b (i + 1) := by
  apply List.ext_getElem?
  intro j
  by_cases hj : j < a.length
  · by_cases e : i = j
    · subst e
      rw [List.getElem?_set_self (by rw [orTo_len]; exact hi), orTo_get hi, if_pos (by omega)]
    · rw [List.getElem?_set_ne e, orTo_get hj, orTo_get hj]
      by_cases h : j < i
      · rw [if_pos h, if_pos (by omega)]
      · rw [if_neg h, if_neg (by omega)]
  · rw [List.getElem?_eq_none (by rw [List.length_set, orTo_len]; omega), List.getElem?_eq_none (by rw [orTo_len]; omega)]
theorem orTo_bo {a b : List Bool} {i : Nat} (hi : i < a.length) : bo0 (orTo a b i) i = bo0 a i := by
  have := orTo_get (b := b) (i := i) hi
  rw [if_neg (by omega)] at this
  simp [bo0, this]
def fromTo (D : Nat → Nat → Prop) (P : Nat → Prop) (k q : Nat) : Prop := ∃ p, p < k ∧ P p ∧ D p q
theorem fromTo_zero {D : Nat → Nat → Prop} {P : Nat → Prop} {N : Nat} : IsS (List.replicate (N + 1) false) N (fromTo D P 0) := IsS.none.iff fun q _ => ⟨False.elim, fun ⟨_, h, _⟩ => by omega⟩
theorem fromTo_no {D : Nat → Nat → Prop} {P : Nat → Prop} {N k : Nat} {l : List Bool} (h : IsS l N (fromTo D P k)) (hn : ¬ P k) : IsS l N (fromTo D P (k + 1)) := h.iff fun q _ =>
  ⟨fun ⟨p, h1, h2⟩ => ⟨p, by omega, h2⟩, fun ⟨p, h1, h2, h3⟩ => ⟨p, Nat.lt_of_le_of_ne (by omega) (fun e => hn (e ▸ h2)), h2, h3⟩⟩
theorem fromTo_yes {D : Nat → Nat → Prop} {P : Nat → Prop} {N k : Nat} {l r : List Bool} (h : IsS l N (fromTo D P k)) (hr : IsS r N (D k)) (hy : P k) : IsS (orL l r) N (fromTo D P (k + 1)) := (h.or hr).iff fun q _ =>
  ⟨fun h => h.elim (fun ⟨p, h1, h2⟩ => ⟨p, by omega, h2⟩) fun h => ⟨k, by omega, hy, h⟩, fun ⟨p, h1, h2, h3⟩ => if e : p = k then .inr (e ▸ h3) else .inl ⟨p, by omega, h2, h3⟩⟩
theorem fromTo_all {D : Nat → Nat → Prop} {P : Nat → Prop} {N : Nat} {l : List Bool} (h : IsS l N (fromTo D P (N + 1))) (hP : ∀ p, P p → p ≤ N) : IsS l N (img D P) := h.iff fun q _ =>
  ⟨fun ⟨p, _, h2, h3⟩ => ⟨p, h2, h3⟩, fun ⟨p, h2, h3⟩ => ⟨p, by have := hP p h2; omega, h2, h3⟩⟩
/-! again and again: a search -/
structure AgP (N : Nat) (D : Nat → Nat → Prop) (p : Nat) (out : List Bool) (todo : List Nat) : Prop where
  len : out.length = N + 1
  me : out[p]? = some true
  sound : ∀ q : Nat, out[q]? = some true → ∃ k, pow D k p q
  td : ∀ t ∈ todo, out[t]? = some true
  closed : ∀ q : Nat, out[q]? = some true → q ∉ todo → ∀ r, r ≤ N → D q r → out[r]? = some true
theorem AgP.start {N p : Nat} {D : Nat → Nat → Prop} (hp : p ≤ N) : AgP N D p ((List.replicate (N + 1) false).set p true) [p] := by
  have hq : ∀ q : Nat, ((List.replicate (N + 1) false).set p true)[q]? = some true → q = p := fun q h => by
    by_cases e : p = q
    · exact e.symm
    · rw [List.getElem?_set_ne e] at h; exact absurd h rep_no
  have hm : ((List.replicate (N + 1) false).set p true)[p]? = some true := List.getElem?_set_self (by simp; omega)
  exact ⟨by simp, hm, fun q h => ⟨0, (hq q h).symm⟩, fun t ht => by obtain rfl := List.mem_singleton.1 ht; exact hm, fun q h hn => absurd (List.mem_singleton.2 (hq q h)) hn⟩
/-- the place t at hand, its first k targets looked at -/
structure AgK (N : Nat) (D : Nat → Nat → Prop) (p t k : Nat) (out : List Bool) (todo : List Nat) : Prop where
  len : out.length = N + 1
  me : out[p]? = some true
  tt : out[t]? = some true
  sound : ∀ q : Nat, out[q]? = some true → ∃ k, pow D k p q
  td : ∀ t ∈ todo, out[t]? = some true
  closed : ∀ q : Nat, out[q]? = some true → q ∉ todo → q ≠ t → ∀ r, r ≤ N → D q r → out[r]? = some true
  part : ∀ r, r < k → D t r → out[r]? = some true
theorem AgP.pop {N p t : Nat} {D : Nat → Nat → Prop} {out : List Bool} {tl : List Nat} (h : AgP N D p out (tl ++ [t])) : AgK N D p t 0 out tl :=
  ⟨h.len, h.me, h.td t (by simp), h.sound, fun u hu => h.td u (by simp [hu]), fun q hq hn ht => h.closed q hq (by simp [hn, ht]), fun r hr => by omega⟩
theorem AgK.no {N p t k : Nat} {D : Nat → Nat → Prop} {out : List Bool} {td : List Nat} (h : AgK N D p t k out td) (hn : D t k → out[k]? = some true) : AgK N D p t (k + 1) out td :=
  ⟨h.len, h.me, h.tt, h.sound, h.td, h.closed, fun r hr hd => if e : r = k then e ▸ hn (e ▸ hd) else h.part r (by omega) hd⟩
theorem AgK.yes {N p t k : Nat} {D : Nat → Nat → Prop} {out : List Bool} {td : List Nat} (h : AgK N D p t k out td) (hk : k ≤ N) (hd : D t k) : AgK N D p t (k + 1) (out.set k true) (td ++ [k]) := by
  have hup : ∀ q : Nat, out[q]? = some true → (out.set k true)[q]? = some true := fun q hq => by
    rw [List.getElem?_set]
    split
    · rw [if_pos (by rw [h.len]; omega)]
    · exact hq
  have hme : (out.set k true)[k]? = some true := List.getElem?_set_self (by rw [h.len]; omega)
  refine ⟨by rw [List.length_set]; exact h.len, hup _ h.me, hup _ h.tt, fun q hq => ?_, fun u hu => ?_, fun q hq hn ht r hr hqr => ?_, fun r hr hd' => ?_⟩
  · by_cases e : k = q
    · subst e
      obtain ⟨j, hj⟩ := h.sound t h.tt
      exact ⟨j + 1, pow_succ'.2 ⟨t, hj, hd⟩⟩
    · rw [List.getElem?_set_ne e] at hq; exact h.sound q hq
  · rcases List.mem_append.1 hu with hu | hu
    · exact hup _ (h.td u hu)
    · obtain rfl := List.mem_singleton.1 hu; exact hme
  · by_cases e : k = q
    · subst e; exact absurd (List.mem_append_right _ (List.mem_singleton.2 rfl)) hn
    · rw [List.getElem?_set_ne e] at hq
      exact hup _ (h.closed q hq (fun hm => hn (List.mem_append_left _ hm)) ht r hr hqr)
  · by_cases e : r = k
    · subst e; exact hme
    · exact hup _ (h.part r (by omega) hd')
theorem AgK.done {N p t k : Nat} {D : Nat → Nat → Prop} {out : List Bool} {td : List Nat} (h : AgK N D p t k out td) (hk : N + 1 ≤ k) : AgP N D p out td :=
  ⟨h.len, h.me, h.sound, h.td, fun q hq hn r hr hqr => if e : q = t then h.part r (by omega) (e ▸ hqr) else h.closed q hq hn e r hr hqr⟩
theorem AgP.done {N p : Nat} {D : Nat → Nat → Prop} {out : List Bool} (h : AgP N D p out []) (hD : Inn N D) (hp : p ≤ N) : IsS out N (fun q => ∃ k, pow D k p q) := by
  refine ⟨h.len, fun q _ => ⟨h.sound q, fun ⟨k, hk⟩ => ?_⟩⟩
  have key : ∀ k q, pow D k p q → out[q]? = some true := by
    intro k
    induction k with
    | zero => intro q hq; obtain rfl : p = q := hq; exact h.me
    | succ k ih =>
      intro q hq
      obtain ⟨t, h1, h2⟩ := pow_succ'.1 hq
      exact h.closed t (ih t h1) (by simp) q (hD t q (pow_inn hD k p t hp h1) h2) h2
  exact key k q hk
/-! regexes with other numbers of groups -/
def mvN (g : Nat) (x : Nd) : Nd := if 0 < x.n then { x with n := IntKind.i64.wrap (x.n + g) } else x
def F.mv (g : Nat) : F → F
  | .nil => .nil
  | .nd x ks r => .nd (mvN g x) (ks.mv g) (r.mv g)
theorem mvN_op (g : Nat) (x : Nd) : (mvN g x).op = x.op ∧ (mvN g x).set = x.set ∧ (mvN g x).mn = x.mn ∧ (mvN g x).mx = x.mx ∧ (mvN g x).kids = x.kids := by
  unfold mvN; split <;> exact ⟨rfl, rfl, rfl, rfl, rfl⟩
theorem mvN_ok {g : Nat} {x : Nd} (h : ndOk x = true) : ndOk (mvN g x) = true := by
  obtain ⟨h1, h2, h3, h4, h5⟩ := mvN_op g x
  simp only [ndOk, Bool.and_eq_true] at h ⊢
  refine ⟨?_, ?_⟩
  · have hf := flds_iff.1 h.1
    refine flds_iff.2 ?_
    rw [h1, h2, h3, h4]
    refine ⟨hf.1, hf.2.1, ?_, hf.2.2.2⟩
    rcases hf.2.2.1 with e | e | e
    · exact .inl e
    · exact .inr (.inl e)
    · refine .inr (.inr ?_)
      unfold mvN; rw [if_neg (by omega)]; exact e
  · unfold kidsOk at h ⊢; rw [h1, h5]; exact h.2
theorem F.mv_num (g : Nat) : ∀ f : F, (f.mv g).num = f.num
  | .nil => rfl
  | .nd x ks r => by simp only [F.mv, F.num, F.mv_num g r]
theorem F.mv_wf (g : Nat) : ∀ {f : F}, f.wf → (f.mv g).wf
  | .nil, _ => trivial
  | .nd x ks r, ⟨a, b, c, d⟩ => ⟨mvN_ok a, by rw [F.mv_num, (mvN_op g x).2.2.2.2]; exact b, F.mv_wf g c, F.mv_wf g d⟩
theorem F.mv_flat (g : Nat) : ∀ f : F, (f.mv g).flat = f.flat.map (mvN g)
  | .nil => rfl
  | .nd x ks r => by simp [F.mv, F.flat, F.mv_flat g ks, F.mv_flat g r]
theorem rounds_congr {x y : Nd} {D : Nat → Nat → Prop} (h : x.mn = y.mn) (h' : x.mx = y.mx) : rounds x D = rounds y D := by
  funext p q; unfold rounds; rw [h, h']
theorem der_mv (w : List UInt8) (g : Nat) : ∀ (f : F) (m : Bool), der w (f.mv g) m = der w f m
  | .nil, m => rfl
  | .nd x ks r, m => by
    obtain ⟨h1, h2, h3, h4, h5⟩ := mvN_op g x
    funext p q
    have e1 := der_mv w g ks true
    have e2 := der_mv w g ks false
    have e3 := der_mv w g r m
    have e4 := der_mv w g r true
    have e5 := der_mv w g r false
    simp only [F.mv, der, h1, h2, e1, e2, e4, e5, rounds_congr h3 h4]
theorem der1_mv (w : List UInt8) (g : Nat) (x : Nd) (ks : F) : der1 w (mvN g x) (ks.mv g) = der1 w x ks := by
  funext p q
  exact congrFun (congrFun (der_mv w g (.nd x ks .nil) false) p) q
/-- two regexes under one node -/
def catN : Nd := ⟨4, 0, 0, 0, 0, 2⟩
def altN : Nd := ⟨5, 0, 0, 0, 0, 2⟩
def twoL (n : Nd) (a b : List Nd) (g : Nat) : List Nd := n :: (a ++ b.map (mvN g))
theorem Shp.two {n : Nd} {a b : List Nd} {xa xb y : Nd} {ka kb js : F} {g : Nat} (hn : ndOk n = true) (h2 : n.kids = 2) (ha : Shp a xa ka) (hb : Shp b xb kb) (h : Shp (twoL n a b g) y js) : y = n ∧ js = .nd xa ka (.nd (mvN g xb) (kb.mv g) .nil) := by
  have hbw := F.mv_wf g hb.wf
  have hwf : (F.nd n (.nd xa ka (.nd (mvN g xb) (kb.mv g) .nil)) .nil).wf := ⟨hn, by rw [h2]; rfl, ⟨ha.wf.1, ha.wf.2.1, ha.wf.2.2.1, hbw⟩, trivial⟩
  have := flat_inj (.nd y js .nil) (.nd n (.nd xa ka (.nd (mvN g xb) (kb.mv g) .nil)) .nil) [] [] h.wf hwf rfl (by
    have e := h.flat
    have eb := congrArg (List.map (mvN g)) hb.flat
    simp only [List.map_cons, ← F.mv_flat] at eb
    simp only [F.flat, List.append_nil]
    rw [← e, twoL, eb, ha.flat]; simp)
  simpa using this.1
theorem Shp.rep1 {a : List Nd} {xa y : Nd} {ka js : F} (ha : Shp a xa ka) (h : Shp (starN :: a) y js) : y = starN ∧ js = .nd xa ka .nil := by
  have hwf : (F.nd starN (.nd xa ka .nil) .nil).wf := ⟨by decide +kernel, rfl, ⟨ha.wf.1, ha.wf.2.1, ha.wf.2.2.1, trivial⟩, trivial⟩
  have := flat_inj (.nd y js .nil) (.nd starN (.nd xa ka .nil) .nil) [] [] h.wf hwf rfl (by
    simp only [F.flat, List.append_nil]
    rw [← h.flat, ha.flat])
  simpa using this.1
theorem der1_cat2 {w : List UInt8} {xa xb : Nd} {ka kb : F} {g p q : Nat} : der1 w catN (.nd xa ka (.nd (mvN g xb) (kb.mv g) .nil)) p q ↔ img (der1 w xb kb) (der1 w xa ka p) q := by
  have h := img_else (w := w) (x := catN) (ks := .nd xa ka (.nd (mvN g xb) (kb.mv g) .nil)) (T := fun t => t = p) (p := q) (by decide) (by decide) (by decide) (by decide) (by decide)
  simp only [img, exists_eq_left] at h
  rw [h, der_cat]
  constructor
  · rintro ⟨t, h1, h2⟩
    exact ⟨t, h1, by rw [← der1_mv w g xb kb]; exact h2⟩
  · rintro ⟨t, h1, h2⟩
    exact ⟨t, h1, by rw [← der1_mv w g xb kb] at h2; exact h2⟩
theorem der1_alt2 {w : List UInt8} {xa xb : Nd} {ka kb : F} {g p q : Nat} : der1 w altN (.nd xa ka (.nd (mvN g xb) (kb.mv g) .nil)) p q ↔ der1 w xa ka p q ∨ der1 w xb kb p q := by
  have h := img_alt5 (w := w) (x := altN) (ks := .nd xa ka (.nd (mvN g xb) (kb.mv g) .nil)) (T := fun t => t = p) (p := q) rfl
  simp only [img, exists_eq_left] at h
  rw [h, der_alt, der_alt, der1_mv]
  exact or_congr_right ⟨fun h => h.elim id fun h => (der_nil'.1 h).elim, .inl⟩
theorem der1_star {w : List UInt8} {xa : Nd} {ka : F} {p q : Nat} : der1 w starN (.nd xa ka .nil) p q ↔ ∃ k, pow (der1 w xa ka) k p q := by
  have h := img_rep6 (w := w) (x := starN) (ks := .nd xa ka .nil) (T := fun t => t = p) (p := q) rfl
  simp only [img, exists_eq_left] at h
  rw [h]
  constructor
  · rintro ⟨k, _, _, h⟩; exact ⟨k, h⟩
  · rintro ⟨k, h⟩; exact ⟨k, Int.natCast_nonneg k, .inl rfl, h⟩
theorem mvN_rng {g : Nat} {b : List Nd} (h : ∀ x ∈ b, -128 ≤ x.op ∧ x.op < 128) : ∀ x ∈ b.map (mvN g), -128 ≤ x.op ∧ x.op < 128 := fun x hx => by
  obtain ⟨y, hy, rfl⟩ := List.mem_map.1 hx
  rw [(mvN_op g y).1]; exact h y hy
theorem twoL_rng {n : Nd} {a b : List Nd} {g : Nat} (hn : -128 ≤ n.op ∧ n.op < 128) (ha : ∀ x ∈ a, -128 ≤ x.op ∧ x.op < 128) (hb : ∀ x ∈ b, -128 ≤ x.op ∧ x.op < 128) : ∀ x ∈ twoL n a b g, -128 ≤ x.op ∧ x.op < 128 := fun x hx => by
  rcases List.mem_cons.1 hx with rfl | hx
  · exact hn
  · exact (List.mem_append.1 hx).elim (ha x) (mvN_rng hb x)
theorem cons_rng {n : Nd} {a : List Nd} (hn : -128 ≤ n.op ∧ n.op < 128) (ha : ∀ x ∈ a, -128 ≤ x.op ∧ x.op < 128) : ∀ x ∈ n :: a, -128 ≤ x.op ∧ x.op < 128 := fun x hx => (List.mem_cons.1 hx).elim (fun e => e ▸ hn) (ha x)
theorem twoL_len {n : Nd} {a b : List Nd} {g : Nat} : (twoL n a b g).length = a.length + b.length + 1 := by simp [twoL]
theorem cat_ok : ndOk catN = true := by decide +kernel
theorem alt_ok : ndOk altN = true := by decide +kernel
end Go.HL.Kl.Mc
namespace Go.HL.Kl.Mc
open Go Go.HL Go.HL.Kl
def mvTo (g : Nat) (b : List Nd) (j : Nat) : List Nd := (b.take j).map (mvN g) ++ b.drop j
theorem mvTo_len (g : Nat) (b : List Nd) (j : Nat) : (mvTo g b j).length = b.length := by simp [mvTo]; omega
theorem mvTo_zero (g : Nat) (b : List Nd) : mvTo g b 0 = b := by simp [mvTo]
theorem mvTo_all (g : Nat) (b : List Nd) : mvTo g b b.length = b.map (mvN g) := by simp [mvTo]
theorem mvTo_at {g : Nat} {b : List Nd} {j : Nat} {x : Nd} (h : b[j]? = some x) : mvTo g b j = (b.take j).map (mvN g) ++ x :: b.drop (j + 1) := by
  have hj := (List.getElem?_eq_some_iff.1 h).1
  rw [List.getElem?_eq_getElem hj, Option.some.injEq] at h
  rw [mvTo, List.drop_eq_getElem_cons hj, h]
theorem mvTo_len' {g : Nat} {b : List Nd} {j : Nat} {x : Nd} (h : b[j]? = some x) : ((b.take j).map (mvN g)).length = j := by
  have := (List.getElem?_eq_some_iff.1 h).1
  simp; omega
theorem mvTo_get {g : Nat} {b : List Nd} {j : Nat} {x : Nd} (h : b[j]? = some x) : (mvTo g b j)[j]? = some x := by rw [mvTo_at h, get_mid (mvTo_len' h)]
theorem mvTo_set {g : Nat} {b : List Nd} {j : Nat} {x : Nd} (h : b[j]? = some x) : (mvTo g b j).set j (mvN g x) = mvTo g b (j + 1) := by
  rw [mvTo_at h, set_mid (mvTo_len' h), mvTo, List.take_add_one, h]
  simp
theorem mvTo_skip {g : Nat} {b : List Nd} {j : Nat} {x : Nd} (h : b[j]? = some x) (hn : ¬ 0 < x.n) : mvTo g b j = mvTo g b (j + 1) := by
  rw [← mvTo_set h, mvTo_at h, set_mid (mvTo_len' h), mvN, if_neg hn]
/-- the answer of runs -/
def RowsC (N : Nat) (D : Nat → Nat → Prop) (v : Value) (S : Hp) : Prop := ∃ (a : Option Addr) (c : Nat) (rs : List (Sl Bool)), v = .slice a rs.length c ∧ RowsP rs N D ∧ ∀ W : World, (∀ b o, (b, o) ∈ S → W.heap[b]? = some o) → RdRows W (.slice a rs.length c) rs
theorem RowsC.of {N : Nat} {D : Nat → Nat → Prop} {q : Sl (Sl Bool)} {S S' : Hp} {T : Nat} (h : RowsTo q.xs N (N + 1) D) (ho : OwnS (Esl (α := Bool)) 1 T (.slice q.a q.xs.length q.c) q.xs S) (hr : ∀ s ∈ q.xs, RdS Ebo (.slice s.a s.xs.length s.c) s.xs S') : RowsC N D (.slice q.a q.xs.length q.c) (S ++ S') :=
  ⟨_, _, q.xs, rfl, h.done, fun W hW => ⟨ho.rd fun b o hm => hW b o (List.mem_append_left _ hm), fun s hs => (hr s hs).out W fun b o hm => hW b o (List.mem_append_right _ hm)⟩⟩
/-- read as rows, in every world that bears this part -/
def RdRS (v : Value) (rs : List (Sl Bool)) (S : Hp) : Prop := ∀ W : World, (∀ b o, (b, o) ∈ S → W.heap[b]? = some o) → RdRows W v rs
theorem RdRS.at {v : Value} {rs : List (Sl Bool)} {S H : Hp} {w0 w : World} (h : RdRS v rs S) (hs : HIn S H) (st : St w0 w [] H) : RdRows w v rs := h w fun b o hm => st.has b o (hs _ hm)
theorem RdRS.rdk {v : Value} {rs : List (Sl Bool)} {S H : Hp} {κ : Cx} (h : RdRS v rs S) (hs : HIn S H) : RdK (Esl (α := Bool)) κ H v rs := ⟨fun w st => (h w fun b o hm => st.has b o (hs _ hm)).out⟩
theorem RdRS.row {v : Value} {rs : List (Sl Bool)} {S H : Hp} {κ : Cx} {s : Sl Bool} (h : RdRS v rs S) (hm : s ∈ rs) (hs : HIn S H) : RdK Ebo κ H (.slice s.a s.xs.length s.c) s.xs := ⟨fun w st => (h w fun b o hm => st.has b o (hs _ hm)).row s hm⟩
end Go.HL.Kl.Mc
