/- Subtrees of a list of nodes; weights; numbers converted. Conditions: none. -/
import Derived.Test.YtiggliigookieaaDoorQF1Z
import Derived.Test.YtiggliigookieaaDoorHlB
namespace Go.HL.Kl.Mc
open Go Go.HL Go.HL.Kl
theorem wrap_i64z {x : Int} (h1 : -9223372036854775808 ≤ x) (h2 : x < 9223372036854775808) : IntKind.i64.wrap x = x := by
  simp [IntKind.wrap, IntKind.signed, IntKind.bits]; omega
section
variable {P : Program} {κ : Cx} {L : HL.Loc} {H : Hp} {ty t t' : TypeId} {x : Operand}
theorem s_convI {ds : TypeDesc} {k' : IntKind} {a : Int} [TU P t ds] [TU P t' (.int .i64)] (hx : ev L x = some (.int k' a)) (h : -9223372036854775808 ≤ a ∧ a < 9223372036854775808) : Step P κ (.convert t t' x) ty L H (.int .i64 a) :=
  step_cast (s_conv hx) (congrArg _ (wrap_i64z h.1 h.2))
end
theorem nd_set {x : Nd} : ∀ (j : Nat) u, (Ec x.set)[j]? = some u → (En x)[1 + j]? = some u := by
  intro j u h
  rw [show 1 + j = j + 1 by omega]
  simp only [En, List.getElem?_cons_succ]
  rw [List.getElem?_append_left (List.getElem?_eq_some_iff.1 h).1]; exact h
theorem F.num_le : ∀ f : F, f.num ≤ f.size
  | .nil => Nat.le_refl _
  | .nd x ks r => by have := F.num_le r; simp only [F.num, F.size]; omega
/-- a forest of a list, from a place to a place -/
structure Part (re : List Nd) (f : F) (i i' : Nat) : Prop where
  wf : f.wf
  flat : re.drop i = f.flat ++ re.drop i'
  len : i' = i + f.size
  le : i' ≤ re.length
theorem Part.head {re : List Nd} {x : Nd} {ks r : F} {i i' : Nat} (h : Part re (.nd x ks r) i i') : re[i]? = some x ∧ Part re ks (i + 1) (i + 1 + ks.size) ∧ Part re r (i + 1 + ks.size) i' := by
  have hl := h.len
  have hle := h.le
  simp only [F.size] at hl
  have hf := h.flat
  simp only [F.flat, List.cons_append, List.append_assoc] at hf
  have h0 : re[i]? = some x := by
    have := congrArg (fun l => l[0]?) hf
    simpa using this
  have h1 : re.drop (i + 1) = ks.flat ++ (r.flat ++ re.drop i') := by
    have := congrArg (List.drop 1) hf
    rw [List.drop_drop] at this
    simpa using this
  have h2 : re.drop (i + 1 + ks.size) = r.flat ++ re.drop i' := by
    have := congrArg (List.drop ks.size) h1
    rw [List.drop_drop, ← F.flat_size, List.drop_left] at this
    rw [← F.flat_size]; exact this
  exact ⟨h0, ⟨h.wf.2.2.1, by rw [h2]; exact h1, rfl, by omega⟩, ⟨h.wf.2.2.2, h2, by omega, hle⟩⟩
theorem Part.one {re : List Nd} {x : Nd} {ks r : F} {i i' : Nat} (h : Part re (.nd x ks r) i i') : Part re (.nd x ks .nil) i (i + 1 + ks.size) := by
  obtain ⟨h0, h1, h2⟩ := h.head
  have hlt : i < re.length := (List.getElem?_eq_some_iff.1 h0).1
  refine ⟨⟨h.wf.1, h.wf.2.1, h.wf.2.2.1, trivial⟩, ?_, by simp [F.size]; omega, h1.le⟩
  rw [List.drop_eq_getElem_cons hlt, h1.flat]
  rw [List.getElem?_eq_getElem hlt] at h0
  simp at h0
  simp [F.flat, h0]
theorem gate_not7 {x : Nd} {en : List Bool} {g : Nat} (h7 : ¬ x.op = 7) (h8 : x.op = 8 → 1 ≤ x.n ∧ x.n ≤ en.length ∧ en[x.n.toNat - 1]? = some true) : gate x en g = some (en, g) := by
  by_cases h : x.op = 8
  · obtain ⟨a, b, c⟩ := h8 h; exact gate_ref h a b c
  · exact gate_other h h7
theorem TreeAt.part {re : List Nd} {d i i' : Nat} {x : Nd} {ks : F} (h : TreeAt re d i i' x ks) : Part re (.nd x ks .nil) i i' :=
  ⟨h.wf, by rw [h.flat]; simp [F.flat], by rw [h.len]; simp [F.size]; omega, h.le⟩
/-- the contract of the weighing functions -/
def WeighC (P : Program) (fn : Nat) (x : Nd) (ks : F) : Prop := ∀ (ra : Option Addr) (rc : Nat) (re : List Nd) (i i' : Nat), (∀ x ∈ re, -128 ≤ x.op ∧ x.op < 128) → Part re (.nd x ks .nil) i i' →
  Fn P fn [.slice ra re.length rc, .int .i64 i] (fun w => Rd En w (.slice ra re.length rc) re) [] (fun v _ => v = .tuple #[.int .i64 (cut (F.nd x ks .nil).weight), .int .i64 i'])
theorem cut_le (n : Nat) : cut n ≤ 16385 := by unfold cut; omega
theorem weight_one (x : Nd) (ks : F) : (F.nd x ks .nil).weight = 1 + times x * ks.weight := by simp [F.weight]
theorem mul_le {a b : Nat} (ha : a ≤ 16385) (hb : b ≤ 256) : a * b ≤ 4194560 := Nat.mul_le_mul ha hb
theorem mul_leZ {a b : Nat} (ha : a ≤ 16385) (hb : b ≤ 256) : (a : Int) * b ≤ 4194560 := by
  rw [← Int.natCast_mul]; have := mul_le ha hb; omega
theorem mul_0Z (a b : Nat) : 0 ≤ (a : Int) * b := by
  rw [← Int.natCast_mul]; omega
theorem cut_fin {t a : Nat} (ht : 1 ≤ t) : min ((cut a : Int) * t + 1) 16385 = (cut (1 + t * a) : Nat) := by
  rw [← cut_mul ht]
  have : (cut a : Int) * t + 1 = ((1 + t * cut a : Nat) : Int) := by rw [Nat.mul_comm]; push_cast; omega
  rw [this]; unfold cut; omega
theorem flds_iff {x : Nd} : flds x = true ↔ (1 ≤ x.op ∧ x.op ≤ 8) ∧ (x.op = 1 ∨ x.set = 0) ∧ (x.op = 7 ∨ x.op = 8 ∨ x.n = 0) ∧ (x.op = 6 → 0 ≤ x.mn ∧ x.mn ≤ 255 ∧ (x.mx = -1 ∨ x.mn ≤ x.mx ∧ x.mx ≤ 255)) ∧ (x.op ≠ 6 → x.mn = 0 ∧ x.mx = 0) := by
  simp only [flds, Bool.and_eq_true, Bool.or_eq_true, decide_eq_true_eq]
  by_cases h6 : x.op = 6
  · rw [if_pos h6]
    simp only [decide_eq_true_eq]
    constructor
    · rintro ⟨⟨⟨a, b⟩, c⟩, d⟩; exact ⟨a, b, by omega, fun _ => d, fun h => absurd h6 h⟩
    · rintro ⟨a, b, c, d, _⟩; exact ⟨⟨⟨a, b⟩, by omega⟩, d h6⟩
  · rw [if_neg h6]
    simp only [decide_eq_true_eq]
    constructor
    · rintro ⟨⟨⟨a, b⟩, c⟩, d⟩; exact ⟨a, b, by omega, fun h => absurd h h6, fun _ => d⟩
    · rintro ⟨a, b, c, _, d⟩; exact ⟨⟨⟨a, b⟩, by omega⟩, d h6⟩
theorem Ec_lenM (c : Kl.Cl) : (Ec c).length = 4 := Enc.len (E := Ec) c
end Go.HL.Kl.Mc

/- Which lists are well shaped, as an answer. Conditions: none. -/
namespace Go.HL.Kl.Mc
open Go Go.HL Go.HL.Kl
theorem flat_inj : ∀ (f g : F) (r s : List Nd), f.wf → g.wf → f.num = g.num → f.flat ++ r = g.flat ++ s → f = g ∧ r = s
  | .nil, .nil, r, s, _, _, _, h => ⟨rfl, h⟩
  | .nil, .nd _ _ _, _, _, _, _, hn, _ => by simp [F.num] at hn
  | .nd _ _ _, .nil, _, _, _, _, hn, _ => by simp [F.num] at hn
  | .nd x ks f, .nd y js g, r, s, hf, hg, hn, h => by
    simp only [F.flat, List.cons_append, List.append_assoc, List.cons.injEq] at h
    obtain ⟨rfl, h⟩ := h
    have hk : ks.num = js.num := by have := hf.2.1; have := hg.2.1; omega
    obtain ⟨e1, h1⟩ := flat_inj ks js _ _ hf.2.2.1 hg.2.2.1 hk h
    obtain ⟨e2, h2⟩ := flat_inj f g _ _ hf.2.2.2 hg.2.2.2 (by simpa [F.num] using hn) h1
    exact ⟨by rw [e1, e2], h2⟩
def ShpP (re : List Nd) : Prop := (∃ en, shN re 260 0 [] 0 = some (re.length, en)) ∧ ∃ x ks, Shp re x ks
noncomputable def shapedB (re : List Nd) : Bool := @decide (ShpP re) (Classical.propDecidable _)
theorem shapedB_iff {re : List Nd} : shapedB re = true ↔ ShpP re := by
  unfold shapedB
  constructor
  · intro h; exact @of_decide_eq_true _ (Classical.propDecidable _) h
  · intro h; exact @decide_eq_true _ (Classical.propDecidable _) h
theorem shapedB_no {re : List Nd} (h : ¬ ShpP re) : shapedB re = false := Bool.eq_false_iff.2 fun h' => h (shapedB_iff.1 h')
theorem shp_none {re : List Nd} (h : shN re 260 0 [] 0 = none) : shapedB re = false := shapedB_no fun ⟨⟨en, h'⟩, _⟩ => by rw [h] at h'; cases h'
theorem shp_end {re : List Nd} {j : Nat} {en : List Bool} (h : shN re 260 0 [] 0 = some (j, en)) (hj : j ≠ re.length) : shapedB re = false := shapedB_no fun ⟨⟨en', h'⟩, _⟩ => by
  rw [h] at h'; cases h'; exact hj rfl
theorem shp_tree {re : List Nd} {en : List Bool} (h : shN re 260 0 [] 0 = some (re.length, en)) : ∃ x ks, Part re (.nd x ks .nil) 0 re.length ∧ ks.depth + 1 ≤ 260 ∧ shapedB re = decide (cut (F.nd x ks .nil).weight ≤ 16384) := by
  obtain ⟨x, ks, ht⟩ := shN_tree _ _ _ _ _ _ h
  have hp := ht.part
  have hflat : re = x :: ks.flat := by simpa using ht.flat
  refine ⟨x, ks, hp, ht.dep, ?_⟩
  by_cases hw : (F.nd x ks .nil).weight ≤ 16384
  · rw [decide_eq_true (by unfold cut; omega)]
    exact shapedB_iff.2 ⟨⟨en, h⟩, x, ks, ⟨ht.wf, hflat, ht.dep, hw⟩⟩
  · rw [decide_eq_false (by unfold cut; omega)]
    refine shapedB_no fun ⟨_, y, js, hs⟩ => hw ?_
    have := flat_inj (.nd x ks .nil) (.nd y js .nil) [] [] ht.wf hs.wf rfl (by simp only [F.flat, List.append_nil]; rw [← hflat, ← hs.flat])
    rw [this.1]; exact hs.weight
noncomputable def refsB (re : List Nd) : Bool := shapedB re && re.any fun x => x.op == 8
theorem refs_yes {re : List Nd} {x : Nd} (hs : shapedB re = true) (hx : x ∈ re) (h8 : x.op = 8) : refsB re = true := by
  rw [refsB, hs, Bool.true_and, List.any_eq_true]
  exact ⟨x, hx, by simp [h8]⟩
theorem refs_no {re : List Nd} (h : ∀ j (x : Nd), j < re.length → re[j]? = some x → ¬ x.op = 8) : refsB re = false := by
  have : (re.any fun x => x.op == 8) = false := by
    rw [Bool.eq_false_iff]
    intro h'
    obtain ⟨x, hx, h8⟩ := List.any_eq_true.1 h'
    obtain ⟨j, hj⟩ := List.getElem?_of_mem hx
    exact h j x (List.getElem?_eq_some_iff.1 hj).1 hj (by simpa using h8)
  rw [refsB, this, Bool.and_false]
theorem refs_step {re : List Nd} {j : Nat} {x : Nd} (h : ∀ q (x : Nd), q < j → re[q]? = some x → ¬ x.op = 8) (hx : re[j]? = some x) (h8 : ¬ x.op = 8) : ∀ q (x : Nd), q < j + 1 → re[q]? = some x → ¬ x.op = 8 := by
  intro q y hq hy
  by_cases e : q = j
  · subst e; rw [hx] at hy; cases hy; exact h8
  · exact h q y (by omega) hy
theorem refs_shp {re : List Nd} (h : shapedB re = false) : refsB re = false := by rw [refsB, h, Bool.false_and]
theorem cut_fin2 {t a : Nat} (ht : 1 ≤ t) : min (1 + (t : Int) * (cut a : Int)) 16385 = (cut (1 + t * a) : Nat) := by
  rw [← cut_fin ht, Int.mul_comm, Int.add_comm]
end Go.HL.Kl.Mc

/- Where nodes end; the code of a regex, made step by step. Conditions: none. -/
namespace Go.HL.Kl.Mc
open Go Go.HL Go.HL.Kl
def Eix (n : Nat) : List Value := [.int .i64 n]
instance : Enc Eix 1 := ⟨fun _ => rfl, fun _ _ h => by simp [Eix] at h; subst h; rfl⟩
/-- of each node the place behind it and all in it, from a place on -/
def EndsOk (re : List Nd) (a : Nat) (l : List Nat) : Prop := l.length = re.length ∧ ∀ (i : Nat) (x : Nd) (ks r : F) (i' : Nat), a ≤ i → Part re (.nd x ks r) i i' → l[i]? = some (i + 1 + ks.size)
theorem Part.at {re : List Nd} : ∀ (f : F) (i i' : Nat), Part re f i i' → ∀ j, i ≤ j → j < i' → ∃ x ks r j', Part re (.nd x ks r) j j'
  | .nil, i, i', h, j, h1, h2 => by have := h.len; simp [F.size] at this; omega
  | .nd x ks r, i, i', h, j, h1, h2 => by
    obtain ⟨_, hk, hr⟩ := h.head
    by_cases e : j = i
    · subst e; exact ⟨x, ks, r, i', h⟩
    by_cases e2 : j < i + 1 + ks.size
    · exact Part.at ks _ _ hk j (by omega) e2
    · exact Part.at r _ _ hr j (by omega) h2
theorem Part.uniq {re : List Nd} {x y : Nd} {ks js r s : F} {i i' i2 : Nat} (h : Part re (.nd x ks r) i i') (h' : Part re (.nd y js s) i i2) : ks = js := by
  have h1 := h.one; have h2 := h'.one
  have := flat_inj (.nd x ks .nil) (.nd y js .nil) _ _ h1.wf h2.wf rfl (h1.flat.symm.trans h2.flat)
  have := this.1
  simp at this
  exact this.2
theorem EndsOk.start {re : List Nd} {l : List Nat} (h : l.length = re.length) : EndsOk re re.length l := ⟨h, fun i x ks r i' hi hp => by
  have := (List.getElem?_eq_some_iff.1 hp.head.1).1; omega⟩
theorem EndsOk.step {re : List Nd} {a : Nat} {l : List Nat} {x : Nd} {ks r : F} {i' : Nat} (h : EndsOk re (a + 1) l) (hp : Part re (.nd x ks r) a i') : EndsOk re a (l.set a (a + 1 + ks.size)) := by
  have hlt : a < re.length := (List.getElem?_eq_some_iff.1 hp.head.1).1
  refine ⟨by rw [List.length_set]; exact h.1, fun i y js s i2 hi hq => ?_⟩
  by_cases e : a = i
  · subst e
    rw [List.getElem?_set_self (by rw [h.1]; exact hlt), hp.uniq hq]
  · rw [List.getElem?_set_ne e]; exact h.2 i y js s i2 (by omega) hq
theorem F.size_nil {f : F} (h : f.size = 0) : f = .nil := by
  cases f with
  | nil => rfl
  | nd x ks r => simp [F.size] at h
end Go.HL.Kl.Mc

/- The code of a regex, made step by step: appended to, patched. Conditions: none. -/
namespace Go.HL.Kl.Mc
open Go Go.HL Go.HL.Kl
/-- the code of one node with all in it -/
def codeOne (x : Nd) (ks : F) (b : Nat) : List In := oneC x (fun b => code ks false b 0) (fun b => code ks true b (b + lenM ks true)) (lenM ks false) b
def lenT (x : Nd) (ks : F) : Nat := lenOne x (lenM ks false) (lenM ks true)
/-- of alternatives: the places of the jumps -/
def jmps : F → Nat → List Nat
  | .nil, _ => []
  | .nd x ks r, b => match r with
    | .nil => []
    | _ => (b + 1 + lenT x ks) :: jmps r (b + lenT x ks + 2)
/-- the jumps patched, the first j of them -/
def patch (l : List In) (ps : List Nat) (e : Nat) : List In := ps.foldl (fun l p => l.set p ⟨4, 0, e, 0⟩) l
end Go.HL.Kl.Mc

/- The code of a node, by its kind; the jumps of alternatives. Conditions: none. -/
namespace Go.HL.Kl.Mc
open Go Go.HL Go.HL.Kl
section
variable {x : Nd} {ks : F} {b : Nat}
end
/-- a repetition's one kid -/
theorem rep_kid {x : Nd} {ks : F} (hw : (F.nd x ks .nil).wf) (h6 : x.op = 6) : ∃ y js, ks = .nd y js .nil := by
  have hk : x.kids = 1 := by
    have h := hw.1
    simp only [ndOk, Bool.and_eq_true, kidsOk] at h
    have h := h.2
    rw [if_pos (.inl h6)] at h
    simpa using h
  have hn := hw.2.1
  cases ks with
  | nil => simp [F.num] at hn; omega
  | nd y js r =>
    cases r with
    | nil => exact ⟨y, js, rfl⟩
    | nd _ _ _ => simp only [F.num] at hn; omega
def IsJ (l : List In) (p : Nat) : Prop := ∃ v : Int, l[p]? = some ⟨4, 0, v, 0⟩
end Go.HL.Kl.Mc

/- What Compile answers. Conditions: none. -/
namespace Go.HL.Kl.Mc
open Go Go.HL Go.HL.Kl
theorem F.size_weight : ∀ f : F, f.size ≤ f.weight
  | .nil => Nat.le_refl _
  | .nd x ks r => by
    have h1 := F.size_weight ks
    have h2 := F.size_weight r
    have h3 : ks.weight ≤ times x * ks.weight := Nat.le_mul_of_pos_left _ (times_pos x)
    simp only [F.size, F.weight]; omega
theorem Shp.len {re : List Nd} {x : Nd} {ks : F} (h : Shp re x ks) : re.length ≤ 16384 := by
  have h1 := F.size_weight (.nd x ks .nil)
  have := h.weight
  rw [h.flat]
  simp only [F.size] at h1
  simp only [List.length_cons, F.flat_size]
  omega
theorem Shp.part {re : List Nd} {x : Nd} {ks : F} (h : Shp re x ks) : Part re (.nd x ks .nil) 0 re.length := by
  refine ⟨h.wf, by rw [List.drop_length, List.drop_zero, List.append_nil]; simp [F.flat, h.flat], ?_, Nat.le_refl _⟩
  rw [h.flat]; simp [F.size, F.flat_size]
/-- an answer of Compile: none for what is not well shaped or has references, else the machine -/
inductive CompP (re : List Nd) (v : Value) (S' : Hp) : Prop
  | shape (hs : shapedB re = false) (hv : v = .tuple #[.slice none 0 0, .int .i64 49])
  | ref (hs : shapedB re = true) (hr : refsB re = true) (hv : v = .tuple #[.slice none 0 0, .int .i64 44])
  | ok {x : Nd} {ks : F} {a : Option Addr} (hs : shapedB re = true) (hr : refsB re = false) (h : Shp re x ks) (hv : v = .tuple #[.slice a (mach (.nd x ks .nil)).length (mach (.nd x ks .nil)).length, .int .i64 0]) (hm : RdS Ein (.slice a (mach (.nd x ks .nil)).length (mach (.nd x ks .nil)).length) (mach (.nd x ks .nil)) S')
/-- likewise: the machine is memory of one's own -/
inductive CompO (T : Nat) (re : List Nd) (v : Value) (S' : Hp) : Prop
  | shape (hs : shapedB re = false) (hv : v = .tuple #[.slice none 0 0, .int .i64 49]) (hn : S' = [])
  | ref (hs : shapedB re = true) (hr : refsB re = true) (hv : v = .tuple #[.slice none 0 0, .int .i64 44]) (hn : S' = [])
  | ok {x : Nd} {ks : F} {a : Option Addr} (hs : shapedB re = true) (hr : refsB re = false) (h : Shp re x ks) (hv : v = .tuple #[.slice a (mach (.nd x ks .nil)).length (mach (.nd x ks .nil)).length, .int .i64 0]) (hm : OwnS Ein 7 T (.slice a (mach (.nd x ks .nil)).length (mach (.nd x ks .nil)).length) (mach (.nd x ks .nil)) S')
end Go.HL.Kl.Mc

/- Which machines are well shaped, as an answer. Conditions: none. -/
namespace Go.HL.Kl.Mc
open Go Go.HL Go.HL.Kl
noncomputable def mokB (m : List In) : Bool := @decide (MOk m) (Classical.propDecidable _)
/-- the first so many instructions are right -/
def MUp (m : List In) (q : Nat) : Prop := ∀ i t, i < q → m[i]? = some t → InOk (m.length - 1) t ∧ (t.op ≤ 3 → i + 1 < m.length)
/-- what an instruction of its kind should be -/
def wantI (t : In) : In := ⟨t.op, if t.op = 1 then t.set else 0, if t.op = 4 ∨ t.op = 5 then t.x else 0, if t.op = 5 then t.y else 0⟩
end Go.HL.Kl.Mc

/- Sets of places, made: of one node, of two sets. Conditions: none. -/
namespace Go.HL.Kl.Mc
open Go Go.HL Go.HL.Kl
/-! forests, one behind the other -/
def F.app : F → F → F
  | .nil, g => g
  | .nd x ks r, g => .nd x ks (r.app g)
theorem F.num_app : ∀ f g : F, (f.app g).num = f.num + g.num
  | .nil, g => by simp [F.app, F.num]
  | .nd x ks r, g => by simp only [F.app, F.num, F.num_app r g]; omega
theorem F.flat_app : ∀ f g : F, (f.app g).flat = f.flat ++ g.flat
  | .nil, g => by simp [F.app, F.flat]
  | .nd x ks r, g => by simp [F.app, F.flat, F.flat_app r g]
theorem F.size_app : ∀ f g : F, (f.app g).size = f.size + g.size
  | .nil, g => by simp [F.app, F.size]
  | .nd x ks r, g => by simp only [F.app, F.size, F.size_app r g]; omega
theorem F.wf_app : ∀ {f g : F}, f.wf → g.wf → (f.app g).wf
  | .nil, g, _, h => h
  | .nd x ks r, g, ⟨a, b, c, d⟩, h => ⟨a, b, c, F.wf_app d h⟩
theorem Part.down {re : List Nd} {y : Nd} {js r : F} {p i' : Nat} (h : Part re (.nd y js r) p i') : Part re (js.app r) (p + 1) i' := by
  obtain ⟨_, h1, h2⟩ := h.head
  have hl := h.len
  simp only [F.size] at hl
  exact ⟨F.wf_app h1.wf h2.wf, by rw [h1.flat, h2.flat, F.flat_app, List.append_assoc], by rw [F.size_app]; omega, h.le⟩
theorem F.num_nil {f : F} (h : f.num = 0) : f = .nil := by
  cases f with
  | nil => rfl
  | nd x ks r => simp [F.num] at h
/-! lists of booleans -/
def bo0 (l : List Bool) (i : Nat) : Bool := l.getD i false
theorem bo0_get {l : List Bool} {i : Nat} (h : i < l.length) : l[i]? = some (bo0 l i) := by simp [bo0, h]
theorem bo0_true {l : List Bool} {i : Nat} : bo0 l i = true ↔ l[i]? = some true := by
  unfold bo0
  rw [List.getD_eq_getElem?_getD]
  cases l[i]? <;> simp
def orF (a b : List Bool) (i : Nat) : Bool := bo0 a i || bo0 b i
def orL (a b : List Bool) : List Bool := (List.range a.length).map (orF a b)
theorem orL_len (a b : List Bool) : (orL a b).length = a.length := by simp [orL]
theorem orL_get {a b : List Bool} {i : Nat} (h : i < a.length) : (orL a b)[i]? = some (orF a b i) := by
  unfold orL
  rw [List.getElem?_map, List.getElem?_range h]; rfl
/-- is there one of b that is not of a, among the first k? -/
def moreTo (a b : List Bool) (k : Nat) : Bool := (List.range k).any fun i => bo0 b i && !bo0 a i
def moreB (a b : List Bool) : Bool := moreTo a b a.length
theorem moreTo_succ {a b : List Bool} {k : Nat} : moreTo a b (k + 1) = (moreTo a b k || (bo0 b k && !bo0 a k)) := by simp [moreTo, List.range_succ]
theorem moreTo_yes {a b : List Bool} {k : Nat} (h : moreTo a b k = true) : moreTo a b (k + 1) = true := by rw [moreTo_succ, h]; rfl
theorem moreTo_no {a b : List Bool} {k : Nat} {v : Bool} (h : moreTo a b k = false) (hv : v = (bo0 b k && !bo0 a k)) : moreTo a b (k + 1) = v := by rw [moreTo_succ, h, hv]; rfl
theorem IsS.or {a b : List Bool} {N : Nat} {S T : Nat → Prop} (ha : IsS a N S) (hb : IsS b N T) : IsS (orL a b) N (fun q => S q ∨ T q) :=
  ⟨by rw [orL_len, ha.len], fun p hp => by
    rw [orL_get (by rw [ha.len]; omega), ← ha.get p hp, ← hb.get p hp, ← bo0_true, ← bo0_true]
    simp [orF]⟩
theorem IsS.no_more {a b : List Bool} {N : Nat} {S T : Nat → Prop} (ha : IsS a N S) (hb : IsS b N T) (h : moreB a b = false) : ∀ q, q ≤ N → T q → S q := fun q hq ht => by
  rw [← ha.get q hq, ← bo0_true]
  rw [← hb.get q hq, ← bo0_true] at ht
  have h1 := List.any_eq_false.1 h q (by rw [List.mem_range, ha.len]; omega)
  rw [ht] at h1
  simpa using h1
/-- how many are not in the set -/
def cf (l : List Bool) : Nat := (List.range l.length).countP fun i => !bo0 l i
theorem cf_le (l : List Bool) : cf l ≤ l.length := by
  have := List.countP_le_length (p := fun i => !bo0 l i) (l := List.range l.length)
  simpa [cf] using this
theorem countP_mono {p q : Nat → Bool} (h : ∀ i, p i = true → q i = true) : ∀ n, (List.range n).countP p ≤ (List.range n).countP q
  | 0 => by simp
  | n + 1 => by
    have := countP_mono h n
    have h1 := h n
    simp only [List.range_succ, List.countP_append, List.countP_singleton]
    cases hp : p n <;> cases hq : q n <;> simp_all <;> omega
theorem countP_lt {p q : Nat → Bool} (h : ∀ i, p i = true → q i = true) : ∀ n k, k < n → q k = true → p k = false → (List.range n).countP p < (List.range n).countP q
  | n + 1, k, hk, h1, h2 => by
    simp only [List.range_succ, List.countP_append, List.countP_singleton]
    by_cases e : k = n
    · subst e
      have := countP_mono h k
      rw [h1, h2]; simp; omega
    · have := countP_lt h n k (by omega) h1 h2
      have h3 := h n
      cases hp : p n <;> cases hq : q n <;> simp_all <;> omega
theorem cf_more {a b : List Bool} (h : moreB a b = true) : cf (orL a b) < cf a := by
  obtain ⟨i, hi, hb⟩ := List.any_eq_true.1 h
  rw [List.mem_range] at hi
  simp only [Bool.and_eq_true, Bool.not_eq_true'] at hb
  unfold cf
  rw [orL_len]
  have e : ∀ j, j < a.length → bo0 (orL a b) j = orF a b j := fun j hj => by
    have := orL_get (b := b) hj
    simp [bo0, this]
  have e2 : (List.range a.length).countP (fun i => !bo0 (orL a b) i) = (List.range a.length).countP (fun i => !orF a b i) := by
    apply List.countP_congr
    intro j hj
    rw [e j (List.mem_range.1 hj)]
  rw [e2]
  refine countP_lt (fun j hj => ?_) _ i hi (by simp [hb.2]) (by simp [orF, hb.1])
  simp only [orF, Bool.not_eq_true', Bool.or_eq_false_iff] at hj ⊢
  exact hj.1
/-! the sets of single nodes -/
structure SetP (w : List UInt8) (s : Cl) (fr : List Bool) (j : Nat) (out : List Bool) : Prop where
  len : out.length = w.length + 1
  get : ∀ q : Nat, out[q]? = some true ↔ ∃ p, p < j ∧ q = p + 1 ∧ fr[p]? = some true ∧ ∃ b, w[p]? = some b ∧ s.getLsbD b.toNat = true
theorem rep_no {n q : Nat} : ¬ (List.replicate n false)[q]? = some true := fun h => by
  have := List.mem_of_getElem? h
  simp at this
theorem SetP.zero {w : List UInt8} {s : Cl} {fr : List Bool} : SetP w s fr 0 (List.replicate (w.length + 1) false) :=
  ⟨by simp, fun q => ⟨fun h => absurd h rep_no, fun ⟨_, h, _⟩ => by omega⟩⟩
theorem SetP.step {w : List UInt8} {s : Cl} {fr out : List Bool} {j : Nat} (h : SetP w s fr j out) (hj : j < w.length) {v : Bool} (hv : v = true ↔ fr[j]? = some true ∧ ∃ b, w[j]? = some b ∧ s.getLsbD b.toNat = true) : SetP w s fr (j + 1) (out.set (j + 1) v) := by
  refine ⟨by rw [List.length_set]; exact h.len, fun q => ?_⟩
  by_cases e : j + 1 = q
  · subst e
    rw [List.getElem?_set_self (by rw [h.len]; omega), Option.some.injEq, hv]
    constructor
    · rintro ⟨h1, h2⟩; exact ⟨j, by omega, rfl, h1, h2⟩
    · rintro ⟨p, _, h2, h3, h4⟩
      obtain rfl : j = p := by omega
      exact ⟨h3, h4⟩
  · rw [List.getElem?_set_ne e, h.get]
    constructor
    · rintro ⟨p, h1, h2⟩; exact ⟨p, by omega, h2⟩
    · rintro ⟨p, h1, h2, h3⟩; exact ⟨p, by omega, h2, h3⟩
theorem SetP.done {w : List UInt8} {x : Nd} {ks : F} {fr out : List Bool} {S : Nat → Prop} (h : SetP w x.set fr w.length out) (h1 : x.op = 1) (hS : IsS fr w.length S) : IsS out w.length (img (der1 w x ks) S) := by
  refine ⟨h.len, fun q _ => (h.get q).trans ?_⟩
  simp only [img, der1_def, if_pos h1]
  constructor
  · rintro ⟨p, h2, rfl, h3, h4⟩; exact ⟨p, (hS.get p (by omega)).1 h3, rfl, h4⟩
  · rintro ⟨p, h2, rfl, b, hb, h4⟩
    have := (List.getElem?_eq_some_iff.1 hb).1
    exact ⟨p, this, rfl, (hS.get p (by omega)).2 h2, b, hb, h4⟩
theorem IsS.none {N : Nat} : IsS (List.replicate (N + 1) false) N (fun _ => False) := ⟨by simp, fun p _ => ⟨fun h => absurd h rep_no, False.elim⟩⟩
theorem IsS.only {N k : Nat} (hk : k ≤ N) {v : Bool} {p : Prop} (hv : v = true ↔ p) : IsS ((List.replicate (N + 1) false).set k v) N (fun q => q = k ∧ p) := by
  refine ⟨by simp, fun q hq => ?_⟩
  by_cases e : k = q
  · subst e
    rw [List.getElem?_set_self (by simp; omega), Option.some.injEq, hv]
    exact ⟨fun h => ⟨rfl, h⟩, fun h => h.2⟩
  · rw [List.getElem?_set_ne e]
    exact ⟨fun h => absurd h rep_no, fun h => absurd h.1.symm e⟩
theorem IsS.bol {w : List UInt8} {x : Nd} {ks : F} {fr : List Bool} {S : Nat → Prop} (h2 : x.op = 2) (hS : IsS fr w.length S) : IsS ((List.replicate (w.length + 1) false).set 0 (bo0 fr 0)) w.length (img (der1 w x ks) S) := by
  refine (IsS.only (Nat.zero_le _) (bo0_true.trans (hS.get 0 (Nat.zero_le _)))).iff fun q _ => ?_
  simp only [img, der1_def, if_neg (show ¬ x.op = 1 by omega), if_pos h2]
  exact ⟨fun ⟨h, h'⟩ => ⟨0, h', rfl, h⟩, fun ⟨p, h, h', h''⟩ => ⟨h'', h' ▸ h⟩⟩
theorem IsS.eol {w : List UInt8} {x : Nd} {ks : F} {fr : List Bool} {S : Nat → Prop} (h3 : x.op = 3) (hS : IsS fr w.length S) : IsS ((List.replicate (w.length + 1) false).set w.length (bo0 fr w.length)) w.length (img (der1 w x ks) S) := by
  refine (IsS.only (Nat.le_refl _) (bo0_true.trans (hS.get w.length (Nat.le_refl _)))).iff fun q _ => ?_
  simp only [img, der1_def, if_neg (show ¬ x.op = 1 by omega), if_neg (show ¬ x.op = 2 by omega), if_pos h3]
  exact ⟨fun ⟨h, h'⟩ => ⟨w.length, h', rfl, h⟩, fun ⟨p, h, h', h''⟩ => ⟨by omega, h' ▸ h⟩⟩
/-- one place -/
theorem IsS.one {N k : Nat} (hk : k ≤ N) : IsS ((List.replicate (N + 1) false).set k true) N (fun q => q = k) := (IsS.only hk (p := True) (by simp)).iff fun q _ => by simp
/-! answers that are read together with what was handed in -/
def OutP (N : Nat) (S : Nat → Prop) (vf : Value) (fr : List Bool) (v : Value) (S' : Hp) : Prop :=
  ∃ (a : Option Addr) (c : Nat) (l : List Bool), v = .slice a l.length c ∧ IsS l N S ∧ ∀ W : World, (∀ b o, (b, o) ∈ S' → W.heap[b]? = some o) → Rd Ebo W vf fr → Rd Ebo W v l
/-- the contract of over and of rounds -/
def OverC (P : Program) (fn : Nat) (w : List UInt8) (x : Nd) (ks : F) : Prop := ∀ (ra : Option Addr) (rc : Nat) (re : List Nd) (ta : Option Addr) (tc i i' : Nat) (fa : Option Addr) (fc : Nat) (fr : List Bool) (S : Nat → Prop),
  (∀ x ∈ re, -128 ≤ x.op ∧ x.op < 128) → (∀ x ∈ re, ¬ x.op = 8) → w.length ≤ 1000000 → Part re (.nd x ks .nil) i i' → IsS fr w.length S → (∀ p, S p → p ≤ w.length) →
  Fn P fn [.slice ra re.length rc, .int .i64 i, .slice ta w.length tc, .slice fa fr.length fc] (fun W => Rd En W (.slice ra re.length rc) re ∧ Rd Eb W (.slice ta w.length tc) w ∧ Rd Ebo W (.slice fa fr.length fc) fr) [] (OutP w.length (img (der1 w x ks) S) (.slice fa fr.length fc) fr)
/-- read, given a part of the heap and what was handed in -/
def RdC (vf : Value) (fr : List Bool) (v : Value) (l : List Bool) (S : Hp) : Prop := ∀ W : World, (∀ b o, (b, o) ∈ S → W.heap[b]? = some o) → Rd Ebo W vf fr → Rd Ebo W v l
theorem RdC.self {vf : Value} {fr : List Bool} : RdC vf fr vf fr [] := fun _ _ h => h
theorem RdC.of {vf v : Value} {fr l : List Bool} {S : Hp} (h : RdS Ebo v l S) : RdC vf fr v l S := fun W hs _ => h.out W hs
theorem RdC.trans {vf v u : Value} {fr l m : List Bool} {S S' : Hp} (h : RdC vf fr v l S) (h' : RdC v l u m S') : RdC vf fr u m (S' ++ S) := fun W hs hf =>
  h' W (fun b o hm => hs b o (List.mem_append_left _ hm)) (h W (fun b o hm => hs b o (List.mem_append_right _ hm)) hf)
theorem RdC.mono {vf v : Value} {fr l : List Bool} {S S' : Hp} (h : RdC vf fr v l S) (hs : HIn S S') : RdC vf fr v l S' := fun W hw hf => h W (fun b o hm => hw b o (hs _ hm)) hf
theorem RdC.rdk {n : Nat} {ds : List Deferred} {w0 : World} {H S : Hp} {vf v : Value} {fr l : List Bool} (h : RdC vf fr v l S) (hf : Rd Ebo w0 vf fr) (hs : HIn S H) : RdK Ebo ⟨n, ds, w0, []⟩ H v l :=
  ⟨fun W st => h W (fun b o hm => st.has b o (hs _ hm)) ((RdK.old0 (H := H) (n := n) (ds := ds) hf).out W st)⟩
theorem img_zero {D : Nat → Nat → Prop} {S : Nat → Prop} {q : Nat} : img (pow D 0) S q ↔ S q := ⟨fun ⟨p, h, e⟩ => by obtain rfl : p = q := e; exact h, fun h => ⟨q, h, rfl⟩⟩
theorem rounds_fixed {N k : Nat} {x : Nd} {D : Nat → Nat → Prop} {S : Nat → Prop} (h0 : 0 ≤ x.mn) (hmx : x.mx = -1) (hk : x.mn.toNat ≤ k) (hS : ∀ p, S p → p ≤ N) (hD : Inn N D) (h : ∀ q, q ≤ N → img (pow D (k + 1)) S q → upTo D S x.mn.toNat k q) (q : Nat) : upTo D S x.mn.toNat k q ↔ img (rounds x D) S q := by
  rw [img_rounds h0]
  constructor
  · rintro ⟨j, h1, _, h3⟩; exact ⟨j, h1, .inl hmx, h3⟩
  · rintro ⟨j, h1, _, h3⟩; exact upTo_fix hS hD hk h q ⟨j, h1, h3⟩
theorem rounds_last {k : Nat} {x : Nd} {D : Nat → Nat → Prop} {S : Nat → Prop} (h0 : 0 ≤ x.mn) (hmx : x.mx = k) (q : Nat) : upTo D S x.mn.toNat k q ↔ img (rounds x D) S q := by
  rw [img_rounds h0]
  constructor
  · rintro ⟨j, h1, h2, h3⟩; exact ⟨j, h1, .inr (by omega), h3⟩
  · rintro ⟨j, h1, h2, h3⟩; exact ⟨j, h1, by omega, h3⟩
theorem img_cat {w : List UInt8} {y : Nd} {js r : F} {T : Nat → Prop} {p : Nat} : img (der w r false) (img (der1 w y js) T) p ↔ img (der w (.nd y js r) false) T p := by
  constructor
  · rintro ⟨t, ⟨u, h1, h2⟩, h3⟩; exact ⟨u, h1, der_cat.2 ⟨t, h2, h3⟩⟩
  · rintro ⟨u, h1, h2⟩; obtain ⟨t, h3, h4⟩ := der_cat.1 h2; exact ⟨t, ⟨u, h1, h3⟩, h4⟩
theorem img_alt {w : List UInt8} {y : Nd} {js r : F} {T : Nat → Prop} {p : Nat} : img (der w (.nd y js r) true) T p ↔ img (der1 w y js) T p ∨ img (der w r true) T p := by
  constructor
  · rintro ⟨u, h1, h2⟩; exact (der_alt.1 h2).imp (fun h => ⟨u, h1, h⟩) fun h => ⟨u, h1, h⟩
  · rintro (⟨u, h1, h2⟩ | ⟨u, h1, h2⟩)
    · exact ⟨u, h1, der_alt.2 (.inl h2)⟩
    · exact ⟨u, h1, der_alt.2 (.inr h2)⟩
theorem img_nil {w : List UInt8} {T : Nat → Prop} {p : Nat} : img (der w .nil false) T p ↔ T p := ⟨fun ⟨u, h1, h2⟩ => by obtain rfl := der_nil.1 h2; exact h1, fun h => ⟨p, h, der_nil.2 rfl⟩⟩
theorem img_nil' {w : List UInt8} {T : Nat → Prop} {p : Nat} : ¬ img (der w .nil true) T p := fun ⟨u, h1, h2⟩ => der_nil'.1 h2
theorem img_inn {w : List UInt8} {x : Nd} {ks : F} {T : Nat → Prop} (h : ∀ p, T p → p ≤ w.length) : ∀ p, img (der1 w x ks) T p → p ≤ w.length := fun p ⟨u, h1, h2⟩ => der1_inn _ _ (h u h1) h2
theorem img_else {w : List UInt8} {x : Nd} {ks : F} {T : Nat → Prop} {p : Nat} (h1 : ¬ x.op = 1) (h2 : ¬ x.op = 2) (h3 : ¬ x.op = 3) (h5 : ¬ x.op = 5) (h6 : ¬ x.op = 6) : img (der1 w x ks) T p ↔ img (der w ks false) T p := by
  simp only [img, der1_def, if_neg h1, if_neg h2, if_neg h3, if_neg h5, if_neg h6]
theorem img_alt5 {w : List UInt8} {x : Nd} {ks : F} {T : Nat → Prop} {p : Nat} (h5 : x.op = 5) : img (der1 w x ks) T p ↔ img (der w ks true) T p := by
  simp only [img, der1_def, if_neg (show ¬ x.op = 1 by omega), if_neg (show ¬ x.op = 2 by omega), if_neg (show ¬ x.op = 3 by omega), if_pos h5]
theorem img_rep6 {w : List UInt8} {x : Nd} {ks : F} {T : Nat → Prop} {p : Nat} (h6 : x.op = 6) : img (der1 w x ks) T p ↔ img (rounds x (der w ks false)) T p := by
  simp only [img, der1_def, if_neg (show ¬ x.op = 1 by omega), if_neg (show ¬ x.op = 2 by omega), if_neg (show ¬ x.op = 3 by omega), if_neg (show ¬ x.op = 5 by omega), if_pos h6]
theorem grp_kid {x : Nd} {ks : F} (h : (F.nd x ks .nil).wf) (h7 : x.op = 7) : ∃ y js, ks = .nd y js .nil := by
  have h1 := h.1
  have h2 : (ks.num : Int) = x.kids := h.2.1
  simp only [ndOk, Bool.and_eq_true] at h1
  have h3 := h1.2
  rw [kidsOk, if_pos (.inr h7), decide_eq_true_eq] at h3
  cases ks with
  | nil => simp [F.num] at h2; omega
  | nd y js r =>
    cases r with
    | nil => exact ⟨y, js, rfl⟩
    | nd z a b => simp only [F.num] at h2; omega
theorem OutP.of {N n c : Nat} {S : Nat → Prop} {vf : Value} {fr l : List Bool} {a : Option Addr} {S' : Hp} (h : OwnS Ebo 1 4 (.slice a n c) l S') (hn : l.length = n) (hi : IsS l N S) : OutP N S vf fr (.slice a n c) S' := ⟨a, c, l, by rw [hn], hi, by subst hn; exact RdC.of h.rds⟩
theorem shortB {c n : Nat} {m : Int} (hc : (c : Int) ≤ m) (hm : m ≤ 33554432) (hn : n ≤ 1000000) : c * (n + 2) ≤ 33554432 * 1000002 := Nat.mul_le_mul (by omega) (by omega)
end Go.HL.Kl.Mc

/- Part of the proofs over this seat: see the text that holds the theorem. Conditions: each theorem bears its own. -/
namespace Go.Tab
open Go Go.HL

/-- the first j places of l hold f -/
structure Fill {α : Type} (f : Nat → α) (n j : Nat) (l : List α) : Prop where
  len : l.length = n
  get : ∀ i, i < j → l[i]? = some (f i)
theorem Fill.zero {α : Type} {f : Nat → α} {l : List α} {n : Nat} (h : l.length = n) : Fill f n 0 l := ⟨h, fun _ h => by omega⟩
theorem Fill.step {α : Type} {f : Nat → α} {n j : Nat} {l : List α} (h : Fill f n j l) (hj : j < n) {y : α} (hy : y = f j) : Fill f n (j + 1) (l.set j y) := by
  refine ⟨by simp [h.len], fun i hi => ?_⟩
  subst hy
  by_cases e : j = i
  · subst e; rw [List.getElem?_set_self (by rw [h.len]; exact hj)]
  · rw [List.getElem?_set_ne e]; exact h.get i (by omega)
theorem Fill.done {α : Type} {f : Nat → α} {n j : Nat} {l : List α} (h : Fill f n j l) (hj : n ≤ j) : l = (List.range n).map f := by
  apply List.ext_getElem?
  intro i
  by_cases hi : i < n
  · rw [h.get i (by omega), List.getElem?_map, List.getElem?_range hi]; rfl
  · rw [List.getElem?_eq_none (by rw [h.len]; omega), List.getElem?_eq_none (by simp; omega)]

def idT : List UInt8 := (List.range 256).map UInt8.ofNat
def at0 (t : List UInt8) (i : Nat) : UInt8 := t.getD i 0
def thenT (t u : List UInt8) : List UInt8 := (List.range 256).map fun i => at0 u (at0 t i).toNat
def applyT (t b : List UInt8) : List UInt8 := (List.range b.length).map fun i => at0 t (at0 b i).toNat
/-- the table of the first j pairs -/
def newAt (f t : List UInt8) : Nat → Option (List UInt8)
  | 0 => some idT
  | j + 1 => if at0 f j ∈ f.take j then none else (newAt f t j).map (·.set (at0 f j).toNat (at0 t j))
def newR (f t : List UInt8) : Option (List UInt8) := if f.length = t.length then newAt f t f.length else none
def zT : List UInt8 := List.replicate 256 0
/-- what New answers -/
def tabV (r : Option (List UInt8)) : Value := .tuple #[.agg (flat Eb (r.getD zT)).toArray, .int .i64 (if r.isSome then 0 else 60)]

def xyT : List UInt8 := (idT.set 97 120).set 98 121
attribute [irreducible] idT thenT applyT xyT
end Go.Tab

/- Lists with room behind them, of any kind. Conditions: none. -/
namespace Go.HL
open Go Go.Tab
section
variable {α : Type}
def wdlF (d : Nat → α) (xs : List α) (i : Nat) : α := (xs[i]?).getD (d i)
def wdl (d : Nat → α) (xs : List α) : List α := (List.range (xs.length + 64)).map (wdlF d xs)
theorem wdl_len (d : Nat → α) (xs : List α) : (wdl d xs).length = xs.length + 64 := by simp [wdl]
theorem wdl_at {d : Nat → α} {xs : List α} {i : Nat} (h : i < xs.length + 64) : (wdl d xs)[i]? = some (wdlF d xs i) := by
  unfold wdl
  rw [List.getElem?_map, List.getElem?_range h]; rfl
theorem wdl_in {d : Nat → α} {xs : List α} {i : Nat} {x : α} (h : xs[i]? = some x) : x = wdlF d xs i := by rw [wdlF, h]; rfl
theorem wdl_out {d : Nat → α} {xs : List α} {i : Nat} (h : ¬ i < xs.length) : d i = wdlF d xs i := by rw [wdlF, List.getElem?_eq_none (by omega)]; rfl
theorem wdl_spare {d : Nat → α} {xs : List α} {i : Nat} (h1 : ¬ i < xs.length) (h2 : i < xs.length + 64) : (wdl d xs)[i]? = some (d i) := by rw [wdl_at h2, wdl_out (d := d) h1]
theorem wdl_take (d : Nat → α) (xs : List α) : (wdl d xs).take xs.length = xs := by
  apply List.ext_getElem?
  intro i
  by_cases hi : i < xs.length
  · rw [List.getElem?_take, if_pos hi, wdl_at (by omega), ← wdl_in (List.getElem?_eq_getElem hi), List.getElem?_eq_getElem hi]
  · rw [List.getElem?_eq_none (by rw [List.length_take]; omega), List.getElem?_eq_none (by omega)]
theorem fill_wdl {d : Nat → α} {xs : List α} {j : Nat} {l : List α} (h : Fill (wdlF d xs) (xs.length + 64) j l) (hj : xs.length + 64 ≤ j) : l = wdl d xs := h.done hj
theorem ext_upto {a b : List α} (hl : a.length = b.length) (h : ∀ i, i < a.length → a[i]? = b[i]?) : a = b := by
  apply List.ext_getElem?
  intro i
  by_cases hi : i < a.length
  · exact h i hi
  · rw [List.getElem?_eq_none (by omega), List.getElem?_eq_none (by omega)]
theorem Rd.pref {α : Type} {E : α → List Value} {k : Nat} [he : Enc E k] {w : World} {a : Option Addr} {c : Nat} {xs : List α} (h : Rd E w (.slice a xs.length c) xs) (m : Nat) : Rd E w (.slice a (xs.take m).length c) (xs.take m) := by
  obtain ⟨⟨a', c', hv, hn, h0, hsp⟩, hle⟩ := h.sl
  simp only [Value.slice.injEq] at hv
  obtain ⟨rfl, _, rfl⟩ := hv
  have hlen : (xs.take m).length ≤ xs.length := by simp; omega
  refine ⟨⟨⟨_, _, rfl, by omega, h0, fun A hA hz => hsp A hA (by omega)⟩, by omega⟩, fun j u hu => ?_⟩
  refine h.get j u ?_
  rw [← List.take_append_drop m xs, flat_append, List.getElem?_append_left (List.getElem?_eq_some_iff.1 hu).1]
  exact hu
attribute [irreducible] wdl wdlF
end
theorem c_knw {P : Program} {κ : Cx} {Q : Pst} {c : Code} {L : HL.Loc} {H : Hp} {p : Prop} (h : ∀ w, St κ.w0 w κ.M H → p) (k : p → C P κ Q c L H) : C P κ Q c L H :=
  ⟨fun ro a w hr ok => (k (h w ok.st)).out ro a w hr ok⟩
end Go.HL

/- Part of the proofs over this seat: see the text that holds the theorem. Conditions: each theorem bears its own. -/
namespace Go.Proofs.YtiggliigookieaaDoor
open Go Go.HL Go.Proofs Go.HL.Kl Go.HL.Kl.Mc
theorem behind_fn (ra : Option Addr) (rc : Nat) (re : List Nd) (x : Nd) (ks : F) (i i1 : Nat) (hp : Part re (.nd x ks .nil) i i1) : HL.Fn Tryd.prog 79 [.slice ra re.length rc, .int .i64 i] (fun w => Rd En w (.slice ra re.length rc) re) [] (fun v _ => v = .int .i64 i1) := by
  refine fn_of Tryd.func79 rfl rfl rfl fun w0 hw => ?_
  have hsl := hw.sl
  have hbl := hsl.le
  refine c_seq fun _ hK1 => ?_
  refine c_region ?_
  refine o_step rfl (s_assign rfl) ?_
  refine o_nil ?_
  refine x_then (hK1 _ _ ?_)
  refine c_seq fun _ hK2 => ?_
  refine c_region ?_
  refine o_step rfl (s_assign rfl) ?_
  refine o_nil ?_
  refine x_then (hK2 _ _ ?_)
  refine c_seq fun _ hK3 => ?_
  refine c_block ?_
  refine c_loop2 (fun (g : F) (p : Nat) => Part re g p i1) (fun (g : F) (p : Nat) => [(5, .int .i64 g.num), (1, .int .i64 p)]) [(0, _), (4, _)] (fun (g : F) (p : Nat) => _) (fun (g : F) (p : Nat) => i1 - p) (.nd x ks .nil) i hp (by exact Sub.cons' rfl (by rw [F.num, F.num]; rfl) sbA) sbA hzB ?_
  rintro g p hpg
  have hgl := hpg.len
  have hgle := hpg.le
  have hgn := F.num_le g
  refine c_seq fun _ hK4 => ?_
  refine c_seq fun _ hK5 => ?_
  refine c_region ?_
  refine o_step rfl (s_move rfl) ?_
  by_cases hg : (g.num : Int) > 0
  ·
   obtain ⟨y, js, r, rfl⟩ : ∃ y js r, g = F.nd y js r := by cases g with | nil => simp [F.num] at hg | nd y a b => exact ⟨y, a, b, rfl⟩
   have hy := hpg.head.1
   have hyl := (List.getElem?_eq_some_iff.1 hy).1
   have hkn : (js.num : Int) = y.kids := hpg.wf.2.1
   have hjn := F.num_le js
   simp only [F.num] at hg hgn ⊢
   simp only [F.size] at hgl hgn
   refine o_step rfl (step_cast (v' := .bool true) (s_gtr rfl rfl) (by rw [decide_eq_true (by omega)])) ?_
   refine o_nil ?_
   refine x_then (hK5 _ _ ?_)
   refine c_true rfl ?_
   refine c_skip ?_
   refine x_then (hK4 _ _ ?_)
   refine c_block ?_
   refine c_seq fun _ hK6 => ?_
   refine c_region ?_
   refine o_step rfl (s_move rfl) ?_
   refine o_step rfl (s_sub rfl rfl (by omega)) ?_
   refine o_step rfl (s_move rfl) ?_
   refine o_step rfl (s_move rfl) ?_
   refine o_step rfl (s_idx rfl rfl hsl (by omega)) ?_
   refine o_step rfl (s_field rfl rfl (by decide)) ?_
   refine o_step rfl (s_ld rfl ((RdK.old0 hw).ld p 8 hy rfl (by decide) (by omega))) ?_
   refine o_step rfl (s_add rfl rfl (by omega)) ?_
   refine o_step rfl (s_assign rfl) ?_
   refine o_nil ?_
   refine x_then (hK6 _ _ ?_)
   refine c_region ?_
   refine o_step rfl (s_move rfl) ?_
   refine o_step rfl (s_add rfl rfl (by omega)) ?_
   refine o_step rfl (s_assign rfl) ?_
   refine o_nil ?_
   refine x_block ?_
   exact x_then (x_inv ((js.app r), p + 1) hpg.down (by dsimp only; omega) (by exact Sub.cons' rfl (by rw [F.num_app, ← hkn]; congr 1; omega) sbA) hzB)
  ·
   obtain rfl : g = F.nil := F.num_nil (by omega)
   simp only [F.size] at hgl
   refine o_step rfl (step_cast (v' := .bool false) (s_gtr rfl rfl) (by rw [decide_eq_false (by omega)])) ?_
   refine o_nil ?_
   refine x_then (hK5 _ _ ?_)
   refine c_false rfl ?_
   refine c_exit ?_
   refine x_then_exit ?_
   refine x_then_exit ?_
   refine x_block_exit ?_
   refine x_then (hK3 _ _ ?_)
   refine c_seq fun _ hK7 => ?_
   refine c_region ?_
   refine o_step rfl (s_move rfl) ?_
   refine o_step rfl (s_assign rfl) ?_
   refine o_nil ?_
   refine x_then (hK7 _ _ ?_)
   refine c_ret ?_
   refine ?_
   exact x_ret rfl (.tmp rfl (.nil)) ((congrArg (Value.int .i64) (by omega)))

theorem both_fn (a1 a2 : Option Addr) (c1 c2 : Nat) (l1 l2 : List Bool) (hl : l2.length = l1.length) (hb : l1.length ≤ 2000000) : HL.Fn Tryd.prog 80 [.slice a1 l1.length c1, .slice a2 l2.length c2] (fun w => Rd Ebo w (.slice a1 l1.length c1) l1 ∧ Rd Ebo w (.slice a2 l2.length c2) l2) [] (fun v S' => ∃ a c, v = .tuple #[.slice a (orL l1 l2).length c, .bool (moreB l1 l2)] ∧ OwnS Ebo 1 4 (.slice a (orL l1 l2).length c) (orL l1 l2) S') := by
  refine fn_of Tryd.func80 rfl rfl rfl fun w0 hw => ?_
  obtain ⟨h1, h2⟩ := hw
  have hs1 := h1.sl
  have hs2 := h2.sl
  have hol := orL_len l1 l2
  refine c_seq fun _ hK1 => ?_
  refine c_region ?_
  refine o_step rfl (s_assign rfl) ?_
  refine o_step rfl (s_assign rfl) ?_
  refine o_nil ?_
  refine x_then (hK1 _ _ ?_)
  refine c_seq fun _ hK2 => ?_
  refine c_region ?_
  refine o_step rfl (s_move rfl) ?_
  refine o_step rfl (s_len rfl) ?_
  refine o_make (E := Ebo) (zx := false) (n := l1.length) rfl rfl rfl (by omega) (by omega) rfl fun b11 S11 hS11 => ?_
  refine o_step rfl (s_assign rfl) ?_
  refine o_nil ?_
  refine x_then (hK2 _ _ ?_)
  refine c_seq fun _ hK3 => ?_
  refine c_region ?_
  refine o_step rfl (s_assign rfl) ?_
  refine o_nil ?_
  refine x_then (hK3 _ _ ?_)
  refine c_seq fun _ hK4 => ?_
  refine c_seq fun _ hK5 => ?_
  refine c_region ?_
  refine o_step rfl (s_assign rfl) ?_
  refine o_nil ?_
  refine x_then (hK5 _ _ ?_)
  refine c_block ?_
  refine c_loop3 (fun (j : Nat) (l : List Bool) (S : Hp) => j ≤ l1.length ∧ Tab.Fill (orF l1 l2) l1.length j l ∧ OwnS Ebo 1 4 (.slice (some ⟨b11, 0, none⟩) l1.length l1.length) l S) (fun (j : Nat) (l : List Bool) (S : Hp) => [(8, .int .i64 j), (7, .bool (moreTo l1 l2 j))]) [(0, _), (1, _), (4, _), (5, _), (6, _)] (fun (j : Nat) (l : List Bool) (S : Hp) => S) (fun (j : Nat) (l : List Bool) (S : Hp) => l1.length - j) 0 _ _ ⟨by omega, .zero List.length_replicate, hS11⟩ sbA sbA hzB ?_
  rintro j l S ⟨hj, hf, hS⟩
  have hSl := hS.sl
  rw [hf.len] at hSl
  refine c_seq fun _ hK6 => ?_
  refine c_seq fun _ hK7 => ?_
  refine c_region ?_
  refine o_step rfl (s_move rfl) ?_
  refine o_step rfl (s_move rfl) ?_
  refine o_step rfl (s_len rfl) ?_
  by_cases hj1 : j < l1.length
  ·
   have hj2 : j < l2.length := by omega
   refine o_step rfl (step_cast (v' := .bool true) (s_lss rfl rfl) (by rw [decide_eq_true (by omega)])) ?_
   refine o_nil ?_
   refine x_then (hK7 _ _ ?_)
   refine c_true rfl ?_
   refine c_skip ?_
   refine x_then (hK6 _ _ ?_)
   refine c_seq fun _ hK8 => ?_
   refine c_block ?_
   refine c_seq fun _ hK9 => ?_
   refine c_region ?_
   refine o_step rfl (s_move rfl) ?_
   refine o_step rfl (s_move rfl) ?_
   refine o_step rfl (s_move rfl) ?_
   refine o_step rfl (s_move rfl) ?_
   refine o_step rfl (s_idx rfl rfl hs1 (by omega)) ?_
   by_cases ha : bo0 l1 j = true
   ·
    refine o_step rfl (step_cast (v' := .bool true) (s_ld rfl ((RdK.old0 h1).ld j 0 (bo0_get hj1) rfl (by decide) (by omega))) (by rw [ha])) ?_
    refine o_step rfl (s_move rfl) ?_
    refine o_no rfl rfl rfl rfl ?_
    refine o_no rfl rfl rfl rfl ?_
    refine o_no rfl rfl rfl rfl ?_
    refine o_no rfl rfl rfl rfl ?_
    refine o_step rfl (s_pick_t rfl rfl) ?_
    refine o_step rfl (s_idx rfl rfl hSl (by omega)) ?_
    refine o_stS1 j _ hS pkA rfl rfl rfl (by rw [hf.len]; omega) (by omega) fun S' hS' => ?_
    refine o_nil ?_
    refine x_then (hK9 _ _ ?_)
    refine c_region ?_
    by_cases hm : moreTo l1 l2 j = true
    ·
     refine o_step rfl (step_cast (v' := .bool true) (s_move rfl) (by rw [hm])) ?_
     refine o_step rfl (s_move rfl) ?_
     refine o_no rfl rfl rfl rfl ?_
     refine o_no rfl rfl rfl rfl ?_
     refine o_no rfl rfl rfl rfl ?_
     refine o_no rfl rfl rfl rfl ?_
     refine o_no rfl rfl rfl rfl ?_
     refine o_noU rfl rfl rfl ?_
     refine o_noU rfl rfl rfl ?_
     refine o_noU rfl rfl rfl ?_
     refine o_noU rfl rfl rfl ?_
     refine o_noU rfl rfl rfl ?_
     refine o_no rfl rfl rfl rfl ?_
     refine o_step rfl (s_pick_t rfl rfl) ?_
     refine o_step rfl (s_assign rfl) ?_
     refine o_nil ?_
     refine x_block ?_
     refine x_then (hK8 _ _ ?_)
     refine c_region ?_
     refine o_step rfl (s_move rfl) ?_
     refine o_step rfl (s_add rfl rfl (by omega)) ?_
     refine o_step rfl (s_assign rfl) ?_
     refine o_nil ?_
     exact x_then (x_inv (j + 1, _, _) ⟨by omega, hf.step (by omega) (by rw [orF, ha]; rfl), hS'⟩ (by first | omega | (dsimp only; omega)) (by exact Sub.cons rfl (Sub.cons' rfl (congrArg Value.bool (moreTo_yes hm).symm) sbA)) hzB)
    ·
     have hmf : moreTo l1 l2 j = false := by simpa using hm
     refine o_step rfl (step_cast (v' := .bool false) (s_move rfl) (by rw [hmf])) ?_
     refine o_step rfl (s_move rfl) ?_
     refine o_yes rfl rfl ?_
     refine o_step rfl (s_move rfl) ?_
     refine o_yes rfl rfl ?_
     refine o_step rfl (s_move rfl) ?_
     refine o_yes rfl rfl ?_
     refine o_step rfl (s_idx rfl rfl hs2 (by omega)) ?_
     refine o_yes rfl rfl ?_
     by_cases hb : bo0 l2 j = true
     ·
      refine o_step rfl (step_cast (v' := .bool true) (s_ld rfl ((RdK.old0 h2).ld j 0 (bo0_get hj2) rfl (by decide) (by omega))) (by rw [hb])) ?_
      refine o_yes rfl rfl ?_
      refine o_step rfl (s_move rfl) ?_
      refine o_yes rfl rfl ?_
      refine o_step rfl (s_move rfl) ?_
      refine o_yes rfl rfl ?_
      refine o_step rfl (s_move rfl) ?_
      refine o_yes rfl rfl ?_
      refine o_step rfl (s_idx rfl rfl hs1 (by omega)) ?_
      refine o_yes rfl rfl ?_
      refine o_step rfl (s_ld rfl ((RdK.old0 h1).ld j 0 (bo0_get hj1) rfl (by decide) (by omega))) ?_
      refine o_yes rfl rfl ?_
      refine o_step rfl (s_not rfl) ?_
      refine o_yes rfl rfl ?_
      refine o_step rfl (s_pick_t rfl rfl) ?_
      refine o_step rfl (s_pick_f rfl rfl) ?_
      refine o_step rfl (s_assign rfl) ?_
      refine o_nil ?_
      refine x_block ?_
      refine x_then (hK8 _ _ ?_)
      refine c_region ?_
      refine o_step rfl (s_move rfl) ?_
      refine o_step rfl (s_add rfl rfl (by omega)) ?_
      refine o_step rfl (s_assign rfl) ?_
      refine o_nil ?_
      exact x_then (x_inv (j + 1, _, _) ⟨by omega, hf.step (by omega) (by rw [orF, ha]; rfl), hS'⟩ (by first | omega | (dsimp only; omega)) (by exact Sub.cons rfl (Sub.cons' rfl (congrArg Value.bool (moreTo_no hmf (by rw [hb, ha]; rfl)).symm) sbA)) hzB)
     ·
      have hbf : bo0 l2 j = false := by simpa using hb
      refine o_step rfl (step_cast (v' := .bool false) (s_ld rfl ((RdK.old0 h2).ld j 0 (bo0_get hj2) rfl (by decide) (by omega))) (by rw [hbf])) ?_
      refine o_yes rfl rfl ?_
      refine o_step rfl (s_move rfl) ?_
      refine o_no rfl rfl rfl rfl ?_
      refine o_no rfl rfl rfl rfl ?_
      refine o_no rfl rfl rfl rfl ?_
      refine o_no rfl rfl rfl rfl ?_
      refine o_no rfl rfl rfl rfl ?_
      refine o_yes rfl rfl ?_
      refine o_step rfl (s_pick_f rfl rfl) ?_
      refine o_step rfl (s_pick_f rfl rfl) ?_
      refine o_step rfl (s_assign rfl) ?_
      refine o_nil ?_
      refine x_block ?_
      refine x_then (hK8 _ _ ?_)
      refine c_region ?_
      refine o_step rfl (s_move rfl) ?_
      refine o_step rfl (s_add rfl rfl (by omega)) ?_
      refine o_step rfl (s_assign rfl) ?_
      refine o_nil ?_
      exact x_then (x_inv (j + 1, _, _) ⟨by omega, hf.step (by omega) (by rw [orF, ha]; rfl), hS'⟩ (by first | omega | (dsimp only; omega)) (by exact Sub.cons rfl (Sub.cons' rfl (congrArg Value.bool (moreTo_no hmf (by rw [hbf]; rfl)).symm) sbA)) hzB)
   ·
    have haf : bo0 l1 j = false := by simpa using ha
    refine o_step rfl (step_cast (v' := .bool false) (s_ld rfl ((RdK.old0 h1).ld j 0 (bo0_get hj1) rfl (by decide) (by omega))) (by rw [haf])) ?_
    refine o_step rfl (s_move rfl) ?_
    refine o_yes rfl rfl ?_
    refine o_step rfl (s_move rfl) ?_
    refine o_yes rfl rfl ?_
    refine o_step rfl (s_move rfl) ?_
    refine o_yes rfl rfl ?_
    refine o_step rfl (s_idx rfl rfl hs2 (by omega)) ?_
    refine o_yes rfl rfl ?_
    refine o_step rfl (s_ld rfl ((RdK.old0 h2).ld j 0 (bo0_get hj2) rfl (by decide) (by omega))) ?_
    refine o_step rfl (s_pick_f rfl rfl) ?_
    refine o_step rfl (s_idx rfl rfl hSl (by omega)) ?_
    refine o_stS1 j _ hS pkA rfl rfl rfl (by rw [hf.len]; omega) (by omega) fun S' hS' => ?_
    refine o_nil ?_
    refine x_then (hK9 _ _ ?_)
    refine c_region ?_
    by_cases hm : moreTo l1 l2 j = true
    ·
     refine o_step rfl (step_cast (v' := .bool true) (s_move rfl) (by rw [hm])) ?_
     refine o_step rfl (s_move rfl) ?_
     refine o_no rfl rfl rfl rfl ?_
     refine o_no rfl rfl rfl rfl ?_
     refine o_no rfl rfl rfl rfl ?_
     refine o_no rfl rfl rfl rfl ?_
     refine o_no rfl rfl rfl rfl ?_
     refine o_noU rfl rfl rfl ?_
     refine o_noU rfl rfl rfl ?_
     refine o_noU rfl rfl rfl ?_
     refine o_noU rfl rfl rfl ?_
     refine o_noU rfl rfl rfl ?_
     refine o_no rfl rfl rfl rfl ?_
     refine o_step rfl (s_pick_t rfl rfl) ?_
     refine o_step rfl (s_assign rfl) ?_
     refine o_nil ?_
     refine x_block ?_
     refine x_then (hK8 _ _ ?_)
     refine c_region ?_
     refine o_step rfl (s_move rfl) ?_
     refine o_step rfl (s_add rfl rfl (by omega)) ?_
     refine o_step rfl (s_assign rfl) ?_
     refine o_nil ?_
     exact x_then (x_inv (j + 1, _, _) ⟨by omega, hf.step (by omega) (by rw [orF, haf]; rfl), hS'⟩ (by first | omega | (dsimp only; omega)) (by exact Sub.cons rfl (Sub.cons' rfl (congrArg Value.bool (moreTo_yes hm).symm) sbA)) hzB)
    ·
     have hmf : moreTo l1 l2 j = false := by simpa using hm
     refine o_step rfl (step_cast (v' := .bool false) (s_move rfl) (by rw [hmf])) ?_
     refine o_step rfl (s_move rfl) ?_
     refine o_yes rfl rfl ?_
     refine o_step rfl (s_move rfl) ?_
     refine o_yes rfl rfl ?_
     refine o_step rfl (s_move rfl) ?_
     refine o_yes rfl rfl ?_
     refine o_step rfl (s_idx rfl rfl hs2 (by omega)) ?_
     refine o_yes rfl rfl ?_
     by_cases hb : bo0 l2 j = true
     ·
      refine o_step rfl (step_cast (v' := .bool true) (s_ld rfl ((RdK.old0 h2).ld j 0 (bo0_get hj2) rfl (by decide) (by omega))) (by rw [hb])) ?_
      refine o_yes rfl rfl ?_
      refine o_step rfl (s_move rfl) ?_
      refine o_yes rfl rfl ?_
      refine o_step rfl (s_move rfl) ?_
      refine o_yes rfl rfl ?_
      refine o_step rfl (s_move rfl) ?_
      refine o_yes rfl rfl ?_
      refine o_step rfl (s_idx rfl rfl hs1 (by omega)) ?_
      refine o_yes rfl rfl ?_
      refine o_step rfl (s_ld rfl ((RdK.old0 h1).ld j 0 (bo0_get hj1) rfl (by decide) (by omega))) ?_
      refine o_yes rfl rfl ?_
      refine o_step rfl (s_not rfl) ?_
      refine o_yes rfl rfl ?_
      refine o_step rfl (s_pick_t rfl rfl) ?_
      refine o_step rfl (s_pick_f rfl rfl) ?_
      refine o_step rfl (s_assign rfl) ?_
      refine o_nil ?_
      refine x_block ?_
      refine x_then (hK8 _ _ ?_)
      refine c_region ?_
      refine o_step rfl (s_move rfl) ?_
      refine o_step rfl (s_add rfl rfl (by omega)) ?_
      refine o_step rfl (s_assign rfl) ?_
      refine o_nil ?_
      exact x_then (x_inv (j + 1, _, _) ⟨by omega, hf.step (by omega) (by rw [orF, haf]; rfl), hS'⟩ (by first | omega | (dsimp only; omega)) (by exact Sub.cons rfl (Sub.cons' rfl (congrArg Value.bool (moreTo_no hmf (by rw [hb, haf]; rfl)).symm) sbA)) hzB)
     ·
      have hbf : bo0 l2 j = false := by simpa using hb
      refine o_step rfl (step_cast (v' := .bool false) (s_ld rfl ((RdK.old0 h2).ld j 0 (bo0_get hj2) rfl (by decide) (by omega))) (by rw [hbf])) ?_
      refine o_yes rfl rfl ?_
      refine o_step rfl (s_move rfl) ?_
      refine o_no rfl rfl rfl rfl ?_
      refine o_no rfl rfl rfl rfl ?_
      refine o_no rfl rfl rfl rfl ?_
      refine o_no rfl rfl rfl rfl ?_
      refine o_no rfl rfl rfl rfl ?_
      refine o_yes rfl rfl ?_
      refine o_step rfl (s_pick_f rfl rfl) ?_
      refine o_step rfl (s_pick_f rfl rfl) ?_
      refine o_step rfl (s_assign rfl) ?_
      refine o_nil ?_
      refine x_block ?_
      refine x_then (hK8 _ _ ?_)
      refine c_region ?_
      refine o_step rfl (s_move rfl) ?_
      refine o_step rfl (s_add rfl rfl (by omega)) ?_
      refine o_step rfl (s_assign rfl) ?_
      refine o_nil ?_
      exact x_then (x_inv (j + 1, _, _) ⟨by omega, hf.step (by omega) (by rw [orF, haf]; rfl), hS'⟩ (by first | omega | (dsimp only; omega)) (by exact Sub.cons rfl (Sub.cons' rfl (congrArg Value.bool (moreTo_no hmf (by rw [hbf]; rfl)).symm) sbA)) hzB)
  ·
   obtain rfl : j = l1.length := by omega
   have hd : l = orL l1 l2 := hf.done (Nat.le_refl _)
   subst hd
   refine o_step rfl (step_cast (v' := .bool false) (s_lss rfl rfl) (by rw [decide_eq_false (by omega)])) ?_
   refine o_nil ?_
   refine x_then (hK7 _ _ ?_)
   refine c_false rfl ?_
   refine c_exit ?_
   refine x_then_exit ?_
   refine x_then_exit ?_
   refine x_block_exit ?_
   refine x_then (hK4 _ _ ?_)
   refine c_seq fun _ hK10 => ?_
   refine c_region ?_
   refine o_step rfl (s_move rfl) ?_
   refine o_step rfl (s_move rfl) ?_
   refine o_step rfl (s_assign rfl) ?_
   refine o_step rfl (s_assign rfl) ?_
   refine o_nil ?_
   refine x_then (hK10 _ _ ?_)
   refine c_ret ?_
   refine ?_
   refine x_sub (Sub.refl _) (H' := S) hzB ?_
   exact x_ret rfl (.tmp rfl (.tmp rfl (.nil))) (⟨_, _, by rw [hol]; rfl, by rw [hol]; exact hS⟩)

end Go.Proofs.YtiggliigookieaaDoor
