/- Subtrees of a list of nodes; weights; numbers converted. Conditions: none. -/
import Derived.Test.YtopmnmigpbdddaaGreatDoorHMZ
import Derived.Test.YtopmnmigpbdddaaGreatDoorHlB
import Derived.Test.YtopmnmigpbdddaaGreatDoorHTZ
import Derived.Test.YtopmnmigpbdddaaGreatDoorMT3Z
namespace Go.HL.Kl.Mc
open Go Go.HL Go.HL.Kl
theorem wrap_i64z {x : Int} (h1 : -9223372036854775808 ≤ x) (h2 : x < 9223372036854775808) : IntKind.i64.wrap x = x := by
  simp [IntKind.wrap, IntKind.signed, IntKind.bits]; omega
section
variable {P : Program} {κ : Cx} {L : HL.Loc} {H : Hp} {ty t t' : TypeId} {x : Operand}
theorem s_convI {ds : TypeDesc} {k' : IntKind} {a : Int} [TU P t ds] [TU P t' (.int .i64)] (hx : ev L x = some (.int k' a)) (h : -9223372036854775808 ≤ a ∧ a < 9223372036854775808) : Step P κ (.convert t t' x) ty L H (.int .i64 a) :=
  step_cast (s_conv hx) (congrArg _ (wrap_i64z h.1 h.2))
end
theorem nd_set {x : Nd} : ∀ (j : Nat) u, (Ec x.set)[j]? = some u → (En x)[1 + j]? = some u := by
  intro j u h
  rw [show 1 + j = j + 1 by omega]
  simp only [En, List.getElem?_cons_succ]
  rw [List.getElem?_append_left (List.getElem?_eq_some_iff.1 h).1]; exact h
theorem F.num_le : ∀ f : F, f.num ≤ f.size
  | .nil => Nat.le_refl _
  | .nd x ks r => by have := F.num_le r; simp only [F.num, F.size]; omega
structure Part (re : List Nd) (f : F) (i i' : Nat) : Prop where
  wf : f.wf
  flat : re.drop i = f.flat ++ re.drop i'
  len : i' = i + f.size
  le : i' ≤ re.length
theorem Part.head {re : List Nd} {x : Nd} {ks r : F} {i i' : Nat} (h : Part re (.nd x ks r) i i') : re[i]? = some x ∧ Part re ks (i + 1) (i + 1 + ks.size) ∧ Part re r (i + 1 + ks.size) i' := by
  have hl := h.len
  have hle := h.le
  simp only [F.size] at hl
  have hf := h.flat
  simp only [F.flat, List.cons_append, List.append_assoc] at hf
  have h0 : re[i]? = some x := by
    have := congrArg (fun l => l[0]?) hf
    simpa using this
  have h1 : re.drop (i + 1) = ks.flat ++ (r.flat ++ re.drop i') := by
    have := congrArg (List.drop 1) hf
    rw [List.drop_drop] at this
    simpa using this
  have h2 : re.drop (i + 1 + ks.size) = r.flat ++ re.drop i' := by
    have := congrArg (List.drop ks.size) h1
    rw [List.drop_drop, ← F.flat_size, List.drop_left] at this
    rw [← F.flat_size]; exact this
  exact ⟨h0, ⟨h.wf.2.2.1, by rw [h2]; exact h1, rfl, by omega⟩, ⟨h.wf.2.2.2, h2, by omega, hle⟩⟩
theorem Part.one {re : List Nd} {x : Nd} {ks r : F} {i i' : Nat} (h : Part re (.nd x ks r) i i') : Part re (.nd x ks .nil) i (i + 1 + ks.size) := by
  obtain ⟨h0, h1, h2⟩ := h.head
  have hlt : i < re.length := (List.getElem?_eq_some_iff.1 h0).1
  refine ⟨⟨h.wf.1, h.wf.2.1, h.wf.2.2.1, trivial⟩, ?_, by simp [F.size]; omega, h1.le⟩
  rw [List.drop_eq_getElem_cons hlt, h1.flat]
  rw [List.getElem?_eq_getElem hlt] at h0
  simp at h0
  simp [F.flat, h0]
theorem gate_not7 {x : Nd} {en : List Bool} {g : Nat} (h7 : ¬ x.op = 7) (h8 : x.op = 8 → 1 ≤ x.n ∧ x.n ≤ en.length ∧ en[x.n.toNat - 1]? = some true) : gate x en g = some (en, g) := by
  by_cases h : x.op = 8
  · obtain ⟨a, b, c⟩ := h8 h; exact gate_ref h a b c
  · exact gate_other h h7
theorem TreeAt.part {re : List Nd} {d i i' : Nat} {x : Nd} {ks : F} (h : TreeAt re d i i' x ks) : Part re (.nd x ks .nil) i i' :=
  ⟨h.wf, by rw [h.flat]; simp [F.flat], by rw [h.len]; simp [F.size]; omega, h.le⟩
def WeighC (P : Program) (fn : Nat) (x : Nd) (ks : F) : Prop := ∀ (ra : Option Addr) (rc : Nat) (re : List Nd) (i i' : Nat), (∀ x ∈ re, -128 ≤ x.op ∧ x.op < 128) → Part re (.nd x ks .nil) i i' →
  Fn P fn [.slice ra re.length rc, .int .i64 i] (fun w => Rd En w (.slice ra re.length rc) re) [] (fun v _ => v = .tuple #[.int .i64 (cut (F.nd x ks .nil).weight), .int .i64 i'])
theorem cut_le (n : Nat) : cut n ≤ 16385 := by unfold cut; omega
theorem weight_one (x : Nd) (ks : F) : (F.nd x ks .nil).weight = 1 + times x * ks.weight := by simp [F.weight]
theorem mul_le {a b : Nat} (ha : a ≤ 16385) (hb : b ≤ 256) : a * b ≤ 4194560 := Nat.mul_le_mul ha hb
theorem mul_leZ {a b : Nat} (ha : a ≤ 16385) (hb : b ≤ 256) : (a : Int) * b ≤ 4194560 := by
  rw [← Int.natCast_mul]; have := mul_le ha hb; omega
theorem mul_0Z (a b : Nat) : 0 ≤ (a : Int) * b := by
  rw [← Int.natCast_mul]; omega
theorem cut_fin {t a : Nat} (ht : 1 ≤ t) : min ((cut a : Int) * t + 1) 16385 = (cut (1 + t * a) : Nat) := by
  rw [← cut_mul ht]
  have : (cut a : Int) * t + 1 = ((1 + t * cut a : Nat) : Int) := by rw [Nat.mul_comm]; push_cast; omega
  rw [this]; unfold cut; omega
theorem flds_iff {x : Nd} : flds x = true ↔ (1 ≤ x.op ∧ x.op ≤ 8) ∧ (x.op = 1 ∨ x.set = 0) ∧ (x.op = 7 ∨ x.op = 8 ∨ x.n = 0) ∧ (x.op = 6 → 0 ≤ x.mn ∧ x.mn ≤ 255 ∧ (x.mx = -1 ∨ x.mn ≤ x.mx ∧ x.mx ≤ 255)) ∧ (x.op ≠ 6 → x.mn = 0 ∧ x.mx = 0) := by
  simp only [flds, Bool.and_eq_true, Bool.or_eq_true, decide_eq_true_eq]
  by_cases h6 : x.op = 6
  · rw [if_pos h6]
    simp only [decide_eq_true_eq]
    constructor
    · rintro ⟨⟨⟨a, b⟩, c⟩, d⟩; exact ⟨a, b, by omega, fun _ => d, fun h => absurd h6 h⟩
    · rintro ⟨a, b, c, d, _⟩; exact ⟨⟨⟨a, b⟩, by omega⟩, d h6⟩
  · rw [if_neg h6]
    simp only [decide_eq_true_eq]
    constructor
    · rintro ⟨⟨⟨a, b⟩, c⟩, d⟩; exact ⟨a, b, by omega, fun h => absurd h h6, fun _ => d⟩
    · rintro ⟨a, b, c, _, d⟩; exact ⟨⟨⟨a, b⟩, by omega⟩, d h6⟩
theorem Ec_lenM (c : Kl.Cl) : (Ec c).length = 4 := Enc.len (E := Ec) c
end Go.HL.Kl.Mc
namespace Go.HL.Kl.Mc
open Go Go.HL Go.HL.Kl
theorem flat_inj : ∀ (f g : F) (r s : List Nd), f.wf → g.wf → f.num = g.num → f.flat ++ r = g.flat ++ s → f = g ∧ r = s
  | .nil, .nil, r, s, _, _, _, h => ⟨rfl, h⟩
  | .nil, .nd _ _ _, _, _, _, _, hn, _ => by simp [F.num] at hn
  | .nd _ _ _, .nil, _, _, _, _, hn, _ => by simp [F.num] at hn
  | .nd x ks f, .nd y js g, r, s, hf, hg, hn, h => by
    simp only [F.flat, List.cons_append, List.append_assoc, List.cons.injEq] at h
    obtain ⟨rfl, h⟩ := h
    have hk : ks.num = js.num := by have := hf.2.1; have := hg.2.1; omega
    obtain ⟨e1, h1⟩ := flat_inj ks js _ _ hf.2.2.1 hg.2.2.1 hk h
    obtain ⟨e2, h2⟩ := flat_inj f g _ _ hf.2.2.2 hg.2.2.2 (by simpa [F.num] using hn) h1
    exact ⟨by rw [e1, e2], h2⟩
def ShpP (re : List Nd) : Prop := (∃ en, shN re 260 0 [] 0 = some (re.length, en)) ∧ ∃ x ks, Shp re x ks
noncomputable def shapedB (re : List Nd) : Bool := @decide (ShpP re) (Classical.propDecidable _)
theorem shapedB_iff {re : List Nd} : shapedB re = true ↔ ShpP re := by
  unfold shapedB
  constructor
  · intro h; exact @of_decide_eq_true _ (Classical.propDecidable _) h
  · intro h; exact @decide_eq_true _ (Classical.propDecidable _) h
theorem shapedB_no {re : List Nd} (h : ¬ ShpP re) : shapedB re = false := Bool.eq_false_iff.2 fun h' => h (shapedB_iff.1 h')
theorem shp_none {re : List Nd} (h : shN re 260 0 [] 0 = none) : shapedB re = false := shapedB_no fun ⟨⟨en, h'⟩, _⟩ => by rw [h] at h'; cases h'
theorem shp_end {re : List Nd} {j : Nat} {en : List Bool} (h : shN re 260 0 [] 0 = some (j, en)) (hj : j ≠ re.length) : shapedB re = false := shapedB_no fun ⟨⟨en', h'⟩, _⟩ => by
  rw [h] at h'; cases h'; exact hj rfl
theorem shp_tree {re : List Nd} {en : List Bool} (h : shN re 260 0 [] 0 = some (re.length, en)) : ∃ x ks, Part re (.nd x ks .nil) 0 re.length ∧ ks.depth + 1 ≤ 260 ∧ shapedB re = decide (cut (F.nd x ks .nil).weight ≤ 16384) := by
  obtain ⟨x, ks, ht⟩ := shN_tree _ _ _ _ _ _ h
  have hp := ht.part
  have hflat : re = x :: ks.flat := by simpa using ht.flat
  refine ⟨x, ks, hp, ht.dep, ?_⟩
  by_cases hw : (F.nd x ks .nil).weight ≤ 16384
  · rw [decide_eq_true (by unfold cut; omega)]
    exact shapedB_iff.2 ⟨⟨en, h⟩, x, ks, ⟨ht.wf, hflat, ht.dep, hw⟩⟩
  · rw [decide_eq_false (by unfold cut; omega)]
    refine shapedB_no fun ⟨_, y, js, hs⟩ => hw ?_
    have := flat_inj (.nd x ks .nil) (.nd y js .nil) [] [] ht.wf hs.wf rfl (by simp only [F.flat, List.append_nil]; rw [← hflat, ← hs.flat])
    rw [this.1]; exact hs.weight
noncomputable def refsB (re : List Nd) : Bool := shapedB re && re.any fun x => x.op == 8
theorem refs_yes {re : List Nd} {x : Nd} (hs : shapedB re = true) (hx : x ∈ re) (h8 : x.op = 8) : refsB re = true := by
  rw [refsB, hs, Bool.true_and, List.any_eq_true]
  exact ⟨x, hx, by simp [h8]⟩
theorem refs_no {re : List Nd} (h : ∀ j (x : Nd), j < re.length → re[j]? = some x → ¬ x.op = 8) : refsB re = false := by
  have : (re.any fun x => x.op == 8) = false := by
    rw [Bool.eq_false_iff]
    intro h'
    obtain ⟨x, hx, h8⟩ := List.any_eq_true.1 h'
    obtain ⟨j, hj⟩ := List.getElem?_of_mem hx
    exact h j x (List.getElem?_eq_some_iff.1 hj).1 hj (by simpa using h8)
  rw [refsB, this, Bool.and_false]
theorem refs_step {re : List Nd} {j : Nat} {x : Nd} (h : ∀ q (x : Nd), q < j → re[q]? = some x → ¬ x.op = 8) (hx : re[j]? = some x) (h8 : ¬ x.op = 8) : ∀ q (x : Nd), q < j + 1 → re[q]? = some x → ¬ x.op = 8 := by
  intro q y hq hy
  by_cases e : q = j
  · subst e; rw [hx] at hy; cases hy; exact h8
  · exact h q y (by omega) hy
theorem refs_shp {re : List Nd} (h : shapedB re = false) : refsB re = false := by rw [refsB, h, Bool.false_and]
theorem cut_fin2 {t a : Nat} (ht : 1 ≤ t) : min (1 + (t : Int) * (cut a : Int)) 16385 = (cut (1 + t * a) : Nat) := by
  rw [← cut_fin ht, Int.mul_comm, Int.add_comm]
def Eix (n : Nat) : List Value := [.int .i64 n]
instance : Enc Eix 1 := ⟨fun _ => rfl, fun _ _ h => by simp [Eix] at h; subst h; rfl⟩
def EndsOk (re : List Nd) (a : Nat) (l : List Nat) : Prop := l.length = re.length ∧ ∀ (i : Nat) (x : Nd) (ks r : F) (i' : Nat), a ≤ i → Part re (.nd x ks r) i i' → l[i]? = some (i + 1 + ks.size)
theorem Part.at {re : List Nd} : ∀ (f : F) (i i' : Nat), Part re f i i' → ∀ j, i ≤ j → j < i' → ∃ x ks r j', Part re (.nd x ks r) j j'
  | .nil, i, i', h, j, h1, h2 => by have := h.len; simp [F.size] at this; omega
  | .nd x ks r, i, i', h, j, h1, h2 => by
    obtain ⟨_, hk, hr⟩ := h.head
    by_cases e : j = i
    · subst e; exact ⟨x, ks, r, i', h⟩
    by_cases e2 : j < i + 1 + ks.size
    · exact Part.at ks _ _ hk j (by omega) e2
    · exact Part.at r _ _ hr j (by omega) h2
theorem Part.uniq {re : List Nd} {x y : Nd} {ks js r s : F} {i i' i2 : Nat} (h : Part re (.nd x ks r) i i') (h' : Part re (.nd y js s) i i2) : ks = js := by
  have h1 := h.one; have h2 := h'.one
  have := flat_inj (.nd x ks .nil) (.nd y js .nil) _ _ h1.wf h2.wf rfl (h1.flat.symm.trans h2.flat)
  have := this.1
  simp at this
  exact this.2
theorem EndsOk.start {re : List Nd} {l : List Nat} (h : l.length = re.length) : EndsOk re re.length l := ⟨h, fun i x ks r i' hi hp => by
  have := (List.getElem?_eq_some_iff.1 hp.head.1).1; omega⟩
theorem EndsOk.step {re : List Nd} {a : Nat} {l : List Nat} {x : Nd} {ks r : F} {i' : Nat} (h : EndsOk re (a + 1) l) (hp : Part re (.nd x ks r) a i') : EndsOk re a (l.set a (a + 1 + ks.size)) := by
  have hlt : a < re.length := (List.getElem?_eq_some_iff.1 hp.head.1).1
  refine ⟨by rw [List.length_set]; exact h.1, fun i y js s i2 hi hq => ?_⟩
  by_cases e : a = i
  · subst e
    rw [List.getElem?_set_self (by rw [h.1]; exact hlt), hp.uniq hq]
  · rw [List.getElem?_set_ne e]; exact h.2 i y js s i2 (by omega) hq
theorem F.size_nil {f : F} (h : f.size = 0) : f = .nil := by
  cases f with
  | nil => rfl
  | nd x ks r => simp [F.size] at h
theorem Ein_zero (o x y : Int) : Ein ⟨o, 0, x, y⟩ = [.int .i8 o, .int .u64 0, .int .u64 0, .int .u64 0, .int .u64 0, .int .i64 x, .int .i64 y] := by
  show _ :: (Ec 0#256 ++ _) = _
  rw [Ec_zero]; rfl
def codeOne (x : Nd) (ks : F) (b : Nat) : List In := oneC x (fun b => code ks false b 0) (fun b => code ks true b (b + lenM ks true)) (lenM ks false) b
def lenT (x : Nd) (ks : F) : Nat := lenOne x (lenM ks false) (lenM ks true)
theorem codeOne_len (x : Nd) (ks : F) (b : Nat) : (codeOne x ks b).length = lenT x ks := oneC_len (fun b => code_len ks false b 0) (fun b => code_len ks true b _) b
theorem code_cat (x : Nd) (ks r : F) (b e : Nat) : code (.nd x ks r) false b e = codeOne x ks b ++ code r false (b + lenT x ks) 0 := by simp only [code, Bool.false_eq_true, if_false]; rfl
theorem code_one (x : Nd) (ks : F) (b e : Nat) : code (.nd x ks .nil) false b e = codeOne x ks b := by rw [code_cat]; simp [code]
theorem lenM_cat (x : Nd) (ks r : F) : lenM (.nd x ks r) false = lenT x ks + lenM r false := by simp [lenM, lenT]
theorem copies_snoc {c : Nat → List In} {L : Nat} : ∀ k b, copies c L (k + 1) b = copies c L k b ++ c (b + k * L)
  | 0, b => by simp [copies]
  | k + 1, b => by
    rw [copies, copies_snoc k (b + L), copies, List.append_assoc]
    congr 3
    rw [Nat.succ_mul]; omega
theorem opts_snoc {c : Nat → List In} {L e : Nat} : ∀ k b, opts c L e (k + 1) b = opts c L e k b ++ (⟨5, 0, (b + k * (L + 1) + 1 : Nat), e⟩ :: c (b + k * (L + 1) + 1))
  | 0, b => by simp [opts]
  | k + 1, b => by
    rw [opts, opts_snoc k (b + 1 + L), opts]
    simp only [List.cons_append, List.append_assoc]
    rw [show b + 1 + L + k * (L + 1) + 1 = b + (k + 1) * (L + 1) + 1 by rw [Nat.succ_mul]; omega]
theorem opts_head {c : Nat → List In} {L e k b : Nat} : opts c L e (k + 1) b = ⟨5, 0, (b + 1 : Nat), e⟩ :: (c (b + 1) ++ opts c L e k (b + 1 + L)) := rfl
theorem set_mid {α : Type} {A B : List α} {a b : α} {n : Nat} (h : A.length = n) : (A ++ a :: B).set n b = A ++ b :: B := by
  subst h
  rw [List.set_append_right _ _ (Nat.le_refl _)]
  simp
theorem get_mid {α : Type} {A B : List α} {a : α} {n : Nat} (h : A.length = n) : (A ++ a :: B)[n]? = some a := by
  subst h
  rw [List.getElem?_append_right (Nat.le_refl _)]
  simp
theorem opts_patch {c : Nat → List In} {L e : Nat} (hl : ∀ b, (c b).length = L) {M : List In} {q n : Nat} (hq : q < n) :
    (M ++ (opts c L e q M.length ++ opts c L 0 (n - q) (M.length + q * (L + 1))))[M.length + q * (L + 1)]? = some ⟨5, 0, (M.length + q * (L + 1) + 1 : Nat), 0⟩ ∧
    (M ++ (opts c L e q M.length ++ opts c L 0 (n - q) (M.length + q * (L + 1)))).set (M.length + q * (L + 1)) ⟨5, 0, (M.length + q * (L + 1) + 1 : Nat), e⟩ =
    M ++ (opts c L e (q + 1) M.length ++ opts c L 0 (n - (q + 1)) (M.length + (q + 1) * (L + 1))) := by
  obtain ⟨r, hr⟩ : ∃ r, n - q = r + 1 := ⟨n - q - 1, by omega⟩
  have hr2 : n - (q + 1) = r := by omega
  have h1 : (M ++ opts c L e q M.length).length = M.length + q * (L + 1) := by rw [List.length_append, opts_len hl]
  rw [hr, hr2, opts_head, ← List.append_assoc]
  refine ⟨get_mid h1, ?_⟩
  rw [set_mid h1, opts_snoc, show M.length + (q + 1) * (L + 1) = M.length + q * (L + 1) + 1 + L by rw [Nat.succ_mul]; omega]
  simp [List.append_assoc]
theorem star_fin {x : Nd} {c : Nat → List In} {L : Nat} {m m1 : List In} (hcl : ∀ b, (c b).length = L) (hmx : x.mx = -1) (hm1 : m1 = m ++ copies c L x.mn.toNat m.length) :
    (m1 ++ (⟨5, 0, (m1.length + 1 : Nat), (m1.length + L + 2 : Nat)⟩ : In) :: (c (m1.length + 1) ++ [⟨4, 0, (m1.length : Nat), 0⟩])) = m ++ repC x c L m.length := by
  have hl : m1.length = m.length + x.mn.toNat * L := by rw [hm1, List.length_append, copies_len hcl]
  unfold repC
  rw [hl, hm1]
  simp only [hmx, if_true, List.append_assoc]
theorem opts_fin {x : Nd} {c : Nat → List In} {L k : Nat} {m m1 : List In} (hcl : ∀ b, (c b).length = L) (hmx : ¬ x.mx = -1) (hm1 : m1 = m ++ copies c L x.mn.toNat m.length) (hk : k = (x.mx - x.mn).toNat) :
    m1 ++ opts c L (m1.length + k * (L + 1)) k m1.length = m ++ repC x c L m.length := by
  have hl : m1.length = m.length + x.mn.toNat * L := by rw [hm1, List.length_append, copies_len hcl]
  unfold repC
  subst hk
  rw [hl, hm1]
  simp only [hmx, if_false, List.append_assoc]
def jmps : F → Nat → List Nat
  | .nil, _ => []
  | .nd x ks r, b => match r with
    | .nil => []
    | _ => (b + 1 + lenT x ks) :: jmps r (b + lenT x ks + 2)
theorem jmps_more (x : Nd) (ks : F) (y : Nd) (js s : F) (b : Nat) : jmps (.nd x ks (.nd y js s)) b = (b + 1 + lenT x ks) :: jmps (.nd y js s) (b + lenT x ks + 2) := rfl
theorem code_more (x : Nd) (ks : F) (y : Nd) (js s : F) (b e : Nat) : code (.nd x ks (.nd y js s)) true b e = ⟨5, 0, (b + 1 : Nat), (b + lenT x ks + 2 : Nat)⟩ :: (codeOne x ks (b + 1) ++ (⟨4, 0, e, 0⟩ :: code (.nd y js s) true (b + lenT x ks + 2) e)) := rfl
theorem code_last (x : Nd) (ks : F) (b e : Nat) : code (.nd x ks .nil) true b e = codeOne x ks b := rfl
theorem lenM_more (x : Nd) (ks : F) (y : Nd) (js s : F) : lenM (.nd x ks (.nd y js s)) true = lenT x ks + 2 + lenM (.nd y js s) true := rfl
theorem lenM_last (x : Nd) (ks : F) : lenM (.nd x ks .nil) true = lenT x ks := by simp [lenM, lenT]
def patch (l : List In) (ps : List Nat) (e : Nat) : List In := ps.foldl (fun l p => l.set p ⟨4, 0, e, 0⟩) l
theorem patch_len (ps : List Nat) (e : Nat) : ∀ l, (patch l ps e).length = l.length := by
  induction ps with
  | nil => intro l; rfl
  | cons p ps ih => intro l; simp only [patch, List.foldl_cons] at ih ⊢; rw [ih]; simp
theorem patch_snoc (l : List In) (ps : List Nat) (p e : Nat) : patch l (ps ++ [p]) e = (patch l ps e).set p ⟨4, 0, e, 0⟩ := by simp [patch]
theorem patch_alt (e : Nat) : ∀ (f : F) (M : List In), patch (M ++ code f true M.length 0) (jmps f M.length) e = M ++ code f true M.length e
  | .nil, M => rfl
  | .nd x ks .nil, M => rfl
  | .nd x ks (.nd y js s), M => by
    rw [jmps_more, code_more, code_more]
    have h1 : (M ++ (⟨5, 0, (M.length + 1 : Nat), (M.length + lenT x ks + 2 : Nat)⟩ :: codeOne x ks (M.length + 1)) : List In).length = M.length + 1 + lenT x ks := by
      simp only [List.length_append, List.length_cons, codeOne_len]; omega
    have e1 : ∀ (t : In) (B : List In), M ++ ((⟨5, 0, (M.length + 1 : Nat), (M.length + lenT x ks + 2 : Nat)⟩ : In) :: (codeOne x ks (M.length + 1) ++ (t :: B))) = (M ++ (⟨5, 0, (M.length + 1 : Nat), (M.length + lenT x ks + 2 : Nat)⟩ :: codeOne x ks (M.length + 1))) ++ t :: B := by intro t B; simp
    show patch ((M ++ _).set _ _) _ e = _
    rw [e1, set_mid h1, e1]
    have h2 := patch_alt e (.nd y js s) ((M ++ (⟨5, 0, (M.length + 1 : Nat), (M.length + lenT x ks + 2 : Nat)⟩ :: codeOne x ks (M.length + 1))) ++ [⟨4, 0, (e : Int), 0⟩])
    have h3 : ((M ++ (⟨5, 0, (M.length + 1 : Nat), (M.length + lenT x ks + 2 : Nat)⟩ :: codeOne x ks (M.length + 1))) ++ [(⟨4, 0, (e : Int), 0⟩ : In)]).length = M.length + lenT x ks + 2 := by
      rw [List.length_append, h1]; simp; omega
    rw [h3] at h2
    simp only [List.append_assoc, List.singleton_append, List.cons_append] at h2 ⊢
    exact h2
section
variable {x : Nd} {ks : F} {b : Nat}
theorem codeOne_1 (h : x.op = 1) : codeOne x ks b = [⟨1, x.set, 0, 0⟩] := by simp [codeOne, oneC, h]
theorem codeOne_2 (h : x.op = 2) : codeOne x ks b = [⟨2, 0, 0, 0⟩] := by simp [codeOne, oneC, h]
theorem codeOne_3 (h : x.op = 3) : codeOne x ks b = [⟨3, 0, 0, 0⟩] := by simp [codeOne, oneC, h]
theorem codeOne_5 (h : x.op = 5) : codeOne x ks b = code ks true b (b + lenM ks true) := by simp [codeOne, oneC, h]
theorem codeOne_6 (h : x.op = 6) : codeOne x ks b = repC x (fun b => code ks false b 0) (lenM ks false) b := by simp [codeOne, oneC, h]
theorem codeOne_c (h1 : x.op ≠ 1) (h2 : x.op ≠ 2) (h3 : x.op ≠ 3) (h5 : x.op ≠ 5) (h6 : x.op ≠ 6) : codeOne x ks b = code ks false b 0 := by simp [codeOne, oneC, h1, h2, h3, h5, h6]
theorem lenT_s (h : x.op = 1 ∨ x.op = 2 ∨ x.op = 3) : lenT x ks = 1 := by rw [lenT, lenOne, if_pos h]
theorem lenT_5 (h : x.op = 5) : lenT x ks = lenM ks true := by rw [lenT, lenOne, if_neg (by omega), if_pos h]
theorem lenT_6 (h : x.op = 6) : lenT x ks = x.mn.toNat * lenM ks false + (if x.mx = -1 then lenM ks false + 2 else (x.mx - x.mn).toNat * (lenM ks false + 1)) := by rw [lenT, lenOne, if_neg (by omega), if_neg (by omega), if_pos h]
theorem lenT_c (h1 : x.op ≠ 1) (h2 : x.op ≠ 2) (h3 : x.op ≠ 3) (h5 : x.op ≠ 5) (h6 : x.op ≠ 6) : lenT x ks = lenM ks false := by rw [lenT, lenOne, if_neg (by omega), if_neg h5, if_neg h6]
end
theorem rep_kid {x : Nd} {ks : F} (hw : (F.nd x ks .nil).wf) (h6 : x.op = 6) : ∃ y js, ks = .nd y js .nil := by
  have hk : x.kids = 1 := by
    have h := hw.1
    simp only [ndOk, Bool.and_eq_true, kidsOk] at h
    have h := h.2
    rw [if_pos (.inl h6)] at h
    simpa using h
  have hn := hw.2.1
  cases ks with
  | nil => simp [F.num] at hn; omega
  | nd y js r =>
    cases r with
    | nil => exact ⟨y, js, rfl⟩
    | nd _ _ _ => simp only [F.num] at hn; omega
theorem alt_ne {x : Nd} {ks : F} (hw : (F.nd x ks .nil).wf) (h5 : x.op = 5) : ks ≠ .nil := by
  rintro rfl
  have := alt_kids hw.1 h5
  have := hw.2.1
  simp [F.num] at this
  omega
def IsJ (l : List In) (p : Nat) : Prop := ∃ v : Int, l[p]? = some ⟨4, 0, v, 0⟩
theorem jmps_isJ : ∀ (f : F) (M : List In), ∀ p ∈ jmps f M.length, IsJ (M ++ code f true M.length 0) p
  | .nil, M, p, h => by cases h
  | .nd x ks .nil, M, p, h => by cases h
  | .nd x ks (.nd y js s), M, p, h => by
    rw [jmps_more] at h
    rw [code_more]
    have h1 : (M ++ (⟨5, 0, (M.length + 1 : Nat), (M.length + lenT x ks + 2 : Nat)⟩ :: codeOne x ks (M.length + 1)) : List In).length = M.length + 1 + lenT x ks := by
      simp only [List.length_append, List.length_cons, codeOne_len]; omega
    have e1 : ∀ (t : In) (B : List In), M ++ ((⟨5, 0, (M.length + 1 : Nat), (M.length + lenT x ks + 2 : Nat)⟩ : In) :: (codeOne x ks (M.length + 1) ++ (t :: B))) = (M ++ (⟨5, 0, (M.length + 1 : Nat), (M.length + lenT x ks + 2 : Nat)⟩ :: codeOne x ks (M.length + 1))) ++ t :: B := by intro t B; simp
    rw [e1]
    rcases List.mem_cons.1 h with rfl | h
    · exact ⟨_, get_mid h1⟩
    · have h2 := jmps_isJ (.nd y js s) ((M ++ (⟨5, 0, (M.length + 1 : Nat), (M.length + lenT x ks + 2 : Nat)⟩ :: codeOne x ks (M.length + 1))) ++ [⟨4, 0, ((0 : Nat) : Int), 0⟩]) p
      have h3 : ((M ++ (⟨5, 0, (M.length + 1 : Nat), (M.length + lenT x ks + 2 : Nat)⟩ :: codeOne x ks (M.length + 1))) ++ [(⟨4, 0, ((0 : Nat) : Int), 0⟩ : In)]).length = M.length + lenT x ks + 2 := by
        rw [List.length_append, h1]; simp; omega
      rw [h3] at h2
      have h4 := h2 h
      rw [List.append_assoc] at h4
      exact h4
theorem patch_isJ {e : Nat} (ps : List Nat) : ∀ (l : List In) (p : Nat), IsJ l p → IsJ (patch l ps e) p := by
  induction ps with
  | nil => intro l p h; exact h
  | cons q ps ih =>
    intro l p h
    refine ih _ p ?_
    by_cases e : q = p
    · subst e
      obtain ⟨v, hv⟩ := h
      exact ⟨_, List.getElem?_set_self (List.getElem?_eq_some_iff.1 hv).1⟩
    · obtain ⟨v, hv⟩ := h
      exact ⟨v, by rw [List.getElem?_set_ne e]; exact hv⟩
theorem patch_take {l : List In} {ps : List Nat} {q p e : Nat} (h : ps[q]? = some p) : (patch l (ps.take q) e).set p ⟨4, 0, e, 0⟩ = patch l (ps.take (q + 1)) e := by
  rw [List.take_add_one, h]
  exact (patch_snoc _ _ _ _).symm
theorem alt_step {y z : Nd} {ks1 js s : F} {m2 : List In} : m2 ++ code (.nd y ks1 (.nd z js s)) true m2.length 0 =
    (m2 ++ (⟨5, 0, (m2.length + 1 : Nat), (m2.length + 1 + lenT y ks1 + 1 : Nat)⟩ :: (codeOne y ks1 (m2.length + 1) ++ [⟨4, 0, 0, 0⟩]))) ++ code (.nd z js s) true (m2.length + 1 + lenT y ks1 + 1) 0 := by
  rw [code_more, show m2.length + lenT y ks1 + 2 = m2.length + 1 + lenT y ks1 + 1 by omega]
  simp
end Go.HL.Kl.Mc
namespace Go.HL.Kl.Mc
open Go Go.HL Go.HL.Kl
theorem F.size_weight : ∀ f : F, f.size ≤ f.weight
  | .nil => Nat.le_refl _
  | .nd x ks r => by
    have h1 := F.size_weight ks
    have h2 := F.size_weight r
    have h3 : ks.weight ≤ times x * ks.weight := Nat.le_mul_of_pos_left _ (times_pos x)
    simp only [F.size, F.weight]; omega
theorem mach_one (x : Nd) (ks : F) : mach (.nd x ks .nil) = codeOne x ks 0 ++ [⟨6, 0, 0, 0⟩] := by rw [mach, code_one]
theorem Shp.lenT {re : List Nd} {x : Nd} {ks : F} (h : Shp re x ks) : Mc.lenT x ks ≤ 65533 := by
  have h1 := (code_weight _ h.wf).1
  rw [lenM_cat] at h1
  have := h.weight
  simp only [F.num] at h1
  omega
theorem Shp.len {re : List Nd} {x : Nd} {ks : F} (h : Shp re x ks) : re.length ≤ 16384 := by
  have h1 := F.size_weight (.nd x ks .nil)
  have := h.weight
  rw [h.flat]
  simp only [F.size] at h1
  simp only [List.length_cons, F.flat_size]
  omega
theorem Shp.part {re : List Nd} {x : Nd} {ks : F} (h : Shp re x ks) : Part re (.nd x ks .nil) 0 re.length := by
  refine ⟨h.wf, by rw [List.drop_length, List.drop_zero, List.append_nil]; simp [F.flat, h.flat], ?_, Nat.le_refl _⟩
  rw [h.flat]; simp [F.size, F.flat_size]
inductive CompP (re : List Nd) (v : Value) (S' : Hp) : Prop
  | shape (hs : shapedB re = false) (hv : v = .tuple #[.slice none 0 0, .int .i64 49])
  | ref (hs : shapedB re = true) (hr : refsB re = true) (hv : v = .tuple #[.slice none 0 0, .int .i64 44])
  | ok {x : Nd} {ks : F} {a : Option Addr} (hs : shapedB re = true) (hr : refsB re = false) (h : Shp re x ks) (hv : v = .tuple #[.slice a (mach (.nd x ks .nil)).length (mach (.nd x ks .nil)).length, .int .i64 0]) (hm : RdS Ein (.slice a (mach (.nd x ks .nil)).length (mach (.nd x ks .nil)).length) (mach (.nd x ks .nil)) S')
inductive CompO (T : Nat) (re : List Nd) (v : Value) (S' : Hp) : Prop
  | shape (hs : shapedB re = false) (hv : v = .tuple #[.slice none 0 0, .int .i64 49]) (hn : S' = [])
  | ref (hs : shapedB re = true) (hr : refsB re = true) (hv : v = .tuple #[.slice none 0 0, .int .i64 44]) (hn : S' = [])
  | ok {x : Nd} {ks : F} {a : Option Addr} (hs : shapedB re = true) (hr : refsB re = false) (h : Shp re x ks) (hv : v = .tuple #[.slice a (mach (.nd x ks .nil)).length (mach (.nd x ks .nil)).length, .int .i64 0]) (hm : OwnS Ein 7 T (.slice a (mach (.nd x ks .nil)).length (mach (.nd x ks .nil)).length) (mach (.nd x ks .nil)) S')
noncomputable def mokB (m : List In) : Bool := @decide (MOk m) (Classical.propDecidable _)
theorem mokB_iff {m : List In} : mokB m = true ↔ MOk m := by
  unfold mokB
  exact ⟨fun h => @of_decide_eq_true _ (Classical.propDecidable _) h, fun h => @decide_eq_true _ (Classical.propDecidable _) h⟩
theorem mokB_no {m : List In} (h : ¬ MOk m) : mokB m = false := Bool.eq_false_iff.2 fun h' => h (mokB_iff.1 h')
theorem cels_set {κ : Cx} {H : Hp} {v : Value} {m : List In} {q : Nat} {t : In} (h : RdK Ein κ H v m) (ht : m[q]? = some t) {o : Nat} (ho : o = soff v + (q * 7 + 1)) : Cels κ H ⟨sblk v, o, none⟩ (Ec t.set) := by
  refine ⟨fun w st j u hu => ?_⟩
  subst ho
  have hj : j < 4 := by have := (List.getElem?_eq_some_iff.1 hu).1; rw [Ec_lenM] at this; exact this
  have h1 : (flat Ein m)[q * 7 + (1 + j)]? = some u := by
    rw [flat_get Ein m ht (by omega), show 1 + j = j + 1 by omega]
    simp only [Ein, List.getElem?_cons_succ]
    rw [List.getElem?_append_left (List.getElem?_eq_some_iff.1 hu).1]; exact hu
  have := (h.out w st).get _ _ h1
  rw [Addr.add_lit, show soff v + (q * 7 + 1) + j = soff v + (q * 7 + (1 + j)) by omega]
  exact this
def MUp (m : List In) (q : Nat) : Prop := ∀ i t, i < q → m[i]? = some t → InOk (m.length - 1) t ∧ (t.op ≤ 3 → i + 1 < m.length)
theorem MUp.zero {m : List In} : MUp m 0 := fun i t h => by omega
theorem MUp.step {m : List In} {q : Nat} {t : In} (h : MUp m q) (ht : m[q]? = some t) (h1 : InOk (m.length - 1) t) (h2 : t.op ≤ 3 → q + 1 < m.length) : MUp m (q + 1) := by
  intro i u hi hu
  by_cases e : i = q
  · subst e; rw [ht] at hu; cases hu; exact ⟨h1, h2⟩
  · exact h i u (by omega) hu
theorem MUp.all {m : List In} (h : MUp m m.length) (h1 : 1 ≤ m.length) (h2 : m.length ≤ 65540) : mokB m = true := mokB_iff.2 ⟨h1, h2, fun i t ht => h i t (List.getElem?_eq_some_iff.1 ht).1 ht⟩
theorem mok_len {m : List In} (h : ¬ (1 ≤ m.length ∧ m.length ≤ 65540)) : mokB m = false := mokB_no fun h' => h ⟨h'.1, h'.2.1⟩
theorem mok_in {m : List In} {q : Nat} {t : In} (ht : m[q]? = some t) (h : ¬ InOk (m.length - 1) t) : mokB m = false := mokB_no fun h' => h (h'.2.2 q t ht).1
theorem mok_last {m : List In} {q : Nat} {t : In} (ht : m[q]? = some t) (h3 : t.op ≤ 3) (h : ¬ q + 1 < m.length) : mokB m = false := mokB_no fun h' => h ((h'.2.2 q t ht).2 h3)
def wantI (t : In) : In := ⟨t.op, if t.op = 1 then t.set else 0, if t.op = 4 ∨ t.op = 5 then t.x else 0, if t.op = 5 then t.y else 0⟩
theorem wantI_of {E : Nat} {t : In} (h : InOk E t) : t = wantI t := by
  obtain ⟨_, h2, h3, h4⟩ := h
  cases t with
  | mk o s x y =>
    simp only at h2 h3 h4
    simp only [wantI, In.mk.injEq, true_and]
    refine ⟨?_, ?_, ?_⟩
    · split
      · rfl
      · exact h2.resolve_left ‹_›
    · split
      · rfl
      · rw [if_neg ‹_›] at h3; omega
    · split
      · rfl
      · rw [if_neg ‹_›] at h4; omega
theorem InOk.bnd {E : Nat} {t : In} (h : InOk E t) : 0 ≤ t.x ∧ t.x ≤ E ∧ 0 ≤ t.y ∧ t.y ≤ E := by
  obtain ⟨_, _, h3, h4⟩ := h
  refine ⟨h3.1, ?_, h4.1, ?_⟩
  · have := h3.2; split at this <;> omega
  · have := h4.2; split at this <;> omega
theorem inOk_of {n : Nat} {t : In} (h1 : 1 ≤ t.op ∧ t.op ≤ 6) (h : t = wantI t) (hx : 0 ≤ t.x ∧ t.x < (n : Int)) (hy : 0 ≤ t.y ∧ t.y < (n : Int)) : InOk (n - 1) t := by
  cases t with
  | mk o s x y =>
    simp only [wantI, In.mk.injEq, true_and] at h
    obtain ⟨e1, e2, e3⟩ := h
    simp only at hx hy h1
    refine ok_mk h1.1 h1.2 ?_ hx.1 ?_ hy.1 ?_
    · by_cases h : o = 1
      · exact .inl h
      · rw [if_neg h] at e1; exact .inr e1
    · by_cases h : o = 4 ∨ o = 5
      · rw [if_pos h]; omega
      · rw [if_neg h] at e2 ⊢; omega
    · by_cases h : o = 5
      · rw [if_pos h]; omega
      · rw [if_neg h] at e3 ⊢; omega
theorem in_set {x : In} : ∀ (j : Nat) u, (Ec x.set)[j]? = some u → (Ein x)[1 + j]? = some u := by
  intro j u h
  rw [show 1 + j = j + 1 by omega]
  simp only [Ein, List.getElem?_cons_succ]
  rw [List.getElem?_append_left (List.getElem?_eq_some_iff.1 h).1]; exact h
def succs (t : In) (n p i : Nat) : List Nat :=
  if t.op = 2 then (if p = 0 then [i + 1] else []) else if t.op = 3 then (if p = n then [i + 1] else [])
  else if t.op = 4 then [t.x.toNat] else if t.op = 5 then [t.x.toNat, t.y.toNat] else []
theorem eps_succs {m : List In} {n p i j : Nat} {t : In} (hm : MOk m) (ht : m[i]? = some t) : Eps m n p i j ↔ j ∈ succs t n p i := by
  have hb := (hm.2.2 i t ht).1.bnd
  unfold Eps succs
  constructor
  · rintro ⟨u, hu, h⟩
    rw [ht] at hu; cases hu
    rcases h with ⟨ho, h1, h2⟩ | ⟨ho, h1, h2⟩ | ⟨ho, h1⟩ | ⟨ho, h1 | h1⟩
    · rw [if_pos ho, if_pos h1, h2]; simp
    · rw [if_neg (by omega), if_pos ho, if_pos h1, h2]; simp
    · rw [if_neg (by omega), if_neg (by omega), if_pos ho, h1]; simp
    · rw [if_neg (by omega), if_neg (by omega), if_neg (by omega), if_pos ho, h1]; simp
    · rw [if_neg (by omega), if_neg (by omega), if_neg (by omega), if_pos ho, h1]; simp
  · intro h
    refine ⟨t, ht, ?_⟩
    split at h
    · split at h
      · simp at h; exact .inl ⟨‹_›, ‹_›, h⟩
      · cases h
    split at h
    · split at h
      · simp at h; exact .inr (.inl ⟨‹_›, ‹_›, h⟩)
      · cases h
    split at h
    · simp at h; exact .inr (.inr (.inl ⟨‹_›, by omega⟩))
    split at h
    · simp at h
      rcases h with h | h
      · exact .inr (.inr (.inr ⟨‹_›, .inl (by omega)⟩))
      · exact .inr (.inr (.inr ⟨‹_›, .inr (by omega)⟩))
    · cases h
structure Srch (m : List In) (n p from_ : Nat) (s0 sn : List Bool) (todo : List Nat) : Prop where
  len : sn.length = m.length
  a : ∀ i : Nat, s0[i]? = some true → sn[i]? = some true
  b : ∀ i : Nat, sn[i]? = some true → s0[i]? = some true ∨ EpsS m n p from_ i
  c : ∀ t ∈ todo, EpsS m n p from_ t ∧ t < m.length
  d : ∀ i j : Nat, sn[i]? = some true → Eps m n p i j → sn[j]? = some true ∨ j ∈ todo
  e : sn[from_]? = some true ∨ from_ ∈ todo
def unseen (l : List Bool) : Nat := l.countP (!·)
def Begn (m : List In) (w : List UInt8) (f p j : Nat) : Prop := (p = f ∧ j = 0) ∨ (f < p ∧ ∃ i, j = i + 1 ∧ Run m w (0, f) (i, p - 1) ∧ Eat m w i (p - 1))
def EndsP (m : List In) (w : List UInt8) (f : Int) (out : List Bool) : Prop := out.length = w.length + 1 ∧ ∀ t : Nat, out[t]? = some true ↔ MOk m ∧ ∃ g : Nat, f = g ∧ g ≤ w.length ∧ Hit m w g t
def SeenP (m : List In) (w : List UInt8) (p : Nat) (q : List Nat) (k : Nat) (sn : List Bool) : Prop :=
  sn.length = m.length ∧ (∀ i : Nat, sn[i]? = some true ↔ ∃ t j : Nat, t < k ∧ q[t]? = some j ∧ EpsS m w.length p j i) ∧ ∀ i j : Nat, sn[i]? = some true → Eps m w.length p i j → sn[j]? = some true
structure PassP (m : List In) (w : List UInt8) (p : Nat) (sn out : List Bool) (k : Nat) (o2 : List Bool) (q2 : List Nat) : Prop where
  len : o2.length = out.length
  st : ∀ j, j ∈ q2 ↔ ∃ i, i < k ∧ j = i + 1 ∧ sn[i]? = some true ∧ Eat m w i p
  out : ∀ t : Nat, o2[t]? = some true ↔ out[t]? = some true ∨ (t = p ∧ ∃ i u, i < k ∧ sn[i]? = some true ∧ m[i]? = some u ∧ u.op = 6)
  le : q2.length ≤ k
def EndsC (m : List In) (w : List UInt8) (f : Int) (v : Value) (S : Hp) : Prop := ∃ (a : Option Addr) (c : Nat) (out : List Bool), v = .slice a (w.length + 1) c ∧ OwnS Ebo 1 4 v out S ∧ EndsP m w f out
end Go.HL.Kl.Mc
namespace Go.Tab
open Go Go.HL
structure Fill {α : Type} (f : Nat → α) (n j : Nat) (l : List α) : Prop where
  len : l.length = n
  get : ∀ i, i < j → l[i]? = some (f i)
theorem Fill.zero {α : Type} {f : Nat → α} {l : List α} {n : Nat} (h : l.length = n) : Fill f n 0 l := ⟨h, fun _ h => by omega⟩
theorem Fill.step {α : Type} {f : Nat → α} {n j : Nat} {l : List α} (h : Fill f n j l) (hj : j < n) {y : α} (hy : y = f j) : Fill f n (j + 1) (l.set j y) := by
  refine ⟨by simp [h.len], fun i hi => ?_⟩
  subst hy
  by_cases e : j = i
  · subst e; rw [List.getElem?_set_self (by rw [h.len]; exact hj)]
  · rw [List.getElem?_set_ne e]; exact h.get i (by omega)
theorem Fill.done {α : Type} {f : Nat → α} {n j : Nat} {l : List α} (h : Fill f n j l) (hj : n ≤ j) : l = (List.range n).map f := by
  apply List.ext_getElem?
  intro i
  by_cases hi : i < n
  · rw [h.get i (by omega), List.getElem?_map, List.getElem?_range hi]; rfl
  · rw [List.getElem?_eq_none (by rw [h.len]; omega), List.getElem?_eq_none (by simp; omega)]
def idT : List UInt8 := (List.range 256).map UInt8.ofNat
def at0 (t : List UInt8) (i : Nat) : UInt8 := t.getD i 0
def thenT (t u : List UInt8) : List UInt8 := (List.range 256).map fun i => at0 u (at0 t i).toNat
def applyT (t b : List UInt8) : List UInt8 := (List.range b.length).map fun i => at0 t (at0 b i).toNat
def newAt (f t : List UInt8) : Nat → Option (List UInt8)
  | 0 => some idT
  | j + 1 => if at0 f j ∈ f.take j then none else (newAt f t j).map (·.set (at0 f j).toNat (at0 t j))
def newR (f t : List UInt8) : Option (List UInt8) := if f.length = t.length then newAt f t f.length else none
def zT : List UInt8 := List.replicate 256 0
def tabV (r : Option (List UInt8)) : Value := .tuple #[.agg (flat Eb (r.getD zT)).toArray, .int .i64 (if r.isSome then 0 else 60)]
def xyT : List UInt8 := (idT.set 97 120).set 98 121
attribute [irreducible] idT thenT applyT xyT
end Go.Tab
namespace Go.HL
open Go Go.Tab
section
variable {α : Type}
def wdlF (d : Nat → α) (xs : List α) (i : Nat) : α := (xs[i]?).getD (d i)
def wdl (d : Nat → α) (xs : List α) : List α := (List.range (xs.length + 64)).map (wdlF d xs)
theorem ext_upto {a b : List α} (hl : a.length = b.length) (h : ∀ i, i < a.length → a[i]? = b[i]?) : a = b := by
  apply List.ext_getElem?
  intro i
  by_cases hi : i < a.length
  · exact h i hi
  · rw [List.getElem?_eq_none (by omega), List.getElem?_eq_none (by omega)]
attribute [irreducible] wdl wdlF
end
end Go.HL
namespace Go.HL.Kl.Mc
open Go Go.HL Go.HL.Kl
def spI (i : Nat) : In := ⟨0, 0, ((1048576 * 9 + i + 1 : Nat) : Int), -7⟩
def letN (b : UInt8) : Nd := ⟨1, bit b.toNat, 0, 0, 0, 0⟩
def starN : Nd := ⟨6, 0, 0, 0, -1, 1⟩
def reW : List Nd := [starN, letN 97]
def ksW : F := .nd (letN 97) .nil .nil
def mW : List In := mach (.nd starN ksW .nil)
theorem Shp.uniq {re : List Nd} {x y : Nd} {ks js : F} (h : Shp re x ks) (h' : Shp re y js) : x = y ∧ ks = js := by
  have := flat_inj (.nd x ks .nil) (.nd y js .nil) [] [] h.wf h'.wf rfl (by simp only [F.flat, List.append_nil]; rw [← h.flat, ← h'.flat])
  simpa using this.1
def wW : List UInt8 := [97, 97, 98]
attribute [irreducible] mW
/-! forests, one behind the other -/
def F.app : F → F → F
  | .nil, g => g
  | .nd x ks r, g => .nd x ks (r.app g)
theorem F.num_app : ∀ f g : F, (f.app g).num = f.num + g.num
  | .nil, g => by simp [F.app, F.num]
  | .nd x ks r, g => by simp only [F.app, F.num, F.num_app r g]; omega
theorem F.flat_app : ∀ f g : F, (f.app g).flat = f.flat ++ g.flat
  | .nil, g => by simp [F.app, F.flat]
  | .nd x ks r, g => by simp [F.app, F.flat, F.flat_app r g]
theorem F.size_app : ∀ f g : F, (f.app g).size = f.size + g.size
  | .nil, g => by simp [F.app, F.size]
  | .nd x ks r, g => by simp only [F.app, F.size, F.size_app r g]; omega
theorem F.wf_app : ∀ {f g : F}, f.wf → g.wf → (f.app g).wf
  | .nil, g, _, h => h
  | .nd x ks r, g, ⟨a, b, c, d⟩, h => ⟨a, b, c, F.wf_app d h⟩
theorem F.num_nil {f : F} (h : f.num = 0) : f = .nil := by
  cases f with
  | nil => rfl
  | nd x ks r => simp [F.num] at h
/-! lists of booleans -/
def bo0 (l : List Bool) (i : Nat) : Bool := l.getD i false
def orF (a b : List Bool) (i : Nat) : Bool := bo0 a i || bo0 b i
def orL (a b : List Bool) : List Bool := (List.range a.length).map (orF a b)
def moreTo (a b : List Bool) (k : Nat) : Bool := (List.range k).any fun i => bo0 b i && !bo0 a i
def moreB (a b : List Bool) : Bool := moreTo a b a.length
def cf (l : List Bool) : Nat := (List.range l.length).countP fun i => !bo0 l i
structure SetP (w : List UInt8) (s : Cl) (fr : List Bool) (j : Nat) (out : List Bool) : Prop where
  len : out.length = w.length + 1
  get : ∀ q : Nat, out[q]? = some true ↔ ∃ p, p < j ∧ q = p + 1 ∧ fr[p]? = some true ∧ ∃ b, w[p]? = some b ∧ s.getLsbD b.toNat = true
def OutP (N : Nat) (S : Nat → Prop) (vf : Value) (fr : List Bool) (v : Value) (S' : Hp) : Prop :=
  ∃ (a : Option Addr) (c : Nat) (l : List Bool), v = .slice a l.length c ∧ IsS l N S ∧ ∀ W : World, (∀ b o, (b, o) ∈ S' → W.heap[b]? = some o) → Rd Ebo W vf fr → Rd Ebo W v l
def OverC (P : Program) (fn : Nat) (w : List UInt8) (x : Nd) (ks : F) : Prop := ∀ (ra : Option Addr) (rc : Nat) (re : List Nd) (ta : Option Addr) (tc i i' : Nat) (fa : Option Addr) (fc : Nat) (fr : List Bool) (S : Nat → Prop),
  (∀ x ∈ re, -128 ≤ x.op ∧ x.op < 128) → (∀ x ∈ re, ¬ x.op = 8) → w.length ≤ 1000000 → Part re (.nd x ks .nil) i i' → IsS fr w.length S → (∀ p, S p → p ≤ w.length) →
  Fn P fn [.slice ra re.length rc, .int .i64 i, .slice ta w.length tc, .slice fa fr.length fc] (fun W => Rd En W (.slice ra re.length rc) re ∧ Rd Eb W (.slice ta w.length tc) w ∧ Rd Ebo W (.slice fa fr.length fc) fr) [] (OutP w.length (img (der1 w x ks) S) (.slice fa fr.length fc) fr)
def RdC (vf : Value) (fr : List Bool) (v : Value) (l : List Bool) (S : Hp) : Prop := ∀ W : World, (∀ b o, (b, o) ∈ S → W.heap[b]? = some o) → Rd Ebo W vf fr → Rd Ebo W v l
theorem no_refs {re : List Nd} (hs : shapedB re = true) (hr : refsB re = false) : ∀ x ∈ re, ¬ x.op = 8 := fun x hx h8 => by rw [refs_yes hs hx h8] at hr; cases hr
theorem Shp.mok {re : List Nd} {x : Nd} {ks : F} (h : Shp re x ks) : MOk (mach (.nd x ks .nil)) := mach_ok h.wf h.weight
theorem Part.uniqF {re : List Nd} : ∀ (f g : F) (i e : Nat), Part re f i e → Part re g i e → f = g
  | .nil, .nil, _, _, _, _ => rfl
  | .nil, .nd y js s, i, e, h, h' => by have h1 := h.len; have h2 := h'.len; simp only [F.size] at h1 h2; omega
  | .nd x ks r, .nil, i, e, h, h' => by have h1 := h.len; have h2 := h'.len; simp only [F.size] at h1 h2; omega
  | .nd x ks r, .nd y js s, i, e, h, h' => by
    have hk := h.uniq h'
    subst hk
    obtain ⟨h0, _, hr⟩ := h.head
    obtain ⟨h0', _, hr'⟩ := h'.head
    obtain rfl : x = y := by rw [h0] at h0'; exact Option.some.inj h0'
    rw [Part.uniqF r s _ _ hr hr']
theorem Part.uniq1 {re : List Nd} {x y : Nd} {ks js : F} {i e e' : Nat} (h : Part re (.nd x ks .nil) i e) (h' : Part re (.nd y js .nil) i e') : x = y ∧ ks = js ∧ e = e' := by
  have hk := h.uniq h'
  subst hk
  obtain ⟨h0, _, _⟩ := h.head
  obtain ⟨h0', _, _⟩ := h'.head
  have hl := h.len
  have hl' := h'.len
  exact ⟨by rw [h0] at h0'; exact Option.some.inj h0', rfl, by simp only [F.size] at hl hl'; omega⟩
def RR (x : Nd) (D : Nat → Nat → Prop) (r p q : Nat) : Prop := ∃ k : Nat, x.mn ≤ ((r + k : Nat) : Int) ∧ (x.mx = -1 ∨ ((r + k : Nat) : Int) ≤ x.mx) ∧ pow D k p q
def RQ (x : Nd) (D : Nat → Nat → Prop) (r p q m : Nat) : Prop := (x.mx = -1 ∨ (r : Int) < x.mx) ∧ (m ≠ p ∨ (r : Int) < x.mn ∨ r = 0) ∧ D p m ∧ RR x D (r + 1) m q
theorem rounds_RR {x : Nd} {D : Nat → Nat → Prop} {p q : Nat} : rounds x D p q ↔ RR x D 0 p q := by simp [rounds, RR]
theorem RR_cap {x : Nd} {D : Nat → Nat → Prop} {r s p q : Nat} (h1 : x.mx = -1) (h2 : x.mn ≤ (r : Int)) (h3 : x.mn ≤ (s : Int)) : RR x D r p q ↔ RR x D s p q :=
  ⟨fun ⟨k, _, _, hk⟩ => ⟨k, by omega, .inl h1, hk⟩, fun ⟨k, _, _, hk⟩ => ⟨k, by omega, .inl h1, hk⟩⟩
theorem RR_step {x : Nd} {D : Nat → Nat → Prop} {r q : Nat} : ∀ {p : Nat}, RR x D r p q ↔ (p = q ∧ x.mn ≤ (r : Int) ∧ (x.mx = -1 ∨ (r : Int) ≤ x.mx)) ∨ ∃ m, RQ x D r p q m := by
  have hf : ∀ k p, x.mn ≤ ((r + k : Nat) : Int) → (x.mx = -1 ∨ ((r + k : Nat) : Int) ≤ x.mx) → pow D k p q → (p = q ∧ x.mn ≤ (r : Int) ∧ (x.mx = -1 ∨ (r : Int) ≤ x.mx)) ∨ ∃ m, RQ x D r p q m := by
    intro k
    induction k with
    | zero => intro p h1 h2 h; exact .inl ⟨h, by simpa using h1, by simpa using h2⟩
    | succ k ih =>
      intro p h1 h2 ⟨m, hm, hk⟩
      by_cases hc : m ≠ p ∨ (r : Int) < x.mn ∨ r = 0
      · exact .inr ⟨m, by omega, hc, hm, k, by rw [show r + 1 + k = r + (k + 1) by omega]; exact h1, by rw [show r + 1 + k = r + (k + 1) by omega]; exact h2, hk⟩
      · obtain ⟨rfl, h3⟩ : m = p ∧ ¬ (r : Int) < x.mn := by
          refine ⟨?_, fun h => hc (.inr (.inl h))⟩
          exact Classical.byContradiction fun h => hc (.inl h)
        exact ih m (by omega) (by omega) hk
  intro p
  constructor
  · rintro ⟨k, h1, h2, h⟩; exact hf k p h1 h2 h
  · rintro (⟨rfl, h1, h2⟩ | ⟨m, h1, h2, h3, k, h4, h5, h6⟩)
    · exact ⟨0, by simpa using h1, by simpa using h2, rfl⟩
    · exact ⟨k + 1, by rw [show r + (k + 1) = r + 1 + k by omega]; exact h4, by rw [show r + (k + 1) = r + 1 + k by omega]; exact h5, m, h3, h6⟩
inductive Qry (w : List UInt8) (re : List Nd) : Ky → Prop
  | alt {x : Nd} {ks : F} {i i1 p q : Nat} (hp : Part re (.nd x ks .nil) i i1) (h5 : x.op = 5) (h : der w ks true p q) : Qry w re ⟨i, -1, p, q⟩
  | cat {x : Nd} {ks g : F} {i i1 m p q : Nat} (hp : Part re (.nd x ks .nil) i i1) (h4 : x.op = 4) (hg : Part re g m i1) (h : der w g false p q) : Qry w re ⟨i, m, p, q⟩
  | rep {x : Nd} {ks : F} {i i1 r p q : Nat} (hp : Part re (.nd x ks .nil) i i1) (h6 : x.op = 6) (h : RR x (der w ks false) r p q) : Qry w re ⟨i, r, p, q⟩
theorem Qry_alt {w : List UInt8} {re : List Nd} {x : Nd} {ks : F} {i i1 p q : Nat} (hp : Part re (.nd x ks .nil) i i1) (h5 : x.op = 5) : Qry w re ⟨i, -1, p, q⟩ ↔ der w ks true p q := by
  refine ⟨fun h => ?_, fun h => .alt hp h5 h⟩
  generalize hk : (⟨i, -1, p, q⟩ : Ky) = k at h
  cases h <;> simp only [Ky.mk.injEq] at hk
  case alt x' ks' i' i1' p' q' hp' h5' h' =>
    obtain ⟨h1, _, h2, h3⟩ := hk
    obtain rfl : i = i' := by omega
    obtain rfl : p = p' := by omega
    obtain rfl : q = q' := by omega
    obtain ⟨rfl, rfl, rfl⟩ := hp.uniq1 hp'
    exact h'
  all_goals omega
theorem Qry_cat {w : List UInt8} {re : List Nd} {x : Nd} {ks g : F} {i i1 m p q : Nat} (hp : Part re (.nd x ks .nil) i i1) (h4 : x.op = 4) (hg : Part re g m i1) : Qry w re ⟨i, m, p, q⟩ ↔ der w g false p q := by
  refine ⟨fun h => ?_, fun h => .cat hp h4 hg h⟩
  generalize hk : (⟨i, m, p, q⟩ : Ky) = k at h
  cases h <;> simp only [Ky.mk.injEq] at hk
  case cat x' ks' g' i' i1' m' p' q' hp' h4' hg' h' =>
    obtain ⟨h1, h0, h2, h3⟩ := hk
    obtain rfl : i = i' := by omega
    obtain rfl : p = p' := by omega
    obtain rfl : q = q' := by omega
    obtain rfl : m = m' := by omega
    obtain ⟨rfl, rfl, rfl⟩ := hp.uniq1 hp'
    rw [Part.uniqF g g' _ _ hg hg']; exact h'
  case alt => omega
  case rep x' ks' i' i1' r' p' q' hp' h6' h' =>
    obtain ⟨h1, h0, h2, h3⟩ := hk
    obtain rfl : i = i' := by omega
    obtain ⟨rfl, rfl, rfl⟩ := hp.uniq1 hp'
    omega
theorem Qry_rep {w : List UInt8} {re : List Nd} {x : Nd} {ks : F} {i i1 r p q : Nat} (hp : Part re (.nd x ks .nil) i i1) (h6 : x.op = 6) : Qry w re ⟨i, r, p, q⟩ ↔ RR x (der w ks false) r p q := by
  refine ⟨fun h => ?_, fun h => .rep hp h6 h⟩
  generalize hk : (⟨i, r, p, q⟩ : Ky) = k at h
  cases h <;> simp only [Ky.mk.injEq] at hk
  case rep x' ks' i' i1' r' p' q' hp' h6' h' =>
    obtain ⟨h1, h0, h2, h3⟩ := hk
    obtain rfl : i = i' := by omega
    obtain rfl : p = p' := by omega
    obtain rfl : q = q' := by omega
    obtain rfl : r = r' := by omega
    obtain ⟨rfl, rfl, rfl⟩ := hp.uniq1 hp'
    exact h'
  case alt => omega
  case cat x' ks' g' i' i1' m' p' q' hp' h4' hg' h' =>
    obtain ⟨h1, h0, h2, h3⟩ := hk
    obtain rfl : i = i' := by omega
    obtain ⟨rfl, rfl, rfl⟩ := hp.uniq1 hp'
    omega
def MapOk (w : List UInt8) (re : List Nd) (es : List Me) : Prop := ∀ k, getK es k = 0 ∨ (getK es k = 1 ∧ Qry w re k) ∨ (getK es k = -1 ∧ ¬ Qry w re k)
theorem MapOk.nil {w : List UInt8} {re : List Nd} : MapOk w re [] := fun _ => .inl rfl
theorem MapOk.no {w : List UInt8} {re : List Nd} {es es' : List Me} {k : Ky} (h : MapOk w re es) (hk : ¬ Qry w re k) (hg : ∀ j, getK es' j = if j = k then -1 else getK es j) : MapOk w re es' := fun j => by
  rw [hg j]
  by_cases e : j = k
  · subst e; rw [if_pos rfl]; exact .inr (.inr ⟨rfl, hk⟩)
  · rw [if_neg e]; exact h j
theorem MapOk.yes {w : List UInt8} {re : List Nd} {es es' es2 : List Me} {k : Ky} (h : MapOk w re es) (hk : Qry w re k) (hg : ∀ j, getK es' j = if j = k then -1 else getK es j) (hg2 : ∀ j, getK es2 j = if j = k then 1 else getK es' j) : MapOk w re es2 := fun j => by
  rw [hg2 j]
  by_cases e : j = k
  · subst e; rw [if_pos rfl]; exact .inr (.inl ⟨rfl, hk⟩)
  · rw [if_neg e, hg j, if_neg e]; exact h j
open Classical in
noncomputable def dQ (Q : Prop) : Bool := decide Q
theorem dQ_t {Q : Prop} (h : Q) : dQ Q = true := by simp [dQ, h]
theorem dQ_f {Q : Prop} (h : ¬ Q) : dQ Q = false := by simp [dQ, h]
theorem dQ_iff {Q : Prop} : dQ Q = true ↔ Q := by simp [dQ]
theorem dQ_congr {Q R : Prop} (h : Q ↔ R) : dQ Q = dQ R := by simp [dQ, h]
theorem dQ_b {Q : Prop} {b : Bool} (h : b = true ↔ Q) : dQ Q = b := by
  cases b
  · exact dQ_f fun q => by have := h.2 q; cases this
  · exact dQ_t (h.1 rfl)
attribute [irreducible] dQ
structure AskE where
  (bRe bTx bA bS bE bM nF rF : Nat)
  (ra : Option Addr) (rc : Nat) (re : List Nd) (ta : Option Addr) (tc : Nat) (tx : List UInt8) (l : List Nat)
namespace AskE
abbrev vre (K : AskE) : Value := .slice K.ra K.re.length K.rc
abbrev vtx (K : AskE) : Value := .slice K.ta K.tx.length K.tc
abbrev ven (K : AskE) : Value := .slice (some ⟨K.bE, 0, none⟩) K.re.length K.re.length
abbrev pt (b : Nat) : Value := .pointer (some ⟨b, 0, none⟩)
abbrev cells (K : AskE) : List Value := [K.vre, K.ven, K.vtx, .map (some K.bM), .func (.func K.nF) [].toArray [pt K.bRe, pt K.bTx, pt K.bA].toArray, .func (.func K.rF) [].toArray [pt K.bA].toArray]
end AskE
open AskE
structure Env (w : World) (K : AskE) (M : List Nat) : Prop where
  p1 : RdP w K.bRe 0 [K.vre]
  p2 : RdP w K.bTx 0 [K.vtx]
  p3 : RdP w K.bA 0 [pt K.bS]
  p4 : RdP w K.bS 0 K.cells
  d1 : Rd En w K.vre K.re
  d2 : Rd Eb w K.vtx K.tx
  d3 : Rd Eix w K.ven K.l
  n1 : K.bRe ∉ M
  n2 : K.bTx ∉ M
  n3 : K.bA ∉ M
  n4 : K.bS ∉ M
  a1 : Apart M K.vre
  a2 : Apart M K.vtx
  a3 : Apart M K.ven
structure AskE.ok (K : AskE) : Prop where
  rng : ∀ x ∈ K.re, -128 ≤ x.op ∧ x.op < 128
  no8 : ∀ x ∈ K.re, ¬ x.op = 8
  len : K.re.length ≤ 1000000
  tx : K.tx.length ≤ 1000000
  ends : EndsOk K.re 0 K.l
def AnsK (K : AskE) (Q : Prop) (v : Value) (S' : Hp) : Prop := ∃ es c, v = .bool (dQ Q) ∧ S' = [(K.bM, mpO es c)] ∧ MapOk K.tx K.re es
def NodeK (P : Program) (K : AskE) (x : Nd) (ks : F) : Prop := ∀ (i i1 p q : Nat) (es : List Me) (c : Nat), Part K.re (.nd x ks .nil) i i1 → p ≤ q → q ≤ K.tx.length → MapOk K.tx K.re es →
  Fn P K.nF [.int .i64 i, .int .i64 p, .int .i64 q, pt K.bRe, pt K.bTx, pt K.bA] (fun W => Env W K [K.bM]) [(K.bM, mpO es c)] (AnsK K (der1 K.tx x ks p q))
def RestK (P : Program) (K : AskE) (k : Ky) : Prop := ∀ (es : List Me) (c : Nat), MapOk K.tx K.re es →
  Fn P K.rF [.agg (Ek k).toArray, pt K.bA] (fun W => Env W K [K.bM]) [(K.bM, mpO es c)] (AnsK K (Qry K.tx K.re k))
def FindK (P : Program) (K : AskE) (fn : Nat) (k : Ky) : Prop := ∀ (es : List Me) (c : Nat), MapOk K.tx K.re es →
  Fn P fn [pt K.bS, .agg (Ek k).toArray] (fun W => Env W K [K.bM]) [(K.bM, mpO es c)] (AnsK K (Qry K.tx K.re k))
def Grt (Q : Nat → Prop) (p q m : Nat) : Prop := p ≤ m ∧ m ≤ q ∧ Q m ∧ ∀ n, m < n → n ≤ q → ¬ Q n
def KidP (K : AskE) (Q : Nat → Prop) (p q : Nat) (v : Value) (S' : Hp) : Prop := ∃ es c, S' = [(K.bM, mpO es c)] ∧ MapOk K.tx K.re es ∧
  ((∃ m, Grt Q p q m ∧ v = .tuple #[.int .i64 m, .bool true]) ∨ ((∀ m, p ≤ m → m ≤ q → ¬ Q m) ∧ v = .tuple #[.int .i64 0, .bool false]))
def KidK (P : Program) (K : AskE) (fn : Nat) (k : Ky) (Q : Nat → Prop) (p q : Nat) : Prop := ∀ (es : List Me) (c : Nat), MapOk K.tx K.re es →
  Fn P fn [pt K.bS, .agg (Ek k).toArray] (fun W => Env W K [K.bM]) [(K.bM, mpO es c)] (KidP K Q p q)
theorem Env.out {w0 w : World} {K : AskE} {M M' : List Nat} {H : Hp} (h : Env w0 K M) (st : St w0 w M H) (hs : ∀ b ∈ M', b ∈ M) : Env w K M' := by
  have am : ∀ {v : Value}, Apart M v → Apart M' v := fun ha a n c e hz hb => ha a n c e hz (hs _ hb)
  exact ⟨(RdPK.old (κ := ⟨0, [], w0, M⟩) (H := H) h.p1 h.n1).out w st, (RdPK.old (κ := ⟨0, [], w0, M⟩) (H := H) h.p2 h.n2).out w st, (RdPK.old (κ := ⟨0, [], w0, M⟩) (H := H) h.p3 h.n3).out w st, (RdPK.old (κ := ⟨0, [], w0, M⟩) (H := H) h.p4 h.n4).out w st,
    (RdK.old (κ := ⟨0, [], w0, M⟩) (H := H) h.d1 h.a1).out w st, (RdK.old (κ := ⟨0, [], w0, M⟩) (H := H) h.d2 h.a2).out w st, (RdK.old (κ := ⟨0, [], w0, M⟩) (H := H) h.d3 h.a3).out w st,
    fun hb => h.n1 (hs _ hb), fun hb => h.n2 (hs _ hb), fun hb => h.n3 (hs _ hb), fun hb => h.n4 (hs _ hb), am h.a1, am h.a2, am h.a3⟩
end Go.HL.Kl.Mc
namespace Go.HL.Kl.Mc
open Go Go.HL Go.HL.Kl
theorem der1_1 {w : List UInt8} {x : Nd} {ks : F} {p q : Nat} (h : x.op = 1) : der1 w x ks p q ↔ q = p + 1 ∧ ∃ b, w[p]? = some b ∧ x.set.getLsbD b.toNat = true := by rw [der1_def, if_pos h]
theorem der1_2 {w : List UInt8} {x : Nd} {ks : F} {p q : Nat} (h : x.op = 2) : der1 w x ks p q ↔ p = 0 ∧ q = 0 := by rw [der1_def, if_neg (by omega), if_pos h]
theorem der1_3 {w : List UInt8} {x : Nd} {ks : F} {p q : Nat} (h : x.op = 3) : der1 w x ks p q ↔ p = w.length ∧ q = p := by rw [der1_def, if_neg (by omega), if_neg (by omega), if_pos h]
theorem der1_4 {w : List UInt8} {x : Nd} {ks : F} {p q : Nat} (h : x.op = 4 ∨ x.op = 7) : der1 w x ks p q ↔ der w ks false p q := by rw [der1_def, if_neg (by omega), if_neg (by omega), if_neg (by omega), if_neg (by omega), if_neg (by omega)]
theorem der1_5 {w : List UInt8} {x : Nd} {ks : F} {p q : Nat} (h : x.op = 5) : der1 w x ks p q ↔ der w ks true p q := by rw [der1_def, if_neg (by omega), if_neg (by omega), if_neg (by omega), if_pos h]
theorem der1_6 {w : List UInt8} {x : Nd} {ks : F} {p q : Nat} (h : x.op = 6) : der1 w x ks p q ↔ RR x (der w ks false) 0 p q := by rw [der1_def, if_neg (by omega), if_neg (by omega), if_neg (by omega), if_neg (by omega), if_pos h, rounds_RR]
theorem der_one {w : List UInt8} {y : Nd} {js : F} {p q : Nat} : der w (.nd y js .nil) false p q ↔ der1 w y js p q := by
  rw [der_cat]
  exact ⟨fun ⟨t, h1, h2⟩ => by rw [der_nil] at h2; exact h2 ▸ h1, fun h => ⟨q, h, der_nil.2 rfl⟩⟩
theorem MapOk.ans {w : List UInt8} {re : List Nd} {es : List Me} {k : Ky} (h : MapOk w re es) (h0 : getK es k ≠ 0) : decide (getK es k > 0) = dQ (Qry w re k) := by
  rcases h k with h | ⟨h, hq⟩ | ⟨h, hq⟩
  · exact absurd h h0
  · rw [dQ_t hq, h]; rfl
  · rw [dQ_f hq, h]; rfl
theorem one_kid {x : Nd} {ks : F} (hw : (F.nd x ks .nil).wf) (h : x.op = 6 ∨ x.op = 7) : ∃ y js, ks = .nd y js .nil := by
  have hok : ndOk x = true := hw.1
  have hk : (ks.num : Int) = x.kids := hw.2.1
  have h1 : x.kids = 1 := by
    simp only [ndOk, Bool.and_eq_true] at hok
    have := hok.2
    simp only [kidsOk] at this
    rcases h with h | h <;> simp [h] at this <;> omega
  cases ks with
  | nil => simp [F.num] at hk; omega
  | nd y js r =>
    cases r with
    | nil => exact ⟨y, js, rfl⟩
    | nd z a b => simp [F.num] at hk; omega
def Up (D : Nat → Nat → Prop) : Prop := ∀ p q, D p q → p ≤ q
theorem pow_up {D : Nat → Nat → Prop} (h : Up D) : ∀ k, Up (pow D k)
  | 0, p, q, e => Nat.le_of_eq e
  | k + 1, p, q, ⟨t, h1, h2⟩ => Nat.le_trans (h p t h1) (pow_up h k t q h2)
theorem RR_up {x : Nd} {D : Nat → Nat → Prop} {r : Nat} (h : Up D) : Up (RR x D r) := fun p q ⟨k, _, _, hk⟩ => pow_up h k p q hk
theorem der_up {w : List UInt8} : ∀ (f : F) (md : Bool), Up (der w f md)
  | .nil, md, p, q, h => by
    obtain ⟨_, rfl⟩ : md = false ∧ p = q := by simpa [der] using h
    exact Nat.le_refl _
  | .nd x ks r, md, p, q, h => by
    have h1 : Up (der1 w x ks) := by
      intro p q h
      rw [der1_def] at h
      split at h
      · omega
      split at h
      · omega
      split at h
      · omega
      split at h
      · exact der_up ks true p q h
      split at h
      · rw [rounds_RR] at h; exact RR_up (der_up ks false) p q h
      · exact der_up ks false p q h
    cases md with
    | false =>
      obtain ⟨t, h2, h3⟩ := der_cat.1 h
      exact Nat.le_trans (h1 p t h2) (der_up r false t q h3)
    | true =>
      rcases der_alt.1 h with h2 | h2
      · exact h1 p q h2
      · exact der_up r true p q h2
theorem der1_up {w : List UInt8} {x : Nd} {ks : F} : Up (der1 w x ks) := der_up _ _
def nxtR (x : Nd) (r : Nat) : Nat := if x.mx < 0 then min (r + 1) (max x.mn.toNat 1) else r + 1
theorem RR_nxt {x : Nd} {D : Nat → Nat → Prop} {r p q : Nat} (h : x.mx = -1 ∨ 0 ≤ x.mx) : RR x D (nxtR x r) p q ↔ RR x D (r + 1) p q := by
  unfold nxtR
  split
  · rcases Nat.le_total (r + 1) (max x.mn.toNat 1) with h1 | h1
    · rw [Nat.min_eq_left h1]
    · rw [Nat.min_eq_right h1]
      exact RR_cap (by omega) (by omega) (by omega)
  · exact Iff.rfl
theorem rep_rng {x : Nd} (hok : ndOk x = true) (h6 : x.op = 6) : 0 ≤ x.mn ∧ x.mn ≤ 255 ∧ (x.mx = -1 ∨ x.mn ≤ x.mx ∧ x.mx ≤ 255) := by
  simp only [ndOk, flds, Bool.and_eq_true] at hok
  have h := hok.1.2
  rw [if_pos h6] at h
  simpa using h
theorem kid_cat {w : List UInt8} {y : Nd} {js r : F} {p q : Nat} (h : ∀ m, p ≤ m → m ≤ q → ¬ (der1 w y js p m ∧ der w r false m q)) : ¬ der w (.nd y js r) false p q := fun hd => by
  obtain ⟨t, h1, h2⟩ := der_cat.1 hd
  exact h t (der1_up _ _ h1) (der_up _ _ _ _ h2) ⟨h1, h2⟩
theorem kid_rep {x : Nd} {D : Nat → Nat → Prop} {r p q : Nat} (hu : Up D) (hn : ¬ (p = q ∧ x.mn ≤ (r : Int))) (h : ∀ m, p ≤ m → m ≤ q → ¬ RQ x D r p q m) : ¬ RR x D r p q := fun hd => by
  rcases RR_step.1 hd with ⟨h1, h2, _⟩ | ⟨m, hm⟩
  · exact hn ⟨h1, h2⟩
  · exact h m (hu _ _ hm.2.2.1) (RR_up hu _ _ hm.2.2.2) hm
end Go.HL.Kl.Mc
