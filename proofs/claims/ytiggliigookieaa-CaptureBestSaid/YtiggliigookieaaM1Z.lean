/- Part of the proofs over this seat: see the text that holds the theorem. Conditions: each theorem bears its own. -/
import Derived.Test.YtiggliigookieaaHlB
import Derived.Test.YtiggliigookieaaKN1Z
import Derived.Test.YtiggliigookieaaKF1Z
import GoSem.Instr.MapUpdate
import GoSem.Instr.MakeMap
namespace Go.Tab
open Go Go.HL

/-- the first j places of l hold f -/
structure Fill {α : Type} (f : Nat → α) (n j : Nat) (l : List α) : Prop where
  len : l.length = n
  get : ∀ i, i < j → l[i]? = some (f i)
theorem Fill.zero {α : Type} {f : Nat → α} {l : List α} {n : Nat} (h : l.length = n) : Fill f n 0 l := ⟨h, fun _ h => by omega⟩
theorem Fill.step {α : Type} {f : Nat → α} {n j : Nat} {l : List α} (h : Fill f n j l) (hj : j < n) {y : α} (hy : y = f j) : Fill f n (j + 1) (l.set j y) := by
  refine ⟨by simp [h.len], fun i hi => ?_⟩
  subst hy
  by_cases e : j = i
  · subst e; rw [List.getElem?_set_self (by rw [h.len]; exact hj)]
  · rw [List.getElem?_set_ne e]; exact h.get i (by omega)
theorem Fill.done {α : Type} {f : Nat → α} {n j : Nat} {l : List α} (h : Fill f n j l) (hj : n ≤ j) : l = (List.range n).map f := by
  apply List.ext_getElem?
  intro i
  by_cases hi : i < n
  · rw [h.get i (by omega), List.getElem?_map, List.getElem?_range hi]; rfl
  · rw [List.getElem?_eq_none (by rw [h.len]; omega), List.getElem?_eq_none (by simp; omega)]

def idT : List UInt8 := (List.range 256).map UInt8.ofNat
def at0 (t : List UInt8) (i : Nat) : UInt8 := t.getD i 0
def thenT (t u : List UInt8) : List UInt8 := (List.range 256).map fun i => at0 u (at0 t i).toNat
def applyT (t b : List UInt8) : List UInt8 := (List.range b.length).map fun i => at0 t (at0 b i).toNat
/-- the table of the first j pairs -/
def newAt (f t : List UInt8) : Nat → Option (List UInt8)
  | 0 => some idT
  | j + 1 => if at0 f j ∈ f.take j then none else (newAt f t j).map (·.set (at0 f j).toNat (at0 t j))
def newR (f t : List UInt8) : Option (List UInt8) := if f.length = t.length then newAt f t f.length else none
def zT : List UInt8 := List.replicate 256 0
/-- what New answers -/
def tabV (r : Option (List UInt8)) : Value := .tuple #[.agg (flat Eb (r.getD zT)).toArray, .int .i64 (if r.isSome then 0 else 60)]

def xyT : List UInt8 := (idT.set 97 120).set 98 121
attribute [irreducible] idT thenT applyT xyT
end Go.Tab

/- Lists with room behind them, of any kind. Conditions: none. -/
namespace Go.HL
open Go Go.Tab
section
variable {α : Type}
def wdlF (d : Nat → α) (xs : List α) (i : Nat) : α := (xs[i]?).getD (d i)
def wdl (d : Nat → α) (xs : List α) : List α := (List.range (xs.length + 64)).map (wdlF d xs)
theorem ext_upto {a b : List α} (hl : a.length = b.length) (h : ∀ i, i < a.length → a[i]? = b[i]?) : a = b := by
  apply List.ext_getElem?
  intro i
  by_cases hi : i < a.length
  · exact h i hi
  · rw [List.getElem?_eq_none (by omega), List.getElem?_eq_none (by omega)]
attribute [irreducible] wdl wdlF
end
theorem c_knw {P : Program} {κ : Cx} {Q : Pst} {c : Code} {L : HL.Loc} {H : Hp} {p : Prop} (h : ∀ w, St κ.w0 w κ.M H → p) (k : p → C P κ Q c L H) : C P κ Q c L H :=
  ⟨fun ro a w hr ok => (k (h w ok.st)).out ro a w hr ok⟩
end Go.HL

/- Spare instructions; the node of one byte. Conditions: none. -/
namespace Go.HL.Kl.Mc
open Go Go.HL Go.HL.Kl
def spI (i : Nat) : In := ⟨0, 0, ((1048576 * 9 + i + 1 : Nat) : Int), -7⟩
/-- the node of one byte -/
def letN (b : UInt8) : Nd := ⟨1, bit b.toNat, 0, 0, 0, 0⟩
theorem En_one : En ⟨1, 0, 0, 0, 0, 0⟩ = [.int .i8 1, .int .u64 0, .int .u64 0, .int .u64 0, .int .u64 0, .int .i64 0, .int .i64 0, .int .i64 0, .int .i64 0] := by
  show _ :: (Ec 0#256 ++ _) = _
  rw [Ec_zero]; rfl
theorem letN_set (b : UInt8) : (En (⟨1, 0, 0, 0, 0, 0⟩ : Nd)).set (0 + 1 + (((b.toNat / 64 : Nat) : Int)).toNat * 1) (Ew (1#64 <<< (b.toNat % 64))) = En (letN b) := by
  have hb := b.toNat_lt
  have h := with_eq (0#256) (x := b.toNat) hb
  have h0 : ∀ i, wd 0#256 i = 0#64 := fun i => by simp [wd]
  rw [h0, BitVec.zero_or, BitVec.zero_or] at h
  show (_ :: (Ec 0#256 ++ _)).set _ _ = _ :: (Ec (bit b.toNat) ++ _)
  rw [← h, ← Ec_set _ _ (by omega), Int.toNat_natCast, show 0 + 1 + b.toNat / 64 * 1 = b.toNat / 64 + 1 by omega, List.set_cons_succ, List.set_append_left _ _ (by show b.toNat / 64 < 4; omega)]; rfl
end Go.HL.Kl.Mc

/- The known run: the machine of a* over aab. Conditions: none. -/
namespace Go.HL.Kl.Mc
open Go Go.HL Go.HL.Kl
def starN : Nd := ⟨6, 0, 0, 0, -1, 1⟩
def reW : List Nd := [starN, letN 97]
def ksW : F := .nd (letN 97) .nil .nil
def mW : List In := mach (.nd starN ksW .nil)
theorem let_ok : ndOk (letN 97) = true := by decide +kernel
theorem wfW : (F.nd starN ksW .nil).wf := ⟨by decide +kernel, rfl, ⟨let_ok, rfl, trivial, trivial⟩, trivial⟩
theorem Shp.uniq {re : List Nd} {x y : Nd} {ks js : F} (h : Shp re x ks) (h' : Shp re y js) : x = y ∧ ks = js := by
  have := flat_inj (.nd x ks .nil) (.nd y js .nil) [] [] h.wf h'.wf rfl (by simp only [F.flat, List.append_nil]; rw [← h.flat, ← h'.flat])
  simpa using this.1
def wW : List UInt8 := [97, 97, 98]
theorem En_star : En starN = [.int .i8 6, .int .u64 0, .int .u64 0, .int .u64 0, .int .u64 0, .int .i64 0, .int .i64 0, .int .i64 (-1), .int .i64 1] := by
  show _ :: (Ec 0#256 ++ _) = _
  rw [Ec_zero]; rfl
attribute [irreducible] mW
end Go.HL.Kl.Mc

/- Sets of places, made: of one node, of two sets. Conditions: none. -/
namespace Go.HL.Kl.Mc
open Go Go.HL Go.HL.Kl
/-! forests, one behind the other -/
def F.app : F → F → F
  | .nil, g => g
  | .nd x ks r, g => .nd x ks (r.app g)
theorem F.num_app : ∀ f g : F, (f.app g).num = f.num + g.num
  | .nil, g => by simp [F.app, F.num]
  | .nd x ks r, g => by simp only [F.app, F.num, F.num_app r g]; omega
theorem F.flat_app : ∀ f g : F, (f.app g).flat = f.flat ++ g.flat
  | .nil, g => by simp [F.app, F.flat]
  | .nd x ks r, g => by simp [F.app, F.flat, F.flat_app r g]
theorem F.size_app : ∀ f g : F, (f.app g).size = f.size + g.size
  | .nil, g => by simp [F.app, F.size]
  | .nd x ks r, g => by simp only [F.app, F.size, F.size_app r g]; omega
theorem F.wf_app : ∀ {f g : F}, f.wf → g.wf → (f.app g).wf
  | .nil, g, _, h => h
  | .nd x ks r, g, ⟨a, b, c, d⟩, h => ⟨a, b, c, F.wf_app d h⟩
theorem Part.down {re : List Nd} {y : Nd} {js r : F} {p i' : Nat} (h : Part re (.nd y js r) p i') : Part re (js.app r) (p + 1) i' := by
  obtain ⟨_, h1, h2⟩ := h.head
  have hl := h.len
  simp only [F.size] at hl
  exact ⟨F.wf_app h1.wf h2.wf, by rw [h1.flat, h2.flat, F.flat_app, List.append_assoc], by rw [F.size_app]; omega, h.le⟩
theorem F.num_nil {f : F} (h : f.num = 0) : f = .nil := by
  cases f with
  | nil => rfl
  | nd x ks r => simp [F.num] at h
/-! lists of booleans -/
def bo0 (l : List Bool) (i : Nat) : Bool := l.getD i false
def orF (a b : List Bool) (i : Nat) : Bool := bo0 a i || bo0 b i
def orL (a b : List Bool) : List Bool := (List.range a.length).map (orF a b)
/-- is there one of b that is not of a, among the first k? -/
def moreTo (a b : List Bool) (k : Nat) : Bool := (List.range k).any fun i => bo0 b i && !bo0 a i
def moreB (a b : List Bool) : Bool := moreTo a b a.length
/-- how many are not in the set -/
def cf (l : List Bool) : Nat := (List.range l.length).countP fun i => !bo0 l i
structure SetP (w : List UInt8) (s : Cl) (fr : List Bool) (j : Nat) (out : List Bool) : Prop where
  len : out.length = w.length + 1
  get : ∀ q : Nat, out[q]? = some true ↔ ∃ p, p < j ∧ q = p + 1 ∧ fr[p]? = some true ∧ ∃ b, w[p]? = some b ∧ s.getLsbD b.toNat = true
def OutP (N : Nat) (S : Nat → Prop) (vf : Value) (fr : List Bool) (v : Value) (S' : Hp) : Prop :=
  ∃ (a : Option Addr) (c : Nat) (l : List Bool), v = .slice a l.length c ∧ IsS l N S ∧ ∀ W : World, (∀ b o, (b, o) ∈ S' → W.heap[b]? = some o) → Rd Ebo W vf fr → Rd Ebo W v l
/-- the contract of over and of rounds -/
def OverC (P : Program) (fn : Nat) (w : List UInt8) (x : Nd) (ks : F) : Prop := ∀ (ra : Option Addr) (rc : Nat) (re : List Nd) (ta : Option Addr) (tc i i' : Nat) (fa : Option Addr) (fc : Nat) (fr : List Bool) (S : Nat → Prop),
  (∀ x ∈ re, -128 ≤ x.op ∧ x.op < 128) → (∀ x ∈ re, ¬ x.op = 8) → w.length ≤ 1000000 → Part re (.nd x ks .nil) i i' → IsS fr w.length S → (∀ p, S p → p ≤ w.length) →
  Fn P fn [.slice ra re.length rc, .int .i64 i, .slice ta w.length tc, .slice fa fr.length fc] (fun W => Rd En W (.slice ra re.length rc) re ∧ Rd Eb W (.slice ta w.length tc) w ∧ Rd Ebo W (.slice fa fr.length fc) fr) [] (OutP w.length (img (der1 w x ks) S) (.slice fa fr.length fc) fr)
/-- read, given a part of the heap and what was handed in -/
def RdC (vf : Value) (fr : List Bool) (v : Value) (l : List Bool) (S : Hp) : Prop := ∀ W : World, (∀ b o, (b, o) ∈ S → W.heap[b]? = some o) → Rd Ebo W vf fr → Rd Ebo W v l
end Go.HL.Kl.Mc

/- Runs and derivations lead to the same places. Conditions: none. -/
namespace Go.HL.Kl.Mc
open Go Go.HL Go.HL.Kl
theorem no_refs {re : List Nd} (hs : shapedB re = true) (hr : refsB re = false) : ∀ x ∈ re, ¬ x.op = 8 := fun x hx h8 => by rw [refs_yes hs hx h8] at hr; cases hr
end Go.HL.Kl.Mc

/- Maps from structs of four numbers to small numbers. Conditions: none. -/
namespace Go.HL
open Go
structure Ky where
  a : Int
  b : Int
  c : Int
  d : Int
  deriving DecidableEq
def Ek (k : Ky) : List Value := [.int .i64 k.a, .int .i64 k.b, .int .i64 k.c, .int .i64 k.d]
instance : Enc Ek 4 := ⟨fun _ => rfl, fun x v hv => by
  simp only [Ek, List.mem_cons, List.not_mem_nil, or_false] at hv
  rcases hv with rfl | rfl | rfl | rfl <;> rfl⟩
structure Me where
  k : Ky
  v : Int
  born : Nat
def Me.enc (e : Me) : MapEntry := { key := .agg (Ek e.k).toArray, val := .int .i8 e.v, born := e.born }
def mpO (es : List Me) (c : Nat) : Obj := .map (es.map Me.enc).toArray c
def getK (es : List Me) (k : Ky) : Int := ((es.find? (fun e => decide (k = e.k))).map (·.v)).getD 0
def putAt (v : Int) : List Me → Ky → List Me
  | [], _ => []
  | e :: es, k => if k = e.k then { e with v := v } :: es else e :: putAt v es k
theorem getK_nil (k : Ky) : getK [] k = 0 := rfl
theorem getK_cons (e : Me) (es : List Me) (k : Ky) : getK (e :: es) k = if k = e.k then e.v else getK es k := by
  unfold getK
  by_cases h : k = e.k <;> simp [List.find?_cons, h]
theorem getK_push {es : List Me} {k : Ky} (hn : ∀ e ∈ es, k ≠ e.k) (v : Int) (n : Nat) (j : Ky) : getK (es ++ [⟨k, v, n⟩]) j = if j = k then v else getK es j := by
  induction es with
  | nil => simp [getK_cons, getK_nil]
  | cons e es ih =>
    rw [List.cons_append, getK_cons, getK_cons, ih (fun e' h => hn e' (List.mem_cons_of_mem _ h))]
    by_cases h : j = k
    · subst h; rw [if_neg (hn e List.mem_cons_self)]; simp
    · simp [h]
theorem getK_put {es : List Me} {k : Ky} (h : ∃ e ∈ es, k = e.k) (v : Int) (j : Ky) : getK (putAt v es k) j = if j = k then v else getK es j := by
  induction es with
  | nil => obtain ⟨e, he, _⟩ := h; cases he
  | cons e es ih =>
    unfold putAt
    by_cases hk : k = e.k
    · rw [if_pos hk, getK_cons, getK_cons]
      by_cases hj : j = k
      · simp [hj, hk]
      · rw [if_neg (by simp; rw [← hk]; exact hj), if_neg hj, if_neg (by rw [← hk]; exact hj)]
    · rw [if_neg hk, getK_cons, getK_cons, ih (by
        obtain ⟨e', he, hk'⟩ := h
        rcases List.mem_cons.1 he with rfl | he
        · exact absurd hk' hk
        · exact ⟨e', he, hk'⟩)]
      by_cases hj : j = k
      · subst hj; rw [if_neg hk]; simp
      · simp [hj]
section
variable {P : Program} {κ : Cx} {Q : Pst} {L : Loc} {H H' : Hp} {ops : Array Oper} {rest : List Oper} {ty t t' : TypeId} {d : Nat} {pos : String} {af : Array Edge} {x y z : Operand}
theorem ky_fq {e : Nat} [TU P e (.int .i64)] [TG P e true] (w : World) (p q : Ky) : FQ P w 9998 (Ek p).toArray (Ek q).toArray [(e, 0), (e, 1), (e, 2), (e, 3)] (decide (p = q)) := by
  have h : FQ P w 9998 (Ek p).toArray (Ek q).toArray [(e, 0), (e, 1), (e, 2), (e, 3)] _ :=
    .int (j := .i64) (p := p.a) (q := q.a) rfl rfl (.int (j := .i64) (p := p.b) (q := q.b) rfl rfl (.int (j := .i64) (p := p.c) (q := q.c) rfl rfl (.int (j := .i64) (p := p.d) (q := q.d) rfl rfl .nil)))
  have e : (p.a == q.a && (p.b == q.b && (p.c == q.c && (p.d == q.d && true)))) = decide (p = q) := by
    cases p; cases q
    simp only [Ky.mk.injEq, Bool.and_true]
    rw [Bool.eq_iff_iff]
    simp
  rw [← e]; exact h
theorem ky_eq {e : Nat} [TU P e (.int .i64)] [TG P e true] [TQ P t [(e, 0), (e, 1), (e, 2), (e, 3)]] (w : World) (p q : Ky) : (Op.equal t (.agg (Ek p).toArray) (.agg (Ek q).toArray)).run P w = .ok (decide (p = q)) w := by
  have h : ∀ w, (Op.equalIn (9998 + 2) t (.agg (Ek p).toArray) (.agg (Ek q).toArray)).run P w = .ok (decide (p = q)) w := fun w => re_struct (ky_fq w p q)
  exact h w
theorem ky_struct {l : List (Nat × Nat)} [tq : TQ P t l] : ∃ fs : Array Field, P.underlying t = some (.struct fs) ∧ fs.toList.map (fun f => (f.type, f.offset)) = l := by
  have hq := tq.out
  cases hu : P.underlying t with
  | none => simp [hu] at hq
  | some D =>
    rw [hu] at hq
    cases D
    case struct fs =>
      simp only [Option.bind_some, fieldsOf] at hq
      split at hq
      case isFalse => cases hq
      case isTrue hc =>
        simp only [Option.some.injEq] at hq
        exact ⟨fs, rfl, hq⟩
    all_goals simp [fieldsOf] at hq
theorem forIn_ok {β : Type} {f : β → PUnit → Sem (ForInStep PUnit)} {w : World} : ∀ {l : List β}, (∀ x ∈ l, (f x ⟨⟩).run P w = .ok (.yield ⟨⟩) w) → (forIn (m := Sem) l PUnit.unit f).run P w = .ok ⟨⟩ w := by
  intro l
  induction l with
  | nil => intro _; simp
  | cons x l ih =>
    intro h
    rw [List.forIn_cons, Sem.run_bind, h x List.mem_cons_self, Result.andThen_ok]
    exact ih fun y hy => h y (List.mem_cons_of_mem _ hy)
theorem checkInt {e n : Nat} {b : Bool} {v : Value} [TU P e (.int .i64)] (w : World) : (Instr.checkKey b (n + 1) e v).run P w = .ok () w := by
  unfold Instr.checkKey
  rw [Sem.run_bind, run_u, Result.andThen_ok]
  cases v <;> simp
theorem ky_check {e : Nat} {b : Bool} [TU P e (.int .i64)] [TG P e true] [TQ P t [(e, 0), (e, 1), (e, 2), (e, 3)]] (w : World) (k : Ky) : (Instr.checkKey b 10000 t (.agg (Ek k).toArray)).run P w = .ok () w := by
  obtain ⟨fs, hu, hl⟩ := ky_struct (P := P) (t := t) (l := [(e, 0), (e, 1), (e, 2), (e, 3)])
  show (Instr.checkKey b (9998 + 2) t (.agg (Ek k).toArray)).run P w = .ok () w
  unfold Instr.checkKey
  rw [Sem.run_bind, run_underlying hu, Result.andThen_ok]
  simp only []
  rw [← Array.forIn_toList, Sem.run_bind]
  refine (congrArg (fun r => Result.andThen r _) (forIn_ok fun f hf => ?_)).trans (by simp)
  have hm : (f.type, f.offset) ∈ [(e, 0), (e, 1), (e, 2), (e, 3)] := by rw [← hl]; exact List.mem_map.2 ⟨f, hf, rfl⟩
  have hp : f.type = e ∧ ∃ v, (Ek k).toArray[f.offset]? = some v := by
    simp only [List.mem_cons, Prod.mk.injEq, List.not_mem_nil, or_false] at hm
    rcases hm with ⟨h1, h2⟩ | ⟨h1, h2⟩ | ⟨h1, h2⟩ | ⟨h1, h2⟩ <;> exact ⟨h1, by rw [h2]; exact ⟨_, rfl⟩⟩
  obtain ⟨h1, v, hv⟩ := hp
  rw [h1]
  have hpp := part_plain (P := P) (e := e) (w := w) hv
  split
  · simp only [Sem.run_bind, hpp, Result.andThen_ok, checkInt, Sem.run_pure]
  · simp
theorem find_ask {e : Nat} [TU P e (.int .i64)] [TG P e true] [TQ P t [(e, 0), (e, 1), (e, 2), (e, 3)]] (w : World) (k : Ky) : ∀ (es : List Me) (i : Nat), ∃ r, (Instr.findAsking t (.agg (Ek k).toArray) (es.map Me.enc) i).run P w = .ok r w ∧
    ((r = none ∧ ∀ e ∈ es, k ≠ e.k) ∨ ∃ j v, r = some (i + j, .int .i8 v) ∧ v = getK es k ∧ (∃ e, es[j]? = some e ∧ k = e.k) ∧ ∀ u, (es.map Me.enc).toArray.modify j (fun e => { e with val := .int .i8 u, key := .agg (Ek k).toArray }) = ((putAt u es k).map Me.enc).toArray) := by
  intro es
  induction es with
  | nil => intro i; exact ⟨none, by simp [Instr.findAsking], .inl ⟨rfl, fun e h => by cases h⟩⟩
  | cons e es ih =>
    intro i
    simp only [List.map_cons]
    unfold Instr.findAsking
    rw [Sem.run_bind]
    have he := ky_eq (P := P) (t := t) w k e.k
    rw [show e.enc.key = .agg (Ek e.k).toArray from rfl, he, Result.andThen_ok]
    by_cases h : k = e.k
    · refine ⟨some (i, .int .i8 e.v), by simp [h, Me.enc], .inr ⟨0, e.v, by simp, by rw [getK_cons, if_pos h], ⟨e, rfl, h⟩, fun u => ?_⟩⟩
      apply Array.ext'
      rw [Array.toList_modify]
      simp [putAt, h, Me.enc]
    · obtain ⟨r, hr, hc⟩ := ih (i + 1)
      refine ⟨r, by simp [h, hr], ?_⟩
      rcases hc with ⟨h1, h2⟩ | ⟨j, v, h1, h2, ⟨e', he', hk⟩, h4⟩
      · exact .inl ⟨h1, fun e' he' => by rcases List.mem_cons.1 he' with rfl | he'; exact h; exact h2 e' he'⟩
      · refine .inr ⟨j + 1, v, by rw [h1]; congr 2; omega, by rw [getK_cons, if_neg h, h2], ⟨e', by simpa using he', hk⟩, fun u => ?_⟩
        have := congrArg Array.toList (h4 u)
        rw [Array.toList_modify] at this
        apply Array.ext'
        rw [Array.toList_modify]
        simp only [putAt, if_neg h, List.map_cons, List.modify_succ_cons]
        rw [show (List.map Me.enc es).modify j _ = _ from this]
theorem find_key {e : Nat} [TU P e (.int .i64)] [TG P e true] [TQ P t [(e, 0), (e, 1), (e, 2), (e, 3)]] (w : World) (k : Ky) (es : List Me) : ∃ r, (Instr.findKey t (.agg (Ek k).toArray) (es.map Me.enc)).run P w = .ok r w ∧
    ((r = none ∧ ∀ e ∈ es, k ≠ e.k) ∨ ∃ j v, r = some (j, .int .i8 v) ∧ v = getK es k ∧ (∃ e, es[j]? = some e ∧ k = e.k) ∧ ∀ u, (es.map Me.enc).toArray.modify j (fun e => { e with val := .int .i8 u, key := .agg (Ek k).toArray }) = ((putAt u es k).map Me.enc).toArray) := by
  obtain ⟨fs, hu, hl⟩ := ky_struct (P := P) (t := t) (l := [(e, 0), (e, 1), (e, 2), (e, 3)])
  obtain ⟨r, hr, hc⟩ := find_ask (P := P) (t := t) w k es 0
  refine ⟨r, ?_, by simpa using hc⟩
  unfold Instr.findKey
  rw [Sem.run_bind, run_underlying hu, Result.andThen_ok]
  cases es with
  | nil =>
    simp only [List.map_nil, Instr.findNow]
    simpa [Instr.findAsking] using hr
  | cons e es =>
    have hn : Instr.findNow (.struct fs) (.agg (Ek k).toArray) ((e :: es).map Me.enc) 0 = none := by
      simp [Instr.findNow, Instr.sameNow]
    rw [hn]
    exact hr
theorem getK_none {es : List Me} {k : Ky} (h : ∀ e ∈ es, k ≠ e.k) : getK es k = 0 := by
  induction es with
  | nil => rfl
  | cons e es ih => rw [getK_cons, if_neg (h e List.mem_cons_self)]; exact ih fun e' he => h e' (List.mem_cons_of_mem _ he)
theorem run_getObj {w : World} {b c : Nat} {es : List Me} (h : w.heap[b]? = some (mpO es c)) : (getObj b).run P w = .ok (mpO es c) w := by
  simp [getObj, Sem.run, h, mpO]
theorem run_setObj {w : World} {b c : Nat} {es : List Me} (hb : w.heap[b]? = some (mpO es c)) (o : Obj) : (setObj b o).run P w = .ok () { w with heap := w.heap.setIfInBounds b o } := by
  simp [setObj, Sem.run, hb, mpO]
theorem s_look {kt vt e b c : Nat} {es : List Me} {k : Ky} [TU P t (.map kt vt)] [TU P e (.int .i64)] [TG P e true] [TQ P kt [(e, 0), (e, 1), (e, 2), (e, 3)]] [tz : TZ P vt (.int .i8 0)] (hx : ev L x = some (.map (some b))) (hy : ev L y = some (.agg (Ek k).toArray)) (hm : (b, mpO es c) ∈ H) :
    Step P κ (.lookup t x y false) ty L H (.int .i8 (getK es k)) :=
  ⟨fun ρ w d pos af g hρ st => by
    have ho := run_getObj (P := P) (st.has _ _ hm)
    obtain ⟨r, hr, hc⟩ := find_key (P := P) (t := kt) w k es
    have hck := fun b => ky_check (P := P) (t := kt) (b := b) w k
    have hl : (Instr.lookup t (.map (some b)) (.agg (Ek k).toArray) false).run P w = .ok (.int .i8 (getK es k)) w := by
      unfold Instr.lookup
      simp only [Sem.run_bind, run_u, Result.andThen_ok, ho, mpO, hck, Sem.run_pure]
      rw [hr]
      rcases hc with ⟨h1, h2⟩ | ⟨j, v, h1, h2, _⟩
      · subst h1
        rw [getK_none h2]
        simp [run_zero]
      · subst h1; subst h2
        simp
    simp [execOp, hρ _ _ hx, hρ _ _ hy, hl]⟩
theorem sameBits_ky (k : Ky) : Instr.sameBits 10000 (.agg (Ek k).toArray) (.agg (Ek k).toArray) = true := by
  show Instr.sameBits (9999 + 1) _ _ = true
  simp [Instr.sameBits, Ek]
theorem o_mset {kt vt e b c : Nat} {es : List Me} {k : Ky} {u : Int} {R : Hp} [TU P t (.map kt vt)] [TU P e (.int .i64)] [TG P e true] [TQ P kt [(e, 0), (e, 1), (e, 2), (e, 3)]] (hx : ev L x = some (.map (some b))) (hy : ev L y = some (.agg (Ek k).toArray)) (hz : ev L z = some (.int .i8 u))
    (hpk : Pick H [(b, mpO es c)] R) (h : ∀ es' c', (∀ j, getK es' j = if j = k then u else getK es j) → O P κ ops Q rest L ((b, mpO es' c') :: R)) : O P κ ops Q (⟨none, .mapUpdate t x y z, ty, pos, af, none⟩ :: rest) L H := by
  refine ⟨fun ro a w hro ok => op_want rfl ?_⟩
  have e1 := ok.fr.ev hx
  have e2 := ok.fr.ev hy
  have e3 := ok.fr.ev hz
  have st := ok.st.perm hpk.perm
  have ho := run_getObj (P := P) (st.has _ _ (List.mem_cons_self))
  obtain ⟨r, hr, hc⟩ := find_key (P := P) (t := kt) w k es
  have hck := fun b => ky_check (P := P) (t := kt) (b := b) w k
  have key : ∃ es' c', (Instr.mapUpdate t (.map (some b)) (.agg (Ek k).toArray) (.int .i8 u)).run P w = .ok () { w with heap := w.heap.setIfInBounds b (mpO es' c') } ∧ ∀ j, getK es' j = if j = k then u else getK es j := by
    rcases hc with ⟨h1, h2⟩ | ⟨j, v, h1, h2, ⟨e', he', hk⟩, h4⟩
    · refine ⟨es ++ [⟨k, u, c⟩], c + 1, ?_, fun j => getK_push h2 u c j⟩
      subst h1
      unfold Instr.mapUpdate
      simp only [Sem.run_bind, run_u, Result.andThen_ok, ho, mpO, hck, hr]
      have e9 : (List.map Me.enc es).toArray.push { key := .agg (Ek k).toArray, val := .int .i8 u, born := c } = (List.map Me.enc (es ++ [⟨k, u, c⟩])).toArray := by
        simp [Me.enc]
      exact e9 ▸ run_setObj (hb := st.has _ _ List.mem_cons_self) _
    · refine ⟨putAt u es k, c, ?_, fun i => getK_put ⟨e', List.mem_of_getElem? he', hk⟩ u i⟩
      subst h1
      unfold Instr.mapUpdate
      simp only [Sem.run_bind, run_u, Result.andThen_ok, ho, mpO, hck, hr]
      have e8 : ((Option.map (fun x => x.key) (List.map Me.enc es).toArray[j]?).getD (Value.agg (Ek k).toArray)) = .agg (Ek k).toArray := by
        rw [List.getElem?_toArray, List.getElem?_map, he']
        simp [Me.enc, hk]
      simp only [Instr.keyThatStays, e8, sameBits_ky, if_true, Sem.run_pure, Result.andThen_ok, h4]
      exact run_setObj (hb := st.has _ _ List.mem_cons_self) _
  obtain ⟨es', c', hrun, hg⟩ := key
  have : (execOp a.eval ⟨none, .mapUpdate t x y z, ty, pos, af, none⟩).run P w = .ok .skip { w with heap := w.heap.setIfInBounds b (mpO es' c') } := by
    simp [execOp, e1, e2, e3, hrun]
  exact op_skip this ((h es' c' hg).out ro _ _ hro.tail ⟨ok.fr, st.put rfl rfl rfl rfl⟩)
theorem o_mmap (hn : Nat.blt d κ.n = true) (h : ∀ b, O P κ ops Q rest ((d, .map (some b)) :: L) ((b, mpO [] 0) :: H)) : O P κ ops Q (⟨some d, .makeMap t none, ty, pos, af, none⟩ :: rest) L H :=
  o_gen (fun u H' => ∃ b, u = .map (some b) ∧ H' = (b, mpO [] 0) :: H) hn
    (fun ρ w pos af g hρ st => ⟨_, _, _, by simp [execOp, Instr.makeMap, newObj, Sem.run, mpO], ⟨_, rfl, rfl⟩, st.alloc _⟩)
    (fun u H' ⟨b, hu, hH⟩ => by subst hu; subst hH; exact h b)
end
end Go.HL

/- Mathematics of captures: the questions, what is known. Conditions: none. -/
namespace Go.HL.Kl.Mc
open Go Go.HL Go.HL.Kl
theorem Part.uniqF {re : List Nd} : ∀ (f g : F) (i e : Nat), Part re f i e → Part re g i e → f = g
  | .nil, .nil, _, _, _, _ => rfl
  | .nil, .nd y js s, i, e, h, h' => by have h1 := h.len; have h2 := h'.len; simp only [F.size] at h1 h2; omega
  | .nd x ks r, .nil, i, e, h, h' => by have h1 := h.len; have h2 := h'.len; simp only [F.size] at h1 h2; omega
  | .nd x ks r, .nd y js s, i, e, h, h' => by
    have hk := h.uniq h'
    subst hk
    obtain ⟨h0, _, hr⟩ := h.head
    obtain ⟨h0', _, hr'⟩ := h'.head
    obtain rfl : x = y := by rw [h0] at h0'; exact Option.some.inj h0'
    rw [Part.uniqF r s _ _ hr hr']
theorem Part.uniq1 {re : List Nd} {x y : Nd} {ks js : F} {i e e' : Nat} (h : Part re (.nd x ks .nil) i e) (h' : Part re (.nd y js .nil) i e') : x = y ∧ ks = js ∧ e = e' := by
  have hk := h.uniq h'
  subst hk
  obtain ⟨h0, _, _⟩ := h.head
  obtain ⟨h0', _, _⟩ := h'.head
  have hl := h.len
  have hl' := h'.len
  exact ⟨by rw [h0] at h0'; exact Option.some.inj h0', rfl, by simp only [F.size] at hl hl'; omega⟩
/-- rounds, when there were r -/
def RR (x : Nd) (D : Nat → Nat → Prop) (r p q : Nat) : Prop := ∃ k : Nat, x.mn ≤ ((r + k : Nat) : Int) ∧ (x.mx = -1 ∨ ((r + k : Nat) : Int) ≤ x.mx) ∧ pow D k p q
/-- the end of the next round can be m -/
def RQ (x : Nd) (D : Nat → Nat → Prop) (r p q m : Nat) : Prop := (x.mx = -1 ∨ (r : Int) < x.mx) ∧ (m ≠ p ∨ (r : Int) < x.mn ∨ r = 0) ∧ D p m ∧ RR x D (r + 1) m q
theorem rounds_RR {x : Nd} {D : Nat → Nat → Prop} {p q : Nat} : rounds x D p q ↔ RR x D 0 p q := by simp [rounds, RR]
theorem RR_cap {x : Nd} {D : Nat → Nat → Prop} {r s p q : Nat} (h1 : x.mx = -1) (h2 : x.mn ≤ (r : Int)) (h3 : x.mn ≤ (s : Int)) : RR x D r p q ↔ RR x D s p q :=
  ⟨fun ⟨k, _, _, hk⟩ => ⟨k, by omega, .inl h1, hk⟩, fun ⟨k, _, _, hk⟩ => ⟨k, by omega, .inl h1, hk⟩⟩
theorem RR_step {x : Nd} {D : Nat → Nat → Prop} {r q : Nat} : ∀ {p : Nat}, RR x D r p q ↔ (p = q ∧ x.mn ≤ (r : Int) ∧ (x.mx = -1 ∨ (r : Int) ≤ x.mx)) ∨ ∃ m, RQ x D r p q m := by
  have hf : ∀ k p, x.mn ≤ ((r + k : Nat) : Int) → (x.mx = -1 ∨ ((r + k : Nat) : Int) ≤ x.mx) → pow D k p q → (p = q ∧ x.mn ≤ (r : Int) ∧ (x.mx = -1 ∨ (r : Int) ≤ x.mx)) ∨ ∃ m, RQ x D r p q m := by
    intro k
    induction k with
    | zero => intro p h1 h2 h; exact .inl ⟨h, by simpa using h1, by simpa using h2⟩
    | succ k ih =>
      intro p h1 h2 ⟨m, hm, hk⟩
      by_cases hc : m ≠ p ∨ (r : Int) < x.mn ∨ r = 0
      · exact .inr ⟨m, by omega, hc, hm, k, by rw [show r + 1 + k = r + (k + 1) by omega]; exact h1, by rw [show r + 1 + k = r + (k + 1) by omega]; exact h2, hk⟩
      · obtain ⟨rfl, h3⟩ : m = p ∧ ¬ (r : Int) < x.mn := by
          refine ⟨?_, fun h => hc (.inr (.inl h))⟩
          exact Classical.byContradiction fun h => hc (.inl h)
        exact ih m (by omega) (by omega) hk
  intro p
  constructor
  · rintro ⟨k, h1, h2, h⟩; exact hf k p h1 h2 h
  · rintro (⟨rfl, h1, h2⟩ | ⟨m, h1, h2, h3, k, h4, h5, h6⟩)
    · exact ⟨0, by simpa using h1, by simpa using h2, rfl⟩
    · exact ⟨k + 1, by rw [show r + (k + 1) = r + 1 + k by omega]; exact h4, by rw [show r + (k + 1) = r + 1 + k by omega]; exact h5, m, h3, h6⟩
/-- the questions that are answered yes -/
inductive Qry (w : List UInt8) (re : List Nd) : Ky → Prop
  | alt {x : Nd} {ks : F} {i i1 p q : Nat} (hp : Part re (.nd x ks .nil) i i1) (h5 : x.op = 5) (h : der w ks true p q) : Qry w re ⟨i, -1, p, q⟩
  | cat {x : Nd} {ks g : F} {i i1 m p q : Nat} (hp : Part re (.nd x ks .nil) i i1) (h4 : x.op = 4) (hg : Part re g m i1) (h : der w g false p q) : Qry w re ⟨i, m, p, q⟩
  | rep {x : Nd} {ks : F} {i i1 r p q : Nat} (hp : Part re (.nd x ks .nil) i i1) (h6 : x.op = 6) (h : RR x (der w ks false) r p q) : Qry w re ⟨i, r, p, q⟩
theorem Qry_alt {w : List UInt8} {re : List Nd} {x : Nd} {ks : F} {i i1 p q : Nat} (hp : Part re (.nd x ks .nil) i i1) (h5 : x.op = 5) : Qry w re ⟨i, -1, p, q⟩ ↔ der w ks true p q := by
  refine ⟨fun h => ?_, fun h => .alt hp h5 h⟩
  generalize hk : (⟨i, -1, p, q⟩ : Ky) = k at h
  cases h <;> simp only [Ky.mk.injEq] at hk
  case alt x' ks' i' i1' p' q' hp' h5' h' =>
    obtain ⟨h1, _, h2, h3⟩ := hk
    obtain rfl : i = i' := by omega
    obtain rfl : p = p' := by omega
    obtain rfl : q = q' := by omega
    obtain ⟨rfl, rfl, rfl⟩ := hp.uniq1 hp'
    exact h'
  all_goals omega
theorem Qry_cat {w : List UInt8} {re : List Nd} {x : Nd} {ks g : F} {i i1 m p q : Nat} (hp : Part re (.nd x ks .nil) i i1) (h4 : x.op = 4) (hg : Part re g m i1) : Qry w re ⟨i, m, p, q⟩ ↔ der w g false p q := by
  refine ⟨fun h => ?_, fun h => .cat hp h4 hg h⟩
  generalize hk : (⟨i, m, p, q⟩ : Ky) = k at h
  cases h <;> simp only [Ky.mk.injEq] at hk
  case cat x' ks' g' i' i1' m' p' q' hp' h4' hg' h' =>
    obtain ⟨h1, h0, h2, h3⟩ := hk
    obtain rfl : i = i' := by omega
    obtain rfl : p = p' := by omega
    obtain rfl : q = q' := by omega
    obtain rfl : m = m' := by omega
    obtain ⟨rfl, rfl, rfl⟩ := hp.uniq1 hp'
    rw [Part.uniqF g g' _ _ hg hg']; exact h'
  case alt => omega
  case rep x' ks' i' i1' r' p' q' hp' h6' h' =>
    obtain ⟨h1, h0, h2, h3⟩ := hk
    obtain rfl : i = i' := by omega
    obtain ⟨rfl, rfl, rfl⟩ := hp.uniq1 hp'
    omega
theorem Qry_rep {w : List UInt8} {re : List Nd} {x : Nd} {ks : F} {i i1 r p q : Nat} (hp : Part re (.nd x ks .nil) i i1) (h6 : x.op = 6) : Qry w re ⟨i, r, p, q⟩ ↔ RR x (der w ks false) r p q := by
  refine ⟨fun h => ?_, fun h => .rep hp h6 h⟩
  generalize hk : (⟨i, r, p, q⟩ : Ky) = k at h
  cases h <;> simp only [Ky.mk.injEq] at hk
  case rep x' ks' i' i1' r' p' q' hp' h6' h' =>
    obtain ⟨h1, h0, h2, h3⟩ := hk
    obtain rfl : i = i' := by omega
    obtain rfl : p = p' := by omega
    obtain rfl : q = q' := by omega
    obtain rfl : r = r' := by omega
    obtain ⟨rfl, rfl, rfl⟩ := hp.uniq1 hp'
    exact h'
  case alt => omega
  case cat x' ks' g' i' i1' m' p' q' hp' h4' hg' h' =>
    obtain ⟨h1, h0, h2, h3⟩ := hk
    obtain rfl : i = i' := by omega
    obtain ⟨rfl, rfl, rfl⟩ := hp.uniq1 hp'
    omega
/-- what is known is true -/
def MapOk (w : List UInt8) (re : List Nd) (es : List Me) : Prop := ∀ k, getK es k = 0 ∨ (getK es k = 1 ∧ Qry w re k) ∨ (getK es k = -1 ∧ ¬ Qry w re k)
theorem MapOk.nil {w : List UInt8} {re : List Nd} : MapOk w re [] := fun _ => .inl rfl
theorem MapOk.no {w : List UInt8} {re : List Nd} {es es' : List Me} {k : Ky} (h : MapOk w re es) (hk : ¬ Qry w re k) (hg : ∀ j, getK es' j = if j = k then -1 else getK es j) : MapOk w re es' := fun j => by
  rw [hg j]
  by_cases e : j = k
  · subst e; rw [if_pos rfl]; exact .inr (.inr ⟨rfl, hk⟩)
  · rw [if_neg e]; exact h j
theorem MapOk.yes {w : List UInt8} {re : List Nd} {es es' es2 : List Me} {k : Ky} (h : MapOk w re es) (hk : Qry w re k) (hg : ∀ j, getK es' j = if j = k then -1 else getK es j) (hg2 : ∀ j, getK es2 j = if j = k then 1 else getK es' j) : MapOk w re es2 := fun j => by
  rw [hg2 j]
  by_cases e : j = k
  · subst e; rw [if_pos rfl]; exact .inr (.inl ⟨rfl, hk⟩)
  · rw [if_neg e, hg j, if_neg e]; exact h j
open Classical in
noncomputable def dQ (Q : Prop) : Bool := decide Q
theorem dQ_t {Q : Prop} (h : Q) : dQ Q = true := by simp [dQ, h]
theorem dQ_f {Q : Prop} (h : ¬ Q) : dQ Q = false := by simp [dQ, h]
theorem dQ_iff {Q : Prop} : dQ Q = true ↔ Q := by simp [dQ]
theorem dQ_congr {Q R : Prop} (h : Q ↔ R) : dQ Q = dQ R := by simp [dQ, h]
theorem dQ_b {Q : Prop} {b : Bool} (h : b = true ↔ Q) : dQ Q = b := by
  cases b
  · exact dQ_f fun q => by have := h.2 q; cases this
  · exact dQ_t (h.1 rfl)
attribute [irreducible] dQ
/-- an asker and what it holds -/
structure AskE where
  (bRe bTx bA bS bE bM nF rF : Nat)
  (ra : Option Addr) (rc : Nat) (re : List Nd) (ta : Option Addr) (tc : Nat) (tx : List UInt8) (l : List Nat)
namespace AskE
abbrev vre (K : AskE) : Value := .slice K.ra K.re.length K.rc
abbrev vtx (K : AskE) : Value := .slice K.ta K.tx.length K.tc
abbrev ven (K : AskE) : Value := .slice (some ⟨K.bE, 0, none⟩) K.re.length K.re.length
abbrev pt (b : Nat) : Value := .pointer (some ⟨b, 0, none⟩)
abbrev cells (K : AskE) : List Value := [K.vre, K.ven, K.vtx, .map (some K.bM), .func (.func K.nF) [].toArray [pt K.bRe, pt K.bTx, pt K.bA].toArray, .func (.func K.rF) [].toArray [pt K.bA].toArray]
end AskE
open AskE
structure Env (w : World) (K : AskE) (M : List Nat) : Prop where
  p1 : RdP w K.bRe 0 [K.vre]
  p2 : RdP w K.bTx 0 [K.vtx]
  p3 : RdP w K.bA 0 [pt K.bS]
  p4 : RdP w K.bS 0 K.cells
  d1 : Rd En w K.vre K.re
  d2 : Rd Eb w K.vtx K.tx
  d3 : Rd Eix w K.ven K.l
  n1 : K.bRe ∉ M
  n2 : K.bTx ∉ M
  n3 : K.bA ∉ M
  n4 : K.bS ∉ M
  a1 : Apart M K.vre
  a2 : Apart M K.vtx
  a3 : Apart M K.ven
/-- what the asker holds is sound -/
structure AskE.ok (K : AskE) : Prop where
  rng : ∀ x ∈ K.re, -128 ≤ x.op ∧ x.op < 128
  no8 : ∀ x ∈ K.re, ¬ x.op = 8
  len : K.re.length ≤ 1000000
  tx : K.tx.length ≤ 1000000
  ends : EndsOk K.re 0 K.l
def AnsK (K : AskE) (Q : Prop) (v : Value) (S' : Hp) : Prop := ∃ es c, v = .bool (dQ Q) ∧ S' = [(K.bM, mpO es c)] ∧ MapOk K.tx K.re es
def NodeK (P : Program) (K : AskE) (x : Nd) (ks : F) : Prop := ∀ (i i1 p q : Nat) (es : List Me) (c : Nat), Part K.re (.nd x ks .nil) i i1 → p ≤ q → q ≤ K.tx.length → MapOk K.tx K.re es →
  Fn P K.nF [.int .i64 i, .int .i64 p, .int .i64 q, pt K.bRe, pt K.bTx, pt K.bA] (fun W => Env W K [K.bM]) [(K.bM, mpO es c)] (AnsK K (der1 K.tx x ks p q))
def RestK (P : Program) (K : AskE) (k : Ky) : Prop := ∀ (es : List Me) (c : Nat), MapOk K.tx K.re es →
  Fn P K.rF [.agg (Ek k).toArray, pt K.bA] (fun W => Env W K [K.bM]) [(K.bM, mpO es c)] (AnsK K (Qry K.tx K.re k))
def FindK (P : Program) (K : AskE) (fn : Nat) (k : Ky) : Prop := ∀ (es : List Me) (c : Nat), MapOk K.tx K.re es →
  Fn P fn [pt K.bS, .agg (Ek k).toArray] (fun W => Env W K [K.bM]) [(K.bM, mpO es c)] (AnsK K (Qry K.tx K.re k))
/-- the greatest -/
def Grt (Q : Nat → Prop) (p q m : Nat) : Prop := p ≤ m ∧ m ≤ q ∧ Q m ∧ ∀ n, m < n → n ≤ q → ¬ Q n
def KidP (K : AskE) (Q : Nat → Prop) (p q : Nat) (v : Value) (S' : Hp) : Prop := ∃ es c, S' = [(K.bM, mpO es c)] ∧ MapOk K.tx K.re es ∧
  ((∃ m, Grt Q p q m ∧ v = .tuple #[.int .i64 m, .bool true]) ∨ ((∀ m, p ≤ m → m ≤ q → ¬ Q m) ∧ v = .tuple #[.int .i64 0, .bool false]))
def KidK (P : Program) (K : AskE) (fn : Nat) (k : Ky) (Q : Nat → Prop) (p q : Nat) : Prop := ∀ (es : List Me) (c : Nat), MapOk K.tx K.re es →
  Fn P fn [pt K.bS, .agg (Ek k).toArray] (fun W => Env W K [K.bM]) [(K.bM, mpO es c)] (KidP K Q p q)
theorem Env.out {w0 w : World} {K : AskE} {M M' : List Nat} {H : Hp} (h : Env w0 K M) (st : St w0 w M H) (hs : ∀ b ∈ M', b ∈ M) : Env w K M' := by
  have am : ∀ {v : Value}, Apart M v → Apart M' v := fun ha a n c e hz hb => ha a n c e hz (hs _ hb)
  exact ⟨(RdPK.old (κ := ⟨0, [], w0, M⟩) (H := H) h.p1 h.n1).out w st, (RdPK.old (κ := ⟨0, [], w0, M⟩) (H := H) h.p2 h.n2).out w st, (RdPK.old (κ := ⟨0, [], w0, M⟩) (H := H) h.p3 h.n3).out w st, (RdPK.old (κ := ⟨0, [], w0, M⟩) (H := H) h.p4 h.n4).out w st,
    (RdK.old (κ := ⟨0, [], w0, M⟩) (H := H) h.d1 h.a1).out w st, (RdK.old (κ := ⟨0, [], w0, M⟩) (H := H) h.d2 h.a2).out w st, (RdK.old (κ := ⟨0, [], w0, M⟩) (H := H) h.d3 h.a3).out w st,
    fun hb => h.n1 (hs _ hb), fun hb => h.n2 (hs _ hb), fun hb => h.n3 (hs _ hb), fun hb => h.n4 (hs _ hb), am h.a1, am h.a2, am h.a3⟩
end Go.HL.Kl.Mc

/- Mathematics of captures: one tree's derivations by its kind. Conditions: none. -/
namespace Go.HL.Kl.Mc
open Go Go.HL Go.HL.Kl
theorem der1_1 {w : List UInt8} {x : Nd} {ks : F} {p q : Nat} (h : x.op = 1) : der1 w x ks p q ↔ q = p + 1 ∧ ∃ b, w[p]? = some b ∧ x.set.getLsbD b.toNat = true := by rw [der1_def, if_pos h]
theorem der1_2 {w : List UInt8} {x : Nd} {ks : F} {p q : Nat} (h : x.op = 2) : der1 w x ks p q ↔ p = 0 ∧ q = 0 := by rw [der1_def, if_neg (by omega), if_pos h]
theorem der1_3 {w : List UInt8} {x : Nd} {ks : F} {p q : Nat} (h : x.op = 3) : der1 w x ks p q ↔ p = w.length ∧ q = p := by rw [der1_def, if_neg (by omega), if_neg (by omega), if_pos h]
theorem der1_4 {w : List UInt8} {x : Nd} {ks : F} {p q : Nat} (h : x.op = 4 ∨ x.op = 7) : der1 w x ks p q ↔ der w ks false p q := by rw [der1_def, if_neg (by omega), if_neg (by omega), if_neg (by omega), if_neg (by omega), if_neg (by omega)]
theorem der1_5 {w : List UInt8} {x : Nd} {ks : F} {p q : Nat} (h : x.op = 5) : der1 w x ks p q ↔ der w ks true p q := by rw [der1_def, if_neg (by omega), if_neg (by omega), if_neg (by omega), if_pos h]
theorem der1_6 {w : List UInt8} {x : Nd} {ks : F} {p q : Nat} (h : x.op = 6) : der1 w x ks p q ↔ RR x (der w ks false) 0 p q := by rw [der1_def, if_neg (by omega), if_neg (by omega), if_neg (by omega), if_neg (by omega), if_pos h, rounds_RR]
theorem der_one {w : List UInt8} {y : Nd} {js : F} {p q : Nat} : der w (.nd y js .nil) false p q ↔ der1 w y js p q := by
  rw [der_cat]
  exact ⟨fun ⟨t, h1, h2⟩ => by rw [der_nil] at h2; exact h2 ▸ h1, fun h => ⟨q, h, der_nil.2 rfl⟩⟩
theorem MapOk.ans {w : List UInt8} {re : List Nd} {es : List Me} {k : Ky} (h : MapOk w re es) (h0 : getK es k ≠ 0) : decide (getK es k > 0) = dQ (Qry w re k) := by
  rcases h k with h | ⟨h, hq⟩ | ⟨h, hq⟩
  · exact absurd h h0
  · rw [dQ_t hq, h]; rfl
  · rw [dQ_f hq, h]; rfl
theorem one_kid {x : Nd} {ks : F} (hw : (F.nd x ks .nil).wf) (h : x.op = 6 ∨ x.op = 7) : ∃ y js, ks = .nd y js .nil := by
  have hok : ndOk x = true := hw.1
  have hk : (ks.num : Int) = x.kids := hw.2.1
  have h1 : x.kids = 1 := by
    simp only [ndOk, Bool.and_eq_true] at hok
    have := hok.2
    simp only [kidsOk] at this
    rcases h with h | h <;> simp [h] at this <;> omega
  cases ks with
  | nil => simp [F.num] at hk; omega
  | nd y js r =>
    cases r with
    | nil => exact ⟨y, js, rfl⟩
    | nd z a b => simp [F.num] at hk; omega
/-- derivations go on -/
def Up (D : Nat → Nat → Prop) : Prop := ∀ p q, D p q → p ≤ q
theorem pow_up {D : Nat → Nat → Prop} (h : Up D) : ∀ k, Up (pow D k)
  | 0, p, q, e => Nat.le_of_eq e
  | k + 1, p, q, ⟨t, h1, h2⟩ => Nat.le_trans (h p t h1) (pow_up h k t q h2)
theorem RR_up {x : Nd} {D : Nat → Nat → Prop} {r : Nat} (h : Up D) : Up (RR x D r) := fun p q ⟨k, _, _, hk⟩ => pow_up h k p q hk
theorem der_up {w : List UInt8} : ∀ (f : F) (md : Bool), Up (der w f md)
  | .nil, md, p, q, h => by
    obtain ⟨_, rfl⟩ : md = false ∧ p = q := by simpa [der] using h
    exact Nat.le_refl _
  | .nd x ks r, md, p, q, h => by
    have h1 : Up (der1 w x ks) := by
      intro p q h
      rw [der1_def] at h
      split at h
      · omega
      split at h
      · omega
      split at h
      · omega
      split at h
      · exact der_up ks true p q h
      split at h
      · rw [rounds_RR] at h; exact RR_up (der_up ks false) p q h
      · exact der_up ks false p q h
    cases md with
    | false =>
      obtain ⟨t, h2, h3⟩ := der_cat.1 h
      exact Nat.le_trans (h1 p t h2) (der_up r false t q h3)
    | true =>
      rcases der_alt.1 h with h2 | h2
      · exact h1 p q h2
      · exact der_up r true p q h2
theorem der1_up {w : List UInt8} {x : Nd} {ks : F} : Up (der1 w x ks) := der_up _ _
/-- how many rounds count -/
def nxtR (x : Nd) (r : Nat) : Nat := if x.mx < 0 then min (r + 1) (max x.mn.toNat 1) else r + 1
theorem RR_nxt {x : Nd} {D : Nat → Nat → Prop} {r p q : Nat} (h : x.mx = -1 ∨ 0 ≤ x.mx) : RR x D (nxtR x r) p q ↔ RR x D (r + 1) p q := by
  unfold nxtR
  split
  · rcases Nat.le_total (r + 1) (max x.mn.toNat 1) with h1 | h1
    · rw [Nat.min_eq_left h1]
    · rw [Nat.min_eq_right h1]
      exact RR_cap (by omega) (by omega) (by omega)
  · exact Iff.rfl
theorem rep_rng {x : Nd} (hok : ndOk x = true) (h6 : x.op = 6) : 0 ≤ x.mn ∧ x.mn ≤ 255 ∧ (x.mx = -1 ∨ x.mn ≤ x.mx ∧ x.mx ≤ 255) := by
  simp only [ndOk, flds, Bool.and_eq_true] at hok
  have h := hok.1.2
  rw [if_pos h6] at h
  simpa using h
theorem kid_cat {w : List UInt8} {y : Nd} {js r : F} {p q : Nat} (h : ∀ m, p ≤ m → m ≤ q → ¬ (der1 w y js p m ∧ der w r false m q)) : ¬ der w (.nd y js r) false p q := fun hd => by
  obtain ⟨t, h1, h2⟩ := der_cat.1 hd
  exact h t (der1_up _ _ h1) (der_up _ _ _ _ h2) ⟨h1, h2⟩
theorem kid_rep {x : Nd} {D : Nat → Nat → Prop} {r p q : Nat} (hu : Up D) (hn : ¬ (p = q ∧ x.mn ≤ (r : Int))) (h : ∀ m, p ≤ m → m ≤ q → ¬ RQ x D r p q m) : ¬ RR x D r p q := fun hd => by
  rcases RR_step.1 hd with ⟨h1, h2, _⟩ | ⟨m, hm⟩
  · exact hn ⟨h1, h2⟩
  · exact h m (hu _ _ hm.2.2.1) (RR_up hu _ _ hm.2.2.2) hm
end Go.HL.Kl.Mc
