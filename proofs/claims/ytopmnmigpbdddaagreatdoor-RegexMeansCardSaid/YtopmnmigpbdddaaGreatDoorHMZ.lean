/- Maps from structs of four numbers to small numbers. Conditions: none. -/
import Derived.Test.YtopmnmigpbdddaaGreatDoorHlB
import GoSem.Instr.MapUpdate
import GoSem.Instr.MakeMap
import Derived.Test.YtopmnmigpbdddaaGreatDoorMT7Z
import Derived.Test.YtopmnmigpbdddaaGreatDoorHTZ
import Derived.Test.YtopmnmigpbdddaaGreatDoorMT3Z
namespace Go.HL
open Go
structure Ky where
  a : Int
  b : Int
  c : Int
  d : Int
  deriving DecidableEq
def Ek (k : Ky) : List Value := [.int .i64 k.a, .int .i64 k.b, .int .i64 k.c, .int .i64 k.d]
instance : Enc Ek 4 := ⟨fun _ => rfl, fun x v hv => by
  simp only [Ek, List.mem_cons, List.not_mem_nil, or_false] at hv
  rcases hv with rfl | rfl | rfl | rfl <;> rfl⟩
structure Me where
  k : Ky
  v : Int
  born : Nat
def Me.enc (e : Me) : MapEntry := { key := .agg (Ek e.k).toArray, val := .int .i8 e.v, born := e.born }
def mpO (es : List Me) (c : Nat) : Obj := .map (es.map Me.enc).toArray c
def getK (es : List Me) (k : Ky) : Int := ((es.find? (fun e => decide (k = e.k))).map (·.v)).getD 0
def putAt (v : Int) : List Me → Ky → List Me
  | [], _ => []
  | e :: es, k => if k = e.k then { e with v := v } :: es else e :: putAt v es k
theorem getK_nil (k : Ky) : getK [] k = 0 := rfl
theorem getK_cons (e : Me) (es : List Me) (k : Ky) : getK (e :: es) k = if k = e.k then e.v else getK es k := by
  unfold getK
  by_cases h : k = e.k <;> simp [List.find?_cons, h]
theorem getK_push {es : List Me} {k : Ky} (hn : ∀ e ∈ es, k ≠ e.k) (v : Int) (n : Nat) (j : Ky) : getK (es ++ [⟨k, v, n⟩]) j = if j = k then v else getK es j := by
  induction es with
  | nil => simp [getK_cons, getK_nil]
  | cons e es ih =>
    rw [List.cons_append, getK_cons, getK_cons, ih (fun e' h => hn e' (List.mem_cons_of_mem _ h))]
    by_cases h : j = k
    · subst h; rw [if_neg (hn e List.mem_cons_self)]; simp
    · simp [h]
theorem getK_put {es : List Me} {k : Ky} (h : ∃ e ∈ es, k = e.k) (v : Int) (j : Ky) : getK (putAt v es k) j = if j = k then v else getK es j := by
  induction es with
  | nil => obtain ⟨e, he, _⟩ := h; cases he
  | cons e es ih =>
    unfold putAt
    by_cases hk : k = e.k
    · rw [if_pos hk, getK_cons, getK_cons]
      by_cases hj : j = k
      · simp [hj, hk]
      · rw [if_neg (by simp; rw [← hk]; exact hj), if_neg hj, if_neg (by rw [← hk]; exact hj)]
    · rw [if_neg hk, getK_cons, getK_cons, ih (by
        obtain ⟨e', he, hk'⟩ := h
        rcases List.mem_cons.1 he with rfl | he
        · exact absurd hk' hk
        · exact ⟨e', he, hk'⟩)]
      by_cases hj : j = k
      · subst hj; rw [if_neg hk]; simp
      · simp [hj]
section
variable {P : Program} {κ : Cx} {Q : Pst} {L : Loc} {H H' : Hp} {ops : Array Oper} {rest : List Oper} {ty t t' : TypeId} {d : Nat} {pos : String} {af : Array Edge} {x y z : Operand}
theorem ky_fq {e : Nat} [TU P e (.int .i64)] [TG P e true] (w : World) (p q : Ky) : FQ P w 9998 (Ek p).toArray (Ek q).toArray [(e, 0), (e, 1), (e, 2), (e, 3)] (decide (p = q)) := by
  have h : FQ P w 9998 (Ek p).toArray (Ek q).toArray [(e, 0), (e, 1), (e, 2), (e, 3)] _ :=
    .int (j := .i64) (p := p.a) (q := q.a) rfl rfl (.int (j := .i64) (p := p.b) (q := q.b) rfl rfl (.int (j := .i64) (p := p.c) (q := q.c) rfl rfl (.int (j := .i64) (p := p.d) (q := q.d) rfl rfl .nil)))
  have e : (p.a == q.a && (p.b == q.b && (p.c == q.c && (p.d == q.d && true)))) = decide (p = q) := by
    cases p; cases q
    simp only [Ky.mk.injEq, Bool.and_true]
    rw [Bool.eq_iff_iff]
    simp
  rw [← e]; exact h
theorem ky_eq {e : Nat} [TU P e (.int .i64)] [TG P e true] [TQ P t [(e, 0), (e, 1), (e, 2), (e, 3)]] (w : World) (p q : Ky) : (Op.equal t (.agg (Ek p).toArray) (.agg (Ek q).toArray)).run P w = .ok (decide (p = q)) w := by
  have h : ∀ w, (Op.equalIn (9998 + 2) t (.agg (Ek p).toArray) (.agg (Ek q).toArray)).run P w = .ok (decide (p = q)) w := fun w => re_struct (ky_fq w p q)
  exact h w
theorem ky_struct {l : List (Nat × Nat)} [tq : TQ P t l] : ∃ fs : Array Field, P.underlying t = some (.struct fs) ∧ fs.toList.map (fun f => (f.type, f.offset)) = l := by
  have hq := tq.out
  cases hu : P.underlying t with
  | none => simp [hu] at hq
  | some D =>
    rw [hu] at hq
    cases D
    case struct fs =>
      simp only [Option.bind_some, fieldsOf] at hq
      split at hq
      case isFalse => cases hq
      case isTrue hc =>
        simp only [Option.some.injEq] at hq
        exact ⟨fs, rfl, hq⟩
    all_goals simp [fieldsOf] at hq
theorem forIn_ok {β : Type} {f : β → PUnit → Sem (ForInStep PUnit)} {w : World} : ∀ {l : List β}, (∀ x ∈ l, (f x ⟨⟩).run P w = .ok (.yield ⟨⟩) w) → (forIn (m := Sem) l PUnit.unit f).run P w = .ok ⟨⟩ w := by
  intro l
  induction l with
  | nil => intro _; simp
  | cons x l ih =>
    intro h
    rw [List.forIn_cons, Sem.run_bind, h x List.mem_cons_self, Result.andThen_ok]
    exact ih fun y hy => h y (List.mem_cons_of_mem _ hy)
theorem checkInt {e n : Nat} {b : Bool} {v : Value} [TU P e (.int .i64)] (w : World) : (Instr.checkKey b (n + 1) e v).run P w = .ok () w := by
  unfold Instr.checkKey
  rw [Sem.run_bind, run_u, Result.andThen_ok]
  cases v <;> simp
theorem ky_check {e : Nat} {b : Bool} [TU P e (.int .i64)] [TG P e true] [TQ P t [(e, 0), (e, 1), (e, 2), (e, 3)]] (w : World) (k : Ky) : (Instr.checkKey b 10000 t (.agg (Ek k).toArray)).run P w = .ok () w := by
  obtain ⟨fs, hu, hl⟩ := ky_struct (P := P) (t := t) (l := [(e, 0), (e, 1), (e, 2), (e, 3)])
  show (Instr.checkKey b (9998 + 2) t (.agg (Ek k).toArray)).run P w = .ok () w
  unfold Instr.checkKey
  rw [Sem.run_bind, run_underlying hu, Result.andThen_ok]
  simp only []
  rw [← Array.forIn_toList, Sem.run_bind]
  refine (congrArg (fun r => Result.andThen r _) (forIn_ok fun f hf => ?_)).trans (by simp)
  have hm : (f.type, f.offset) ∈ [(e, 0), (e, 1), (e, 2), (e, 3)] := by rw [← hl]; exact List.mem_map.2 ⟨f, hf, rfl⟩
  have hp : f.type = e ∧ ∃ v, (Ek k).toArray[f.offset]? = some v := by
    simp only [List.mem_cons, Prod.mk.injEq, List.not_mem_nil, or_false] at hm
    rcases hm with ⟨h1, h2⟩ | ⟨h1, h2⟩ | ⟨h1, h2⟩ | ⟨h1, h2⟩ <;> exact ⟨h1, by rw [h2]; exact ⟨_, rfl⟩⟩
  obtain ⟨h1, v, hv⟩ := hp
  rw [h1]
  have hpp := part_plain (P := P) (e := e) (w := w) hv
  split
  · simp only [Sem.run_bind, hpp, Result.andThen_ok, checkInt, Sem.run_pure]
  · simp
theorem find_ask {e : Nat} [TU P e (.int .i64)] [TG P e true] [TQ P t [(e, 0), (e, 1), (e, 2), (e, 3)]] (w : World) (k : Ky) : ∀ (es : List Me) (i : Nat), ∃ r, (Instr.findAsking t (.agg (Ek k).toArray) (es.map Me.enc) i).run P w = .ok r w ∧
    ((r = none ∧ ∀ e ∈ es, k ≠ e.k) ∨ ∃ j v, r = some (i + j, .int .i8 v) ∧ v = getK es k ∧ (∃ e, es[j]? = some e ∧ k = e.k) ∧ ∀ u, (es.map Me.enc).toArray.modify j (fun e => { e with val := .int .i8 u, key := .agg (Ek k).toArray }) = ((putAt u es k).map Me.enc).toArray) := by
  intro es
  induction es with
  | nil => intro i; exact ⟨none, by simp [Instr.findAsking], .inl ⟨rfl, fun e h => by cases h⟩⟩
  | cons e es ih =>
    intro i
    simp only [List.map_cons]
    unfold Instr.findAsking
    rw [Sem.run_bind]
    have he := ky_eq (P := P) (t := t) w k e.k
    rw [show e.enc.key = .agg (Ek e.k).toArray from rfl, he, Result.andThen_ok]
    by_cases h : k = e.k
    · refine ⟨some (i, .int .i8 e.v), by simp [h, Me.enc], .inr ⟨0, e.v, by simp, by rw [getK_cons, if_pos h], ⟨e, rfl, h⟩, fun u => ?_⟩⟩
      apply Array.ext'
      rw [Array.toList_modify]
      simp [putAt, h, Me.enc]
    · obtain ⟨r, hr, hc⟩ := ih (i + 1)
      refine ⟨r, by simp [h, hr], ?_⟩
      rcases hc with ⟨h1, h2⟩ | ⟨j, v, h1, h2, ⟨e', he', hk⟩, h4⟩
      · exact .inl ⟨h1, fun e' he' => by rcases List.mem_cons.1 he' with rfl | he'; exact h; exact h2 e' he'⟩
      · refine .inr ⟨j + 1, v, by rw [h1]; congr 2; omega, by rw [getK_cons, if_neg h, h2], ⟨e', by simpa using he', hk⟩, fun u => ?_⟩
        have := congrArg Array.toList (h4 u)
        rw [Array.toList_modify] at this
        apply Array.ext'
        rw [Array.toList_modify]
        simp only [putAt, if_neg h, List.map_cons, List.modify_succ_cons]
        rw [show (List.map Me.enc es).modify j _ = _ from this]
theorem find_key {e : Nat} [TU P e (.int .i64)] [TG P e true] [TQ P t [(e, 0), (e, 1), (e, 2), (e, 3)]] (w : World) (k : Ky) (es : List Me) : ∃ r, (Instr.findKey t (.agg (Ek k).toArray) (es.map Me.enc)).run P w = .ok r w ∧
    ((r = none ∧ ∀ e ∈ es, k ≠ e.k) ∨ ∃ j v, r = some (j, .int .i8 v) ∧ v = getK es k ∧ (∃ e, es[j]? = some e ∧ k = e.k) ∧ ∀ u, (es.map Me.enc).toArray.modify j (fun e => { e with val := .int .i8 u, key := .agg (Ek k).toArray }) = ((putAt u es k).map Me.enc).toArray) := by
  obtain ⟨fs, hu, hl⟩ := ky_struct (P := P) (t := t) (l := [(e, 0), (e, 1), (e, 2), (e, 3)])
  obtain ⟨r, hr, hc⟩ := find_ask (P := P) (t := t) w k es 0
  refine ⟨r, ?_, by simpa using hc⟩
  unfold Instr.findKey
  rw [Sem.run_bind, run_underlying hu, Result.andThen_ok]
  cases es with
  | nil =>
    simp only [List.map_nil, Instr.findNow]
    simpa [Instr.findAsking] using hr
  | cons e es =>
    have hn : Instr.findNow (.struct fs) (.agg (Ek k).toArray) ((e :: es).map Me.enc) 0 = none := by
      simp [Instr.findNow, Instr.sameNow]
    rw [hn]
    exact hr
theorem getK_none {es : List Me} {k : Ky} (h : ∀ e ∈ es, k ≠ e.k) : getK es k = 0 := by
  induction es with
  | nil => rfl
  | cons e es ih => rw [getK_cons, if_neg (h e List.mem_cons_self)]; exact ih fun e' he => h e' (List.mem_cons_of_mem _ he)
theorem run_getObj {w : World} {b c : Nat} {es : List Me} (h : w.heap[b]? = some (mpO es c)) : (getObj b).run P w = .ok (mpO es c) w := by
  simp [getObj, Sem.run, h, mpO]
theorem run_setObj {w : World} {b c : Nat} {es : List Me} (hb : w.heap[b]? = some (mpO es c)) (o : Obj) : (setObj b o).run P w = .ok () { w with heap := w.heap.setIfInBounds b o } := by
  simp [setObj, Sem.run, hb, mpO]
theorem s_look {kt vt e b c : Nat} {es : List Me} {k : Ky} [TU P t (.map kt vt)] [TU P e (.int .i64)] [TG P e true] [TQ P kt [(e, 0), (e, 1), (e, 2), (e, 3)]] [tz : TZ P vt (.int .i8 0)] (hx : ev L x = some (.map (some b))) (hy : ev L y = some (.agg (Ek k).toArray)) (hm : (b, mpO es c) ∈ H) :
    Step P κ (.lookup t x y false) ty L H (.int .i8 (getK es k)) :=
  ⟨fun ρ w d pos af g hρ st => by
    have ho := run_getObj (P := P) (st.has _ _ hm)
    obtain ⟨r, hr, hc⟩ := find_key (P := P) (t := kt) w k es
    have hck := fun b => ky_check (P := P) (t := kt) (b := b) w k
    have hl : (Instr.lookup t (.map (some b)) (.agg (Ek k).toArray) false).run P w = .ok (.int .i8 (getK es k)) w := by
      unfold Instr.lookup
      simp only [Sem.run_bind, run_u, Result.andThen_ok, ho, mpO, hck, Sem.run_pure]
      rw [hr]
      rcases hc with ⟨h1, h2⟩ | ⟨j, v, h1, h2, _⟩
      · subst h1
        rw [getK_none h2]
        simp [run_zero]
      · subst h1; subst h2
        simp
    simp [execOp, hρ _ _ hx, hρ _ _ hy, hl]⟩
theorem sameBits_ky (k : Ky) : Instr.sameBits 10000 (.agg (Ek k).toArray) (.agg (Ek k).toArray) = true := by
  show Instr.sameBits (9999 + 1) _ _ = true
  simp [Instr.sameBits, Ek]
theorem o_mset {kt vt e b c : Nat} {es : List Me} {k : Ky} {u : Int} {R : Hp} [TU P t (.map kt vt)] [TU P e (.int .i64)] [TG P e true] [TQ P kt [(e, 0), (e, 1), (e, 2), (e, 3)]] (hx : ev L x = some (.map (some b))) (hy : ev L y = some (.agg (Ek k).toArray)) (hz : ev L z = some (.int .i8 u))
    (hpk : Pick H [(b, mpO es c)] R) (h : ∀ es' c', (∀ j, getK es' j = if j = k then u else getK es j) → O P κ ops Q rest L ((b, mpO es' c') :: R)) : O P κ ops Q (⟨none, .mapUpdate t x y z, ty, pos, af, none⟩ :: rest) L H := by
  refine ⟨fun ro a w hro ok => op_want rfl ?_⟩
  have e1 := ok.fr.ev hx
  have e2 := ok.fr.ev hy
  have e3 := ok.fr.ev hz
  have st := ok.st.perm hpk.perm
  have ho := run_getObj (P := P) (st.has _ _ (List.mem_cons_self))
  obtain ⟨r, hr, hc⟩ := find_key (P := P) (t := kt) w k es
  have hck := fun b => ky_check (P := P) (t := kt) (b := b) w k
  have key : ∃ es' c', (Instr.mapUpdate t (.map (some b)) (.agg (Ek k).toArray) (.int .i8 u)).run P w = .ok () { w with heap := w.heap.setIfInBounds b (mpO es' c') } ∧ ∀ j, getK es' j = if j = k then u else getK es j := by
    rcases hc with ⟨h1, h2⟩ | ⟨j, v, h1, h2, ⟨e', he', hk⟩, h4⟩
    · refine ⟨es ++ [⟨k, u, c⟩], c + 1, ?_, fun j => getK_push h2 u c j⟩
      subst h1
      unfold Instr.mapUpdate
      simp only [Sem.run_bind, run_u, Result.andThen_ok, ho, mpO, hck, hr]
      have e9 : (List.map Me.enc es).toArray.push { key := .agg (Ek k).toArray, val := .int .i8 u, born := c } = (List.map Me.enc (es ++ [⟨k, u, c⟩])).toArray := by
        simp [Me.enc]
      exact e9 ▸ run_setObj (hb := st.has _ _ List.mem_cons_self) _
    · refine ⟨putAt u es k, c, ?_, fun i => getK_put ⟨e', List.mem_of_getElem? he', hk⟩ u i⟩
      subst h1
      unfold Instr.mapUpdate
      simp only [Sem.run_bind, run_u, Result.andThen_ok, ho, mpO, hck, hr]
      have e8 : ((Option.map (fun x => x.key) (List.map Me.enc es).toArray[j]?).getD (Value.agg (Ek k).toArray)) = .agg (Ek k).toArray := by
        rw [List.getElem?_toArray, List.getElem?_map, he']
        simp [Me.enc, hk]
      simp only [Instr.keyThatStays, e8, sameBits_ky, if_true, Sem.run_pure, Result.andThen_ok, h4]
      exact run_setObj (hb := st.has _ _ List.mem_cons_self) _
  obtain ⟨es', c', hrun, hg⟩ := key
  have : (execOp a.eval ⟨none, .mapUpdate t x y z, ty, pos, af, none⟩).run P w = .ok .skip { w with heap := w.heap.setIfInBounds b (mpO es' c') } := by
    simp [execOp, e1, e2, e3, hrun]
  exact op_skip this ((h es' c' hg).out ro _ _ hro.tail ⟨ok.fr, st.put rfl rfl rfl rfl⟩)
theorem o_mmap (hn : Nat.blt d κ.n = true) (h : ∀ b, O P κ ops Q rest ((d, .map (some b)) :: L) ((b, mpO [] 0) :: H)) : O P κ ops Q (⟨some d, .makeMap t none, ty, pos, af, none⟩ :: rest) L H :=
  o_gen (fun u H' => ∃ b, u = .map (some b) ∧ H' = (b, mpO [] 0) :: H) hn
    (fun ρ w pos af g hρ st => ⟨_, _, _, by simp [execOp, Instr.makeMap, newObj, Sem.run, mpO], ⟨_, rfl, rfl⟩, st.alloc _⟩)
    (fun u H' ⟨b, hu, hH⟩ => by subst hu; subst hH; exact h b)
end
end Go.HL

/- Mathematics of captures: the questions, what is known. Conditions: none. -/
namespace Go.HL.Kl.Mc
open Go Go.HL Go.HL.Kl
theorem Part.uniqF {re : List Nd} : ∀ (f g : F) (i e : Nat), Part re f i e → Part re g i e → f = g
  | .nil, .nil, _, _, _, _ => rfl
  | .nil, .nd y js s, i, e, h, h' => by have h1 := h.len; have h2 := h'.len; simp only [F.size] at h1 h2; omega
  | .nd x ks r, .nil, i, e, h, h' => by have h1 := h.len; have h2 := h'.len; simp only [F.size] at h1 h2; omega
  | .nd x ks r, .nd y js s, i, e, h, h' => by
    have hk := h.uniq h'
    subst hk
    obtain ⟨h0, _, hr⟩ := h.head
    obtain ⟨h0', _, hr'⟩ := h'.head
    obtain rfl : x = y := by rw [h0] at h0'; exact Option.some.inj h0'
    rw [Part.uniqF r s _ _ hr hr']
theorem Part.uniq1 {re : List Nd} {x y : Nd} {ks js : F} {i e e' : Nat} (h : Part re (.nd x ks .nil) i e) (h' : Part re (.nd y js .nil) i e') : x = y ∧ ks = js ∧ e = e' := by
  have hk := h.uniq h'
  subst hk
  obtain ⟨h0, _, _⟩ := h.head
  obtain ⟨h0', _, _⟩ := h'.head
  have hl := h.len
  have hl' := h'.len
  exact ⟨by rw [h0] at h0'; exact Option.some.inj h0', rfl, by simp only [F.size] at hl hl'; omega⟩
def RR (x : Nd) (D : Nat → Nat → Prop) (r p q : Nat) : Prop := ∃ k : Nat, x.mn ≤ ((r + k : Nat) : Int) ∧ (x.mx = -1 ∨ ((r + k : Nat) : Int) ≤ x.mx) ∧ pow D k p q
def RQ (x : Nd) (D : Nat → Nat → Prop) (r p q m : Nat) : Prop := (x.mx = -1 ∨ (r : Int) < x.mx) ∧ (m ≠ p ∨ (r : Int) < x.mn ∨ r = 0) ∧ D p m ∧ RR x D (r + 1) m q
theorem rounds_RR {x : Nd} {D : Nat → Nat → Prop} {p q : Nat} : rounds x D p q ↔ RR x D 0 p q := by simp [rounds, RR]
theorem RR_cap {x : Nd} {D : Nat → Nat → Prop} {r s p q : Nat} (h1 : x.mx = -1) (h2 : x.mn ≤ (r : Int)) (h3 : x.mn ≤ (s : Int)) : RR x D r p q ↔ RR x D s p q :=
  ⟨fun ⟨k, _, _, hk⟩ => ⟨k, by omega, .inl h1, hk⟩, fun ⟨k, _, _, hk⟩ => ⟨k, by omega, .inl h1, hk⟩⟩
theorem RR_step {x : Nd} {D : Nat → Nat → Prop} {r q : Nat} : ∀ {p : Nat}, RR x D r p q ↔ (p = q ∧ x.mn ≤ (r : Int) ∧ (x.mx = -1 ∨ (r : Int) ≤ x.mx)) ∨ ∃ m, RQ x D r p q m := by
  have hf : ∀ k p, x.mn ≤ ((r + k : Nat) : Int) → (x.mx = -1 ∨ ((r + k : Nat) : Int) ≤ x.mx) → pow D k p q → (p = q ∧ x.mn ≤ (r : Int) ∧ (x.mx = -1 ∨ (r : Int) ≤ x.mx)) ∨ ∃ m, RQ x D r p q m := by
    intro k
    induction k with
    | zero => intro p h1 h2 h; exact .inl ⟨h, by simpa using h1, by simpa using h2⟩
    | succ k ih =>
      intro p h1 h2 ⟨m, hm, hk⟩
      by_cases hc : m ≠ p ∨ (r : Int) < x.mn ∨ r = 0
      · exact .inr ⟨m, by omega, hc, hm, k, by rw [show r + 1 + k = r + (k + 1) by omega]; exact h1, by rw [show r + 1 + k = r + (k + 1) by omega]; exact h2, hk⟩
      · obtain ⟨rfl, h3⟩ : m = p ∧ ¬ (r : Int) < x.mn := by
          refine ⟨?_, fun h => hc (.inr (.inl h))⟩
          exact Classical.byContradiction fun h => hc (.inl h)
        exact ih m (by omega) (by omega) hk
  intro p
  constructor
  · rintro ⟨k, h1, h2, h⟩; exact hf k p h1 h2 h
  · rintro (⟨rfl, h1, h2⟩ | ⟨m, h1, h2, h3, k, h4, h5, h6⟩)
    · exact ⟨0, by simpa using h1, by simpa using h2, rfl⟩
    · exact ⟨k + 1, by rw [show r + (k + 1) = r + 1 + k by omega]; exact h4, by rw [show r + (k + 1) = r + 1 + k by omega]; exact h5, m, h3, h6⟩
inductive Qry (w : List UInt8) (re : List Nd) : Ky → Prop
  | alt {x : Nd} {ks : F} {i i1 p q : Nat} (hp : Part re (.nd x ks .nil) i i1) (h5 : x.op = 5) (h : der w ks true p q) : Qry w re ⟨i, -1, p, q⟩
  | cat {x : Nd} {ks g : F} {i i1 m p q : Nat} (hp : Part re (.nd x ks .nil) i i1) (h4 : x.op = 4) (hg : Part re g m i1) (h : der w g false p q) : Qry w re ⟨i, m, p, q⟩
  | rep {x : Nd} {ks : F} {i i1 r p q : Nat} (hp : Part re (.nd x ks .nil) i i1) (h6 : x.op = 6) (h : RR x (der w ks false) r p q) : Qry w re ⟨i, r, p, q⟩
theorem Qry_alt {w : List UInt8} {re : List Nd} {x : Nd} {ks : F} {i i1 p q : Nat} (hp : Part re (.nd x ks .nil) i i1) (h5 : x.op = 5) : Qry w re ⟨i, -1, p, q⟩ ↔ der w ks true p q := by
  refine ⟨fun h => ?_, fun h => .alt hp h5 h⟩
  generalize hk : (⟨i, -1, p, q⟩ : Ky) = k at h
  cases h <;> simp only [Ky.mk.injEq] at hk
  case alt x' ks' i' i1' p' q' hp' h5' h' =>
    obtain ⟨h1, _, h2, h3⟩ := hk
    obtain rfl : i = i' := by omega
    obtain rfl : p = p' := by omega
    obtain rfl : q = q' := by omega
    obtain ⟨rfl, rfl, rfl⟩ := hp.uniq1 hp'
    exact h'
  all_goals omega
theorem Qry_cat {w : List UInt8} {re : List Nd} {x : Nd} {ks g : F} {i i1 m p q : Nat} (hp : Part re (.nd x ks .nil) i i1) (h4 : x.op = 4) (hg : Part re g m i1) : Qry w re ⟨i, m, p, q⟩ ↔ der w g false p q := by
  refine ⟨fun h => ?_, fun h => .cat hp h4 hg h⟩
  generalize hk : (⟨i, m, p, q⟩ : Ky) = k at h
  cases h <;> simp only [Ky.mk.injEq] at hk
  case cat x' ks' g' i' i1' m' p' q' hp' h4' hg' h' =>
    obtain ⟨h1, h0, h2, h3⟩ := hk
    obtain rfl : i = i' := by omega
    obtain rfl : p = p' := by omega
    obtain rfl : q = q' := by omega
    obtain rfl : m = m' := by omega
    obtain ⟨rfl, rfl, rfl⟩ := hp.uniq1 hp'
    rw [Part.uniqF g g' _ _ hg hg']; exact h'
  case alt => omega
  case rep x' ks' i' i1' r' p' q' hp' h6' h' =>
    obtain ⟨h1, h0, h2, h3⟩ := hk
    obtain rfl : i = i' := by omega
    obtain ⟨rfl, rfl, rfl⟩ := hp.uniq1 hp'
    omega
theorem Qry_rep {w : List UInt8} {re : List Nd} {x : Nd} {ks : F} {i i1 r p q : Nat} (hp : Part re (.nd x ks .nil) i i1) (h6 : x.op = 6) : Qry w re ⟨i, r, p, q⟩ ↔ RR x (der w ks false) r p q := by
  refine ⟨fun h => ?_, fun h => .rep hp h6 h⟩
  generalize hk : (⟨i, r, p, q⟩ : Ky) = k at h
  cases h <;> simp only [Ky.mk.injEq] at hk
  case rep x' ks' i' i1' r' p' q' hp' h6' h' =>
    obtain ⟨h1, h0, h2, h3⟩ := hk
    obtain rfl : i = i' := by omega
    obtain rfl : p = p' := by omega
    obtain rfl : q = q' := by omega
    obtain rfl : r = r' := by omega
    obtain ⟨rfl, rfl, rfl⟩ := hp.uniq1 hp'
    exact h'
  case alt => omega
  case cat x' ks' g' i' i1' m' p' q' hp' h4' hg' h' =>
    obtain ⟨h1, h0, h2, h3⟩ := hk
    obtain rfl : i = i' := by omega
    obtain ⟨rfl, rfl, rfl⟩ := hp.uniq1 hp'
    omega
def MapOk (w : List UInt8) (re : List Nd) (es : List Me) : Prop := ∀ k, getK es k = 0 ∨ (getK es k = 1 ∧ Qry w re k) ∨ (getK es k = -1 ∧ ¬ Qry w re k)
theorem MapOk.nil {w : List UInt8} {re : List Nd} : MapOk w re [] := fun _ => .inl rfl
theorem MapOk.no {w : List UInt8} {re : List Nd} {es es' : List Me} {k : Ky} (h : MapOk w re es) (hk : ¬ Qry w re k) (hg : ∀ j, getK es' j = if j = k then -1 else getK es j) : MapOk w re es' := fun j => by
  rw [hg j]
  by_cases e : j = k
  · subst e; rw [if_pos rfl]; exact .inr (.inr ⟨rfl, hk⟩)
  · rw [if_neg e]; exact h j
theorem MapOk.yes {w : List UInt8} {re : List Nd} {es es' es2 : List Me} {k : Ky} (h : MapOk w re es) (hk : Qry w re k) (hg : ∀ j, getK es' j = if j = k then -1 else getK es j) (hg2 : ∀ j, getK es2 j = if j = k then 1 else getK es' j) : MapOk w re es2 := fun j => by
  rw [hg2 j]
  by_cases e : j = k
  · subst e; rw [if_pos rfl]; exact .inr (.inl ⟨rfl, hk⟩)
  · rw [if_neg e, hg j, if_neg e]; exact h j
open Classical in
noncomputable def dQ (Q : Prop) : Bool := decide Q
theorem dQ_t {Q : Prop} (h : Q) : dQ Q = true := by simp [dQ, h]
theorem dQ_f {Q : Prop} (h : ¬ Q) : dQ Q = false := by simp [dQ, h]
theorem dQ_iff {Q : Prop} : dQ Q = true ↔ Q := by simp [dQ]
theorem dQ_congr {Q R : Prop} (h : Q ↔ R) : dQ Q = dQ R := by simp [dQ, h]
theorem dQ_b {Q : Prop} {b : Bool} (h : b = true ↔ Q) : dQ Q = b := by
  cases b
  · exact dQ_f fun q => by have := h.2 q; cases this
  · exact dQ_t (h.1 rfl)
attribute [irreducible] dQ
structure AskE where
  (bRe bTx bA bS bE bM nF rF : Nat)
  (ra : Option Addr) (rc : Nat) (re : List Nd) (ta : Option Addr) (tc : Nat) (tx : List UInt8) (l : List Nat)
namespace AskE
abbrev vre (K : AskE) : Value := .slice K.ra K.re.length K.rc
abbrev vtx (K : AskE) : Value := .slice K.ta K.tx.length K.tc
abbrev ven (K : AskE) : Value := .slice (some ⟨K.bE, 0, none⟩) K.re.length K.re.length
abbrev pt (b : Nat) : Value := .pointer (some ⟨b, 0, none⟩)
abbrev cells (K : AskE) : List Value := [K.vre, K.ven, K.vtx, .map (some K.bM), .func (.func K.nF) [].toArray [pt K.bRe, pt K.bTx, pt K.bA].toArray, .func (.func K.rF) [].toArray [pt K.bA].toArray]
end AskE
open AskE
structure Env (w : World) (K : AskE) (M : List Nat) : Prop where
  p1 : RdP w K.bRe 0 [K.vre]
  p2 : RdP w K.bTx 0 [K.vtx]
  p3 : RdP w K.bA 0 [pt K.bS]
  p4 : RdP w K.bS 0 K.cells
  d1 : Rd En w K.vre K.re
  d2 : Rd Eb w K.vtx K.tx
  d3 : Rd Eix w K.ven K.l
  n1 : K.bRe ∉ M
  n2 : K.bTx ∉ M
  n3 : K.bA ∉ M
  n4 : K.bS ∉ M
  a1 : Apart M K.vre
  a2 : Apart M K.vtx
  a3 : Apart M K.ven
structure AskE.ok (K : AskE) : Prop where
  rng : ∀ x ∈ K.re, -128 ≤ x.op ∧ x.op < 128
  no8 : ∀ x ∈ K.re, ¬ x.op = 8
  len : K.re.length ≤ 1000000
  tx : K.tx.length ≤ 1000000
  ends : EndsOk K.re 0 K.l
def AnsK (K : AskE) (Q : Prop) (v : Value) (S' : Hp) : Prop := ∃ es c, v = .bool (dQ Q) ∧ S' = [(K.bM, mpO es c)] ∧ MapOk K.tx K.re es
def NodeK (P : Program) (K : AskE) (x : Nd) (ks : F) : Prop := ∀ (i i1 p q : Nat) (es : List Me) (c : Nat), Part K.re (.nd x ks .nil) i i1 → p ≤ q → q ≤ K.tx.length → MapOk K.tx K.re es →
  Fn P K.nF [.int .i64 i, .int .i64 p, .int .i64 q, pt K.bRe, pt K.bTx, pt K.bA] (fun W => Env W K [K.bM]) [(K.bM, mpO es c)] (AnsK K (der1 K.tx x ks p q))
def RestK (P : Program) (K : AskE) (k : Ky) : Prop := ∀ (es : List Me) (c : Nat), MapOk K.tx K.re es →
  Fn P K.rF [.agg (Ek k).toArray, pt K.bA] (fun W => Env W K [K.bM]) [(K.bM, mpO es c)] (AnsK K (Qry K.tx K.re k))
def FindK (P : Program) (K : AskE) (fn : Nat) (k : Ky) : Prop := ∀ (es : List Me) (c : Nat), MapOk K.tx K.re es →
  Fn P fn [pt K.bS, .agg (Ek k).toArray] (fun W => Env W K [K.bM]) [(K.bM, mpO es c)] (AnsK K (Qry K.tx K.re k))
def Grt (Q : Nat → Prop) (p q m : Nat) : Prop := p ≤ m ∧ m ≤ q ∧ Q m ∧ ∀ n, m < n → n ≤ q → ¬ Q n
def KidP (K : AskE) (Q : Nat → Prop) (p q : Nat) (v : Value) (S' : Hp) : Prop := ∃ es c, S' = [(K.bM, mpO es c)] ∧ MapOk K.tx K.re es ∧
  ((∃ m, Grt Q p q m ∧ v = .tuple #[.int .i64 m, .bool true]) ∨ ((∀ m, p ≤ m → m ≤ q → ¬ Q m) ∧ v = .tuple #[.int .i64 0, .bool false]))
def KidK (P : Program) (K : AskE) (fn : Nat) (k : Ky) (Q : Nat → Prop) (p q : Nat) : Prop := ∀ (es : List Me) (c : Nat), MapOk K.tx K.re es →
  Fn P fn [pt K.bS, .agg (Ek k).toArray] (fun W => Env W K [K.bM]) [(K.bM, mpO es c)] (KidP K Q p q)
theorem Env.out {w0 w : World} {K : AskE} {M M' : List Nat} {H : Hp} (h : Env w0 K M) (st : St w0 w M H) (hs : ∀ b ∈ M', b ∈ M) : Env w K M' := by
  have am : ∀ {v : Value}, Apart M v → Apart M' v := fun ha a n c e hz hb => ha a n c e hz (hs _ hb)
  exact ⟨(RdPK.old (κ := ⟨0, [], w0, M⟩) (H := H) h.p1 h.n1).out w st, (RdPK.old (κ := ⟨0, [], w0, M⟩) (H := H) h.p2 h.n2).out w st, (RdPK.old (κ := ⟨0, [], w0, M⟩) (H := H) h.p3 h.n3).out w st, (RdPK.old (κ := ⟨0, [], w0, M⟩) (H := H) h.p4 h.n4).out w st,
    (RdK.old (κ := ⟨0, [], w0, M⟩) (H := H) h.d1 h.a1).out w st, (RdK.old (κ := ⟨0, [], w0, M⟩) (H := H) h.d2 h.a2).out w st, (RdK.old (κ := ⟨0, [], w0, M⟩) (H := H) h.d3 h.a3).out w st,
    fun hb => h.n1 (hs _ hb), fun hb => h.n2 (hs _ hb), fun hb => h.n3 (hs _ hb), fun hb => h.n4 (hs _ hb), am h.a1, am h.a2, am h.a3⟩
end Go.HL.Kl.Mc

/- Mathematics of captures: one tree's derivations by its kind. Conditions: none. -/
namespace Go.HL.Kl.Mc
open Go Go.HL Go.HL.Kl
theorem der1_1 {w : List UInt8} {x : Nd} {ks : F} {p q : Nat} (h : x.op = 1) : der1 w x ks p q ↔ q = p + 1 ∧ ∃ b, w[p]? = some b ∧ x.set.getLsbD b.toNat = true := by rw [der1_def, if_pos h]
theorem der1_2 {w : List UInt8} {x : Nd} {ks : F} {p q : Nat} (h : x.op = 2) : der1 w x ks p q ↔ p = 0 ∧ q = 0 := by rw [der1_def, if_neg (by omega), if_pos h]
theorem der1_3 {w : List UInt8} {x : Nd} {ks : F} {p q : Nat} (h : x.op = 3) : der1 w x ks p q ↔ p = w.length ∧ q = p := by rw [der1_def, if_neg (by omega), if_neg (by omega), if_pos h]
theorem der1_4 {w : List UInt8} {x : Nd} {ks : F} {p q : Nat} (h : x.op = 4 ∨ x.op = 7) : der1 w x ks p q ↔ der w ks false p q := by rw [der1_def, if_neg (by omega), if_neg (by omega), if_neg (by omega), if_neg (by omega), if_neg (by omega)]
theorem der1_5 {w : List UInt8} {x : Nd} {ks : F} {p q : Nat} (h : x.op = 5) : der1 w x ks p q ↔ der w ks true p q := by rw [der1_def, if_neg (by omega), if_neg (by omega), if_neg (by omega), if_pos h]
theorem der1_6 {w : List UInt8} {x : Nd} {ks : F} {p q : Nat} (h : x.op = 6) : der1 w x ks p q ↔ RR x (der w ks false) 0 p q := by rw [der1_def, if_neg (by omega), if_neg (by omega), if_neg (by omega), if_neg (by omega), if_pos h, rounds_RR]
theorem der_one {w : List UInt8} {y : Nd} {js : F} {p q : Nat} : der w (.nd y js .nil) false p q ↔ der1 w y js p q := by
  rw [der_cat]
  exact ⟨fun ⟨t, h1, h2⟩ => by rw [der_nil] at h2; exact h2 ▸ h1, fun h => ⟨q, h, der_nil.2 rfl⟩⟩
theorem der_fone {w : List UInt8} {y : Nd} {js : F} : der w (.nd y js .nil) false = der1 w y js := by funext p q; exact propext der_one
theorem MapOk.ans {w : List UInt8} {re : List Nd} {es : List Me} {k : Ky} (h : MapOk w re es) (h0 : getK es k ≠ 0) : decide (getK es k > 0) = dQ (Qry w re k) := by
  rcases h k with h | ⟨h, hq⟩ | ⟨h, hq⟩
  · exact absurd h h0
  · rw [dQ_t hq, h]; rfl
  · rw [dQ_f hq, h]; rfl
theorem one_kid {x : Nd} {ks : F} (hw : (F.nd x ks .nil).wf) (h : x.op = 6 ∨ x.op = 7) : ∃ y js, ks = .nd y js .nil := by
  have hok : ndOk x = true := hw.1
  have hk : (ks.num : Int) = x.kids := hw.2.1
  have h1 : x.kids = 1 := by
    simp only [ndOk, Bool.and_eq_true] at hok
    have := hok.2
    simp only [kidsOk] at this
    rcases h with h | h <;> simp [h] at this <;> omega
  cases ks with
  | nil => simp [F.num] at hk; omega
  | nd y js r =>
    cases r with
    | nil => exact ⟨y, js, rfl⟩
    | nd z a b => simp [F.num] at hk; omega
def Up (D : Nat → Nat → Prop) : Prop := ∀ p q, D p q → p ≤ q
theorem pow_up {D : Nat → Nat → Prop} (h : Up D) : ∀ k, Up (pow D k)
  | 0, p, q, e => Nat.le_of_eq e
  | k + 1, p, q, ⟨t, h1, h2⟩ => Nat.le_trans (h p t h1) (pow_up h k t q h2)
theorem RR_up {x : Nd} {D : Nat → Nat → Prop} {r : Nat} (h : Up D) : Up (RR x D r) := fun p q ⟨k, _, _, hk⟩ => pow_up h k p q hk
theorem der_up {w : List UInt8} : ∀ (f : F) (md : Bool), Up (der w f md)
  | .nil, md, p, q, h => by
    obtain ⟨_, rfl⟩ : md = false ∧ p = q := by simpa [der] using h
    exact Nat.le_refl _
  | .nd x ks r, md, p, q, h => by
    have h1 : Up (der1 w x ks) := by
      intro p q h
      rw [der1_def] at h
      split at h
      · omega
      split at h
      · omega
      split at h
      · omega
      split at h
      · exact der_up ks true p q h
      split at h
      · rw [rounds_RR] at h; exact RR_up (der_up ks false) p q h
      · exact der_up ks false p q h
    cases md with
    | false =>
      obtain ⟨t, h2, h3⟩ := der_cat.1 h
      exact Nat.le_trans (h1 p t h2) (der_up r false t q h3)
    | true =>
      rcases der_alt.1 h with h2 | h2
      · exact h1 p q h2
      · exact der_up r true p q h2
theorem der1_up {w : List UInt8} {x : Nd} {ks : F} : Up (der1 w x ks) := der_up _ _
def nxtR (x : Nd) (r : Nat) : Nat := if x.mx < 0 then min (r + 1) (max x.mn.toNat 1) else r + 1
theorem RR_nxt {x : Nd} {D : Nat → Nat → Prop} {r p q : Nat} (h : x.mx = -1 ∨ 0 ≤ x.mx) : RR x D (nxtR x r) p q ↔ RR x D (r + 1) p q := by
  unfold nxtR
  split
  · rcases Nat.le_total (r + 1) (max x.mn.toNat 1) with h1 | h1
    · rw [Nat.min_eq_left h1]
    · rw [Nat.min_eq_right h1]
      exact RR_cap (by omega) (by omega) (by omega)
  · exact Iff.rfl
theorem rep_rng {x : Nd} (hok : ndOk x = true) (h6 : x.op = 6) : 0 ≤ x.mn ∧ x.mn ≤ 255 ∧ (x.mx = -1 ∨ x.mn ≤ x.mx ∧ x.mx ≤ 255) := by
  simp only [ndOk, flds, Bool.and_eq_true] at hok
  have h := hok.1.2
  rw [if_pos h6] at h
  simpa using h
theorem kid_cat {w : List UInt8} {y : Nd} {js r : F} {p q : Nat} (h : ∀ m, p ≤ m → m ≤ q → ¬ (der1 w y js p m ∧ der w r false m q)) : ¬ der w (.nd y js r) false p q := fun hd => by
  obtain ⟨t, h1, h2⟩ := der_cat.1 hd
  exact h t (der1_up _ _ h1) (der_up _ _ _ _ h2) ⟨h1, h2⟩
theorem kid_rep {x : Nd} {D : Nat → Nat → Prop} {r p q : Nat} (hu : Up D) (hn : ¬ (p = q ∧ x.mn ≤ (r : Int))) (h : ∀ m, p ≤ m → m ≤ q → ¬ RQ x D r p q m) : ¬ RR x D r p q := fun hd => by
  rcases RR_step.1 hd with ⟨h1, h2, _⟩ | ⟨m, hm⟩
  · exact hn ⟨h1, h2⟩
  · exact h m (hu _ _ hm.2.2.1) (RR_up hu _ _ hm.2.2.2) hm
end Go.HL.Kl.Mc

/- Mathematics of captures: spans, what groups take, the best derivation. Conditions: none. -/
namespace Go.HL.Kl.Mc
open Go Go.HL Go.HL.Kl
structure Sp where
  fr : Int
  to : Int
  deriving DecidableEq
def Esp (s : Sp) : List Value := [.int .i64 s.fr, .int .i64 s.to]
instance : Enc Esp 2 := ⟨fun _ => rfl, fun x v hv => by
  simp only [Esp, List.mem_cons, List.not_mem_nil, or_false] at hv
  rcases hv with rfl | rfl <;> rfl⟩
def noS : Sp := ⟨-1, -1⟩
def fg1 (cs : List Sp) (x : Nd) : List Sp := if x.op = 7 then cs.set x.n.toNat noS else cs
def fgt (l : List Nd) (cs : List Sp) : List Sp := l.foldl fg1 cs
theorem fg1_len (cs : List Sp) (x : Nd) : (fg1 cs x).length = cs.length := by unfold fg1; split <;> simp
theorem fgt_len : ∀ (l : List Nd) (cs : List Sp), (fgt l cs).length = cs.length
  | [], cs => rfl
  | x :: l, cs => by
    show (fgt l (fg1 cs x)).length = _
    rw [fgt_len l, fg1_len]
def fgtTo (re : List Nd) (a j : Nat) (cs : List Sp) : List Sp := fgt ((re.drop a).take (j - a)) cs
theorem fgtTo_start {re : List Nd} {a : Nat} {cs : List Sp} : fgtTo re a a cs = cs := by simp [fgtTo, fgt]
theorem fgtTo_len {re : List Nd} {a j : Nat} {cs : List Sp} : (fgtTo re a j cs).length = cs.length := fgt_len _ _
theorem fgtTo_step {re : List Nd} {a j : Nat} {cs : List Sp} {x : Nd} (h : re[j]? = some x) (ha : a ≤ j) : fgtTo re a (j + 1) cs = fg1 (fgtTo re a j cs) x := by
  unfold fgtTo
  have e : (re.drop a).take (j + 1 - a) = (re.drop a).take (j - a) ++ [x] := by
    rw [show j + 1 - a = (j - a) + 1 by omega, List.take_add_one, List.getElem?_drop, show a + (j - a) = j by omega, h]; rfl
  rw [e]; simp [fgt, List.foldl_append]
theorem fgtTo_part {re : List Nd} {f : F} {a e : Nat} {cs : List Sp} (h : Part re f a e) : fgtTo re a e cs = fgt f.flat cs := by
  unfold fgtTo
  rw [h.flat, show e - a = f.flat.length by have := h.len; rw [F.flat_size]; omega, List.take_left' rfl]
open Classical in
noncomputable def grt (Q : Nat → Prop) (p q : Nat) : Nat := if h : ∃ m, Grt Q p q m then h.choose else 0
theorem Grt.uniq {Q : Nat → Prop} {p q m n : Nat} (h : Grt Q p q m) (h' : Grt Q p q n) : m = n := by
  rcases Nat.lt_trichotomy m n with e | e | e
  · exact absurd h'.2.2.1 (h.2.2.2 n e h'.2.1)
  · exact e
  · exact absurd h.2.2.1 (h'.2.2.2 m e h.2.1)
theorem grt_eq {Q : Nat → Prop} {p q m : Nat} (h : Grt Q p q m) : grt Q p q = m := by
  unfold grt
  have hx : ∃ m, Grt Q p q m := ⟨m, h⟩
  rw [dif_pos hx]
  exact hx.choose_spec.uniq h
theorem grt_ex {Q : Nat → Prop} {p q m : Nat} (h1 : p ≤ m) (h2 : m ≤ q) (h : Q m) : ∃ n, Grt Q p q n := by
  have key : ∀ k, k ≤ q - m → (∀ n, q - k < n → n ≤ q → ¬ Q n) → ∃ n, Grt Q p q n := by
    intro k hk
    induction hj : (q - m - k) generalizing k with
    | zero => intro hn; exact ⟨m, h1, h2, h, fun n a b => hn n (by omega) b⟩
    | succ j ih =>
      intro hn
      by_cases hq : Q (q - k)
      · exact ⟨q - k, by omega, by omega, hq, hn⟩
      · refine ih (k + 1) (by omega) (by omega) fun n a b => ?_
        by_cases e : n = q - k
        · subst e; exact hq
        · exact hn n (by omega) b
  exact key 0 (by omega) fun n a b => by omega
attribute [irreducible] grt
noncomputable def reps (x : Nd) (D : Nat → Nat → Prop) (B : Nat → Nat → List Sp → List Sp) (q : Nat) : Nat → Nat → Nat → List Sp → List Sp
  | 0, _, _, cs => cs
  | f + 1, r, p, cs => if dQ (∃ m, Grt (RQ x D r p q) p q m) = true then reps x D B q f (nxtR x r) (grt (RQ x D r p q) p q) (B p (grt (RQ x D r p q) p q) cs) else cs
theorem reps_go {x : Nd} {D : Nat → Nat → Prop} {B : Nat → Nat → List Sp → List Sp} {q f r p m : Nat} {cs : List Sp} (h : Grt (RQ x D r p q) p q m) : reps x D B q (f + 1) r p cs = reps x D B q f (nxtR x r) m (B p m cs) := by
  rw [reps, if_pos (dQ_t ⟨m, h⟩), grt_eq h]
theorem reps_end {x : Nd} {D : Nat → Nat → Prop} {B : Nat → Nat → List Sp → List Sp} {q f r p : Nat} {cs : List Sp} (h : ∀ m, p ≤ m → m ≤ q → ¬ RQ x D r p q m) : reps x D B q f r p cs = cs := by
  cases f with
  | zero => rfl
  | succ f => rw [reps, if_neg]; rw [dQ_f (fun ⟨m, hm⟩ => h m hm.1 hm.2.1 hm.2.2.1)]; simp
noncomputable def bst (w : List UInt8) : F → Bool → Nat → Nat → List Sp → List Sp
  | .nil, _, _, _, cs => cs
  | .nd x ks r, m, p, q, cs =>
    let one : Nat → Nat → List Sp → List Sp := fun p q cs =>
      if x.op = 7 then (bst w ks false p q (fgt ks.flat cs)).set x.n.toNat ⟨p, q⟩
      else if x.op = 5 then bst w ks true p q cs
      else if x.op = 4 then bst w ks false p q cs
      else if x.op = 6 then reps x (der w ks false) (fun p q cs => bst w ks false p q (fgt ks.flat cs)) q ((q - p) + max x.mn.toNat 1 + 1) 0 p cs
      else cs
    if m = true then (if dQ (der1 w x ks p q) = true then one p q cs else bst w r true p q cs)
    else bst w r false (grt (fun n => der1 w x ks p n ∧ der w r false n q) p q) q (one p (grt (fun n => der1 w x ks p n ∧ der w r false n q) p q) cs)
noncomputable def bst1 (w : List UInt8) (x : Nd) (ks : F) (p q : Nat) (cs : List Sp) : List Sp :=
  if x.op = 7 then (bst w ks false p q (fgt ks.flat cs)).set x.n.toNat ⟨p, q⟩
  else if x.op = 5 then bst w ks true p q cs
  else if x.op = 4 then bst w ks false p q cs
  else if x.op = 6 then reps x (der w ks false) (fun p q cs => bst w ks false p q (fgt ks.flat cs)) q ((q - p) + max x.mn.toNat 1 + 1) 0 p cs
  else cs
theorem bst_alt {w : List UInt8} {x : Nd} {ks r : F} {p q : Nat} {cs : List Sp} : bst w (.nd x ks r) true p q cs = if dQ (der1 w x ks p q) = true then bst1 w x ks p q cs else bst w r true p q cs := by
  conv => lhs; rw [bst]
  rfl
theorem bst_cat {w : List UInt8} {x : Nd} {ks r : F} {p q n : Nat} {cs : List Sp} (h : Grt (fun n => der1 w x ks p n ∧ der w r false n q) p q n) : bst w (.nd x ks r) false p q cs = bst w r false n q (bst1 w x ks p n cs) := by
  conv => lhs; rw [bst]
  rw [← grt_eq h]
  rfl
theorem bst_nil {w : List UInt8} {m : Bool} {p q : Nat} {cs : List Sp} : bst w .nil m p q cs = cs := by rw [bst]
theorem bst_one {w : List UInt8} {x : Nd} {ks : F} {p q : Nat} {cs : List Sp} (h : der1 w x ks p q) : bst w (.nd x ks .nil) false p q cs = bst1 w x ks p q cs := by
  have hg : Grt (fun n => der1 w x ks p n ∧ der w .nil false n q) p q q := ⟨der1_up _ _ h, Nat.le_refl _, ⟨h, der_nil.2 rfl⟩, fun n a b => by omega⟩
  rw [bst_cat hg, bst_nil]
theorem bst1_7 {w : List UInt8} {x : Nd} {ks : F} {p q : Nat} {cs : List Sp} (h : x.op = 7) : bst1 w x ks p q cs = (bst w ks false p q (fgt ks.flat cs)).set x.n.toNat ⟨p, q⟩ := by rw [bst1, if_pos h]
theorem bst1_5 {w : List UInt8} {x : Nd} {ks : F} {p q : Nat} {cs : List Sp} (h : x.op = 5) : bst1 w x ks p q cs = bst w ks true p q cs := by rw [bst1, if_neg (by omega), if_pos h]
theorem bst1_4 {w : List UInt8} {x : Nd} {ks : F} {p q : Nat} {cs : List Sp} (h : x.op = 4) : bst1 w x ks p q cs = bst w ks false p q cs := by rw [bst1, if_neg (by omega), if_neg (by omega), if_pos h]
theorem bst1_6 {w : List UInt8} {x : Nd} {ks : F} {p q : Nat} {cs : List Sp} (h : x.op = 6) : bst1 w x ks p q cs = reps x (der w ks false) (fun p q cs => bst w ks false p q (fgt ks.flat cs)) q ((q - p) + max x.mn.toNat 1 + 1) 0 p cs := by rw [bst1, if_neg (by omega), if_neg (by omega), if_neg (by omega), if_pos h]
theorem bst1_0 {w : List UInt8} {x : Nd} {ks : F} {p q : Nat} {cs : List Sp} (h : x.op ≤ 3) : bst1 w x ks p q cs = cs := by rw [bst1, if_neg (by omega), if_neg (by omega), if_neg (by omega), if_neg (by omega)]
theorem reps_len {x : Nd} {D : Nat → Nat → Prop} {B : Nat → Nat → List Sp → List Sp} {q : Nat} (hB : ∀ p q cs, (B p q cs).length = cs.length) : ∀ f r p cs, (reps x D B q f r p cs).length = cs.length
  | 0, r, p, cs => rfl
  | f + 1, r, p, cs => by
    rw [reps]; split
    · rw [reps_len hB f, hB]
    · rfl
theorem bst_len {w : List UInt8} : ∀ (f : F) (m : Bool) (p q : Nat) (cs : List Sp), (bst w f m p q cs).length = cs.length
  | .nil, m, p, q, cs => by rw [bst_nil]
  | .nd x ks r, m, p, q, cs => by
    have h1 : ∀ p q cs, (bst1 w x ks p q cs).length = cs.length := by
      intro p q cs
      unfold bst1
      split
      · rw [List.length_set, bst_len ks, fgt_len]
      split
      · rw [bst_len ks]
      split
      · rw [bst_len ks]
      split
      · rw [reps_len fun p q cs => by rw [bst_len ks, fgt_len]]
      · rfl
    cases m with
    | true =>
      rw [bst_alt]; split
      · exact h1 _ _ _
      · exact bst_len r _ _ _ _
    | false =>
      conv => lhs; rw [bst]
      show (bst w r false _ q (bst1 w x ks p _ cs)).length = _
      rw [bst_len r, h1]
theorem bst1_len {w : List UInt8} {x : Nd} {ks : F} {p q : Nat} {cs : List Sp} : (bst1 w x ks p q cs).length = cs.length := by
  have := bst_len (w := w) (.nd x ks .nil) true p q cs
  unfold bst1
  split
  · rw [List.length_set, bst_len ks, fgt_len]
  split
  · rw [bst_len ks]
  split
  · rw [bst_len ks]
  split
  · rw [reps_len fun p q cs => by rw [bst_len ks, fgt_len]]
  · rfl
def gcn (l : List Nd) : Nat := l.countP (fun x => decide (x.op = 7))
theorem gcn_take {re : List Nd} {j : Nat} {x : Nd} (h : re[j]? = some x) : gcn (re.take (j + 1)) = gcn (re.take j) + (if x.op = 7 then 1 else 0) := by
  rw [List.take_add_one, h]
  simp [gcn, List.countP_append, List.countP_cons]
theorem gcn_mono {re : List Nd} {i j : Nat} (h : i ≤ j) : gcn (re.take i) ≤ gcn (re.take j) := by
  unfold gcn
  exact List.Sublist.countP_le (List.take_sublist_take_left h)
def Numd (re : List Nd) (b i i' b' : Nat) : Prop := b' + gcn (re.take i) = b + gcn (re.take i') ∧ ∀ j x, i ≤ j → j < i' → re[j]? = some x → x.op = 7 → x.n + (gcn (re.take i) : Nat) = (b : Int) + (gcn (re.take j) : Nat) + 1
theorem kidsN_num {re : List Nd} {step : Nat → List Bool → Option (Nat × List Bool)} (hs : ∀ i en i' en', step i en = some (i', en') → i ≤ i' ∧ Numd re en.length i i' en'.length) :
    ∀ k i en i' en', kidsN step k i en = some (i', en') → i ≤ i' ∧ Numd re en.length i i' en'.length := by
  intro k
  induction k with
  | zero =>
    intro i en i' en' h
    simp only [kidsN, Option.some.injEq, Prod.mk.injEq] at h
    obtain ⟨rfl, rfl⟩ := h
    exact ⟨Nat.le_refl _, rfl, fun j x h1 h2 => by omega⟩
  | succ k ih =>
    intro i en i' en' h
    simp only [kidsN] at h
    split at h
    · cases h
    · rename_i j en1 hst
      obtain ⟨h1, h2, h3⟩ := hs _ _ _ _ hst
      obtain ⟨h4, h5, h6⟩ := ih _ _ _ _ h
      refine ⟨by omega, by omega, fun t x ht1 ht2 hx h7 => ?_⟩
      rcases Nat.lt_or_ge t j with e | e
      · exact h3 t x ht1 e hx h7
      · have := h6 t x e ht2 hx h7; omega
theorem shN_num {re : List Nd} : ∀ f i en g i' en', shN re f i en g = some (i', en') → i ≤ i' ∧ Numd re en.length i i' en'.length := by
  intro f
  induction f with
  | zero => intro i en g i' en' h; cases h
  | succ f ih =>
    intro i en g i' en' h
    simp only [shN] at h
    split at h
    · cases h
    · rename_i x hx
      split at h
      · split at h
        · cases h
        · rename_i en1 g1 hg
          split at h
          · cases h
          · rename_i i2 en2 hk
            simp only [Option.some.injEq, Prod.mk.injEq] at h
            obtain ⟨rfl, rfl⟩ := h
            obtain ⟨h1, h2, h3⟩ := kidsN_num (fun i en i' en' h => ih i en g1 i' en' h) _ _ _ _ _ hk
            have ht := gcn_take hx
            have he : en1.length = en.length + (if x.op = 7 then 1 else 0) ∧ (x.op = 7 → x.n = en.length + 1) := by
              unfold gate at hg
              split at hg
              · split at hg
                · cases hg; rename_i h8 _; exact ⟨by rw [if_neg (by omega)]; rfl, fun h => by omega⟩
                · cases hg
              split at hg
              · split at hg
                · cases hg; rename_i _ h7 hc; exact ⟨by rw [if_pos h7]; simp, fun _ => hc.1⟩
                · cases hg
              · cases hg; rename_i _ h7; exact ⟨by rw [if_neg h7]; rfl, fun h => absurd h h7⟩
            have hl : (if x.op = 7 then en2.set (x.n.toNat - 1) true else en2).length = en2.length := by split <;> simp
            refine ⟨by omega, by rw [hl]; omega, fun j y hj1 hj2 hy h7 => ?_⟩
            by_cases e : j = i
            · subst e
              rw [hx] at hy; cases hy
              have := he.2 h7; omega
            · have := h3 j y (by omega) hj2 hy h7
              omega
      · cases h
theorem grp_n {re : List Nd} (h : shapedB re = true) {j : Nat} {x : Nd} (hx : re[j]? = some x) (h7 : x.op = 7) : x.n = (gcn (re.take j) : Nat) + 1 ∧ x.n ≤ gcn re := by
  obtain ⟨⟨en, hsh⟩, _⟩ := shapedB_iff.1 h
  obtain ⟨_, h1, h2⟩ := shN_num _ _ _ _ _ _ hsh
  have hlt := (List.getElem?_eq_some_iff.1 hx).1
  have h3 := h2 j x (Nat.zero_le _) hlt hx h7
  have h4 := gcn_take hx
  have h5 : gcn (re.take (j + 1)) ≤ gcn re := by
    have := gcn_mono (re := re) (i := j + 1) (j := re.length) hlt
    rwa [List.take_length] at this
  simp [gcn] at h3
  rw [if_pos h7] at h4
  refine ⟨by simp only [gcn]; omega, ?_⟩
  simp only [gcn] at h4 h5 ⊢
  omega
end Go.HL.Kl.Mc

/- Contracts of the functions that tell what groups take. Conditions: none. -/
namespace Go.HL
open Go
theorem RdP.lt {w : World} {b off : Nat} {cs : List Value} (h : RdP w b off cs) (hc : cs ≠ []) : b < w.heap.size := by
  obtain ⟨u, hu⟩ : ∃ u, cs[0]? = some u := by
    cases cs with
    | nil => exact absurd rfl hc
    | cons a l => exact ⟨a, rfl⟩
  have h2 := h.get 0 u hu
  rcases Nat.lt_or_ge b w.heap.size with h' | h'
  · exact h'
  · simp [World.cell?, oblk, Array.getElem?_eq_none h'] at h2
theorem St.notin {w0 w : World} {M : List Nat} {H S : Hp} {b off : Nat} {cs : List Value} (st : St w0 w M H) (hin : HIn S H) (hr : RdP w0 b off cs) (hc : cs ≠ []) (hM : b ∉ M) : b ∉ keys S := by
  intro hm
  obtain ⟨⟨b', o⟩, hmS, hb⟩ := List.mem_map.1 hm
  have hb : b' = b := hb
  subst hb
  have := hr.lt hc
  rcases st.own _ _ (hin _ hmS) with h1 | h1
  · exact hM h1
  · omega
theorem hin_cons {b : Nat} {o : Obj} {S H : Hp} (h : (b, o) ∈ H) (hs : HIn S H) : HIn ((b, o) :: S) H := fun p hp => by
  rcases List.mem_cons.1 hp with rfl | hp
  · exact h
  · exact hs p hp
theorem hin_nil {H : Hp} : HIn [] H := fun _ h => by cases h
end Go.HL
namespace Go.HL.Kl.Mc
open Go Go.HL Go.HL.Kl AskE
theorem Env.sub {w0 w : World} {K : AskE} {M : List Nat} {H S : Hp} (h : Env w0 K M) (st : St w0 w M H) (hin : HIn S H) : Env w K (keys S) :=
  ⟨(RdPK.old (κ := ⟨0, [], w0, M⟩) (H := H) h.p1 h.n1).out w st, (RdPK.old (κ := ⟨0, [], w0, M⟩) (H := H) h.p2 h.n2).out w st, (RdPK.old (κ := ⟨0, [], w0, M⟩) (H := H) h.p3 h.n3).out w st, (RdPK.old (κ := ⟨0, [], w0, M⟩) (H := H) h.p4 h.n4).out w st,
    (RdK.old (κ := ⟨0, [], w0, M⟩) (H := H) h.d1 h.a1).out w st, (RdK.old (κ := ⟨0, [], w0, M⟩) (H := H) h.d2 h.a2).out w st, (RdK.old (κ := ⟨0, [], w0, M⟩) (H := H) h.d3 h.a3).out w st,
    st.notin hin h.p1 (by simp) h.n1, st.notin hin h.p2 (by simp) h.n2, st.notin hin h.p3 (by simp) h.n3, st.notin hin h.p4 (by simp) h.n4, st.apart_M hin h.d1 h.a1 (by decide), st.apart_M hin h.d2 h.a2 (by decide), by
      have e : K.ven = .slice (some ⟨K.bE, 0, none⟩) K.l.length K.re.length := by
        obtain ⟨a, c, e, _⟩ := h.d3.sl.out
        simp only [ven, Value.slice.injEq] at e ⊢
        exact ⟨trivial, e.2.1, trivial⟩
      have hd := h.d3
      have ha := h.a3
      rw [e] at hd ha ⊢
      exact st.apart_M hin hd ha (by decide)⟩
theorem St.ne {w0 w : World} {M : List Nat} {H S R : Hp} {b : Nat} {o : Obj} (st : St w0 w M H) (hpk : Pick H S R) (hm : (b, o) ∈ R) : b ∉ keys S := by
  intro h
  obtain ⟨⟨b', o'⟩, hmS, hb⟩ := List.mem_map.1 h
  exact (List.pairwise_append.1 (st.perm hpk.perm).nd).2.2 _ hmS _ hm hb
theorem Env.make {w0 w : World} {K : AskE} {H S R Se : Hp} {t1 t2 t3 t4 t5 : Nat} (st : St w0 w [] H) (hpk : Pick H S R) (h1 : Rd En w0 K.vre K.re) (h2 : Rd Eb w0 K.vtx K.tx) (hO : OwnS Eix 1 t5 K.ven K.l Se) (he : HIn Se R)
    (m1 : (K.bRe, .cells [K.vre].toArray t1 (0, 0)) ∈ R) (m2 : (K.bTx, .cells [K.vtx].toArray t2 (0, 0)) ∈ R) (m3 : (K.bA, .cells [pt K.bS].toArray t3 (0, 0)) ∈ R) (m4 : (K.bS, .cells K.cells.toArray t4 (0, 0)) ∈ R) : Env w K (keys S) := by
  have st' := st.perm hpk.perm
  have hi : ∀ {p}, p ∈ R → p ∈ S ++ R := fun h => List.mem_append.2 (.inr h)
  have hs : HIn S H := fun p h => hpk.perm.mem_iff.2 (List.mem_append.2 (.inl h))
  exact ⟨(RdPK.own (κ := ⟨0, [], w0, []⟩) (hi m1)).out w st', (RdPK.own (κ := ⟨0, [], w0, []⟩) (hi m2)).out w st', (RdPK.own (κ := ⟨0, [], w0, []⟩) (hi m3)).out w st', (RdPK.own (κ := ⟨0, [], w0, []⟩) (hi m4)).out w st',
    (RdK.old (κ := ⟨0, [], w0, []⟩) (H := H) h1 .nil).out w st, (RdK.old (κ := ⟨0, [], w0, []⟩) (H := H) h2 .nil).out w st, hO.rd fun b o h => st'.has _ _ (hi (he _ h)),
    St.ne st hpk m1, St.ne st hpk m2, St.ne st hpk m3, St.ne st hpk m4, st.apart_old hs h1 (by decide), st.apart_old hs h2 (by decide), st.apart hpk hO he⟩
structure AskG (T n : Nat) where
  (bE bM bA bS : Nat) (S : Hp)
  (h : OwnS Eix 1 T (.slice (some ⟨bE, 0, none⟩) n n) (List.replicate n 0) S)
noncomputable def capsV (w : List UInt8) (re : List Nd) (x : Nd) (ks : F) (p q : Nat) : List Sp := (bst1 w x ks p q (List.replicate (gcn re + 1) noS)).set 0 ⟨p, q⟩
theorem capsV_len {w : List UInt8} {re : List Nd} {x : Nd} {ks : F} {p q : Nat} : (capsV w re x ks p q).length = gcn re + 1 := by rw [capsV, List.length_set, bst1_len, List.length_replicate]
theorem fill_rep {n j : Nat} {l : List Sp} (h : Tab.Fill (fun _ => noS) n j l) (hj : n ≤ j) : l = List.replicate n noS := by
  have := h.done hj
  rw [this]
  apply List.ext_getElem? 
  intro i
  by_cases hi : i < n
  · simp [List.getElem?_range hi, hi]
  · simp [hi]
def Slots (re : List Nd) (n : Nat) : Prop := ∀ y ∈ re, y.op = 7 → 0 ≤ y.n ∧ y.n.toNat < n
def TakeP (K : AskE) (T : Nat) (ca : Option Addr) (cc N : Nat) (cs : List Sp) (S' : Hp) : Prop := ∃ es c Sc, S' = (K.bM, mpO es c) :: Sc ∧ MapOk K.tx K.re es ∧ OwnS Esp 2 T (.slice ca N cc) cs Sc
def TakeK (P : Program) (K : AskE) (fn T : Nat) (x : Nd) (ks : F) : Prop := ∀ (i i1 p q : Nat) (es : List Me) (c : Nat) (ca : Option Addr) (cc N : Nat) (cs : List Sp) (Sc : Hp), Part K.re (.nd x ks .nil) i i1 → p ≤ q → q ≤ K.tx.length → der1 K.tx x ks p q → MapOk K.tx K.re es → cs.length = N → Slots K.re N → OwnS Esp 2 T (.slice ca N cc) cs Sc →
  Fn P fn [pt K.bS, .int .i64 i, .int .i64 p, .int .i64 q, .slice ca N cc] (fun W => Env W K (keys ((K.bM, mpO es c) :: Sc))) ((K.bM, mpO es c) :: Sc) (fun _ S' => TakeP K T ca cc N (bst1 K.tx x ks p q cs) S')
theorem slots_of {re : List Nd} (h : shapedB re = true) : Slots re (gcn re + 1) := fun y hy h7 => by
  obtain ⟨j, hj, rfl⟩ := List.getElem_of_mem hy
  have := grp_n h (List.getElem?_eq_getElem hj) h7
  omega
def CapsP (K : AskE) (T : Nat) (cs : List Sp) (v : Value) (S' : Hp) : Prop := ∃ es c a cc Sc, v = .slice a cs.length cc ∧ S' = (K.bM, mpO es c) :: Sc ∧ OwnS Esp 2 T (.slice a cs.length cc) cs Sc
end Go.HL.Kl.Mc

/- What the reference's code answers: so many instructions. Conditions: none. -/
namespace Go.HL.Kl.Mc
open Go Go.HL Go.HL.Kl
def CodeP (T n : Nat) (v : Value) (S' : Hp) : Prop := ∃ (a : Option Addr) (c : Nat) (m : List In), v = .slice a m.length c ∧ m.length = n ∧ OwnS Ein 7 T (.slice a m.length c) m S'
def CodeC (P : Program) (fn T : Nat) (x : Nd) (ks : F) : Prop := ∀ (ma : Option Addr) (mc : Nat) (m : List In) (Sm : Hp) (ra : Option Addr) (rc : Nat) (re : List Nd) (i i1 : Nat), (∀ x ∈ re, -128 ≤ x.op ∧ x.op < 128) → (∀ x ∈ re, ¬ x.op = 8) → re.length ≤ 1000000 → Part re (.nd x ks .nil) i i1 → OwnS Ein 7 T (.slice ma m.length mc) m Sm → m.length + lenT x ks ≤ 70000 →
  Fn P fn [.slice ma m.length mc, .slice ra re.length rc, .int .i64 i] (fun W => Rd En W (.slice ra re.length rc) re ∧ Apart (keys Sm) (.slice ra re.length rc)) Sm (CodeP T (m.length + lenT x ks))
end Go.HL.Kl.Mc

/- Nodes, instructions and their lists as they come in. Conditions: none. -/
namespace Go.HL.Kl.Mc
open Go Go.HL Go.HL.Kl Go.RowKit Go.ChangeShapes Go.WideShapes Go.ChangeAt
def Ew1 (w : BitVec 64) : List Value := [Ew w]
instance : Enc Ew1 1 := ⟨fun _ => rfl, fun _ v hv => by simp [Ew1, Ew] at hv; subst hv; rfl⟩
theorem open_u64 {P : Program} {t : TypeId} (ht : P.underlying t = some (.int .u64)) : Opens P t Ew1 (fun _ _ => True) := by
  refine ⟨fun enc w fuel cs x h _ => ?_⟩
  obtain ⟨n, rfl, _, hw⟩ := DataW.trod_int ht h
  have hb : 0 ≤ n ∧ n ≤ 18446744073709551615 := by
    simp only [Lit.wf] at hw
    simpa [IntKind.min, IntKind.max, IntKind.signed, IntKind.bits] using hw
  refine ⟨BitVec.ofNat 64 n.toNat, ?_, trivial⟩
  have e : (BitVec.ofNat 64 n.toNat).toNat = n.toNat := by
    rw [BitVec.toNat_ofNat]
    exact Nat.mod_eq_of_lt (by rw [show (2 : Nat) ^ 64 = 18446744073709551616 from by decide]; omega)
  simp only [Ew1, Ew, e, List.cons.injEq, Value.int.injEq, true_and, and_true]
  omega
def mk4 (a b c d : BitVec 64) : Cl := setw (setw (setw (setw 0 0 a) 1 b) 2 c) 3 d
theorem mk4_wd (a b c d : BitVec 64) : Ec (mk4 a b c d) = [Ew a, Ew b, Ew c, Ew d] := by
  simp [Ec, mk4, wd_setw]
theorem open_cl {P : Program} {t e : TypeId} (ht : P.underlying t = some (.array 4 e)) (he : P.underlying e = some (.int .u64)) (hk : P.cellsOf e = 1) (hc : P.cellsOf t = 4) : Opens P t Ec (fun _ _ => True) := by
  refine ⟨fun enc w fuel cs x h hw => ?_⟩
  obtain ⟨xs, rfl, hl, _⟩ := (open_array ht hk (by rw [hc]) (open_u64 he)).out enc w fuel cs x h hw
  match xs, hl with
  | [a, b, c, d], _ => exact ⟨mk4 a b c d, by rw [mk4_wd]; rfl, trivial⟩
def Ei8 (n : Int) : List Value := [.int .i8 n]
instance : Enc Ei8 1 := ⟨fun _ => rfl, fun _ _ h => by simp [Ei8] at h; subst h; rfl⟩
theorem open_i8 {P : Program} {t : TypeId} (ht : P.underlying t = some (.int .i8)) : Opens P t Ei8 (fun _ n => -128 ≤ n ∧ n < 128) := by
  refine ⟨fun enc w fuel cs x h _ => ?_⟩
  obtain ⟨n, rfl, _, hw⟩ := DataW.trod_int ht h
  refine ⟨n, rfl, ?_⟩
  simp only [Lit.wf] at hw
  have : -128 ≤ n ∧ n ≤ 127 := by simpa [IntKind.min, IntKind.max, IntKind.signed, IntKind.bits] using hw
  omega
theorem open_struct6 {P : Program} {t : TypeId} {f0 f1 f2 f3 f4 f5 : Field} {α0 α1 α2 α3 α4 α5 γ : Type} {E0 : α0 → List Value} {E1 : α1 → List Value} {E2 : α2 → List Value} {E3 : α3 → List Value} {E4 : α4 → List Value} {E5 : α5 → List Value} {E : γ → List Value} {M0 : World → α0 → Prop} {M1 : World → α1 → Prop} {M2 : World → α2 → Prop} {M3 : World → α3 → Prop} {M4 : World → α4 → Prop} {M5 : World → α5 → Prop} {Mem : World → γ → Prop}
    (ht : P.underlying t = some (.struct #[f0, f1, f2, f3, f4, f5])) (h0 : f0.offset = 0) (h1 : f1.offset = P.cellsOf f0.type) (h2 : f2.offset = P.cellsOf f0.type + P.cellsOf f1.type) (h3 : f3.offset = P.cellsOf f0.type + P.cellsOf f1.type + P.cellsOf f2.type)
    (h4 : f4.offset = P.cellsOf f0.type + P.cellsOf f1.type + P.cellsOf f2.type + P.cellsOf f3.type) (h5 : f5.offset = P.cellsOf f0.type + P.cellsOf f1.type + P.cellsOf f2.type + P.cellsOf f3.type + P.cellsOf f4.type) (hc : P.cellsOf t = P.cellsOf f0.type + P.cellsOf f1.type + P.cellsOf f2.type + P.cellsOf f3.type + P.cellsOf f4.type + P.cellsOf f5.type)
    (o0 : Opens P f0.type E0 M0) (o1 : Opens P f1.type E1 M1) (o2 : Opens P f2.type E2 M2) (o3 : Opens P f3.type E3 M3) (o4 : Opens P f4.type E4 M4) (o5 : Opens P f5.type E5 M5) (mk : ∀ w a b c d e f, M0 w a → M1 w b → M2 w c → M3 w d → M4 w e → M5 w f → ∃ z, E z = E0 a ++ (E1 b ++ (E2 c ++ (E3 d ++ (E4 e ++ E5 f)))) ∧ Mem w z) : Opens P t E Mem := by
  refine ⟨fun enc w fuel cs x h hw => ?_⟩
  obtain ⟨hl, n, hf⟩ := trod_fields ht h hw
  obtain ⟨y0, e0, w0⟩ := hf 0 f0 rfl
  obtain ⟨y1, e1, w1⟩ := hf 1 f1 rfl
  obtain ⟨y2, e2, w2⟩ := hf 2 f2 rfl
  obtain ⟨y3, e3, w3⟩ := hf 3 f3 rfl
  obtain ⟨y4, e4, w4⟩ := hf 4 f4 rfl
  obtain ⟨y5, e5, w5⟩ := hf 5 f5 rfl
  obtain ⟨a, ha, ma⟩ := o0.out enc w _ _ _ e0 w0
  obtain ⟨b, hb, mb⟩ := o1.out enc w _ _ _ e1 w1
  obtain ⟨c, hcc, mc⟩ := o2.out enc w _ _ _ e2 w2
  obtain ⟨d, hd, md⟩ := o3.out enc w _ _ _ e3 w3
  obtain ⟨e, he, me⟩ := o4.out enc w _ _ _ e4 w4
  obtain ⟨f, hff, mf⟩ := o5.out enc w _ _ _ e5 w5
  obtain ⟨z, hz, hm⟩ := mk w a b c d e f ma mb mc md me mf
  refine ⟨z, ?_, hm⟩
  rw [hz, ← ha, ← hb, ← hcc, ← hd, ← he, ← hff, h0, h1, h2, h3, h4, h5, List.drop_zero, List.take_of_length_le (l := cs.drop (P.cellsOf f0.type + _ + _ + _ + _)) (by rw [List.length_drop]; omega), ← cells_split, ← cells_split, ← cells_split, ← cells_split, List.take_append_drop]
end Go.HL.Kl.Mc

/- Part of the proofs over this seat: see the text that holds the theorem. Conditions: each theorem bears its own. -/
namespace Go.HL
open Go
/-! lists of lists: for the bag that looks whether lists share memory -/
section
variable {α : Type} {E : α → List Value} {k : Nat} {T : TypeId}
inductive OwnL (E : α → List Value) (k : Nat) (T : TypeId) : List (Sl α) → List (List α) → Hp → Prop
  | nil : OwnL E k T [] [] []
  | cons {s : Sl α} {xs : List α} {sls : List (Sl α)} {xss : List (List α)} {S R : Hp} (h : OwnS E k T s.v xs S) (hs : OwnL E k T sls xss R) : OwnL E k T (s :: sls) (xs :: xss) (S ++ R)
theorem OwnL.at {sls : List (Sl α)} {xss : List (List α)} {S : Hp} (h : OwnL E k T sls xss S) : ∀ {n : Nat} {s : Sl α}, sls[n]? = some s →
    ∃ xs S1 Sn S2, xss[n]? = some xs ∧ S = S1 ++ (Sn ++ S2) ∧ OwnS E k T s.v xs Sn ∧ ∀ xs' Sn', OwnS E k T s.v xs' Sn' → OwnL E k T sls (xss.set n xs') (S1 ++ (Sn' ++ S2)) := by
  induction h with
  | nil => intro n s hs; simp at hs
  | @cons s xs sls xss S R h hs ih =>
    intro n s' hn
    cases n with
    | zero =>
      simp at hn; subst hn
      exact ⟨xs, [], S, R, rfl, rfl, h, fun xs' Sn' h' => by simpa using OwnL.cons h' hs⟩
    | succ n =>
      obtain ⟨xs', S1, Sn, S2, h1, rfl, h3, h4⟩ := ih (by simpa using hn)
      exact ⟨xs', S ++ S1, Sn, S2, by simpa using h1, by simp, h3, fun y Sy hy => by simpa using OwnL.cons h (h4 y Sy hy)⟩
theorem OwnL.snoc {sls : List (Sl α)} {xss : List (List α)} {S S' : Hp} {s : Sl α} {xs : List α} (h : OwnL E k T sls xss S) (h' : OwnS E k T s.v xs S') : OwnL E k T (sls ++ [s]) (xss ++ [xs]) (S ++ S') := by
  induction h with
  | nil => simpa using OwnL.cons h' .nil
  | cons h hs ih => simpa using OwnL.cons h ih
def mkL (f : Nat → Nat → α) (n m : Nat) : List α := (List.range m).map (f n)
inductive OwnF (E : α → List Value) (k : Nat) (T : TypeId) (f : Nat → Nat → α) : Nat → List (Sl α) → Hp → Prop
  | nil {n : Nat} : OwnF E k T f n [] []
  | cons {n : Nat} {s : Sl α} {sls : List (Sl α)} {S R : Hp} (h : OwnS E k T s.v (mkL f n s.xs.length) S) (hs : OwnF E k T f (n + 1) sls R) : OwnF E k T f n (s :: sls) (S ++ R)
structure Done (E : α → List Value) (f : Nat → Nat → α) (sls ones mores : List (Sl α)) (G : Hp) (n : Nat) : Prop where
  out : ∀ j, j < n → ∃ s o m, sls[j]? = some s ∧ ones[j]? = some o ∧ mores[j]? = some m ∧ o.xs = mkL f j (s.xs.length + 1) ∧ m.xs = mkL f j (s.xs.length + 70) ∧ IsSl s.v s.xs.length ∧ IsSl o.v o.xs.length ∧ IsSl m.v m.xs.length ∧ RdS E s.v (mkL f j s.xs.length) G ∧ RdS E o.v o.xs G ∧ RdS E m.v m.xs G
theorem OwnS.lenv [Enc E k] {s : Sl α} {xs : List α} {S : Hp} (h : OwnS E k T s.v xs S) : xs.length = s.xs.length := by
  obtain ⟨a', c', e', _⟩ := h.sl.out
  simp [Sl.v] at e'; exact e'.2.1.symm
end
end Go.HL

/- Compile's errors; nodes written over. Conditions: none. -/
namespace Go.HL.Kl.Mc
open Go Go.HL Go.HL.Kl
noncomputable def errC (re : List Nd) : Int := if shapedB re = false then 49 else if refsB re = true then 44 else 0
theorem cut_eq {n : Nat} (h : n ≤ 16384) : cut n = n := by unfold cut; omega
structure SetsTo (l : List Nd) (n j : Nat) : Prop where
  len : l.length = n
  rng : ∀ x ∈ l, -128 ≤ x.op ∧ x.op < 128
  get : ∀ t, t < j → ∃ y, l[t]? = some y ∧ y.op = 1 ∧ y.kids = 0
def cls9 (j : Nat) : Cl := mk4 9#64 0#64 (BitVec.ofNat 64 j) 0#64
attribute [irreducible] cls9
def spN (i : Nat) : Nd := ⟨0, 0, ((1048576 * 9 + i + 1 : Nat) : Int), -7, 0, 0⟩
end Go.HL.Kl.Mc
