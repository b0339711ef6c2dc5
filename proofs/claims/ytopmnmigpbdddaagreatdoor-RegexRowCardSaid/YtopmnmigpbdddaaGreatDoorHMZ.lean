/- Maps from structs of four numbers to small numbers. Conditions: none. -/
import Derived.Test.YtopmnmigpbdddaaGreatDoorHlB
import GoSem.Instr.MapUpdate
import GoSem.Instr.MakeMap
import Derived.Test.YtopmnmigpbdddaaGreatDoorMT3Z
namespace Go.HL
open Go
structure Ky where
  a : Int
  b : Int
  c : Int
  d : Int
  deriving DecidableEq
def Ek (k : Ky) : List Value := [.int .i64 k.a, .int .i64 k.b, .int .i64 k.c, .int .i64 k.d]
instance : Enc Ek 4 := ⟨fun _ => rfl, fun x v hv => by
  simp only [Ek, List.mem_cons, List.not_mem_nil, or_false] at hv
  rcases hv with rfl | rfl | rfl | rfl <;> rfl⟩
structure Me where
  k : Ky
  v : Int
  born : Nat
def Me.enc (e : Me) : MapEntry := { key := .agg (Ek e.k).toArray, val := .int .i8 e.v, born := e.born }
def mpO (es : List Me) (c : Nat) : Obj := .map (es.map Me.enc).toArray c
def getK (es : List Me) (k : Ky) : Int := ((es.find? (fun e => decide (k = e.k))).map (·.v)).getD 0
def putAt (v : Int) : List Me → Ky → List Me
  | [], _ => []
  | e :: es, k => if k = e.k then { e with v := v } :: es else e :: putAt v es k
theorem getK_nil (k : Ky) : getK [] k = 0 := rfl
theorem getK_cons (e : Me) (es : List Me) (k : Ky) : getK (e :: es) k = if k = e.k then e.v else getK es k := by
  unfold getK
  by_cases h : k = e.k <;> simp [List.find?_cons, h]
theorem getK_push {es : List Me} {k : Ky} (hn : ∀ e ∈ es, k ≠ e.k) (v : Int) (n : Nat) (j : Ky) : getK (es ++ [⟨k, v, n⟩]) j = if j = k then v else getK es j := by
  induction es with
  | nil => simp [getK_cons, getK_nil]
  | cons e es ih =>
    rw [List.cons_append, getK_cons, getK_cons, ih (fun e' h => hn e' (List.mem_cons_of_mem _ h))]
    by_cases h : j = k
    · subst h; rw [if_neg (hn e List.mem_cons_self)]; simp
    · simp [h]
theorem getK_put {es : List Me} {k : Ky} (h : ∃ e ∈ es, k = e.k) (v : Int) (j : Ky) : getK (putAt v es k) j = if j = k then v else getK es j := by
  induction es with
  | nil => obtain ⟨e, he, _⟩ := h; cases he
  | cons e es ih =>
    unfold putAt
    by_cases hk : k = e.k
    · rw [if_pos hk, getK_cons, getK_cons]
      by_cases hj : j = k
      · simp [hj, hk]
      · rw [if_neg (by simp; rw [← hk]; exact hj), if_neg hj, if_neg (by rw [← hk]; exact hj)]
    · rw [if_neg hk, getK_cons, getK_cons, ih (by
        obtain ⟨e', he, hk'⟩ := h
        rcases List.mem_cons.1 he with rfl | he
        · exact absurd hk' hk
        · exact ⟨e', he, hk'⟩)]
      by_cases hj : j = k
      · subst hj; rw [if_neg hk]; simp
      · simp [hj]
section
variable {P : Program} {κ : Cx} {Q : Pst} {L : Loc} {H H' : Hp} {ops : Array Oper} {rest : List Oper} {ty t t' : TypeId} {d : Nat} {pos : String} {af : Array Edge} {x y z : Operand}
theorem ky_fq {e : Nat} [TU P e (.int .i64)] [TG P e true] (w : World) (p q : Ky) : FQ P w 9998 (Ek p).toArray (Ek q).toArray [(e, 0), (e, 1), (e, 2), (e, 3)] (decide (p = q)) := by
  have h : FQ P w 9998 (Ek p).toArray (Ek q).toArray [(e, 0), (e, 1), (e, 2), (e, 3)] _ :=
    .int (j := .i64) (p := p.a) (q := q.a) rfl rfl (.int (j := .i64) (p := p.b) (q := q.b) rfl rfl (.int (j := .i64) (p := p.c) (q := q.c) rfl rfl (.int (j := .i64) (p := p.d) (q := q.d) rfl rfl .nil)))
  have e : (p.a == q.a && (p.b == q.b && (p.c == q.c && (p.d == q.d && true)))) = decide (p = q) := by
    cases p; cases q
    simp only [Ky.mk.injEq, Bool.and_true]
    rw [Bool.eq_iff_iff]
    simp
  rw [← e]; exact h
theorem ky_eq {e : Nat} [TU P e (.int .i64)] [TG P e true] [Go.HL.TQ P t [(e, 0), (e, 1), (e, 2), (e, 3)]] (w : World) (p q : Ky) : (Op.equal t (.agg (Ek p).toArray) (.agg (Ek q).toArray)).run P w = .ok (decide (p = q)) w := by
  have h : ∀ w, (Op.equalIn (9998 + 2) t (.agg (Ek p).toArray) (.agg (Ek q).toArray)).run P w = .ok (decide (p = q)) w := fun w => re_struct (ky_fq w p q)
  exact h w
theorem ky_struct {l : List (Nat × Nat)} [tq : TQ P t l] : ∃ fs : Array Field, P.underlying t = some (.struct fs) ∧ fs.toList.map (fun f => (f.type, f.offset)) = l := by
  have hq := tq.out
  cases hu : P.underlying t with
  | none => simp [hu] at hq
  | some D =>
    rw [hu] at hq
    cases D
    case struct fs =>
      simp only [Option.bind_some, fieldsOf] at hq
      split at hq
      case isFalse => cases hq
      case isTrue hc =>
        simp only [Option.some.injEq] at hq
        exact ⟨fs, rfl, hq⟩
    all_goals simp [fieldsOf] at hq
theorem forIn_ok {β : Type} {f : β → PUnit → Sem (ForInStep PUnit)} {w : World} : ∀ {l : List β}, (∀ x ∈ l, (f x ⟨⟩).run P w = .ok (.yield ⟨⟩) w) → (forIn (m := Sem) l PUnit.unit f).run P w = .ok ⟨⟩ w := by
  intro l
  induction l with
  | nil => intro _; simp
  | cons x l ih =>
    intro h
    rw [List.forIn_cons, Sem.run_bind, h x List.mem_cons_self, Result.andThen_ok]
    exact ih fun y hy => h y (List.mem_cons_of_mem _ hy)
theorem checkInt {e n : Nat} {b : Bool} {v : Value} [TU P e (.int .i64)] (w : World) : (Instr.checkKey b (n + 1) e v).run P w = .ok () w := by
  unfold Instr.checkKey
  rw [Sem.run_bind, run_u, Result.andThen_ok]
  cases v <;> simp
theorem ky_check {e : Nat} {b : Bool} [TU P e (.int .i64)] [TG P e true] [Go.HL.TQ P t [(e, 0), (e, 1), (e, 2), (e, 3)]] (w : World) (k : Ky) : (Instr.checkKey b 10000 t (.agg (Ek k).toArray)).run P w = .ok () w := by
  obtain ⟨fs, hu, hl⟩ := ky_struct (P := P) (t := t) (l := [(e, 0), (e, 1), (e, 2), (e, 3)])
  show (Instr.checkKey b (9998 + 2) t (.agg (Ek k).toArray)).run P w = .ok () w
  unfold Instr.checkKey
  rw [Sem.run_bind, run_underlying hu, Result.andThen_ok]
  simp only []
  rw [← Array.forIn_toList, Sem.run_bind]
  refine (congrArg (fun r => Result.andThen r _) (forIn_ok fun f hf => ?_)).trans (by simp)
  have hm : (f.type, f.offset) ∈ [(e, 0), (e, 1), (e, 2), (e, 3)] := by rw [← hl]; exact List.mem_map.2 ⟨f, hf, rfl⟩
  have hp : f.type = e ∧ ∃ v, (Ek k).toArray[f.offset]? = some v := by
    simp only [List.mem_cons, Prod.mk.injEq, List.not_mem_nil, or_false] at hm
    rcases hm with ⟨h1, h2⟩ | ⟨h1, h2⟩ | ⟨h1, h2⟩ | ⟨h1, h2⟩ <;> exact ⟨h1, by rw [h2]; exact ⟨_, rfl⟩⟩
  obtain ⟨h1, v, hv⟩ := hp
  rw [h1]
  have hpp := part_plain (P := P) (e := e) (w := w) hv
  split
  · simp only [Sem.run_bind, hpp, Result.andThen_ok, checkInt, Sem.run_pure]
  · simp
theorem find_ask {e : Nat} [TU P e (.int .i64)] [TG P e true] [Go.HL.TQ P t [(e, 0), (e, 1), (e, 2), (e, 3)]] (w : World) (k : Ky) : ∀ (es : List Me) (i : Nat), ∃ r, (Instr.findAsking t (.agg (Ek k).toArray) (es.map Me.enc) i).run P w = .ok r w ∧
    ((r = none ∧ ∀ e ∈ es, k ≠ e.k) ∨ ∃ j v, r = some (i + j, .int .i8 v) ∧ v = getK es k ∧ (∃ e, es[j]? = some e ∧ k = e.k) ∧ ∀ u, (es.map Me.enc).toArray.modify j (fun e => { e with val := .int .i8 u, key := .agg (Ek k).toArray }) = ((putAt u es k).map Me.enc).toArray) := by
  intro es
  induction es with
  | nil => intro i; exact ⟨none, by simp [Instr.findAsking], .inl ⟨rfl, fun e h => by cases h⟩⟩
  | cons e es ih =>
    intro i
    simp only [List.map_cons]
    unfold Instr.findAsking
    rw [Sem.run_bind]
    have he := ky_eq (P := P) (t := t) w k e.k
    rw [show e.enc.key = .agg (Ek e.k).toArray from rfl, he, Result.andThen_ok]
    by_cases h : k = e.k
    · refine ⟨some (i, .int .i8 e.v), by simp [h, Me.enc], .inr ⟨0, e.v, by simp, by rw [getK_cons, if_pos h], ⟨e, rfl, h⟩, fun u => ?_⟩⟩
      apply Array.ext'
      rw [Array.toList_modify]
      simp [putAt, h, Me.enc]
    · obtain ⟨r, hr, hc⟩ := ih (i + 1)
      refine ⟨r, by simp [h, hr], ?_⟩
      rcases hc with ⟨h1, h2⟩ | ⟨j, v, h1, h2, ⟨e', he', hk⟩, h4⟩
      · exact .inl ⟨h1, fun e' he' => by rcases List.mem_cons.1 he' with rfl | he'; exact h; exact h2 e' he'⟩
      · refine .inr ⟨j + 1, v, by rw [h1]; congr 2; omega, by rw [getK_cons, if_neg h, h2], ⟨e', by simpa using he', hk⟩, fun u => ?_⟩
        have := congrArg Array.toList (h4 u)
        rw [Array.toList_modify] at this
        apply Array.ext'
        rw [Array.toList_modify]
        simp only [putAt, if_neg h, List.map_cons, List.modify_succ_cons]
        rw [show (List.map Me.enc es).modify j _ = _ from this]
theorem find_key {e : Nat} [TU P e (.int .i64)] [TG P e true] [Go.HL.TQ P t [(e, 0), (e, 1), (e, 2), (e, 3)]] (w : World) (k : Ky) (es : List Me) : ∃ r, (Instr.findKey t (.agg (Ek k).toArray) (es.map Me.enc)).run P w = .ok r w ∧
    ((r = none ∧ ∀ e ∈ es, k ≠ e.k) ∨ ∃ j v, r = some (j, .int .i8 v) ∧ v = getK es k ∧ (∃ e, es[j]? = some e ∧ k = e.k) ∧ ∀ u, (es.map Me.enc).toArray.modify j (fun e => { e with val := .int .i8 u, key := .agg (Ek k).toArray }) = ((putAt u es k).map Me.enc).toArray) := by
  obtain ⟨fs, hu, hl⟩ := ky_struct (P := P) (t := t) (l := [(e, 0), (e, 1), (e, 2), (e, 3)])
  obtain ⟨r, hr, hc⟩ := find_ask (P := P) (t := t) w k es 0
  refine ⟨r, ?_, by simpa using hc⟩
  unfold Instr.findKey
  rw [Sem.run_bind, run_underlying hu, Result.andThen_ok]
  cases es with
  | nil =>
    simp only [List.map_nil, Instr.findNow]
    simpa [Instr.findAsking] using hr
  | cons e es =>
    have hn : Instr.findNow (.struct fs) (.agg (Ek k).toArray) ((e :: es).map Me.enc) 0 = none := by
      simp [Instr.findNow, Instr.sameNow]
    rw [hn]
    exact hr
theorem getK_none {es : List Me} {k : Ky} (h : ∀ e ∈ es, k ≠ e.k) : getK es k = 0 := by
  induction es with
  | nil => rfl
  | cons e es ih => rw [getK_cons, if_neg (h e List.mem_cons_self)]; exact ih fun e' he => h e' (List.mem_cons_of_mem _ he)
theorem run_getObj {w : World} {b c : Nat} {es : List Me} (h : w.heap[b]? = some (mpO es c)) : (getObj b).run P w = .ok (mpO es c) w := by
  simp [getObj, Sem.run, h, mpO]
theorem run_setObj {w : World} {b c : Nat} {es : List Me} (hb : w.heap[b]? = some (mpO es c)) (o : Obj) : (setObj b o).run P w = .ok () { w with heap := w.heap.setIfInBounds b o } := by
  simp [setObj, Sem.run, hb, mpO]
theorem s_look {kt vt e b c : Nat} {es : List Me} {k : Ky} [TU P t (.map kt vt)] [TU P e (.int .i64)] [TG P e true] [Go.HL.TQ P kt [(e, 0), (e, 1), (e, 2), (e, 3)]] [tz : TZ P vt (.int .i8 0)] (hx : ev L x = some (.map (some b))) (hy : ev L y = some (.agg (Ek k).toArray)) (hm : (b, mpO es c) ∈ H) :
    Step P κ (.lookup t x y false) ty L H (.int .i8 (getK es k)) :=
  ⟨fun ρ w d pos af g hρ st => by
    have ho := run_getObj (P := P) (st.has _ _ hm)
    obtain ⟨r, hr, hc⟩ := find_key (P := P) (t := kt) w k es
    have hck := fun b => ky_check (P := P) (t := kt) (b := b) w k
    have hl : (Instr.lookup t (.map (some b)) (.agg (Ek k).toArray) false).run P w = .ok (.int .i8 (getK es k)) w := by
      unfold Instr.lookup
      simp only [Sem.run_bind, run_u, Result.andThen_ok, ho, mpO, hck, Sem.run_pure]
      rw [hr]
      rcases hc with ⟨h1, h2⟩ | ⟨j, v, h1, h2, _⟩
      · subst h1
        rw [getK_none h2]
        simp [run_zero]
      · subst h1; subst h2
        simp
    simp [execOp, hρ _ _ hx, hρ _ _ hy, hl]⟩
theorem sameBits_ky (k : Ky) : Instr.sameBits 10000 (.agg (Ek k).toArray) (.agg (Ek k).toArray) = true := by
  show Instr.sameBits (9999 + 1) _ _ = true
  simp [Instr.sameBits, Ek]
theorem o_mset {kt vt e b c : Nat} {es : List Me} {k : Ky} {u : Int} {R : Hp} [TU P t (.map kt vt)] [TU P e (.int .i64)] [TG P e true] [Go.HL.TQ P kt [(e, 0), (e, 1), (e, 2), (e, 3)]] (hx : ev L x = some (.map (some b))) (hy : ev L y = some (.agg (Ek k).toArray)) (hz : ev L z = some (.int .i8 u))
    (hpk : Pick H [(b, mpO es c)] R) (h : ∀ es' c', (∀ j, getK es' j = if j = k then u else getK es j) → O P κ ops Q rest L ((b, mpO es' c') :: R)) : O P κ ops Q (⟨none, .mapUpdate t x y z, ty, pos, af, none⟩ :: rest) L H := by
  refine ⟨fun ro a w hro ok => op_want rfl ?_⟩
  have e1 := ok.fr.ev hx
  have e2 := ok.fr.ev hy
  have e3 := ok.fr.ev hz
  have st := ok.st.perm hpk.perm
  have ho := run_getObj (P := P) (st.has _ _ (List.mem_cons_self))
  obtain ⟨r, hr, hc⟩ := find_key (P := P) (t := kt) w k es
  have hck := fun b => ky_check (P := P) (t := kt) (b := b) w k
  have key : ∃ es' c', (Instr.mapUpdate t (.map (some b)) (.agg (Ek k).toArray) (.int .i8 u)).run P w = .ok () { w with heap := w.heap.setIfInBounds b (mpO es' c') } ∧ ∀ j, getK es' j = if j = k then u else getK es j := by
    rcases hc with ⟨h1, h2⟩ | ⟨j, v, h1, h2, ⟨e', he', hk⟩, h4⟩
    · refine ⟨es ++ [⟨k, u, c⟩], c + 1, ?_, fun j => getK_push h2 u c j⟩
      subst h1
      unfold Instr.mapUpdate
      simp only [Sem.run_bind, run_u, Result.andThen_ok, ho, mpO, hck, hr]
      have e9 : (List.map Me.enc es).toArray.push { key := .agg (Ek k).toArray, val := .int .i8 u, born := c } = (List.map Me.enc (es ++ [⟨k, u, c⟩])).toArray := by
        simp [Me.enc]
      exact e9 ▸ run_setObj (hb := st.has _ _ List.mem_cons_self) _
    · refine ⟨putAt u es k, c, ?_, fun i => getK_put ⟨e', List.mem_of_getElem? he', hk⟩ u i⟩
      subst h1
      unfold Instr.mapUpdate
      simp only [Sem.run_bind, run_u, Result.andThen_ok, ho, mpO, hck, hr]
      have e8 : ((Option.map (fun x => x.key) (List.map Me.enc es).toArray[j]?).getD (Value.agg (Ek k).toArray)) = .agg (Ek k).toArray := by
        rw [List.getElem?_toArray, List.getElem?_map, he']
        simp [Me.enc, hk]
      simp only [Instr.keyThatStays, e8, sameBits_ky, if_true, Sem.run_pure, Result.andThen_ok, h4]
      exact run_setObj (hb := st.has _ _ List.mem_cons_self) _
  obtain ⟨es', c', hrun, hg⟩ := key
  have : (execOp a.eval ⟨none, .mapUpdate t x y z, ty, pos, af, none⟩).run P w = .ok .skip { w with heap := w.heap.setIfInBounds b (mpO es' c') } := by
    simp [execOp, e1, e2, e3, hrun]
  exact op_skip this ((h es' c' hg).out ro _ _ hro.tail ⟨ok.fr, st.put rfl rfl rfl rfl⟩)
theorem o_mmap (hn : Nat.blt d κ.n = true) (h : ∀ b, O P κ ops Q rest ((d, .map (some b)) :: L) ((b, mpO [] 0) :: H)) : O P κ ops Q (⟨some d, .makeMap t none, ty, pos, af, none⟩ :: rest) L H :=
  o_gen (fun u H' => ∃ b, u = .map (some b) ∧ H' = (b, mpO [] 0) :: H) hn
    (fun ρ w pos af g hρ st => ⟨_, _, _, by simp [execOp, Instr.makeMap, newObj, Sem.run, mpO], ⟨_, rfl, rfl⟩, st.alloc _⟩)
    (fun u H' ⟨b, hu, hH⟩ => by subst hu; subst hH; exact h b)
end
end Go.HL
namespace Go.HL
open Go
theorem St.own_puts {P : Program} {α : Type} {E : α → List Value} {k : Nat} [he : Enc E k] {T : TypeId} {v : Value} {xs ys : List α} {S R : Hp} {w0 w : World} {M : List Nat} (ho : OwnS E k T v xs S) (st : St w0 w M (S ++ R)) (hl : ys.length = xs.length) (hne : xs ≠ []) :
    ∃ A n c, v = .slice (some A) n c ∧ ∃ w' S', (storeCells A (flat E ys) 0).run P w = .ok () w' ∧ OwnS E k T v ys S' ∧ St w0 w' M (S' ++ R) := by
  cases ho with
  | nil => exact absurd rfl hne
  | blk hc hn hm hz hf =>
    rename_i b c zs fr
    have hlen := flat_len E xs
    have hlen2 := flat_len E ys
    have hxc : xs.length * k ≤ c * k := Nat.mul_le_mul_right _ hn
    refine ⟨_, _, _, rfl, ?_⟩
    obtain ⟨w', hr, hh, hos, htp, hop⟩ := run_storeCells (P := P) (b := b) (T := T) (f := fr) (flat E ys) 0 0 (flat E xs ++ zs) w (st.has _ _ (List.mem_append_left _ List.mem_cons_self)) (by rw [List.length_append, hlen, hlen2, hl]; omega) (flat_one E ys) (fun j hj => frz_of hf (by rw [hlen2, hl] at hj; omega))
    have e2 : splice (flat E xs ++ zs) (0 + 0) (flat E ys) = flat E ys ++ zs := by
      simp only [splice, Nat.zero_add, List.take_zero, List.nil_append]
      rw [List.drop_left' (by rw [hlen, hlen2, hl])]
    refine ⟨w', [(b, .cells (splice (flat E xs ++ zs) (0 + 0) (flat E ys)).toArray T fr)], hr, ?_, St.put (R := R) st hh hos htp hop⟩
    rw [e2]
    have := OwnS.blk (E := E) (k := k) (T := T) (b := b) (c := c) (xs := ys) (zs := zs) (fr := fr) (by rw [List.length_append, hlen2, hl]; rw [List.length_append, hlen] at hc; exact hc) (by rw [hl]; exact hn) (by rw [hl]; exact hm) hz hf
    rw [hl] at this
    exact this
theorem zero_cells {α : Type} {E : α → List Value} {k : Nat} [he : Enc E k] {zv : Value} {zx : α} (hz : zv.cells.toList = E zx) (m : Nat) : (Builtin.zeroCells zv.cells m).toList = flat E (List.replicate m zx) := by
  have hk : zv.cells.size = k := by rw [← Array.length_toList, hz, he.len]
  apply List.ext_getElem?
  intro j
  simp only [Builtin.zeroCells, Array.toList_map, hk]
  by_cases hj : j < m * k
  · have hk0 : 0 < k := by
      rcases Nat.eq_zero_or_pos k with h | h
      · subst h; simp at hj
      · exact h
    have hq : j / k < m := (Nat.div_lt_iff_lt_mul hk0).2 hj
    have hr : j % k < k := Nat.mod_lt _ hk0
    have h2 := flat_get E (List.replicate m zx) (i := j / k) (x := zx) (by simp [hq]) hr
    rw [show j / k * k + j % k = j by rw [Nat.mul_comm]; exact Nat.div_add_mod j k] at h2
    rw [h2, ← hz]
    simp only [Array.toList_range, List.getElem?_map]
    rw [List.getElem?_range hj]
    simp only [Option.map_some]
    rw [getElem!_pos zv.cells _ (by rw [hk]; exact hr)]
    simp [hk, hr]
  · rw [List.getElem?_eq_none (by simp; omega), List.getElem?_eq_none (by rw [flat_len]; simp; omega)]
section
variable {P : Program} {κ : Cx} {Q : Pst} {L L' : Loc} {H H' : Hp} {ops : Array Oper} {rest : List Oper} {ty t t' : TypeId} {d : Nat} {pos : String} {af : Array Edge} {v u : Value} {x y z : Operand} {α : Type} {E : α → List Value} {k : Nat}
theorem Src.of_rdk [he : Enc E k] {ys : List α} {w : World} (h : RdK E κ H u ys) (st : St κ.w0 w κ.M H) : Src P w k u ys.length (flat E ys) := Src.of_rd (h.out w st)
theorem o_copy [he : Enc E k] {T by' : Nat} {xs ys : List α} {S R : Hp} [tu : TU P t (.slice T)] [ti : TI P T k by'] (ho : OwnS E k T v xs S) (hs : RdK E κ H u ys) (hl : ys.length = xs.length) (hx : ev L x = some v) (hy : ev L y = some u) (hpk : Pick H S R)
    (hn : Nat.blt d κ.n = true) (h : ∀ S', OwnS E k T v ys S' → O P κ ops Q rest ((d, .int .i64 (ys.length : Nat)) :: L) (S' ++ R)) : O P κ ops Q (⟨some d, .call ⟨.builtin .copy, #[x, y], #[t, t']⟩, ty, pos, af, none⟩ :: rest) L H := by
  refine ⟨fun ro a w hro ok => op_want rfl ?_⟩
  have e1 := ok.fr.ev hx
  have e2 := ok.fr.ev hy
  have hsrc := Src.of_rdk (P := P) hs ok.st
  by_cases hne : xs = []
  · subst hne
    have hy0 : ys = [] := List.eq_nil_of_length_eq_zero hl
    subst hy0
    obtain ⟨a0, c0, rfl, _⟩ := ho.sl.out
    have hlen := hsrc.len w
    have hcl := hsrc.cells w rfl
    simp only [List.length_nil, flat, List.flatMap_nil] at hlen hcl
    have : (execOp a.eval ⟨some d, .call ⟨.builtin .copy, #[x, y], #[t, t']⟩, ty, pos, af, none⟩).run P w = .ok (.value (.int .i64 0)) w := by
      cases a0 <;> simp [execOp, resolve, invoke, builtin, Builtin.copy_, e1, e2, run_u, run_size, hlen, hcl, storeCells, goInt]
    exact op_val this ((h S ho).out ro _ _ hro.tail ⟨ok.fr.put hn _, ok.st.perm hpk.perm⟩)
  · obtain ⟨A, n, c, hv, w', S', hr, ho', st'⟩ := St.own_puts (P := P) ho (ok.st.perm hpk.perm) hl hne
    obtain ⟨a0, c0, hv2, _⟩ := ho.sl.out
    subst hv
    simp only [Value.slice.injEq] at hv2
    obtain ⟨rfl, rfl, rfl⟩ := hv2
    have hlen := hsrc.len w
    have hcl := hsrc.cells w rfl
    have hmin : Nat.min ys.length xs.length = ys.length := by rw [hl]; exact Nat.min_self _
    have : (execOp a.eval ⟨some d, .call ⟨.builtin .copy, #[x, y], #[t, t']⟩, ty, pos, af, none⟩).run P w = .ok (.value (.int .i64 (ys.length : Nat))) w' := by
      simp [execOp, resolve, invoke, builtin, Builtin.copy_, e1, e2, run_u, run_size, hlen, hmin, hcl, hr, goInt]
    exact op_val this ((h S' ho').out ro _ _ hro.tail ⟨ok.fr.put hn _, st'⟩)
theorem o_clear [he : Enc E k] {T by' : Nat} {zv : Value} {zx : α} {xs : List α} {S R : Hp} [tu : TU P t (.slice T)] [_ti : TI P T k by'] [tz : TZ P T zv] (ho : OwnS E k T v xs S) (hz : zv.cells.toList = E zx) (hx : ev L x = some v) (hpk : Pick H S R)
    (h : ∀ S', OwnS E k T v (List.replicate xs.length zx) S' → O P κ ops Q rest L (S' ++ R)) : O P κ ops Q (⟨none, .call ⟨.builtin .clear, #[x], #[t]⟩, ty, pos, af, none⟩ :: rest) L H := by
  refine ⟨fun ro a w hro ok => op_want rfl ?_⟩
  have e1 := ok.fr.ev hx
  by_cases hne : xs = []
  · subst hne
    obtain ⟨a0, c0, rfl, _⟩ := ho.sl.out
    have : (execOp a.eval ⟨none, .call ⟨.builtin .clear, #[x], #[t]⟩, ty, pos, af, none⟩).run P w = .ok (.value (.tuple #[])) w := by
      cases a0 <;> simp [execOp, resolve, invoke, builtin, Builtin.clear_, e1, run_u]
    exact op_val this ((h S (by simpa using ho)).out ro _ _ hro.tail ⟨ok.fr, ok.st.perm hpk.perm⟩)
  · obtain ⟨A, n, c, hv, w', S', hr, ho', st'⟩ := St.own_puts (P := P) (ys := List.replicate xs.length zx) ho (ok.st.perm hpk.perm) (by simp) hne
    obtain ⟨a0, c0, hv2, _⟩ := ho.sl.out
    subst hv
    simp only [Value.slice.injEq] at hv2
    obtain ⟨rfl, rfl, rfl⟩ := hv2
    have hzc : (Builtin.zeroCells zv.cells xs.length).toList = flat E (List.replicate xs.length zx) := zero_cells hz _
    have hn0 : xs.length ≠ 0 := fun h => hne (List.eq_nil_of_length_eq_zero h)
    obtain ⟨n', hn'⟩ : ∃ n', xs.length = n' + 1 := ⟨xs.length - 1, by omega⟩
    have : (execOp a.eval ⟨none, .call ⟨.builtin .clear, #[x], #[t]⟩, ty, pos, af, none⟩).run P w = .ok (.value (.tuple #[])) w' := by
      rw [hn'] at hzc hr e1
      simp [execOp, resolve, invoke, builtin, Builtin.clear_, e1, run_u, run_zero, hzc, hr]
    exact op_val this ((h S' ho').out ro _ _ hro.tail ⟨ok.fr, st'⟩)
theorem s_cap {e : TypeId} {n c : Nat} {a : Option Addr} [TU P t (.slice e)] (hx : ev L x = some (.slice a n c)) : Step P κ (.call ⟨.builtin .cap, #[x], #[t]⟩) ty L H (.int .i64 c) :=
  ⟨fun ρ w d pos af g hρ _ => by simp [execOp, resolve, invoke, builtin, Builtin.cap_, hρ _ _ hx, run_u, goInt]⟩
theorem Fn.sub {f : FuncId} {args : List Value} {pre : World → Prop} {S : Hp} {post post' : Value → Hp → Prop} (h : Fn P f args pre S post) (hq : ∀ v S', post v S' → ∃ S2, HSub S' S2 ∧ post' v S2) : Fn P f args pre S post' :=
  ⟨h.enters, fun w hw hS => (h.calls w hw hS).mono fun e w' hpost => by
    obtain ⟨v, S', he, hv, hst⟩ := hpost.out
    obtain ⟨S2, h1, h2⟩ := hq _ _ hv
    exact ⟨v, S2, he, h2, hst.sub h1⟩⟩
end
end Go.HL
namespace Go.HL
open Go
class KE (P : Program) (kt : TypeId) {κ : Type} [DecidableEq κ] (Ek : κ → Value) : Prop where
  eq : ∀ w a b, (Op.equal kt (Ek a) (Ek b)).run P w = .ok (decide (a = b)) w
  check : ∀ w b k, (Instr.checkKey b 10000 kt (Ek k)).run P w = .ok () w
  bits : ∀ k, Instr.sameBits 10000 (Ek k) (Ek k) = true
  und : ∃ d, P.underlying kt = some d ∧ ((∀ k k', Instr.sameNow d (Ek k) (Ek k') = none) ∨ ∀ k k', Instr.sameNow d (Ek k) (Ek k') = some (decide (k = k')))
structure Mx (κ : Type) where
  k : κ
  v : Value
  born : Nat
section
variable {κ : Type} [DecidableEq κ] {Ek : κ → Value}
def Mx.enc (Ek : κ → Value) (e : Mx κ) : MapEntry := { key := Ek e.k, val := e.v, born := e.born }
def mxO (Ek : κ → Value) (es : List (Mx κ)) (c : Nat) : Obj := .map (es.map (Mx.enc Ek)).toArray c
def getM (es : List (Mx κ)) (k : κ) : Option Value := (es.find? (fun e => decide (k = e.k))).map (·.v)
def putM (v : Value) : List (Mx κ) → κ → List (Mx κ)
  | [], _ => []
  | e :: es, k => if k = e.k then { e with v := v } :: es else e :: putM v es k
theorem getM_nil (k : κ) : getM ([] : List (Mx κ)) k = none := rfl
theorem getM_cons (e : Mx κ) (es : List (Mx κ)) (k : κ) : getM (e :: es) k = if k = e.k then some e.v else getM es k := by
  unfold getM
  by_cases h : k = e.k <;> simp [List.find?_cons, h]
theorem getM_none {es : List (Mx κ)} {k : κ} (h : ∀ e ∈ es, k ≠ e.k) : getM es k = none := by
  induction es with
  | nil => rfl
  | cons e es ih => rw [getM_cons, if_neg (h e List.mem_cons_self)]; exact ih fun e' he => h e' (List.mem_cons_of_mem _ he)
theorem getM_push {es : List (Mx κ)} {k : κ} (hn : ∀ e ∈ es, k ≠ e.k) (v : Value) (n : Nat) (j : κ) : getM (es ++ [⟨k, v, n⟩]) j = if j = k then some v else getM es j := by
  induction es with
  | nil => simp [getM_cons, getM_nil]
  | cons e es ih =>
    rw [List.cons_append, getM_cons, getM_cons, ih (fun e' h => hn e' (List.mem_cons_of_mem _ h))]
    by_cases h : j = k
    · subst h; rw [if_neg (hn e List.mem_cons_self)]; simp
    · simp [h]
theorem putM_len (v : Value) : ∀ (es : List (Mx κ)) (k : κ), (putM v es k).length = es.length
  | [], _ => rfl
  | e :: es, k => by
    unfold putM
    split
    · rfl
    · rw [List.length_cons, putM_len v es k, List.length_cons]
theorem getM_put {es : List (Mx κ)} {k : κ} (h : ∃ e ∈ es, k = e.k) (v : Value) (j : κ) : getM (putM v es k) j = if j = k then some v else getM es j := by
  induction es with
  | nil => obtain ⟨e, he, _⟩ := h; cases he
  | cons e es ih =>
    unfold putM
    by_cases hk : k = e.k
    · rw [if_pos hk, getM_cons, getM_cons]
      by_cases hj : j = k
      · simp [hj, hk]
      · rw [if_neg (by simp; rw [← hk]; exact hj), if_neg hj, if_neg (by rw [← hk]; exact hj)]
    · rw [if_neg hk, getM_cons, getM_cons, ih (by
        obtain ⟨e', he, hk'⟩ := h
        rcases List.mem_cons.1 he with rfl | he
        · exact absurd hk' hk
        · exact ⟨e', he, hk'⟩)]
      by_cases hj : j = k
      · subst hj; rw [if_neg hk]; simp
      · simp [hj]
end
section
variable {P : Program} {κ : Cx} {Q : Pst} {L : Loc} {H : Hp} {ops : Array Oper} {rest : List Oper} {ty t kt : TypeId} {d : Nat} {pos : String} {af : Array Edge} {x : Operand} {K : Type} {Ek : K → Value}
theorem run_getObj2 {w : World} {b c : Nat} {es : List (Mx K)} (h : w.heap[b]? = some (mxO Ek es c)) : (getObj b).run P w = .ok (mxO Ek es c) w := by
  simp [getObj, Sem.run, h, mxO]
theorem run_setObj2 {w : World} {b c : Nat} {es : List (Mx K)} (hb : w.heap[b]? = some (mxO Ek es c)) (o : Obj) : (setObj b o).run P w = .ok () { w with heap := w.heap.setIfInBounds b o } := by
  simp [setObj, Sem.run, hb, mxO]
theorem s_lenmap {vt b c : Nat} {es : List (Mx K)} [TU P t (.map kt vt)] (hx : ev L x = some (.map (some b))) (hm : (b, mxO Ek es c) ∈ H) : Step P κ (.call ⟨.builtin .len, #[x], #[t]⟩) ty L H (.int .i64 es.length) :=
  ⟨fun ρ w d pos af g hρ st => by
    have ho := run_getObj2 (P := P) (st.has _ _ hm)
    simp [execOp, resolve, invoke, builtin, Builtin.len_, hρ _ _ hx, run_u, ho, mxO, goInt]⟩
theorem o_mmap2 (hn : Nat.blt d κ.n = true) (h : ∀ b, O P κ ops Q rest ((d, .map (some b)) :: L) ((b, mxO Ek [] 0) :: H)) : O P κ ops Q (⟨some d, .makeMap t none, ty, pos, af, none⟩ :: rest) L H :=
  o_mmap hn fun b => by simpa [mpO, mxO] using h b
end
section
variable {P : Program} {κ : Cx} {Q : Pst} {L : Loc} {H H' : Hp} {ops : Array Oper} {rest : List Oper} {ty t t' kt : TypeId} {d : Nat} {pos : String} {af : Array Edge} {x y z : Operand} {K : Type} [DecidableEq K] {Ek : K → Value}
def Found (Ek : K → Value) (es : List (Mx K)) (k : K) (i : Nat) (r : Option (Nat × Value)) : Prop :=
  (r = none ∧ ∀ e ∈ es, k ≠ e.k) ∨ ∃ j v, r = some (i + j, v) ∧ getM es k = some v ∧ (∃ e, es[j]? = some e ∧ k = e.k) ∧ ∀ u, (es.map (Mx.enc Ek)).toArray.modify j (fun e => { e with val := u, key := Ek k }) = ((putM u es k).map (Mx.enc Ek)).toArray
theorem Found.nil {k : K} {i : Nat} : Found Ek [] k i none := .inl ⟨rfl, fun e h => by cases h⟩
theorem Found.here {e : Mx K} {es : List (Mx K)} {k : K} {i : Nat} (h : k = e.k) : Found Ek (e :: es) k i (some (i, e.v)) :=
  .inr ⟨0, e.v, by simp, by rw [getM_cons, if_pos h], ⟨e, rfl, h⟩, fun u => by
    apply Array.ext'
    rw [Array.toList_modify]
    simp [putM, h, Mx.enc]⟩
theorem Found.later {e : Mx K} {es : List (Mx K)} {k : K} {i : Nat} {r : Option (Nat × Value)} (h : ¬ k = e.k) (hc : Found Ek es k (i + 1) r) : Found Ek (e :: es) k i r := by
  rcases hc with ⟨h1, h2⟩ | ⟨j, v, h1, h2, ⟨e', he', hk⟩, h4⟩
  · exact .inl ⟨h1, fun e' he' => by rcases List.mem_cons.1 he' with rfl | he'; exact h; exact h2 e' he'⟩
  · refine .inr ⟨j + 1, v, by rw [h1]; congr 2; omega, by rw [getM_cons, if_neg h, h2], ⟨e', by simpa using he', hk⟩, fun u => ?_⟩
    have := congrArg Array.toList (h4 u)
    rw [Array.toList_modify] at this
    apply Array.ext'
    rw [Array.toList_modify]
    simp only [putM, if_neg h, List.map_cons, List.modify_succ_cons]
    rw [show (List.map (Mx.enc Ek) es).modify j _ = _ from this]
theorem find_ask2 [ke : KE P kt Ek] (w : World) (k : K) : ∀ (es : List (Mx K)) (i : Nat), ∃ r, (Instr.findAsking kt (Ek k) (es.map (Mx.enc Ek)) i).run P w = .ok r w ∧ Found Ek es k i r := by
  intro es
  induction es with
  | nil => intro i; exact ⟨none, by simp [Instr.findAsking], .nil⟩
  | cons e es ih =>
    intro i
    simp only [List.map_cons]
    unfold Instr.findAsking
    rw [Sem.run_bind]
    rw [show (Mx.enc Ek e).key = Ek e.k from rfl, ke.eq, Result.andThen_ok]
    by_cases h : k = e.k
    · exact ⟨some (i, e.v), by simp [h, Mx.enc], .here h⟩
    · obtain ⟨r, hr, hc⟩ := ih (i + 1)
      exact ⟨r, by simp [h, hr], .later h hc⟩
theorem find_now2 {D : TypeDesc} (hD : ∀ k k' : K, Instr.sameNow D (Ek k) (Ek k') = some (decide (k = k'))) (k : K) : ∀ (es : List (Mx K)) (i : Nat), ∃ r, Instr.findNow D (Ek k) (es.map (Mx.enc Ek)) i = some r ∧ Found Ek es k i r := by
  intro es
  induction es with
  | nil => intro i; exact ⟨none, rfl, .nil⟩
  | cons e es ih =>
    intro i
    simp only [List.map_cons]
    unfold Instr.findNow
    rw [show (Mx.enc Ek e).key = Ek e.k from rfl, hD]
    by_cases h : k = e.k
    · exact ⟨some (i, e.v), by simp [h, Mx.enc], .here h⟩
    · obtain ⟨r, hr, hc⟩ := ih (i + 1)
      exact ⟨r, by simp [h, hr], .later h hc⟩
theorem find_key2 [ke : KE P kt Ek] (w : World) (k : K) (es : List (Mx K)) : ∃ r, (Instr.findKey kt (Ek k) (es.map (Mx.enc Ek))).run P w = .ok r w ∧ Found Ek es k 0 r := by
  obtain ⟨D, hu, hs⟩ := ke.und
  unfold Instr.findKey
  rw [Sem.run_bind, run_underlying hu, Result.andThen_ok]
  rcases hs with hs | hs
  · obtain ⟨r, hr, hc⟩ := find_ask2 (P := P) (kt := kt) (Ek := Ek) w k es 0
    refine ⟨r, ?_, hc⟩
    cases es with
    | nil =>
      simp only [List.map_nil, Instr.findNow]
      simpa [Instr.findAsking] using hr
    | cons e es =>
      have hn : Instr.findNow D (Ek k) ((e :: es).map (Mx.enc Ek)) 0 = none := by
        simp only [List.map_cons, Instr.findNow]
        rw [show (Mx.enc Ek e).key = Ek e.k from rfl, hs]
      rw [hn]
      exact hr
  · obtain ⟨r, hr, hc⟩ := find_now2 hs k es 0
    exact ⟨r, by rw [hr]; simp, hc⟩
theorem run_look2 {vt b c : Nat} {es : List (Mx K)} {k : K} {zv : Value} {ok : Bool} {w : World} [ke : KE P kt Ek] [TU P t (.map kt vt)] [tz : TZ P vt zv] (hm : w.heap[b]? = some (mxO Ek es c)) :
    (Instr.lookup t (.map (some b)) (Ek k) ok).run P w = .ok (if ok then .tuple #[(getM es k).getD zv, .bool (getM es k).isSome] else (getM es k).getD zv) w := by
  have ho := run_getObj2 (P := P) hm
  obtain ⟨r, hr, hc⟩ := find_key2 (P := P) (kt := kt) (Ek := Ek) w k es
  have hck := fun b => ke.check w b k
  unfold Instr.lookup
  simp only [Sem.run_bind, run_u, Result.andThen_ok, ho, mxO, hck, Sem.run_pure]
  rw [hr]
  rcases hc with ⟨h1, h2⟩ | ⟨j, v, h1, h2, _⟩
  · subst h1
    rw [getM_none h2]
    simp [run_zero]
  · subst h1
    rw [h2]
    simp
theorem s_look2 {vt b c : Nat} {es : List (Mx K)} {k : K} {zv : Value} [ke : KE P kt Ek] [TU P t (.map kt vt)] [tz : TZ P vt zv] (hx : ev L x = some (.map (some b))) (hy : ev L y = some (Ek k)) (hm : (b, mxO Ek es c) ∈ H) :
    Step P κ (.lookup t x y false) ty L H ((getM es k).getD zv) :=
  ⟨fun ρ w d pos af g hρ st => by
    have hl := run_look2 (P := P) (t := t) (kt := kt) (vt := vt) (Ek := Ek) (k := k) (ok := false) (st.has _ _ hm)
    simp [execOp, hρ _ _ hx, hρ _ _ hy, hl]⟩
theorem s_look2k {vt b c : Nat} {es : List (Mx K)} {k : K} {zv : Value} [ke : KE P kt Ek] [TU P t (.map kt vt)] [tz : TZ P vt zv] (hx : ev L x = some (.map (some b))) (hy : ev L y = some (Ek k)) (hm : (b, mxO Ek es c) ∈ H) :
    Step P κ (.lookup t x y true) ty L H (.tuple #[(getM es k).getD zv, .bool (getM es k).isSome]) :=
  ⟨fun ρ w d pos af g hρ st => by
    have hl := run_look2 (P := P) (t := t) (kt := kt) (vt := vt) (Ek := Ek) (k := k) (ok := true) (st.has _ _ hm)
    simp [execOp, hρ _ _ hx, hρ _ _ hy, hl]⟩
theorem o_mset2 {vt b c : Nat} {es : List (Mx K)} {k : K} {u : Value} {R : Hp} [ke : KE P kt Ek] [TU P t (.map kt vt)] (hx : ev L x = some (.map (some b))) (hy : ev L y = some (Ek k)) (hz : ev L z = some u)
    (hpk : Pick H [(b, mxO Ek es c)] R) (h : ∀ es' c', (∀ j, getM es' j = if j = k then some u else getM es j) → es'.length = es.length + (if (getM es k).isSome then 0 else 1) → O P κ ops Q rest L ((b, mxO Ek es' c') :: R)) : O P κ ops Q (⟨none, .mapUpdate t x y z, ty, pos, af, none⟩ :: rest) L H := by
  refine ⟨fun ro a w hro ok => op_want rfl ?_⟩
  have e1 := ok.fr.ev hx
  have e2 := ok.fr.ev hy
  have e3 := ok.fr.ev hz
  have st := ok.st.perm hpk.perm
  have ho := run_getObj2 (P := P) (st.has _ _ (List.mem_cons_self))
  obtain ⟨r, hr, hc⟩ := find_key2 (P := P) (kt := kt) (Ek := Ek) w k es
  have hck := fun b => ke.check w b k
  have key : ∃ es' c', (Instr.mapUpdate t (.map (some b)) (Ek k) u).run P w = .ok () { w with heap := w.heap.setIfInBounds b (mxO Ek es' c') } ∧ (∀ j, getM es' j = if j = k then some u else getM es j) ∧ es'.length = es.length + (if (getM es k).isSome then 0 else 1) := by
    rcases hc with ⟨h1, h2⟩ | ⟨j, v, h1, h2, ⟨e', he', hk⟩, h4⟩
    · refine ⟨es ++ [⟨k, u, c⟩], c + 1, ?_, fun j => getM_push h2 u c j, by rw [getM_none h2]; simp⟩
      unfold Instr.mapUpdate
      simp only [Sem.run_bind, run_u, Result.andThen_ok, ho, mxO, hck]
      rw [hr, h1]
      simp only [Result.andThen_ok]
      rw [run_setObj2 (P := P) (Ek := Ek) (es := es) (c := c) (st.has _ _ (List.mem_cons_self))]
      simp [mxO, Mx.enc]
    · refine ⟨putM u es k, c, ?_, fun j => getM_put ⟨e', List.mem_of_getElem? he', hk⟩ u j, by rw [h2, putM_len]; simp⟩
      have hj : ((es.map (Mx.enc Ek)).toArray[j]?).map (·.key) = some (Ek k) := by
        simp [he', Mx.enc, hk]
      have hkey : (((es.map (Mx.enc Ek)).toArray[j]?).map (·.key)).getD (Ek k) = Ek k := by rw [hj]; rfl
      unfold Instr.mapUpdate
      simp only [Sem.run_bind, run_u, Result.andThen_ok, ho, mxO, hck]
      rw [hr, h1]
      simp only [Result.andThen_ok, Nat.zero_add, Sem.run_bind]
      rw [hkey]
      simp only [Instr.keyThatStays, ke.bits, if_true, Sem.run_pure, Result.andThen_ok]
      rw [h4 u, run_setObj2 (P := P) (Ek := Ek) (es := es) (c := c) (st.has _ _ (List.mem_cons_self))]
  obtain ⟨es', c', hrun, hg, hlen⟩ := key
  have hx' : (execOp a.eval ⟨none, .mapUpdate t x y z, ty, pos, af, none⟩).run P w = .ok .skip { w with heap := w.heap.setIfInBounds b (mxO Ek es' c') } := by
    simp [execOp, e1, e2, e3, hrun]
  exact op_skip hx' ((h es' c' hg hlen).out ro _ _ hro.tail ⟨ok.fr, St.put st rfl rfl rfl rfl⟩)
end
end Go.HL
namespace Go.HL
open Go
def VI (agg : Bool) (xs : List Int) : Value := if agg then .agg (intsV .i64 xs).toArray else .int .i64 (xs.headD 0)
class QK (P : Program) (t : TypeId) (agg : outParam Bool) (d s : outParam Nat) : Prop where
  eq : ∀ (w : World) (n : Nat) (xs ys : List Int), d ≤ n → xs.length = s → ys.length = s → (Op.equalIn n t (VI agg xs) (VI agg ys)).run P w = .ok (decide (xs = ys)) w
  chk : ∀ (w : World) (n : Nat) (b : Bool) (xs : List Int), d ≤ n → xs.length = s → (Instr.checkKey b n t (VI agg xs)).run P w = .ok () w
  prt : ∀ (w : World) (cs : List Int) (o : Nat), o + s ≤ cs.length → (part t (intsV .i64 cs).toArray o).run P w = .ok (VI agg ((cs.drop o).take s)) w
section
variable {P : Program} {t e : TypeId}
instance QK.int [TU P t (.int .i64)] [TG P t true] : QK P t false 1 1 where
  eq := fun w n xs ys hn hx hy => by
    obtain ⟨m, rfl⟩ : ∃ m, n = m + 1 := ⟨n - 1, by omega⟩
    match xs, ys, hx, hy with
    | [a], [b], _, _ =>
      show (Op.equalIn (m + 1) t (.int .i64 a) (.int .i64 b)).run P w = _
      rw [re_int w m]
      congr 1
      by_cases h : a = b <;> simp [h]
  chk := fun w n b xs hn hx => by
    obtain ⟨m, rfl⟩ : ∃ m, n = m + 1 := ⟨n - 1, by omega⟩
    exact checkInt w
  prt := fun w cs o ho => by
    have hlt : o < cs.length := by omega
    have h : (intsV .i64 cs).toArray[o]? = some (.int .i64 cs[o]) := by simp [intsV, hlt]
    rw [part_plain h]
    have h2 : (cs.drop o).take 1 = [cs[o]] := by rw [List.drop_eq_getElem_cons hlt]; rfl
    rw [h2]; rfl
theorem agg_part {s b : Nat} [TG P t false] [TI P t s b] (w : World) (cs : List Int) (o : Nat) (_ho : o + s ≤ cs.length) : (part t (intsV .i64 cs).toArray o).run P w = .ok (VI true ((cs.drop o).take s)) w := by
  refine (part_agg (ys := (intsV .i64 ((cs.drop o).take s)).toArray) ?_).trans rfl
  apply Array.ext'
  rw [Array.toList_extract]
  simp [intsV, List.map_take, List.map_drop, List.extract_eq_take_drop]
inductive QF (P : Program) (d : Nat) : List (Nat × Nat) → Nat → Nat → Prop
  | nil {s : Nat} : QF P d [] s s
  | cons {e o s de se : Nat} {l : List (Nat × Nat)} {agg : Bool} (q : QK P e agg de se) (hd : de ≤ d) (h : QF P d l (o + se) s) : QF P d ((e, o) :: l) o s
theorem QF.le {d : Nat} {l : List (Nat × Nat)} {o s : Nat} (h : QF P d l o s) : o ≤ s := by
  induction h with
  | nil => exact Nat.le_refl _
  | cons q hd h ih => omega
theorem QF.fq {d : Nat} {l : List (Nat × Nat)} {o s : Nat} (h : QF P d l o s) {n : Nat} (hn : d ≤ n + 1) {xs ys : List Int} (hx : xs.length = s) (hy : ys.length = s) (w : World) : FQ P w n (intsV .i64 xs).toArray (intsV .i64 ys).toArray l (decide (xs.drop o = ys.drop o)) := by
  induction h with
  | @nil s =>
    have : decide (xs.drop s = ys.drop s) = true := by rw [decide_eq_true_eq, List.drop_of_length_le (by omega), List.drop_of_length_le (by omega)]
    rw [this]; exact .nil
  | @cons e o s de se l agg q hd h ih =>
    have hle := h.le
    have e1 : decide (xs.drop o = ys.drop o) = (decide ((xs.drop o).take se = (ys.drop o).take se) && decide (xs.drop (o + se) = ys.drop (o + se))) := by
      rw [Bool.eq_iff_iff, Bool.and_eq_true, decide_eq_true_eq, decide_eq_true_eq, decide_eq_true_eq]
      constructor
      · intro h
        exact ⟨by rw [h], by rw [← List.drop_drop, ← List.drop_drop, h]⟩
      · rintro ⟨h1, h2⟩
        rw [← List.take_append_drop se (xs.drop o), ← List.take_append_drop se (ys.drop o), h1, List.drop_drop, List.drop_drop, h2]
    rw [e1]
    exact .cons (q.prt w xs o (by omega)) (q.prt w ys o (by omega)) (q.eq w (n + 1) _ _ (by omega) (by rw [List.length_take, List.length_drop]; omega) (by rw [List.length_take, List.length_drop]; omega)) (ih hx hy)
theorem QF.mem {d : Nat} {l : List (Nat × Nat)} {o s : Nat} (h : QF P d l o s) : ∀ p ∈ l, ∃ agg de se, QK P p.1 agg de se ∧ de ≤ d ∧ p.2 + se ≤ s := by
  induction h with
  | nil => intro p hp; cases hp
  | cons q hd h ih =>
    intro p hp
    rcases List.mem_cons.1 hp with rfl | hp
    · exact ⟨_, _, _, q, hd, h.le⟩
    · exact ih p hp
theorem QK.struct {d s b : Nat} {l : List (Nat × Nat)} [Go.HL.TQ P t l] [TG P t false] [TI P t s b] (hd : 1 ≤ d) (hf : QF P d l 0 s) : QK P t true (d + 1) s where
  eq := fun w n xs ys hn hx hy => by
    obtain ⟨m, rfl⟩ : ∃ m, n = m + 2 := ⟨n - 2, by omega⟩
    have := re_struct (P := P) (t := t) (hf.fq (n := m) (by omega) hx hy w)
    simpa [VI] using this
  chk := fun w n b xs hn hx => by
    obtain ⟨m, rfl⟩ : ∃ m, n = m + 1 := ⟨n - 1, by omega⟩
    obtain ⟨fs, hu, hl⟩ := ky_struct (P := P) (t := t) (l := l)
    show (Instr.checkKey b (m + 1) t (.agg (intsV .i64 xs).toArray)).run P w = .ok () w
    unfold Instr.checkKey
    rw [Sem.run_bind, run_underlying hu, Result.andThen_ok]
    simp only []
    rw [← Array.forIn_toList, Sem.run_bind]
    refine (congrArg (fun r => Result.andThen r _) (forIn_ok fun f hfm => ?_)).trans (by simp)
    have hm : (f.type, f.offset) ∈ l := by rw [← hl]; exact List.mem_map.2 ⟨f, hfm, rfl⟩
    obtain ⟨agg, de, se, q, hde, hle⟩ := hf.mem _ hm
    have hpp := q.prt w xs f.offset (by simp only at hle; omega)
    split
    · simp only [Sem.run_bind, hpp, Result.andThen_ok]
      rw [q.chk w m b _ (by omega) (by rw [List.length_take, List.length_drop]; simp only at hle; omega), Result.andThen_ok, Sem.run_pure]
    · simp
  prt := fun w cs o ho => agg_part w cs o ho
theorem QK.arr {m e d se b b' : Nat} {agg : Bool} [TU P t (.array m e)] [TG P t false] [TI P t (m * se) b] [TI P e se b'] (q : QK P e agg d se) : QK P t true (d + 1) (m * se) where
  eq := fun w n xs ys hn hx hy => by
    obtain ⟨n, rfl⟩ : ∃ k, n = k + 1 := ⟨n - 1, by omega⟩
    have hmul : ∀ i, i < m → i * se + se ≤ m * se := fun i hi => by rw [← Nat.succ_mul]; exact Nat.mul_le_mul_right _ hi
    show (Op.equalIn (n + 1) t (.agg (intsV .i64 xs).toArray) (.agg (intsV .i64 ys).toArray)).run P w = _
    unfold Op.equalIn
    simp only [Sem.run_bind, run_u, Result.andThen_ok, run_size]
    rw [Std.Legacy.Range.forIn_eq_forIn_range']
    have := run_forIn (P := P) (f := fun i _ => do
            let a ← part e (intsV .i64 xs).toArray (i * se)
            let b ← part e (intsV .i64 ys).toArray (i * se)
            let c ← Op.equalIn n e a b
            if (!c) = true then pure (ForInStep.done (some false, ())) else pure (ForInStep.yield (none, ()))) (fun i => decide ((xs.drop (i * se)).take se = (ys.drop (i * se)).take se)) w (List.range' 0 m) (by
      intro i hi
      have him : i < m := by simpa using hi
      have h3 := hmul i him
      rw [Sem.run_bind, q.prt w xs (i * se) (by omega), Result.andThen_ok, Sem.run_bind, q.prt w ys (i * se) (by omega), Result.andThen_ok, Sem.run_bind, q.eq w n _ _ (by omega) (by rw [List.length_take, List.length_drop]; omega) (by rw [List.length_take, List.length_drop]; omega), Result.andThen_ok]
      by_cases hq : (xs.drop (i * se)).take se = (ys.drop (i * se)).take se <;> simp [hq])
    have hsz : ([:m] : Std.Legacy.Range).size = m := by simp [Std.Legacy.Range.size]
    simp only [hsz]
    simp only [this, Result.andThen_ok]
    have hall : (List.range' 0 m).all (fun i => decide ((xs.drop (i * se)).take se = (ys.drop (i * se)).take se)) = decide (xs = ys) := by
      rw [Bool.eq_iff_iff, List.all_eq_true, decide_eq_true_eq]
      constructor
      · intro h
        have key : ∀ k, k ≤ m → xs.take (k * se) = ys.take (k * se) := by
          intro k
          induction k with
          | zero => intro _; simp
          | succ k ih =>
            intro hk
            have h1 := h k (by simp; omega)
            rw [decide_eq_true_eq] at h1
            rw [Nat.succ_mul, List.take_add, List.take_add, ih (by omega), h1]
        have h2 := key m (Nat.le_refl _)
        rwa [List.take_of_length_le (by omega), List.take_of_length_le (by omega)] at h2
      · intro h i _; simp [h]
    rw [hall]
    by_cases h : xs = ys <;> simp [h]
  chk := fun w n b xs hn hx => by
    obtain ⟨n, rfl⟩ : ∃ k, n = k + 1 := ⟨n - 1, by omega⟩
    have hmul : ∀ i, i < m → i * se + se ≤ m * se := fun i hi => by rw [← Nat.succ_mul]; exact Nat.mul_le_mul_right _ hi
    show (Instr.checkKey b (n + 1) t (.agg (intsV .i64 xs).toArray)).run P w = .ok () w
    unfold Instr.checkKey
    rw [Sem.run_bind, run_u, Result.andThen_ok]
    simp only []
    rw [Sem.run_bind, Std.Legacy.Range.forIn_eq_forIn_range']
    refine (congrArg (fun r => Result.andThen r _) (forIn_ok fun i hi => ?_)).trans (by simp)
    have hsz : ([:m] : Std.Legacy.Range).size = m := by simp [Std.Legacy.Range.size]
    have him : i < m := by rw [hsz] at hi; simpa using hi
    have h3 := hmul i him
    simp only [Sem.run_bind, run_size, Result.andThen_ok, q.prt w xs (i * se) (by omega)]
    rw [q.chk w n b _ (by omega) (by rw [List.length_take, List.length_drop]; omega), Result.andThen_ok, Sem.run_pure]
  prt := fun w cs o ho => agg_part w cs o ho
theorem KE.of {κ : Type} [DecidableEq κ] {Ei : κ → List Int} {s d : Nat} [q : QK P t true d s] (hs : ∀ k, (Ei k).length = s) (hi : ∀ a b, Ei a = Ei b → a = b) (hd : d ≤ 10000) (hst : ∃ fs, P.underlying t = some (.struct fs)) : KE P t (fun k : κ => .agg (intsV .i64 (Ei k)).toArray) where
  eq := fun w a b => by
    have h := q.eq w 10000 (Ei a) (Ei b) hd (hs a) (hs b)
    have e : decide (Ei a = Ei b) = decide (a = b) := by
      rw [Bool.eq_iff_iff, decide_eq_true_eq, decide_eq_true_eq]
      exact ⟨hi a b, fun h => by rw [h]⟩
    rw [e] at h
    exact h
  check := fun w b k => q.chk w 10000 b (Ei k) hd (hs k)
  bits := fun k => by
    show Instr.sameBits (9999 + 1) _ _ = true
    simp only [Instr.sameBits, beq_self_eq_true, Bool.true_and, List.all_eq_true]
    intro p hp
    have h1 : ∀ (l : List Int) (p : Value × Value), p ∈ (intsV .i64 l).zip (intsV .i64 l) → ∃ a, p = (.int .i64 a, .int .i64 a) := by
      intro l
      induction l with
      | nil => intro p hp; simp [intsV] at hp
      | cons a l ih =>
        intro p hp
        have e : intsV .i64 (a :: l) = .int .i64 a :: intsV .i64 l := rfl
        rw [e, List.zip_cons_cons] at hp
        rcases List.mem_cons.1 hp with rfl | hp
        · exact ⟨a, rfl⟩
        · exact ih p hp
    obtain ⟨a, rfl⟩ := h1 _ p hp
    simp [Instr.sameBits]
  und := by
    obtain ⟨fs, hu⟩ := hst
    exact ⟨_, hu, .inl fun a b => rfl⟩
end
end Go.HL
namespace Go.HL
open Go
theorem St.apart_M {α : Type} {E : α → List Value} {k : Nat} [he : Enc E k] {a : Option Addr} {c : Nat} {xs : List α} {w0 w : World} {M : List Nat} {S H : Hp} (st : St w0 w M H) (hin : HIn S H) (hr : Rd E w0 (.slice a xs.length c) xs) (ha : Apart M (.slice a xs.length c)) (hk : 0 < k) : Apart (keys S) (.slice a xs.length c) := by
  intro A n c' hv hn hm
  have ha' := ha A n c' hv hn
  cases hv
  obtain ⟨⟨b', o⟩, hmS, hb⟩ := List.mem_map.1 hm
  have hb : b' = A.block := hb
  subst hb
  rcases st.own _ _ (hin _ hmS) with h1 | h1
  · exact ha' h1
  have hl : 0 < xs.length := by omega
  obtain ⟨u, hu⟩ : ∃ u, (flat E xs)[0]? = some u := by
    have : 0 < (flat E xs).length := by rw [flat_len]; exact Nat.mul_pos hl hk
    exact ⟨_, List.getElem?_eq_getElem this⟩
  have h2 := hr.get 0 u hu
  have h3 : A.block < w0.heap.size := by
    rcases Nat.lt_or_ge A.block w0.heap.size with h' | h'
    · exact h'
    · simp [World.cell?, ea, sblk, oblk, Array.getElem?_eq_none h'] at h2
  omega
end Go.HL
namespace Go.HL.Kl.Mc
open Go Go.HL Go.HL.Kl
def LookB (T bx : Nat) (ra : Option Addr) (rc : Nat) (re : List Nd) (i : Nat) (ea : Option Addr) (ec : Nat) (en : List Bool) : Nat × Obj := (bx, .cells [.slice ra re.length rc, .int .i64 i, .slice ea en.length ec].toArray T (0, 0))
def NodeP (T bx : Nat) (ra : Option Addr) (rc : Nat) (re : List Nd) (r : Option (Nat × List Bool)) (v : Value) (S' : Hp) : Prop :=
  match r with
  | none => v = .bool false
  | some (i', en') => v = .bool true ∧ ∃ ea' ec' Se', S' = LookB T bx ra rc re i' ea' ec' en' :: Se' ∧ OwnS Ebo 1 4 (.slice ea' en'.length ec') en' Se'
def NodeC (P : Program) (fn T : Nat) (f : Nat) : Prop := ∀ (bx : Nat) (ra : Option Addr) (rc : Nat) (re : List Nd) (i wi g : Nat) (ea : Option Addr) (ec : Nat) (en : List Bool) (Se : Hp), (∀ x ∈ re, -128 ≤ x.op ∧ x.op < 128) → wi + f = 260 → i ≤ re.length → en.length ≤ 255 → g ≤ 64 → OwnS Ebo 1 4 (.slice ea en.length ec) en Se →
  Fn P fn [.pointer (some ⟨bx, 0, none⟩), .int .i64 wi, .int .i64 g] (fun w => Rd En w (.slice ra re.length rc) re ∧ Apart (keys (LookB T bx ra rc re i ea ec en :: Se)) (.slice ra re.length rc)) (LookB T bx ra rc re i ea ec en :: Se) (NodeP T bx ra rc re (shN re f i en g))
theorem hin_node {p q : Nat × Obj} {S : Hp} : HIn (p :: S) (p :: q :: S) := fun r hr => by
  rcases List.mem_cons.1 hr with rfl | h
  · exact List.mem_cons_self
  · exact List.mem_cons_of_mem _ (List.mem_cons_of_mem _ h)
theorem shN_end {re : List Nd} {f i g : Nat} {en : List Bool} (h : re.length ≤ i) : shN re f i en g = none := by
  cases f with
  | zero => rfl
  | succ f => simp only [shN]; rw [List.getElem?_eq_none h]
theorem shN_bad {re : List Nd} {f i g : Nat} {en : List Bool} {x : Nd} (hx : re[i]? = some x) (h : ndOk x = false) : shN re (f + 1) i en g = none := by
  simp only [shN, hx]; rw [if_neg (by rw [h]; decide)]
theorem shN_gate {re : List Nd} {f i g : Nat} {en : List Bool} {x : Nd} (hx : re[i]? = some x) (h : gate x en g = none) : shN re (f + 1) i en g = none := by
  simp only [shN, hx, h]; split <;> rfl
theorem shN_kids {re : List Nd} {f i g g1 : Nat} {en en1 : List Bool} {x : Nd} (hx : re[i]? = some x) (hg : gate x en g = some (en1, g1)) (h : kidsN (fun i en => shN re f i en g1) x.kids.toNat (i + 1) en1 = none) : shN re (f + 1) i en g = none := by
  simp only [shN, hx, hg, h]; split <;> rfl
theorem shN_some {re : List Nd} {f i g g1 i2 : Nat} {en en1 en2 : List Bool} {x : Nd} (hx : re[i]? = some x) (hok : ndOk x = true) (hg : gate x en g = some (en1, g1)) (h : kidsN (fun i en => shN re f i en g1) x.kids.toNat (i + 1) en1 = some (i2, en2)) :
    shN re (f + 1) i en g = some (i2, if x.op = 7 then en2.set (x.n.toNat - 1) true else en2) := by
  simp only [shN, hx, hg, h]; rw [if_pos hok]
theorem kidsN_snoc {step : Nat → List Bool → Option (Nat × List Bool)} : ∀ {k i : Nat} {en : List Bool} {i2 : Nat} {en2 : List Bool} {r : Option (Nat × List Bool)}, kidsN step k i en = some (i2, en2) → step i2 en2 = r → kidsN step (k + 1) i en = r
  | 0, i, en, i2, en2, r, h, hs => by
    simp only [kidsN, Option.some.injEq, Prod.mk.injEq] at h
    obtain ⟨rfl, rfl⟩ := h
    simp only [kidsN, hs]
    cases r <;> rfl
  | k + 1, i, en, i2, en2, r, h, hs => by
    simp only [kidsN] at h
    split at h
    · cases h
    · rename_i i' en' hst
      have := kidsN_snoc h hs
      rw [kidsN, hst]
      exact this
theorem kidsN_none {step : Nat → List Bool → Option (Nat × List Bool)} : ∀ {n k i : Nat} {en : List Bool}, kidsN step k i en = none → k ≤ n → kidsN step n i en = none
  | n, 0, i, en, h, _ => by simp [kidsN] at h
  | 0, k + 1, i, en, h, hk => by omega
  | n + 1, k + 1, i, en, h, hk => by
    simp only [kidsN] at h ⊢
    split at h
    · rfl
    · exact kidsN_none h (by omega)
theorem gate_len {x : Nd} {en en1 : List Bool} {g g1 : Nat} (h : gate x en g = some (en1, g1)) (he : en.length ≤ 255) (hg : g ≤ 64) : en.length ≤ en1.length ∧ en1.length ≤ 255 ∧ g1 ≤ 64 ∧ (x.op = 7 → x.n = en.length + 1 ∧ en1.length = en.length + 1) := by
  unfold gate at h
  split at h
  · split at h
    · cases h; exact ⟨Nat.le_refl _, he, hg, fun h7 => by omega⟩
    · cases h
  · split at h
    · split at h
      · rename_i h8 h7 hh
        cases h
        simp only [List.length_append, List.length_singleton]
        exact ⟨by omega, by omega, by omega, fun _ => ⟨hh.1, trivial⟩⟩
      · cases h
    · cases h; exact ⟨Nat.le_refl _, he, hg, fun h7 => absurd h7 ‹_›⟩
theorem kidsN_len {step : Nat → List Bool → Option (Nat × List Bool)} (hs : ∀ i en i' en', en.length ≤ 255 → step i en = some (i', en') → en.length ≤ en'.length ∧ en'.length ≤ 255) : ∀ {k i : Nat} {en : List Bool} {i2 : Nat} {en2 : List Bool}, en.length ≤ 255 → kidsN step k i en = some (i2, en2) → en.length ≤ en2.length ∧ en2.length ≤ 255
  | 0, i, en, i2, en2, he, h => by
    simp only [kidsN, Option.some.injEq, Prod.mk.injEq] at h
    obtain ⟨_, rfl⟩ := h
    exact ⟨Nat.le_refl _, he⟩
  | k + 1, i, en, i2, en2, he, h => by
    simp only [kidsN] at h
    split at h
    · cases h
    · rename_i i' en' hst
      have h1 := hs _ _ _ _ he hst
      have h2 := kidsN_len hs h1.2 h
      omega
theorem shN_len {re : List Nd} : ∀ {f i g : Nat} {en : List Bool} {i' : Nat} {en' : List Bool}, en.length ≤ 255 → g ≤ 64 → shN re f i en g = some (i', en') → en.length ≤ en'.length ∧ en'.length ≤ 255
  | 0, i, g, en, i', en', _, _, h => by cases h
  | f + 1, i, g, en, i', en', he, hg, h => by
    simp only [shN] at h
    split at h
    · cases h
    · split at h
      · split at h
        · cases h
        · rename_i en1 g1 hgt
          split at h
          · cases h
          · rename_i i2 en2 hk
            simp only [Option.some.injEq, Prod.mk.injEq] at h
            obtain ⟨-, rfl⟩ := h
            obtain ⟨h1, h2, h3, _⟩ := gate_len hgt he hg
            have h4 := kidsN_len (fun i en i' en' he h => shN_len he h3 h) h2 hk
            split
            · simp only [List.length_set]; omega
            · omega
      · cases h
theorem shN_le {re : List Nd} {f i g : Nat} {en : List Bool} {i' : Nat} {en' : List Bool} (h : shN re f i en g = some (i', en')) : i' ≤ re.length := by
  obtain ⟨x, ks, ht⟩ := shN_tree _ _ _ _ _ _ h
  exact ht.le
theorem shN_lt {re : List Nd} {f i g : Nat} {en : List Bool} {i' : Nat} {en' : List Bool} (h : shN re f i en g = some (i', en')) : i < i' := by
  obtain ⟨x, ks, ht⟩ := shN_tree _ _ _ _ _ _ h
  have := ht.len
  omega
theorem get_false {en : List Bool} {j : Nat} (h : ¬ en[j]? = some true) (hj : j < en.length) : en[j]? = some false := by
  rw [List.getElem?_eq_getElem hj] at h ⊢
  cases hb : en[j]
  · rfl
  · rw [hb] at h; exact absurd rfl h
theorem gate_other {x : Nd} {en : List Bool} {g : Nat} (h8 : ¬ x.op = 8) (h7 : ¬ x.op = 7) : gate x en g = some (en, g) := by rw [gate, if_neg h8, if_neg h7]
theorem gate_ref {x : Nd} {en : List Bool} {g : Nat} (h8 : x.op = 8) (h1 : 1 ≤ x.n) (h2 : x.n ≤ en.length) (h3 : en[x.n.toNat - 1]? = some true) : gate x en g = some (en, g) := by rw [gate, if_pos h8, if_pos ⟨h1, h2, h3⟩]
theorem gate_no8 {x : Nd} {en : List Bool} {g : Nat} (h8 : x.op = 8) (h : ¬ (1 ≤ x.n ∧ x.n ≤ en.length ∧ en[x.n.toNat - 1]? = some true)) : gate x en g = none := by rw [gate, if_pos h8, if_neg h]
theorem gate_grp {x : Nd} {en : List Bool} {g : Nat} (h7 : x.op = 7) (h : x.n = en.length + 1 ∧ x.n ≤ 255 ∧ g < 64) : gate x en g = some (en ++ [false], g + 1) := by rw [gate, if_neg (by omega), if_pos h7, if_pos h]
theorem gate_no7 {x : Nd} {en : List Bool} {g : Nat} (h7 : x.op = 7) (h : ¬ (x.n = en.length + 1 ∧ x.n ≤ 255 ∧ g < 64)) : gate x en g = none := by rw [gate, if_neg (by omega), if_pos h7, if_neg h]
end Go.HL.Kl.Mc
