/- Maps from keys of any plain type. Conditions: none. -/
import Derived.Test.YtloepfcndglmmaaDoorVZN3Z
import Derived.Test.YtloepfcndglmmaaDoorMT6Z
import Derived.Test.YtloepfcndglmmaaDoorHTZ
import Derived.Test.YtloepfcndglmmaaDoorHlB
namespace Go.HL
open Go
class KE (P : Program) (kt : TypeId) {κ : Type} [DecidableEq κ] (Ek : κ → Value) : Prop where
  eq : ∀ w a b, (Op.equal kt (Ek a) (Ek b)).run P w = .ok (decide (a = b)) w
  check : ∀ w b k, (Instr.checkKey b 10000 kt (Ek k)).run P w = .ok () w
  bits : ∀ k, Instr.sameBits 10000 (Ek k) (Ek k) = true
  und : ∃ d, P.underlying kt = some d ∧ ((∀ k k', Instr.sameNow d (Ek k) (Ek k') = none) ∨ ∀ k k', Instr.sameNow d (Ek k) (Ek k') = some (decide (k = k')))
structure Mx (κ : Type) where
  k : κ
  v : Value
  born : Nat
section
variable {κ : Type} [DecidableEq κ] {Ek : κ → Value}
def Mx.enc (Ek : κ → Value) (e : Mx κ) : MapEntry := { key := Ek e.k, val := e.v, born := e.born }
def mxO (Ek : κ → Value) (es : List (Mx κ)) (c : Nat) : Obj := .map (es.map (Mx.enc Ek)).toArray c
def getM (es : List (Mx κ)) (k : κ) : Option Value := (es.find? (fun e => decide (k = e.k))).map (·.v)
def putM (v : Value) : List (Mx κ) → κ → List (Mx κ)
  | [], _ => []
  | e :: es, k => if k = e.k then { e with v := v } :: es else e :: putM v es k
theorem getM_nil (k : κ) : getM ([] : List (Mx κ)) k = none := rfl
theorem getM_cons (e : Mx κ) (es : List (Mx κ)) (k : κ) : getM (e :: es) k = if k = e.k then some e.v else getM es k := by
  unfold getM
  by_cases h : k = e.k <;> simp [List.find?_cons, h]
theorem getM_none {es : List (Mx κ)} {k : κ} (h : ∀ e ∈ es, k ≠ e.k) : getM es k = none := by
  induction es with
  | nil => rfl
  | cons e es ih => rw [getM_cons, if_neg (h e List.mem_cons_self)]; exact ih fun e' he => h e' (List.mem_cons_of_mem _ he)
theorem getM_push {es : List (Mx κ)} {k : κ} (hn : ∀ e ∈ es, k ≠ e.k) (v : Value) (n : Nat) (j : κ) : getM (es ++ [⟨k, v, n⟩]) j = if j = k then some v else getM es j := by
  induction es with
  | nil => simp [getM_cons, getM_nil]
  | cons e es ih =>
    rw [List.cons_append, getM_cons, getM_cons, ih (fun e' h => hn e' (List.mem_cons_of_mem _ h))]
    by_cases h : j = k
    · subst h; rw [if_neg (hn e List.mem_cons_self)]; simp
    · simp [h]
theorem putM_len (v : Value) : ∀ (es : List (Mx κ)) (k : κ), (putM v es k).length = es.length
  | [], _ => rfl
  | e :: es, k => by
    unfold putM
    split
    · rfl
    · rw [List.length_cons, putM_len v es k, List.length_cons]
theorem getM_put {es : List (Mx κ)} {k : κ} (h : ∃ e ∈ es, k = e.k) (v : Value) (j : κ) : getM (putM v es k) j = if j = k then some v else getM es j := by
  induction es with
  | nil => obtain ⟨e, he, _⟩ := h; cases he
  | cons e es ih =>
    unfold putM
    by_cases hk : k = e.k
    · rw [if_pos hk, getM_cons, getM_cons]
      by_cases hj : j = k
      · simp [hj, hk]
      · rw [if_neg (by simp; rw [← hk]; exact hj), if_neg hj, if_neg (by rw [← hk]; exact hj)]
    · rw [if_neg hk, getM_cons, getM_cons, ih (by
        obtain ⟨e', he, hk'⟩ := h
        rcases List.mem_cons.1 he with rfl | he
        · exact absurd hk' hk
        · exact ⟨e', he, hk'⟩)]
      by_cases hj : j = k
      · subst hj; rw [if_neg hk]; simp
      · simp [hj]
end
section
variable {P : Program} {κ : Cx} {Q : Pst} {L : Loc} {H : Hp} {ops : Array Oper} {rest : List Oper} {ty t kt : TypeId} {d : Nat} {pos : String} {af : Array Edge} {x : Operand} {K : Type} {Ek : K → Value}
theorem run_getObj2 {w : World} {b c : Nat} {es : List (Mx K)} (h : w.heap[b]? = some (mxO Ek es c)) : (getObj b).run P w = .ok (mxO Ek es c) w := by
  simp [getObj, Sem.run, h, mxO]
theorem run_setObj2 {w : World} {b c : Nat} {es : List (Mx K)} (hb : w.heap[b]? = some (mxO Ek es c)) (o : Obj) : (setObj b o).run P w = .ok () { w with heap := w.heap.setIfInBounds b o } := by
  simp [setObj, Sem.run, hb, mxO]
theorem s_lenmap {vt b c : Nat} {es : List (Mx K)} [TU P t (.map kt vt)] (hx : ev L x = some (.map (some b))) (hm : (b, mxO Ek es c) ∈ H) : Step P κ (.call ⟨.builtin .len, #[x], #[t]⟩) ty L H (.int .i64 es.length) :=
  ⟨fun ρ w d pos af g hρ st => by
    have ho := run_getObj2 (P := P) (st.has _ _ hm)
    simp [execOp, resolve, invoke, builtin, Builtin.len_, hρ _ _ hx, run_u, ho, mxO, goInt]⟩
theorem o_mmap2 (hn : Nat.blt d κ.n = true) (h : ∀ b, O P κ ops Q rest ((d, .map (some b)) :: L) ((b, mxO Ek [] 0) :: H)) : O P κ ops Q (⟨some d, .makeMap t none, ty, pos, af, none⟩ :: rest) L H :=
  o_mmap hn fun b => by simpa [mpO, mxO] using h b
end
section
variable {P : Program} {κ : Cx} {Q : Pst} {L : Loc} {H H' : Hp} {ops : Array Oper} {rest : List Oper} {ty t t' kt : TypeId} {d : Nat} {pos : String} {af : Array Edge} {x y z : Operand} {K : Type} [DecidableEq K] {Ek : K → Value}
def Found (Ek : K → Value) (es : List (Mx K)) (k : K) (i : Nat) (r : Option (Nat × Value)) : Prop :=
  (r = none ∧ ∀ e ∈ es, k ≠ e.k) ∨ ∃ j v, r = some (i + j, v) ∧ getM es k = some v ∧ (∃ e, es[j]? = some e ∧ k = e.k) ∧ ∀ u, (es.map (Mx.enc Ek)).toArray.modify j (fun e => { e with val := u, key := Ek k }) = ((putM u es k).map (Mx.enc Ek)).toArray
theorem Found.nil {k : K} {i : Nat} : Found Ek [] k i none := .inl ⟨rfl, fun e h => by cases h⟩
theorem Found.here {e : Mx K} {es : List (Mx K)} {k : K} {i : Nat} (h : k = e.k) : Found Ek (e :: es) k i (some (i, e.v)) :=
  .inr ⟨0, e.v, by simp, by rw [getM_cons, if_pos h], ⟨e, rfl, h⟩, fun u => by
    apply Array.ext'
    rw [Array.toList_modify]
    simp [putM, h, Mx.enc]⟩
theorem Found.later {e : Mx K} {es : List (Mx K)} {k : K} {i : Nat} {r : Option (Nat × Value)} (h : ¬ k = e.k) (hc : Found Ek es k (i + 1) r) : Found Ek (e :: es) k i r := by
  rcases hc with ⟨h1, h2⟩ | ⟨j, v, h1, h2, ⟨e', he', hk⟩, h4⟩
  · exact .inl ⟨h1, fun e' he' => by rcases List.mem_cons.1 he' with rfl | he'; exact h; exact h2 e' he'⟩
  · refine .inr ⟨j + 1, v, by rw [h1]; congr 2; omega, by rw [getM_cons, if_neg h, h2], ⟨e', by simpa using he', hk⟩, fun u => ?_⟩
    have := congrArg Array.toList (h4 u)
    rw [Array.toList_modify] at this
    apply Array.ext'
    rw [Array.toList_modify]
    simp only [putM, if_neg h, List.map_cons, List.modify_succ_cons]
    rw [show (List.map (Mx.enc Ek) es).modify j _ = _ from this]
theorem find_ask2 [ke : KE P kt Ek] (w : World) (k : K) : ∀ (es : List (Mx K)) (i : Nat), ∃ r, (Instr.findAsking kt (Ek k) (es.map (Mx.enc Ek)) i).run P w = .ok r w ∧ Found Ek es k i r := by
  intro es
  induction es with
  | nil => intro i; exact ⟨none, by simp [Instr.findAsking], .nil⟩
  | cons e es ih =>
    intro i
    simp only [List.map_cons]
    unfold Instr.findAsking
    rw [Sem.run_bind]
    rw [show (Mx.enc Ek e).key = Ek e.k from rfl, ke.eq, Result.andThen_ok]
    by_cases h : k = e.k
    · exact ⟨some (i, e.v), by simp [h, Mx.enc], .here h⟩
    · obtain ⟨r, hr, hc⟩ := ih (i + 1)
      exact ⟨r, by simp [h, hr], .later h hc⟩
theorem find_now2 {D : TypeDesc} (hD : ∀ k k' : K, Instr.sameNow D (Ek k) (Ek k') = some (decide (k = k'))) (k : K) : ∀ (es : List (Mx K)) (i : Nat), ∃ r, Instr.findNow D (Ek k) (es.map (Mx.enc Ek)) i = some r ∧ Found Ek es k i r := by
  intro es
  induction es with
  | nil => intro i; exact ⟨none, rfl, .nil⟩
  | cons e es ih =>
    intro i
    simp only [List.map_cons]
    unfold Instr.findNow
    rw [show (Mx.enc Ek e).key = Ek e.k from rfl, hD]
    by_cases h : k = e.k
    · exact ⟨some (i, e.v), by simp [h, Mx.enc], .here h⟩
    · obtain ⟨r, hr, hc⟩ := ih (i + 1)
      exact ⟨r, by simp [h, hr], .later h hc⟩
theorem find_key2 [ke : KE P kt Ek] (w : World) (k : K) (es : List (Mx K)) : ∃ r, (Instr.findKey kt (Ek k) (es.map (Mx.enc Ek))).run P w = .ok r w ∧ Found Ek es k 0 r := by
  obtain ⟨D, hu, hs⟩ := ke.und
  unfold Instr.findKey
  rw [Sem.run_bind, run_underlying hu, Result.andThen_ok]
  rcases hs with hs | hs
  · obtain ⟨r, hr, hc⟩ := find_ask2 (P := P) (kt := kt) (Ek := Ek) w k es 0
    refine ⟨r, ?_, hc⟩
    cases es with
    | nil =>
      simp only [List.map_nil, Instr.findNow]
      simpa [Instr.findAsking] using hr
    | cons e es =>
      have hn : Instr.findNow D (Ek k) ((e :: es).map (Mx.enc Ek)) 0 = none := by
        simp only [List.map_cons, Instr.findNow]
        rw [show (Mx.enc Ek e).key = Ek e.k from rfl, hs]
      rw [hn]
      exact hr
  · obtain ⟨r, hr, hc⟩ := find_now2 hs k es 0
    exact ⟨r, by rw [hr]; simp, hc⟩
theorem run_look2 {vt b c : Nat} {es : List (Mx K)} {k : K} {zv : Value} {ok : Bool} {w : World} [ke : KE P kt Ek] [TU P t (.map kt vt)] [tz : TZ P vt zv] (hm : w.heap[b]? = some (mxO Ek es c)) :
    (Instr.lookup t (.map (some b)) (Ek k) ok).run P w = .ok (if ok then .tuple #[(getM es k).getD zv, .bool (getM es k).isSome] else (getM es k).getD zv) w := by
  have ho := run_getObj2 (P := P) hm
  obtain ⟨r, hr, hc⟩ := find_key2 (P := P) (kt := kt) (Ek := Ek) w k es
  have hck := fun b => ke.check w b k
  unfold Instr.lookup
  simp only [Sem.run_bind, run_u, Result.andThen_ok, ho, mxO, hck, Sem.run_pure]
  rw [hr]
  rcases hc with ⟨h1, h2⟩ | ⟨j, v, h1, h2, _⟩
  · subst h1
    rw [getM_none h2]
    simp [run_zero]
  · subst h1
    rw [h2]
    simp
theorem s_look2 {vt b c : Nat} {es : List (Mx K)} {k : K} {zv : Value} [ke : KE P kt Ek] [TU P t (.map kt vt)] [tz : TZ P vt zv] (hx : ev L x = some (.map (some b))) (hy : ev L y = some (Ek k)) (hm : (b, mxO Ek es c) ∈ H) :
    Step P κ (.lookup t x y false) ty L H ((getM es k).getD zv) :=
  ⟨fun ρ w d pos af g hρ st => by
    have hl := run_look2 (P := P) (t := t) (kt := kt) (vt := vt) (Ek := Ek) (k := k) (ok := false) (st.has _ _ hm)
    simp [execOp, hρ _ _ hx, hρ _ _ hy, hl]⟩
theorem s_look2k {vt b c : Nat} {es : List (Mx K)} {k : K} {zv : Value} [ke : KE P kt Ek] [TU P t (.map kt vt)] [tz : TZ P vt zv] (hx : ev L x = some (.map (some b))) (hy : ev L y = some (Ek k)) (hm : (b, mxO Ek es c) ∈ H) :
    Step P κ (.lookup t x y true) ty L H (.tuple #[(getM es k).getD zv, .bool (getM es k).isSome]) :=
  ⟨fun ρ w d pos af g hρ st => by
    have hl := run_look2 (P := P) (t := t) (kt := kt) (vt := vt) (Ek := Ek) (k := k) (ok := true) (st.has _ _ hm)
    simp [execOp, hρ _ _ hx, hρ _ _ hy, hl]⟩
theorem o_mset2 {vt b c : Nat} {es : List (Mx K)} {k : K} {u : Value} {R : Hp} [ke : KE P kt Ek] [TU P t (.map kt vt)] (hx : ev L x = some (.map (some b))) (hy : ev L y = some (Ek k)) (hz : ev L z = some u)
    (hpk : Pick H [(b, mxO Ek es c)] R) (h : ∀ es' c', (∀ j, getM es' j = if j = k then some u else getM es j) → es'.length = es.length + (if (getM es k).isSome then 0 else 1) → O P κ ops Q rest L ((b, mxO Ek es' c') :: R)) : O P κ ops Q (⟨none, .mapUpdate t x y z, ty, pos, af, none⟩ :: rest) L H := by
  refine ⟨fun ro a w hro ok => op_want rfl ?_⟩
  have e1 := ok.fr.ev hx
  have e2 := ok.fr.ev hy
  have e3 := ok.fr.ev hz
  have st := ok.st.perm hpk.perm
  have ho := run_getObj2 (P := P) (st.has _ _ (List.mem_cons_self))
  obtain ⟨r, hr, hc⟩ := find_key2 (P := P) (kt := kt) (Ek := Ek) w k es
  have hck := fun b => ke.check w b k
  have key : ∃ es' c', (Instr.mapUpdate t (.map (some b)) (Ek k) u).run P w = .ok () { w with heap := w.heap.setIfInBounds b (mxO Ek es' c') } ∧ (∀ j, getM es' j = if j = k then some u else getM es j) ∧ es'.length = es.length + (if (getM es k).isSome then 0 else 1) := by
    rcases hc with ⟨h1, h2⟩ | ⟨j, v, h1, h2, ⟨e', he', hk⟩, h4⟩
    · refine ⟨es ++ [⟨k, u, c⟩], c + 1, ?_, fun j => getM_push h2 u c j, by rw [getM_none h2]; simp⟩
      unfold Instr.mapUpdate
      simp only [Sem.run_bind, run_u, Result.andThen_ok, ho, mxO, hck]
      rw [hr, h1]
      simp only [Result.andThen_ok]
      rw [run_setObj2 (P := P) (Ek := Ek) (es := es) (c := c) (st.has _ _ (List.mem_cons_self))]
      simp [mxO, Mx.enc]
    · refine ⟨putM u es k, c, ?_, fun j => getM_put ⟨e', List.mem_of_getElem? he', hk⟩ u j, by rw [h2, putM_len]; simp⟩
      have hj : ((es.map (Mx.enc Ek)).toArray[j]?).map (·.key) = some (Ek k) := by
        simp [he', Mx.enc, hk]
      have hkey : (((es.map (Mx.enc Ek)).toArray[j]?).map (·.key)).getD (Ek k) = Ek k := by rw [hj]; rfl
      unfold Instr.mapUpdate
      simp only [Sem.run_bind, run_u, Result.andThen_ok, ho, mxO, hck]
      rw [hr, h1]
      simp only [Result.andThen_ok, Nat.zero_add, Sem.run_bind]
      rw [hkey]
      simp only [Instr.keyThatStays, ke.bits, if_true, Sem.run_pure, Result.andThen_ok]
      rw [h4 u, run_setObj2 (P := P) (Ek := Ek) (es := es) (c := c) (st.has _ _ (List.mem_cons_self))]
  obtain ⟨es', c', hrun, hg, hlen⟩ := key
  have hx' : (execOp a.eval ⟨none, .mapUpdate t x y z, ty, pos, af, none⟩).run P w = .ok .skip { w with heap := w.heap.setIfInBounds b (mxO Ek es' c') } := by
    simp [execOp, e1, e2, e3, hrun]
  exact op_skip hx' ((h es' c' hg hlen).out ro _ _ hro.tail ⟨ok.fr, St.put st rfl rfl rfl rfl⟩)
theorem KE.int {k : IntKind} [tu : TU P kt (.int k)] [TG P kt true] : KE P kt (fun a : Int => .int k a) where
  eq := fun w a b => by
    have h : ∀ w, (Op.equalIn (9999 + 1) kt (.int k a) (.int k b)).run P w = .ok (a == b) w := fun w => re_int w 9999
    rw [show decide (a = b) = (a == b) from by by_cases e : a = b <;> simp [e]]
    exact h w
  check := fun w b k' => by
    show (Instr.checkKey b (9999 + 1) kt _).run P w = .ok () w
    unfold Instr.checkKey
    rw [Sem.run_bind, run_u, Result.andThen_ok]
    simp
  bits := fun k' => by simp [Instr.sameBits]
  und := ⟨_, tu.out, .inr fun a b => by simp [Instr.sameNow]; by_cases e : a = b <;> simp [e]⟩
end
end Go.HL
namespace Go.HL.Kl.Mc
open Go Go.HL Go.HL.Kl
def addI (l : List Int) (n : Int) : List Int := if n ∈ l then l else l ++ [n]
def ref1 (l : List Int) (x : Nd) : List Int := if x.op = 8 then addI l x.n else l
def refsI (re : List Nd) : List Int := re.foldl ref1 []
theorem refsI_take {re : List Nd} {q : Nat} {x : Nd} (h : re[q]? = some x) : refsI (re.take (q + 1)) = ref1 (refsI (re.take q)) x := by
  unfold refsI
  rw [List.take_add_one, h]; simp
theorem ref1_len {l : List Int} {x : Nd} : l.length ≤ (ref1 l x).length ∧ (ref1 l x).length ≤ l.length + 1 := by
  unfold ref1 addI
  split
  · split <;> simp
  · simp
theorem refsI_le {re : List Nd} : ∀ q, q ≤ re.length → (refsI (re.take q)).length ≤ q
  | 0, _ => by simp [refsI]
  | q + 1, h => by
    obtain ⟨x, hx⟩ : ∃ x, re[q]? = some x := ⟨_, List.getElem?_eq_getElem (by omega)⟩
    rw [refsI_take hx]
    have := refsI_le (re := re) q (by omega)
    have := (ref1_len (l := refsI (re.take q)) (x := x)).2
    omega
def EkI (a : Int) : Value := .int .i64 a
structure CntI (es : List (Mx Int)) (l : List Int) (q : Nat) : Prop where
  len : es.length = l.length
  iff : ∀ k, k ∈ l ↔ (getM es k).isSome = true
  val : ∀ k v, getM es k = some v → ∃ n : Nat, v = .int .i64 n ∧ n ≤ q
theorem CntI.nil : CntI [] [] 0 := ⟨rfl, fun k => by simp [getM], fun k v h => by simp [getM] at h⟩
theorem CntI.up {es : List (Mx Int)} {l : List Int} {q : Nat} (h : CntI es l q) : CntI es l (q + 1) := ⟨h.len, h.iff, fun k v hv => by
  obtain ⟨n, h1, h2⟩ := h.val k v hv
  exact ⟨n, h1, by omega⟩⟩
theorem CntI.get {es : List (Mx Int)} {l : List Int} {q : Nat} (h : CntI es l q) (k : Int) : ∃ n : Nat, (getM es k).getD (.int .i64 0) = .int .i64 n ∧ n ≤ q := by
  cases e : getM es k with
  | none => exact ⟨0, rfl, Nat.zero_le _⟩
  | some v =>
    obtain ⟨n, h1, h2⟩ := h.val k v e
    exact ⟨n, by rw [h1]; rfl, h2⟩
theorem CntI.set {es es' : List (Mx Int)} {l : List Int} {q n : Nat} {k : Int} (h : CntI es l q) (hn : n ≤ q) (hs : ∀ j, getM es' j = if j = k then some (.int .i64 ((n + 1 : Nat) : Int)) else getM es j) (hl : es'.length = es.length + (if (getM es k).isSome then 0 else 1)) : CntI es' (addI l k) (q + 1) := by
  refine ⟨?_, fun j => ?_, fun j v hv => ?_⟩
  · rw [hl, h.len]
    unfold addI
    by_cases hk : k ∈ l
    · rw [if_pos hk, if_pos ((h.iff k).1 hk)]; rfl
    · rw [if_neg hk, if_neg fun e => hk ((h.iff k).2 e)]; simp
  · rw [hs]
    by_cases e : j = k
    · subst e
      rw [if_pos rfl]
      unfold addI
      split
      · simp_all
      · simp
    · rw [if_neg e, ← h.iff j]
      unfold addI
      split
      · rfl
      · simp [e]
  · rw [hs] at hv
    by_cases e : j = k
    · rw [if_pos e] at hv
      cases hv
      exact ⟨n + 1, rfl, by omega⟩
    · rw [if_neg e] at hv
      obtain ⟨m, h1, h2⟩ := h.val j v hv
      exact ⟨m, h1, by omega⟩
theorem F.depth_le : ∀ f : F, f.depth ≤ f.size
  | .nil => Nat.le_refl _
  | .nd x ks r => by
    have := F.depth_le ks
    have := F.depth_le r
    simp only [F.depth, F.size]; omega
def enL (by' : Nat) : Nat → Nat → Nat
  | 0, out => out
  | k + 1, out => if 4611686018427387904 / by' < out then 4611686018427387904 else enL by' k (out * by')
theorem enL_yes {b k out : Nat} (h : 4611686018427387904 / b < out) : enL b (k + 1) out = 4611686018427387904 := by rw [enL, if_pos h]
theorem enL_no {b k out : Nat} (h : ¬ 4611686018427387904 / b < out) : enL b (k + 1) out = enL b k (out * b) := by rw [enL, if_neg h]
theorem en_mul {b out : Nat} (hb : 0 < b) (h : ¬ 4611686018427387904 / b < out) : out * b ≤ 4611686018427387904 := by
  have h1 : out ≤ 4611686018427387904 / b := by omega
  exact (Nat.le_div_iff_mul_le hb).1 h1
theorem enL_le {b : Nat} (hb : 0 < b) : ∀ k out, out ≤ 4611686018427387904 → enL b k out ≤ 4611686018427387904
  | 0, out, h => h
  | k + 1, out, h => by
    by_cases c : 4611686018427387904 / b < out
    · rw [enL_yes c]; exact Nat.le_refl _
    · rw [enL_no c]; exact enL_le hb k _ (en_mul hb c)
def enN (ks : F) (wt : Nat) (re : List Nd) (n : Nat) : Nat := enL (n + 2) (2 * (ks.depth + 1) + 2 * (refsI re).length + 4) wt
theorem tdiv_nat {a b : Nat} : ((a : Int).tdiv (b : Int)) = ((a / b : Nat) : Int) := by
  rw [Int.natCast_ediv]; exact Int.tdiv_eq_ediv_of_nonneg (by omega)
theorem wrap_u64n {x : Nat} (h : x < 18446744073709551616) : IntKind.u64.wrap (x : Int) = x := by rw [wrap_u64]; omega
def Eix (n : Nat) : List Value := [.int .i64 n]
instance : Enc Eix 1 := ⟨fun _ => rfl, fun _ _ h => by simp [Eix] at h; subst h; rfl⟩
def EndsOk (re : List Nd) (a : Nat) (l : List Nat) : Prop := l.length = re.length ∧ ∀ (i : Nat) (x : Nd) (ks r : F) (i' : Nat), a ≤ i → Part re (.nd x ks r) i i' → l[i]? = some (i + 1 + ks.size)
theorem Part.uniq {re : List Nd} {x y : Nd} {ks js r s : F} {i i' i2 : Nat} (h : Part re (.nd x ks r) i i') (h' : Part re (.nd y js s) i i2) : ks = js := by
  have h1 := h.one; have h2 := h'.one
  have := flat_inj (.nd x ks .nil) (.nd y js .nil) _ _ h1.wf h2.wf rfl (h1.flat.symm.trans h2.flat)
  have := this.1
  simp at this
  exact this.2
def codeOne (x : Nd) (ks : F) (b : Nat) : List In := oneC x (fun b => code ks false b 0) (fun b => code ks true b (b + lenM ks true)) (lenM ks false) b
def lenT (x : Nd) (ks : F) : Nat := lenOne x (lenM ks false) (lenM ks true)
def jmps : F → Nat → List Nat
  | .nil, _ => []
  | .nd x ks r, b => match r with
    | .nil => []
    | _ => (b + 1 + lenT x ks) :: jmps r (b + lenT x ks + 2)
def patch (l : List In) (ps : List Nat) (e : Nat) : List In := ps.foldl (fun l p => l.set p ⟨4, 0, e, 0⟩) l
section
variable {x : Nd} {ks : F} {b : Nat}
end
def IsJ (l : List In) (p : Nat) : Prop := ∃ v : Int, l[p]? = some ⟨4, 0, v, 0⟩
end Go.HL.Kl.Mc
namespace Go.HL.Kl.Mc
open Go Go.HL Go.HL.Kl
theorem F.size_weight : ∀ f : F, f.size ≤ f.weight
  | .nil => Nat.le_refl _
  | .nd x ks r => by
    have h1 := F.size_weight ks
    have h2 := F.size_weight r
    have h3 : ks.weight ≤ times x * ks.weight := Nat.le_mul_of_pos_left _ (times_pos x)
    simp only [F.size, F.weight]; omega
theorem Shp.len {re : List Nd} {x : Nd} {ks : F} (h : Shp re x ks) : re.length ≤ 16384 := by
  have h1 := F.size_weight (.nd x ks .nil)
  have := h.weight
  rw [h.flat]
  simp only [F.size] at h1
  simp only [List.length_cons, F.flat_size]
  omega
theorem Shp.part {re : List Nd} {x : Nd} {ks : F} (h : Shp re x ks) : Part re (.nd x ks .nil) 0 re.length := by
  refine ⟨h.wf, by rw [List.drop_length, List.drop_zero, List.append_nil]; simp [F.flat, h.flat], ?_, Nat.le_refl _⟩
  rw [h.flat]; simp [F.size, F.flat_size]
inductive CompP (re : List Nd) (v : Value) (S' : Hp) : Prop
  | shape (hs : shapedB re = false) (hv : v = .tuple #[.slice none 0 0, .int .i64 49])
  | ref (hs : shapedB re = true) (hr : refsB re = true) (hv : v = .tuple #[.slice none 0 0, .int .i64 44])
  | ok {x : Nd} {ks : F} {a : Option Addr} (hs : shapedB re = true) (hr : refsB re = false) (h : Shp re x ks) (hv : v = .tuple #[.slice a (mach (.nd x ks .nil)).length (mach (.nd x ks .nil)).length, .int .i64 0]) (hm : RdS Ein (.slice a (mach (.nd x ks .nil)).length (mach (.nd x ks .nil)).length) (mach (.nd x ks .nil)) S')
inductive CompO (T : Nat) (re : List Nd) (v : Value) (S' : Hp) : Prop
  | shape (hs : shapedB re = false) (hv : v = .tuple #[.slice none 0 0, .int .i64 49]) (hn : S' = [])
  | ref (hs : shapedB re = true) (hr : refsB re = true) (hv : v = .tuple #[.slice none 0 0, .int .i64 44]) (hn : S' = [])
  | ok {x : Nd} {ks : F} {a : Option Addr} (hs : shapedB re = true) (hr : refsB re = false) (h : Shp re x ks) (hv : v = .tuple #[.slice a (mach (.nd x ks .nil)).length (mach (.nd x ks .nil)).length, .int .i64 0]) (hm : OwnS Ein 7 T (.slice a (mach (.nd x ks .nil)).length (mach (.nd x ks .nil)).length) (mach (.nd x ks .nil)) S')
end Go.HL.Kl.Mc
namespace Go.HL.Kl
open Go Go.HL
theorem wrap_i64n {x : Nat} (h : x < 9223372036854775808) : IntKind.i64.wrap (x : Int) = x := by
  simp [IntKind.wrap, IntKind.signed, IntKind.bits]; omega
end Go.HL.Kl
namespace Go.HL.Kl.Mc
open Go Go.HL Go.HL.Kl
noncomputable def mokB (m : List In) : Bool := @decide (MOk m) (Classical.propDecidable _)
def MUp (m : List In) (q : Nat) : Prop := ∀ i t, i < q → m[i]? = some t → InOk (m.length - 1) t ∧ (t.op ≤ 3 → i + 1 < m.length)
def wantI (t : In) : In := ⟨t.op, if t.op = 1 then t.set else 0, if t.op = 4 ∨ t.op = 5 then t.x else 0, if t.op = 5 then t.y else 0⟩
def succs (t : In) (n p i : Nat) : List Nat :=
  if t.op = 2 then (if p = 0 then [i + 1] else []) else if t.op = 3 then (if p = n then [i + 1] else [])
  else if t.op = 4 then [t.x.toNat] else if t.op = 5 then [t.x.toNat, t.y.toNat] else []
structure Srch (m : List In) (n p from_ : Nat) (s0 sn : List Bool) (todo : List Nat) : Prop where
  len : sn.length = m.length
  a : ∀ i : Nat, s0[i]? = some true → sn[i]? = some true
  b : ∀ i : Nat, sn[i]? = some true → s0[i]? = some true ∨ EpsS m n p from_ i
  c : ∀ t ∈ todo, EpsS m n p from_ t ∧ t < m.length
  d : ∀ i j : Nat, sn[i]? = some true → Eps m n p i j → sn[j]? = some true ∨ j ∈ todo
  e : sn[from_]? = some true ∨ from_ ∈ todo
def unseen (l : List Bool) : Nat := l.countP (!·)
def Begn (m : List In) (w : List UInt8) (f p j : Nat) : Prop := (p = f ∧ j = 0) ∨ (f < p ∧ ∃ i, j = i + 1 ∧ Run m w (0, f) (i, p - 1) ∧ Eat m w i (p - 1))
def EndsP (m : List In) (w : List UInt8) (f : Int) (out : List Bool) : Prop := out.length = w.length + 1 ∧ ∀ t : Nat, out[t]? = some true ↔ MOk m ∧ ∃ g : Nat, f = g ∧ g ≤ w.length ∧ Hit m w g t
def SeenP (m : List In) (w : List UInt8) (p : Nat) (q : List Nat) (k : Nat) (sn : List Bool) : Prop :=
  sn.length = m.length ∧ (∀ i : Nat, sn[i]? = some true ↔ ∃ t j : Nat, t < k ∧ q[t]? = some j ∧ EpsS m w.length p j i) ∧ ∀ i j : Nat, sn[i]? = some true → Eps m w.length p i j → sn[j]? = some true
structure PassP (m : List In) (w : List UInt8) (p : Nat) (sn out : List Bool) (k : Nat) (o2 : List Bool) (q2 : List Nat) : Prop where
  len : o2.length = out.length
  st : ∀ j, j ∈ q2 ↔ ∃ i, i < k ∧ j = i + 1 ∧ sn[i]? = some true ∧ Eat m w i p
  out : ∀ t : Nat, o2[t]? = some true ↔ out[t]? = some true ∨ (t = p ∧ ∃ i u, i < k ∧ sn[i]? = some true ∧ m[i]? = some u ∧ u.op = 6)
  le : q2.length ≤ k
def EndsC (m : List In) (w : List UInt8) (f : Int) (v : Value) (S : Hp) : Prop := ∃ (a : Option Addr) (c : Nat) (out : List Bool), v = .slice a (w.length + 1) c ∧ OwnS Ebo 1 4 v out S ∧ EndsP m w f out
end Go.HL.Kl.Mc
namespace Go.Tab
open Go Go.HL
structure Fill {α : Type} (f : Nat → α) (n j : Nat) (l : List α) : Prop where
  len : l.length = n
  get : ∀ i, i < j → l[i]? = some (f i)
theorem Fill.zero {α : Type} {f : Nat → α} {l : List α} {n : Nat} (h : l.length = n) : Fill f n 0 l := ⟨h, fun _ h => by omega⟩
theorem Fill.step {α : Type} {f : Nat → α} {n j : Nat} {l : List α} (h : Fill f n j l) (hj : j < n) {y : α} (hy : y = f j) : Fill f n (j + 1) (l.set j y) := by
  refine ⟨by simp [h.len], fun i hi => ?_⟩
  subst hy
  by_cases e : j = i
  · subst e; rw [List.getElem?_set_self (by rw [h.len]; exact hj)]
  · rw [List.getElem?_set_ne e]; exact h.get i (by omega)
theorem Fill.done {α : Type} {f : Nat → α} {n j : Nat} {l : List α} (h : Fill f n j l) (hj : n ≤ j) : l = (List.range n).map f := by
  apply List.ext_getElem?
  intro i
  by_cases hi : i < n
  · rw [h.get i (by omega), List.getElem?_map, List.getElem?_range hi]; rfl
  · rw [List.getElem?_eq_none (by rw [h.len]; omega), List.getElem?_eq_none (by simp; omega)]
def idT : List UInt8 := (List.range 256).map UInt8.ofNat
def at0 (t : List UInt8) (i : Nat) : UInt8 := t.getD i 0
def thenT (t u : List UInt8) : List UInt8 := (List.range 256).map fun i => at0 u (at0 t i).toNat
def applyT (t b : List UInt8) : List UInt8 := (List.range b.length).map fun i => at0 t (at0 b i).toNat
def newAt (f t : List UInt8) : Nat → Option (List UInt8)
  | 0 => some idT
  | j + 1 => if at0 f j ∈ f.take j then none else (newAt f t j).map (·.set (at0 f j).toNat (at0 t j))
def newR (f t : List UInt8) : Option (List UInt8) := if f.length = t.length then newAt f t f.length else none
def zT : List UInt8 := List.replicate 256 0
def tabV (r : Option (List UInt8)) : Value := .tuple #[.agg (flat Eb (r.getD zT)).toArray, .int .i64 (if r.isSome then 0 else 60)]
def xyT : List UInt8 := (idT.set 97 120).set 98 121
attribute [irreducible] idT thenT applyT xyT
end Go.Tab
namespace Go.HL
open Go Go.Tab
section
variable {α : Type}
def wdlF (d : Nat → α) (xs : List α) (i : Nat) : α := (xs[i]?).getD (d i)
def wdl (d : Nat → α) (xs : List α) : List α := (List.range (xs.length + 64)).map (wdlF d xs)
theorem wdl_len (d : Nat → α) (xs : List α) : (wdl d xs).length = xs.length + 64 := by simp [wdl]
theorem wdl_at {d : Nat → α} {xs : List α} {i : Nat} (h : i < xs.length + 64) : (wdl d xs)[i]? = some (wdlF d xs i) := by
  unfold wdl
  rw [List.getElem?_map, List.getElem?_range h]; rfl
theorem wdl_in {d : Nat → α} {xs : List α} {i : Nat} {x : α} (h : xs[i]? = some x) : x = wdlF d xs i := by rw [wdlF, h]; rfl
theorem wdl_out {d : Nat → α} {xs : List α} {i : Nat} (h : ¬ i < xs.length) : d i = wdlF d xs i := by rw [wdlF, List.getElem?_eq_none (by omega)]; rfl
theorem wdl_spare {d : Nat → α} {xs : List α} {i : Nat} (h1 : ¬ i < xs.length) (h2 : i < xs.length + 64) : (wdl d xs)[i]? = some (d i) := by rw [wdl_at h2, wdl_out (d := d) h1]
theorem wdl_take (d : Nat → α) (xs : List α) : (wdl d xs).take xs.length = xs := by
  apply List.ext_getElem?
  intro i
  by_cases hi : i < xs.length
  · rw [List.getElem?_take, if_pos hi, wdl_at (by omega), ← wdl_in (List.getElem?_eq_getElem hi), List.getElem?_eq_getElem hi]
  · rw [List.getElem?_eq_none (by rw [List.length_take]; omega), List.getElem?_eq_none (by omega)]
theorem fill_wdl {d : Nat → α} {xs : List α} {j : Nat} {l : List α} (h : Fill (wdlF d xs) (xs.length + 64) j l) (hj : xs.length + 64 ≤ j) : l = wdl d xs := h.done hj
theorem ext_upto {a b : List α} (hl : a.length = b.length) (h : ∀ i, i < a.length → a[i]? = b[i]?) : a = b := by
  apply List.ext_getElem?
  intro i
  by_cases hi : i < a.length
  · exact h i hi
  · rw [List.getElem?_eq_none (by omega), List.getElem?_eq_none (by omega)]
attribute [irreducible] wdl wdlF
end
end Go.HL
namespace Go.HL.Kl.Mc
open Go Go.HL Go.HL.Kl
def spI (i : Nat) : In := ⟨0, 0, ((1048576 * 9 + i + 1 : Nat) : Int), -7⟩
def letN (b : UInt8) : Nd := ⟨1, bit b.toNat, 0, 0, 0, 0⟩
theorem En_one : En ⟨1, 0, 0, 0, 0, 0⟩ = [.int .i8 1, .int .u64 0, .int .u64 0, .int .u64 0, .int .u64 0, .int .i64 0, .int .i64 0, .int .i64 0, .int .i64 0] := by
  show _ :: (Ec 0#256 ++ _) = _
  rw [Ec_zero]; rfl
theorem letN_set (b : UInt8) : (En (⟨1, 0, 0, 0, 0, 0⟩ : Nd)).set (0 + 1 + (((b.toNat / 64 : Nat) : Int)).toNat * 1) (Ew (1#64 <<< (b.toNat % 64))) = En (letN b) := by
  have hb := b.toNat_lt
  have h := with_eq (0#256) (x := b.toNat) hb
  have h0 : ∀ i, wd 0#256 i = 0#64 := fun i => by simp [wd]
  rw [h0, BitVec.zero_or, BitVec.zero_or] at h
  show (_ :: (Ec 0#256 ++ _)).set _ _ = _ :: (Ec (bit b.toNat) ++ _)
  rw [← h, ← Ec_set _ _ (by omega), Int.toNat_natCast, show 0 + 1 + b.toNat / 64 * 1 = b.toNat / 64 + 1 by omega, List.set_cons_succ, List.set_append_left _ _ (by show b.toNat / 64 < 4; omega)]; rfl
def starN : Nd := ⟨6, 0, 0, 0, -1, 1⟩
def reW : List Nd := [starN, letN 97]
def ksW : F := .nd (letN 97) .nil .nil
def mW : List In := mach (.nd starN ksW .nil)
theorem let_ok : ndOk (letN 97) = true := by decide +kernel
theorem wfW : (F.nd starN ksW .nil).wf := ⟨by decide +kernel, rfl, ⟨let_ok, rfl, trivial, trivial⟩, trivial⟩
theorem Shp.uniq {re : List Nd} {x y : Nd} {ks js : F} (h : Shp re x ks) (h' : Shp re y js) : x = y ∧ ks = js := by
  have := flat_inj (.nd x ks .nil) (.nd y js .nil) [] [] h.wf h'.wf rfl (by simp only [F.flat, List.append_nil]; rw [← h.flat, ← h'.flat])
  simpa using this.1
def wW : List UInt8 := [97, 97, 98]
theorem En_star : En starN = [.int .i8 6, .int .u64 0, .int .u64 0, .int .u64 0, .int .u64 0, .int .i64 0, .int .i64 0, .int .i64 (-1), .int .i64 1] := by
  show _ :: (Ec 0#256 ++ _) = _
  rw [Ec_zero]; rfl
attribute [irreducible] mW
/-! forests, one behind the other -/
def F.app : F → F → F
  | .nil, g => g
  | .nd x ks r, g => .nd x ks (r.app g)
theorem F.num_app : ∀ f g : F, (f.app g).num = f.num + g.num
  | .nil, g => by simp [F.app, F.num]
  | .nd x ks r, g => by simp only [F.app, F.num, F.num_app r g]; omega
theorem F.flat_app : ∀ f g : F, (f.app g).flat = f.flat ++ g.flat
  | .nil, g => by simp [F.app, F.flat]
  | .nd x ks r, g => by simp [F.app, F.flat, F.flat_app r g]
theorem F.size_app : ∀ f g : F, (f.app g).size = f.size + g.size
  | .nil, g => by simp [F.app, F.size]
  | .nd x ks r, g => by simp only [F.app, F.size, F.size_app r g]; omega
theorem F.wf_app : ∀ {f g : F}, f.wf → g.wf → (f.app g).wf
  | .nil, g, _, h => h
  | .nd x ks r, g, ⟨a, b, c, d⟩, h => ⟨a, b, c, F.wf_app d h⟩
theorem F.num_nil {f : F} (h : f.num = 0) : f = .nil := by
  cases f with
  | nil => rfl
  | nd x ks r => simp [F.num] at h
/-! lists of booleans -/
def bo0 (l : List Bool) (i : Nat) : Bool := l.getD i false
def orF (a b : List Bool) (i : Nat) : Bool := bo0 a i || bo0 b i
def orL (a b : List Bool) : List Bool := (List.range a.length).map (orF a b)
def moreTo (a b : List Bool) (k : Nat) : Bool := (List.range k).any fun i => bo0 b i && !bo0 a i
def moreB (a b : List Bool) : Bool := moreTo a b a.length
def cf (l : List Bool) : Nat := (List.range l.length).countP fun i => !bo0 l i
structure SetP (w : List UInt8) (s : Cl) (fr : List Bool) (j : Nat) (out : List Bool) : Prop where
  len : out.length = w.length + 1
  get : ∀ q : Nat, out[q]? = some true ↔ ∃ p, p < j ∧ q = p + 1 ∧ fr[p]? = some true ∧ ∃ b, w[p]? = some b ∧ s.getLsbD b.toNat = true
def OutP (N : Nat) (S : Nat → Prop) (vf : Value) (fr : List Bool) (v : Value) (S' : Hp) : Prop :=
  ∃ (a : Option Addr) (c : Nat) (l : List Bool), v = .slice a l.length c ∧ IsS l N S ∧ ∀ W : World, (∀ b o, (b, o) ∈ S' → W.heap[b]? = some o) → Rd Ebo W vf fr → Rd Ebo W v l
def OverC (P : Program) (fn : Nat) (w : List UInt8) (x : Nd) (ks : F) : Prop := ∀ (ra : Option Addr) (rc : Nat) (re : List Nd) (ta : Option Addr) (tc i i' : Nat) (fa : Option Addr) (fc : Nat) (fr : List Bool) (S : Nat → Prop),
  (∀ x ∈ re, -128 ≤ x.op ∧ x.op < 128) → (∀ x ∈ re, ¬ x.op = 8) → w.length ≤ 1000000 → Part re (.nd x ks .nil) i i' → IsS fr w.length S → (∀ p, S p → p ≤ w.length) →
  Fn P fn [.slice ra re.length rc, .int .i64 i, .slice ta w.length tc, .slice fa fr.length fc] (fun W => Rd En W (.slice ra re.length rc) re ∧ Rd Eb W (.slice ta w.length tc) w ∧ Rd Ebo W (.slice fa fr.length fc) fr) [] (OutP w.length (img (der1 w x ks) S) (.slice fa fr.length fc) fr)
def RdC (vf : Value) (fr : List Bool) (v : Value) (l : List Bool) (S : Hp) : Prop := ∀ W : World, (∀ b o, (b, o) ∈ S → W.heap[b]? = some o) → Rd Ebo W vf fr → Rd Ebo W v l
def RR (x : Nd) (D : Nat → Nat → Prop) (r p q : Nat) : Prop := ∃ k : Nat, x.mn ≤ ((r + k : Nat) : Int) ∧ (x.mx = -1 ∨ ((r + k : Nat) : Int) ≤ x.mx) ∧ pow D k p q
def RQ (x : Nd) (D : Nat → Nat → Prop) (r p q m : Nat) : Prop := (x.mx = -1 ∨ (r : Int) < x.mx) ∧ (m ≠ p ∨ (r : Int) < x.mn ∨ r = 0) ∧ D p m ∧ RR x D (r + 1) m q
inductive Qry (w : List UInt8) (re : List Nd) : Ky → Prop
  | alt {x : Nd} {ks : F} {i i1 p q : Nat} (hp : Part re (.nd x ks .nil) i i1) (h5 : x.op = 5) (h : der w ks true p q) : Qry w re ⟨i, -1, p, q⟩
  | cat {x : Nd} {ks g : F} {i i1 m p q : Nat} (hp : Part re (.nd x ks .nil) i i1) (h4 : x.op = 4) (hg : Part re g m i1) (h : der w g false p q) : Qry w re ⟨i, m, p, q⟩
  | rep {x : Nd} {ks : F} {i i1 r p q : Nat} (hp : Part re (.nd x ks .nil) i i1) (h6 : x.op = 6) (h : RR x (der w ks false) r p q) : Qry w re ⟨i, r, p, q⟩
def MapOk (w : List UInt8) (re : List Nd) (es : List Me) : Prop := ∀ k, getK es k = 0 ∨ (getK es k = 1 ∧ Qry w re k) ∨ (getK es k = -1 ∧ ¬ Qry w re k)
open Classical in
noncomputable def dQ (Q : Prop) : Bool := decide Q
attribute [irreducible] dQ
structure AskE where
  (bRe bTx bA bS bE bM nF rF : Nat)
  (ra : Option Addr) (rc : Nat) (re : List Nd) (ta : Option Addr) (tc : Nat) (tx : List UInt8) (l : List Nat)
namespace AskE
abbrev vre (K : AskE) : Value := .slice K.ra K.re.length K.rc
abbrev vtx (K : AskE) : Value := .slice K.ta K.tx.length K.tc
abbrev ven (K : AskE) : Value := .slice (some ⟨K.bE, 0, none⟩) K.re.length K.re.length
abbrev pt (b : Nat) : Value := .pointer (some ⟨b, 0, none⟩)
abbrev cells (K : AskE) : List Value := [K.vre, K.ven, K.vtx, .map (some K.bM), .func (.func K.nF) [].toArray [pt K.bRe, pt K.bTx, pt K.bA].toArray, .func (.func K.rF) [].toArray [pt K.bA].toArray]
end AskE
open AskE
structure Env (w : World) (K : AskE) (M : List Nat) : Prop where
  p1 : RdP w K.bRe 0 [K.vre]
  p2 : RdP w K.bTx 0 [K.vtx]
  p3 : RdP w K.bA 0 [pt K.bS]
  p4 : RdP w K.bS 0 K.cells
  d1 : Rd En w K.vre K.re
  d2 : Rd Eb w K.vtx K.tx
  d3 : Rd Eix w K.ven K.l
  n1 : K.bRe ∉ M
  n2 : K.bTx ∉ M
  n3 : K.bA ∉ M
  n4 : K.bS ∉ M
  a1 : Apart M K.vre
  a2 : Apart M K.vtx
  a3 : Apart M K.ven
structure AskE.ok (K : AskE) : Prop where
  rng : ∀ x ∈ K.re, -128 ≤ x.op ∧ x.op < 128
  no8 : ∀ x ∈ K.re, ¬ x.op = 8
  len : K.re.length ≤ 1000000
  tx : K.tx.length ≤ 1000000
  ends : EndsOk K.re 0 K.l
def AnsK (K : AskE) (Q : Prop) (v : Value) (S' : Hp) : Prop := ∃ es c, v = .bool (dQ Q) ∧ S' = [(K.bM, mpO es c)] ∧ MapOk K.tx K.re es
def NodeK (P : Program) (K : AskE) (x : Nd) (ks : F) : Prop := ∀ (i i1 p q : Nat) (es : List Me) (c : Nat), Part K.re (.nd x ks .nil) i i1 → p ≤ q → q ≤ K.tx.length → MapOk K.tx K.re es →
  Fn P K.nF [.int .i64 i, .int .i64 p, .int .i64 q, pt K.bRe, pt K.bTx, pt K.bA] (fun W => Env W K [K.bM]) [(K.bM, mpO es c)] (AnsK K (der1 K.tx x ks p q))
def RestK (P : Program) (K : AskE) (k : Ky) : Prop := ∀ (es : List Me) (c : Nat), MapOk K.tx K.re es →
  Fn P K.rF [.agg (Ek k).toArray, pt K.bA] (fun W => Env W K [K.bM]) [(K.bM, mpO es c)] (AnsK K (Qry K.tx K.re k))
def FindK (P : Program) (K : AskE) (fn : Nat) (k : Ky) : Prop := ∀ (es : List Me) (c : Nat), MapOk K.tx K.re es →
  Fn P fn [pt K.bS, .agg (Ek k).toArray] (fun W => Env W K [K.bM]) [(K.bM, mpO es c)] (AnsK K (Qry K.tx K.re k))
def Grt (Q : Nat → Prop) (p q m : Nat) : Prop := p ≤ m ∧ m ≤ q ∧ Q m ∧ ∀ n, m < n → n ≤ q → ¬ Q n
def KidP (K : AskE) (Q : Nat → Prop) (p q : Nat) (v : Value) (S' : Hp) : Prop := ∃ es c, S' = [(K.bM, mpO es c)] ∧ MapOk K.tx K.re es ∧
  ((∃ m, Grt Q p q m ∧ v = .tuple #[.int .i64 m, .bool true]) ∨ ((∀ m, p ≤ m → m ≤ q → ¬ Q m) ∧ v = .tuple #[.int .i64 0, .bool false]))
def KidK (P : Program) (K : AskE) (fn : Nat) (k : Ky) (Q : Nat → Prop) (p q : Nat) : Prop := ∀ (es : List Me) (c : Nat), MapOk K.tx K.re es →
  Fn P fn [pt K.bS, .agg (Ek k).toArray] (fun W => Env W K [K.bM]) [(K.bM, mpO es c)] (KidP K Q p q)
end Go.HL.Kl.Mc
namespace Go.HL.Kl.Mc
open Go Go.HL Go.HL.Kl
theorem one_kid {x : Nd} {ks : F} (hw : (F.nd x ks .nil).wf) (h : x.op = 6 ∨ x.op = 7) : ∃ y js, ks = .nd y js .nil := by
  have hok : ndOk x = true := hw.1
  have hk : (ks.num : Int) = x.kids := hw.2.1
  have h1 : x.kids = 1 := by
    simp only [ndOk, Bool.and_eq_true] at hok
    have := hok.2
    simp only [kidsOk] at this
    rcases h with h | h <;> simp [h] at this <;> omega
  cases ks with
  | nil => simp [F.num] at hk; omega
  | nd y js r =>
    cases r with
    | nil => exact ⟨y, js, rfl⟩
    | nd z a b => simp [F.num] at hk; omega
def Up (D : Nat → Nat → Prop) : Prop := ∀ p q, D p q → p ≤ q
def nxtR (x : Nd) (r : Nat) : Nat := if x.mx < 0 then min (r + 1) (max x.mn.toNat 1) else r + 1
structure Sp where
  fr : Int
  to : Int
  deriving DecidableEq
def Esp (s : Sp) : List Value := [.int .i64 s.fr, .int .i64 s.to]
instance : Enc Esp 2 := ⟨fun _ => rfl, fun x v hv => by
  simp only [Esp, List.mem_cons, List.not_mem_nil, or_false] at hv
  rcases hv with rfl | rfl <;> rfl⟩
def noS : Sp := ⟨-1, -1⟩
def fg1 (cs : List Sp) (x : Nd) : List Sp := if x.op = 7 then cs.set x.n.toNat noS else cs
def fgt (l : List Nd) (cs : List Sp) : List Sp := l.foldl fg1 cs
theorem fg1_len (cs : List Sp) (x : Nd) : (fg1 cs x).length = cs.length := by unfold fg1; split <;> simp
theorem fgt_len : ∀ (l : List Nd) (cs : List Sp), (fgt l cs).length = cs.length
  | [], cs => rfl
  | x :: l, cs => by
    show (fgt l (fg1 cs x)).length = _
    rw [fgt_len l, fg1_len]
def fgtTo (re : List Nd) (a j : Nat) (cs : List Sp) : List Sp := fgt ((re.drop a).take (j - a)) cs
open Classical in
noncomputable def grt (Q : Nat → Prop) (p q : Nat) : Nat := if h : ∃ m, Grt Q p q m then h.choose else 0
attribute [irreducible] grt
noncomputable def reps (x : Nd) (D : Nat → Nat → Prop) (B : Nat → Nat → List Sp → List Sp) (q : Nat) : Nat → Nat → Nat → List Sp → List Sp
  | 0, _, _, cs => cs
  | f + 1, r, p, cs => if dQ (∃ m, Grt (RQ x D r p q) p q m) = true then reps x D B q f (nxtR x r) (grt (RQ x D r p q) p q) (B p (grt (RQ x D r p q) p q) cs) else cs
noncomputable def bst (w : List UInt8) : F → Bool → Nat → Nat → List Sp → List Sp
  | .nil, _, _, _, cs => cs
  | .nd x ks r, m, p, q, cs =>
    let one : Nat → Nat → List Sp → List Sp := fun p q cs =>
      if x.op = 7 then (bst w ks false p q (fgt ks.flat cs)).set x.n.toNat ⟨p, q⟩
      else if x.op = 5 then bst w ks true p q cs
      else if x.op = 4 then bst w ks false p q cs
      else if x.op = 6 then reps x (der w ks false) (fun p q cs => bst w ks false p q (fgt ks.flat cs)) q ((q - p) + max x.mn.toNat 1 + 1) 0 p cs
      else cs
    if m = true then (if dQ (der1 w x ks p q) = true then one p q cs else bst w r true p q cs)
    else bst w r false (grt (fun n => der1 w x ks p n ∧ der w r false n q) p q) q (one p (grt (fun n => der1 w x ks p n ∧ der w r false n q) p q) cs)
noncomputable def bst1 (w : List UInt8) (x : Nd) (ks : F) (p q : Nat) (cs : List Sp) : List Sp :=
  if x.op = 7 then (bst w ks false p q (fgt ks.flat cs)).set x.n.toNat ⟨p, q⟩
  else if x.op = 5 then bst w ks true p q cs
  else if x.op = 4 then bst w ks false p q cs
  else if x.op = 6 then reps x (der w ks false) (fun p q cs => bst w ks false p q (fgt ks.flat cs)) q ((q - p) + max x.mn.toNat 1 + 1) 0 p cs
  else cs
def gcn (l : List Nd) : Nat := l.countP (fun x => decide (x.op = 7))
theorem gcn_take {re : List Nd} {j : Nat} {x : Nd} (h : re[j]? = some x) : gcn (re.take (j + 1)) = gcn (re.take j) + (if x.op = 7 then 1 else 0) := by
  rw [List.take_add_one, h]
  simp [gcn, List.countP_append, List.countP_cons]
theorem gcn_mono {re : List Nd} {i j : Nat} (h : i ≤ j) : gcn (re.take i) ≤ gcn (re.take j) := by
  unfold gcn
  exact List.Sublist.countP_le (List.take_sublist_take_left h)
def Numd (re : List Nd) (b i i' b' : Nat) : Prop := b' + gcn (re.take i) = b + gcn (re.take i') ∧ ∀ j x, i ≤ j → j < i' → re[j]? = some x → x.op = 7 → x.n + (gcn (re.take i) : Nat) = (b : Int) + (gcn (re.take j) : Nat) + 1
theorem kidsN_num {re : List Nd} {step : Nat → List Bool → Option (Nat × List Bool)} (hs : ∀ i en i' en', step i en = some (i', en') → i ≤ i' ∧ Numd re en.length i i' en'.length) :
    ∀ k i en i' en', kidsN step k i en = some (i', en') → i ≤ i' ∧ Numd re en.length i i' en'.length := by
  intro k
  induction k with
  | zero =>
    intro i en i' en' h
    simp only [kidsN, Option.some.injEq, Prod.mk.injEq] at h
    obtain ⟨rfl, rfl⟩ := h
    exact ⟨Nat.le_refl _, rfl, fun j x h1 h2 => by omega⟩
  | succ k ih =>
    intro i en i' en' h
    simp only [kidsN] at h
    split at h
    · cases h
    · rename_i j en1 hst
      obtain ⟨h1, h2, h3⟩ := hs _ _ _ _ hst
      obtain ⟨h4, h5, h6⟩ := ih _ _ _ _ h
      refine ⟨by omega, by omega, fun t x ht1 ht2 hx h7 => ?_⟩
      rcases Nat.lt_or_ge t j with e | e
      · exact h3 t x ht1 e hx h7
      · have := h6 t x e ht2 hx h7; omega
theorem shN_num {re : List Nd} : ∀ f i en g i' en', shN re f i en g = some (i', en') → i ≤ i' ∧ Numd re en.length i i' en'.length := by
  intro f
  induction f with
  | zero => intro i en g i' en' h; cases h
  | succ f ih =>
    intro i en g i' en' h
    simp only [shN] at h
    split at h
    · cases h
    · rename_i x hx
      split at h
      · split at h
        · cases h
        · rename_i en1 g1 hg
          split at h
          · cases h
          · rename_i i2 en2 hk
            simp only [Option.some.injEq, Prod.mk.injEq] at h
            obtain ⟨rfl, rfl⟩ := h
            obtain ⟨h1, h2, h3⟩ := kidsN_num (fun i en i' en' h => ih i en g1 i' en' h) _ _ _ _ _ hk
            have ht := gcn_take hx
            have he : en1.length = en.length + (if x.op = 7 then 1 else 0) ∧ (x.op = 7 → x.n = en.length + 1) := by
              unfold gate at hg
              split at hg
              · split at hg
                · cases hg; rename_i h8 _; exact ⟨by rw [if_neg (by omega)]; rfl, fun h => by omega⟩
                · cases hg
              split at hg
              · split at hg
                · cases hg; rename_i _ h7 hc; exact ⟨by rw [if_pos h7]; simp, fun _ => hc.1⟩
                · cases hg
              · cases hg; rename_i _ h7; exact ⟨by rw [if_neg h7]; rfl, fun h => absurd h h7⟩
            have hl : (if x.op = 7 then en2.set (x.n.toNat - 1) true else en2).length = en2.length := by split <;> simp
            refine ⟨by omega, by rw [hl]; omega, fun j y hj1 hj2 hy h7 => ?_⟩
            by_cases e : j = i
            · subst e
              rw [hx] at hy; cases hy
              have := he.2 h7; omega
            · have := h3 j y (by omega) hj2 hy h7
              omega
      · cases h
theorem grp_n {re : List Nd} (h : shapedB re = true) {j : Nat} {x : Nd} (hx : re[j]? = some x) (h7 : x.op = 7) : x.n = (gcn (re.take j) : Nat) + 1 ∧ x.n ≤ gcn re := by
  obtain ⟨⟨en, hsh⟩, _⟩ := shapedB_iff.1 h
  obtain ⟨_, h1, h2⟩ := shN_num _ _ _ _ _ _ hsh
  have hlt := (List.getElem?_eq_some_iff.1 hx).1
  have h3 := h2 j x (Nat.zero_le _) hlt hx h7
  have h4 := gcn_take hx
  have h5 : gcn (re.take (j + 1)) ≤ gcn re := by
    have := gcn_mono (re := re) (i := j + 1) (j := re.length) hlt
    rwa [List.take_length] at this
  simp [gcn] at h3
  rw [if_pos h7] at h4
  refine ⟨by simp only [gcn]; omega, ?_⟩
  simp only [gcn] at h4 h5 ⊢
  omega
end Go.HL.Kl.Mc
namespace Go.HL
open Go
theorem RdP.lt {w : World} {b off : Nat} {cs : List Value} (h : RdP w b off cs) (hc : cs ≠ []) : b < w.heap.size := by
  obtain ⟨u, hu⟩ : ∃ u, cs[0]? = some u := by
    cases cs with
    | nil => exact absurd rfl hc
    | cons a l => exact ⟨a, rfl⟩
  have h2 := h.get 0 u hu
  rcases Nat.lt_or_ge b w.heap.size with h' | h'
  · exact h'
  · simp [World.cell?, oblk, Array.getElem?_eq_none h'] at h2
theorem St.notin {w0 w : World} {M : List Nat} {H S : Hp} {b off : Nat} {cs : List Value} (st : St w0 w M H) (hin : HIn S H) (hr : RdP w0 b off cs) (hc : cs ≠ []) (hM : b ∉ M) : b ∉ keys S := by
  intro hm
  obtain ⟨⟨b', o⟩, hmS, hb⟩ := List.mem_map.1 hm
  have hb : b' = b := hb
  subst hb
  have := hr.lt hc
  rcases st.own _ _ (hin _ hmS) with h1 | h1
  · exact hM h1
  · omega
theorem hin_cons {b : Nat} {o : Obj} {S H : Hp} (h : (b, o) ∈ H) (hs : HIn S H) : HIn ((b, o) :: S) H := fun p hp => by
  rcases List.mem_cons.1 hp with rfl | hp
  · exact h
  · exact hs p hp
end Go.HL
namespace Go.HL.Kl.Mc
open Go Go.HL Go.HL.Kl AskE
structure AskG (T n : Nat) where
  (bE bM bA bS : Nat) (S : Hp)
  (h : OwnS Eix 1 T (.slice (some ⟨bE, 0, none⟩) n n) (List.replicate n 0) S)
noncomputable def capsV (w : List UInt8) (re : List Nd) (x : Nd) (ks : F) (p q : Nat) : List Sp := (bst1 w x ks p q (List.replicate (gcn re + 1) noS)).set 0 ⟨p, q⟩
def Slots (re : List Nd) (n : Nat) : Prop := ∀ y ∈ re, y.op = 7 → 0 ≤ y.n ∧ y.n.toNat < n
def TakeP (K : AskE) (T : Nat) (ca : Option Addr) (cc N : Nat) (cs : List Sp) (S' : Hp) : Prop := ∃ es c Sc, S' = (K.bM, mpO es c) :: Sc ∧ MapOk K.tx K.re es ∧ OwnS Esp 2 T (.slice ca N cc) cs Sc
def TakeK (P : Program) (K : AskE) (fn T : Nat) (x : Nd) (ks : F) : Prop := ∀ (i i1 p q : Nat) (es : List Me) (c : Nat) (ca : Option Addr) (cc N : Nat) (cs : List Sp) (Sc : Hp), Part K.re (.nd x ks .nil) i i1 → p ≤ q → q ≤ K.tx.length → der1 K.tx x ks p q → MapOk K.tx K.re es → cs.length = N → Slots K.re N → OwnS Esp 2 T (.slice ca N cc) cs Sc →
  Fn P fn [pt K.bS, .int .i64 i, .int .i64 p, .int .i64 q, .slice ca N cc] (fun W => Env W K (keys ((K.bM, mpO es c) :: Sc))) ((K.bM, mpO es c) :: Sc) (fun _ S' => TakeP K T ca cc N (bst1 K.tx x ks p q cs) S')
def CapsP (K : AskE) (T : Nat) (cs : List Sp) (v : Value) (S' : Hp) : Prop := ∃ es c a cc Sc, v = .slice a cs.length cc ∧ S' = (K.bM, mpO es c) :: Sc ∧ OwnS Esp 2 T (.slice a cs.length cc) cs Sc
end Go.HL.Kl.Mc
namespace Go.HL
open Go
def noIf : TypeDesc → Bool
  | .interface _ => false
  | _ => true
section
variable {P : Program} {κ : Cx} {L : Loc} {H : Hp} {ty : TypeId} {v : Value} {x : Operand}
end
end Go.HL
