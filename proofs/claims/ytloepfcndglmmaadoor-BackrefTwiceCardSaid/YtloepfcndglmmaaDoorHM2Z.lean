/- Maps from keys of any plain type. Conditions: none. -/
import Derived.Test.YtloepfcndglmmaaDoorVZN4Z
import Derived.Test.YtloepfcndglmmaaDoorVZN1Z
import Derived.Test.YtloepfcndglmmaaDoorHTZ
import Derived.Test.YtloepfcndglmmaaDoorHlB
import Derived.Test.YtloepfcndglmmaaDoorMT3Z
namespace Go.HL
open Go
class KE (P : Program) (kt : TypeId) {κ : Type} [DecidableEq κ] (Ek : κ → Value) : Prop where
  eq : ∀ w a b, (Op.equal kt (Ek a) (Ek b)).run P w = .ok (decide (a = b)) w
  check : ∀ w b k, (Instr.checkKey b 10000 kt (Ek k)).run P w = .ok () w
  bits : ∀ k, Instr.sameBits 10000 (Ek k) (Ek k) = true
  und : ∃ d, P.underlying kt = some d ∧ ((∀ k k', Instr.sameNow d (Ek k) (Ek k') = none) ∨ ∀ k k', Instr.sameNow d (Ek k) (Ek k') = some (decide (k = k')))
structure Mx (κ : Type) where
  k : κ
  v : Value
  born : Nat
section
variable {κ : Type} [DecidableEq κ] {Ek : κ → Value}
def Mx.enc (Ek : κ → Value) (e : Mx κ) : MapEntry := { key := Ek e.k, val := e.v, born := e.born }
def mxO (Ek : κ → Value) (es : List (Mx κ)) (c : Nat) : Obj := .map (es.map (Mx.enc Ek)).toArray c
def getM (es : List (Mx κ)) (k : κ) : Option Value := (es.find? (fun e => decide (k = e.k))).map (·.v)
def putM (v : Value) : List (Mx κ) → κ → List (Mx κ)
  | [], _ => []
  | e :: es, k => if k = e.k then { e with v := v } :: es else e :: putM v es k
theorem getM_nil (k : κ) : getM ([] : List (Mx κ)) k = none := rfl
theorem getM_cons (e : Mx κ) (es : List (Mx κ)) (k : κ) : getM (e :: es) k = if k = e.k then some e.v else getM es k := by
  unfold getM
  by_cases h : k = e.k <;> simp [List.find?_cons, h]
theorem getM_none {es : List (Mx κ)} {k : κ} (h : ∀ e ∈ es, k ≠ e.k) : getM es k = none := by
  induction es with
  | nil => rfl
  | cons e es ih => rw [getM_cons, if_neg (h e List.mem_cons_self)]; exact ih fun e' he => h e' (List.mem_cons_of_mem _ he)
theorem getM_push {es : List (Mx κ)} {k : κ} (hn : ∀ e ∈ es, k ≠ e.k) (v : Value) (n : Nat) (j : κ) : getM (es ++ [⟨k, v, n⟩]) j = if j = k then some v else getM es j := by
  induction es with
  | nil => simp [getM_cons, getM_nil]
  | cons e es ih =>
    rw [List.cons_append, getM_cons, getM_cons, ih (fun e' h => hn e' (List.mem_cons_of_mem _ h))]
    by_cases h : j = k
    · subst h; rw [if_neg (hn e List.mem_cons_self)]; simp
    · simp [h]
theorem putM_len (v : Value) : ∀ (es : List (Mx κ)) (k : κ), (putM v es k).length = es.length
  | [], _ => rfl
  | e :: es, k => by
    unfold putM
    split
    · rfl
    · rw [List.length_cons, putM_len v es k, List.length_cons]
theorem getM_put {es : List (Mx κ)} {k : κ} (h : ∃ e ∈ es, k = e.k) (v : Value) (j : κ) : getM (putM v es k) j = if j = k then some v else getM es j := by
  induction es with
  | nil => obtain ⟨e, he, _⟩ := h; cases he
  | cons e es ih =>
    unfold putM
    by_cases hk : k = e.k
    · rw [if_pos hk, getM_cons, getM_cons]
      by_cases hj : j = k
      · simp [hj, hk]
      · rw [if_neg (by simp; rw [← hk]; exact hj), if_neg hj, if_neg (by rw [← hk]; exact hj)]
    · rw [if_neg hk, getM_cons, getM_cons, ih (by
        obtain ⟨e', he, hk'⟩ := h
        rcases List.mem_cons.1 he with rfl | he
        · exact absurd hk' hk
        · exact ⟨e', he, hk'⟩)]
      by_cases hj : j = k
      · subst hj; rw [if_neg hk]; simp
      · simp [hj]
end
section
variable {P : Program} {κ : Cx} {Q : Pst} {L : Loc} {H : Hp} {ops : Array Oper} {rest : List Oper} {ty t kt : TypeId} {d : Nat} {pos : String} {af : Array Edge} {x : Operand} {K : Type} {Ek : K → Value}
theorem run_getObj2 {w : World} {b c : Nat} {es : List (Mx K)} (h : w.heap[b]? = some (mxO Ek es c)) : (getObj b).run P w = .ok (mxO Ek es c) w := by
  simp [getObj, Sem.run, h, mxO]
theorem run_setObj2 {w : World} {b c : Nat} {es : List (Mx K)} (hb : w.heap[b]? = some (mxO Ek es c)) (o : Obj) : (setObj b o).run P w = .ok () { w with heap := w.heap.setIfInBounds b o } := by
  simp [setObj, Sem.run, hb, mxO]
theorem s_lenmap {vt b c : Nat} {es : List (Mx K)} [TU P t (.map kt vt)] (hx : ev L x = some (.map (some b))) (hm : (b, mxO Ek es c) ∈ H) : Step P κ (.call ⟨.builtin .len, #[x], #[t]⟩) ty L H (.int .i64 es.length) :=
  ⟨fun ρ w d pos af g hρ st => by
    have ho := run_getObj2 (P := P) (st.has _ _ hm)
    simp [execOp, resolve, invoke, builtin, Builtin.len_, hρ _ _ hx, run_u, ho, mxO, goInt]⟩
theorem o_mmap2 (hn : Nat.blt d κ.n = true) (h : ∀ b, O P κ ops Q rest ((d, .map (some b)) :: L) ((b, mxO Ek [] 0) :: H)) : O P κ ops Q (⟨some d, .makeMap t none, ty, pos, af, none⟩ :: rest) L H :=
  o_mmap hn fun b => by simpa [mpO, mxO] using h b
end
section
variable {P : Program} {κ : Cx} {Q : Pst} {L : Loc} {H H' : Hp} {ops : Array Oper} {rest : List Oper} {ty t t' kt : TypeId} {d : Nat} {pos : String} {af : Array Edge} {x y z : Operand} {K : Type} [DecidableEq K] {Ek : K → Value}
def Found (Ek : K → Value) (es : List (Mx K)) (k : K) (i : Nat) (r : Option (Nat × Value)) : Prop :=
  (r = none ∧ ∀ e ∈ es, k ≠ e.k) ∨ ∃ j v, r = some (i + j, v) ∧ getM es k = some v ∧ (∃ e, es[j]? = some e ∧ k = e.k) ∧ ∀ u, (es.map (Mx.enc Ek)).toArray.modify j (fun e => { e with val := u, key := Ek k }) = ((putM u es k).map (Mx.enc Ek)).toArray
theorem Found.nil {k : K} {i : Nat} : Found Ek [] k i none := .inl ⟨rfl, fun e h => by cases h⟩
theorem Found.here {e : Mx K} {es : List (Mx K)} {k : K} {i : Nat} (h : k = e.k) : Found Ek (e :: es) k i (some (i, e.v)) :=
  .inr ⟨0, e.v, by simp, by rw [getM_cons, if_pos h], ⟨e, rfl, h⟩, fun u => by
    apply Array.ext'
    rw [Array.toList_modify]
    simp [putM, h, Mx.enc]⟩
theorem Found.later {e : Mx K} {es : List (Mx K)} {k : K} {i : Nat} {r : Option (Nat × Value)} (h : ¬ k = e.k) (hc : Found Ek es k (i + 1) r) : Found Ek (e :: es) k i r := by
  rcases hc with ⟨h1, h2⟩ | ⟨j, v, h1, h2, ⟨e', he', hk⟩, h4⟩
  · exact .inl ⟨h1, fun e' he' => by rcases List.mem_cons.1 he' with rfl | he'; exact h; exact h2 e' he'⟩
  · refine .inr ⟨j + 1, v, by rw [h1]; congr 2; omega, by rw [getM_cons, if_neg h, h2], ⟨e', by simpa using he', hk⟩, fun u => ?_⟩
    have := congrArg Array.toList (h4 u)
    rw [Array.toList_modify] at this
    apply Array.ext'
    rw [Array.toList_modify]
    simp only [putM, if_neg h, List.map_cons, List.modify_succ_cons]
    rw [show (List.map (Mx.enc Ek) es).modify j _ = _ from this]
theorem find_ask2 [ke : KE P kt Ek] (w : World) (k : K) : ∀ (es : List (Mx K)) (i : Nat), ∃ r, (Instr.findAsking kt (Ek k) (es.map (Mx.enc Ek)) i).run P w = .ok r w ∧ Found Ek es k i r := by
  intro es
  induction es with
  | nil => intro i; exact ⟨none, by simp [Instr.findAsking], .nil⟩
  | cons e es ih =>
    intro i
    simp only [List.map_cons]
    unfold Instr.findAsking
    rw [Sem.run_bind]
    rw [show (Mx.enc Ek e).key = Ek e.k from rfl, ke.eq, Result.andThen_ok]
    by_cases h : k = e.k
    · exact ⟨some (i, e.v), by simp [h, Mx.enc], .here h⟩
    · obtain ⟨r, hr, hc⟩ := ih (i + 1)
      exact ⟨r, by simp [h, hr], .later h hc⟩
theorem find_now2 {D : TypeDesc} (hD : ∀ k k' : K, Instr.sameNow D (Ek k) (Ek k') = some (decide (k = k'))) (k : K) : ∀ (es : List (Mx K)) (i : Nat), ∃ r, Instr.findNow D (Ek k) (es.map (Mx.enc Ek)) i = some r ∧ Found Ek es k i r := by
  intro es
  induction es with
  | nil => intro i; exact ⟨none, rfl, .nil⟩
  | cons e es ih =>
    intro i
    simp only [List.map_cons]
    unfold Instr.findNow
    rw [show (Mx.enc Ek e).key = Ek e.k from rfl, hD]
    by_cases h : k = e.k
    · exact ⟨some (i, e.v), by simp [h, Mx.enc], .here h⟩
    · obtain ⟨r, hr, hc⟩ := ih (i + 1)
      exact ⟨r, by simp [h, hr], .later h hc⟩
theorem find_key2 [ke : KE P kt Ek] (w : World) (k : K) (es : List (Mx K)) : ∃ r, (Instr.findKey kt (Ek k) (es.map (Mx.enc Ek))).run P w = .ok r w ∧ Found Ek es k 0 r := by
  obtain ⟨D, hu, hs⟩ := ke.und
  unfold Instr.findKey
  rw [Sem.run_bind, run_underlying hu, Result.andThen_ok]
  rcases hs with hs | hs
  · obtain ⟨r, hr, hc⟩ := find_ask2 (P := P) (kt := kt) (Ek := Ek) w k es 0
    refine ⟨r, ?_, hc⟩
    cases es with
    | nil =>
      simp only [List.map_nil, Instr.findNow]
      simpa [Instr.findAsking] using hr
    | cons e es =>
      have hn : Instr.findNow D (Ek k) ((e :: es).map (Mx.enc Ek)) 0 = none := by
        simp only [List.map_cons, Instr.findNow]
        rw [show (Mx.enc Ek e).key = Ek e.k from rfl, hs]
      rw [hn]
      exact hr
  · obtain ⟨r, hr, hc⟩ := find_now2 hs k es 0
    exact ⟨r, by rw [hr]; simp, hc⟩
theorem run_look2 {vt b c : Nat} {es : List (Mx K)} {k : K} {zv : Value} {ok : Bool} {w : World} [ke : KE P kt Ek] [TU P t (.map kt vt)] [tz : TZ P vt zv] (hm : w.heap[b]? = some (mxO Ek es c)) :
    (Instr.lookup t (.map (some b)) (Ek k) ok).run P w = .ok (if ok then .tuple #[(getM es k).getD zv, .bool (getM es k).isSome] else (getM es k).getD zv) w := by
  have ho := run_getObj2 (P := P) hm
  obtain ⟨r, hr, hc⟩ := find_key2 (P := P) (kt := kt) (Ek := Ek) w k es
  have hck := fun b => ke.check w b k
  unfold Instr.lookup
  simp only [Sem.run_bind, run_u, Result.andThen_ok, ho, mxO, hck, Sem.run_pure]
  rw [hr]
  rcases hc with ⟨h1, h2⟩ | ⟨j, v, h1, h2, _⟩
  · subst h1
    rw [getM_none h2]
    simp [run_zero]
  · subst h1
    rw [h2]
    simp
theorem s_look2 {vt b c : Nat} {es : List (Mx K)} {k : K} {zv : Value} [ke : KE P kt Ek] [TU P t (.map kt vt)] [tz : TZ P vt zv] (hx : ev L x = some (.map (some b))) (hy : ev L y = some (Ek k)) (hm : (b, mxO Ek es c) ∈ H) :
    Step P κ (.lookup t x y false) ty L H ((getM es k).getD zv) :=
  ⟨fun ρ w d pos af g hρ st => by
    have hl := run_look2 (P := P) (t := t) (kt := kt) (vt := vt) (Ek := Ek) (k := k) (ok := false) (st.has _ _ hm)
    simp [execOp, hρ _ _ hx, hρ _ _ hy, hl]⟩
theorem s_look2k {vt b c : Nat} {es : List (Mx K)} {k : K} {zv : Value} [ke : KE P kt Ek] [TU P t (.map kt vt)] [tz : TZ P vt zv] (hx : ev L x = some (.map (some b))) (hy : ev L y = some (Ek k)) (hm : (b, mxO Ek es c) ∈ H) :
    Step P κ (.lookup t x y true) ty L H (.tuple #[(getM es k).getD zv, .bool (getM es k).isSome]) :=
  ⟨fun ρ w d pos af g hρ st => by
    have hl := run_look2 (P := P) (t := t) (kt := kt) (vt := vt) (Ek := Ek) (k := k) (ok := true) (st.has _ _ hm)
    simp [execOp, hρ _ _ hx, hρ _ _ hy, hl]⟩
theorem o_mset2 {vt b c : Nat} {es : List (Mx K)} {k : K} {u : Value} {R : Hp} [ke : KE P kt Ek] [TU P t (.map kt vt)] (hx : ev L x = some (.map (some b))) (hy : ev L y = some (Ek k)) (hz : ev L z = some u)
    (hpk : Pick H [(b, mxO Ek es c)] R) (h : ∀ es' c', (∀ j, getM es' j = if j = k then some u else getM es j) → es'.length = es.length + (if (getM es k).isSome then 0 else 1) → O P κ ops Q rest L ((b, mxO Ek es' c') :: R)) : O P κ ops Q (⟨none, .mapUpdate t x y z, ty, pos, af, none⟩ :: rest) L H := by
  refine ⟨fun ro a w hro ok => op_want rfl ?_⟩
  have e1 := ok.fr.ev hx
  have e2 := ok.fr.ev hy
  have e3 := ok.fr.ev hz
  have st := ok.st.perm hpk.perm
  have ho := run_getObj2 (P := P) (st.has _ _ (List.mem_cons_self))
  obtain ⟨r, hr, hc⟩ := find_key2 (P := P) (kt := kt) (Ek := Ek) w k es
  have hck := fun b => ke.check w b k
  have key : ∃ es' c', (Instr.mapUpdate t (.map (some b)) (Ek k) u).run P w = .ok () { w with heap := w.heap.setIfInBounds b (mxO Ek es' c') } ∧ (∀ j, getM es' j = if j = k then some u else getM es j) ∧ es'.length = es.length + (if (getM es k).isSome then 0 else 1) := by
    rcases hc with ⟨h1, h2⟩ | ⟨j, v, h1, h2, ⟨e', he', hk⟩, h4⟩
    · refine ⟨es ++ [⟨k, u, c⟩], c + 1, ?_, fun j => getM_push h2 u c j, by rw [getM_none h2]; simp⟩
      unfold Instr.mapUpdate
      simp only [Sem.run_bind, run_u, Result.andThen_ok, ho, mxO, hck]
      rw [hr, h1]
      simp only [Result.andThen_ok]
      rw [run_setObj2 (P := P) (Ek := Ek) (es := es) (c := c) (st.has _ _ (List.mem_cons_self))]
      simp [mxO, Mx.enc]
    · refine ⟨putM u es k, c, ?_, fun j => getM_put ⟨e', List.mem_of_getElem? he', hk⟩ u j, by rw [h2, putM_len]; simp⟩
      have hj : ((es.map (Mx.enc Ek)).toArray[j]?).map (·.key) = some (Ek k) := by
        simp [he', Mx.enc, hk]
      have hkey : (((es.map (Mx.enc Ek)).toArray[j]?).map (·.key)).getD (Ek k) = Ek k := by rw [hj]; rfl
      unfold Instr.mapUpdate
      simp only [Sem.run_bind, run_u, Result.andThen_ok, ho, mxO, hck]
      rw [hr, h1]
      simp only [Result.andThen_ok, Nat.zero_add, Sem.run_bind]
      rw [hkey]
      simp only [Instr.keyThatStays, ke.bits, if_true, Sem.run_pure, Result.andThen_ok]
      rw [h4 u, run_setObj2 (P := P) (Ek := Ek) (es := es) (c := c) (st.has _ _ (List.mem_cons_self))]
  obtain ⟨es', c', hrun, hg, hlen⟩ := key
  have hx' : (execOp a.eval ⟨none, .mapUpdate t x y z, ty, pos, af, none⟩).run P w = .ok .skip { w with heap := w.heap.setIfInBounds b (mxO Ek es' c') } := by
    simp [execOp, e1, e2, e3, hrun]
  exact op_skip hx' ((h es' c' hg hlen).out ro _ _ hro.tail ⟨ok.fr, St.put st rfl rfl rfl rfl⟩)
theorem KE.int {k : IntKind} [tu : TU P kt (.int k)] [TG P kt true] : KE P kt (fun a : Int => .int k a) where
  eq := fun w a b => by
    have h : ∀ w, (Op.equalIn (9999 + 1) kt (.int k a) (.int k b)).run P w = .ok (a == b) w := fun w => re_int w 9999
    rw [show decide (a = b) = (a == b) from by by_cases e : a = b <;> simp [e]]
    exact h w
  check := fun w b k' => by
    show (Instr.checkKey b (9999 + 1) kt _).run P w = .ok () w
    unfold Instr.checkKey
    rw [Sem.run_bind, run_u, Result.andThen_ok]
    simp
  bits := fun k' => by simp [Instr.sameBits]
  und := ⟨_, tu.out, .inr fun a b => by simp [Instr.sameNow]; by_cases e : a = b <;> simp [e]⟩
end
end Go.HL
namespace Go.HL.Kl.Mc
open Go Go.HL Go.HL.Kl
def addI (l : List Int) (n : Int) : List Int := if n ∈ l then l else l ++ [n]
def ref1 (l : List Int) (x : Nd) : List Int := if x.op = 8 then addI l x.n else l
def refsI (re : List Nd) : List Int := re.foldl ref1 []
theorem refsI_take {re : List Nd} {q : Nat} {x : Nd} (h : re[q]? = some x) : refsI (re.take (q + 1)) = ref1 (refsI (re.take q)) x := by
  unfold refsI
  rw [List.take_add_one, h]; simp
theorem ref1_len {l : List Int} {x : Nd} : l.length ≤ (ref1 l x).length ∧ (ref1 l x).length ≤ l.length + 1 := by
  unfold ref1 addI
  split
  · split <;> simp
  · simp
theorem refsI_le {re : List Nd} : ∀ q, q ≤ re.length → (refsI (re.take q)).length ≤ q
  | 0, _ => by simp [refsI]
  | q + 1, h => by
    obtain ⟨x, hx⟩ : ∃ x, re[q]? = some x := ⟨_, List.getElem?_eq_getElem (by omega)⟩
    rw [refsI_take hx]
    have := refsI_le (re := re) q (by omega)
    have := (ref1_len (l := refsI (re.take q)) (x := x)).2
    omega
def EkI (a : Int) : Value := .int .i64 a
structure CntI (es : List (Mx Int)) (l : List Int) (q : Nat) : Prop where
  len : es.length = l.length
  iff : ∀ k, k ∈ l ↔ (getM es k).isSome = true
  val : ∀ k v, getM es k = some v → ∃ n : Nat, v = .int .i64 n ∧ n ≤ q
theorem CntI.nil : CntI [] [] 0 := ⟨rfl, fun k => by simp [getM], fun k v h => by simp [getM] at h⟩
theorem CntI.up {es : List (Mx Int)} {l : List Int} {q : Nat} (h : CntI es l q) : CntI es l (q + 1) := ⟨h.len, h.iff, fun k v hv => by
  obtain ⟨n, h1, h2⟩ := h.val k v hv
  exact ⟨n, h1, by omega⟩⟩
theorem CntI.get {es : List (Mx Int)} {l : List Int} {q : Nat} (h : CntI es l q) (k : Int) : ∃ n : Nat, (getM es k).getD (.int .i64 0) = .int .i64 n ∧ n ≤ q := by
  cases e : getM es k with
  | none => exact ⟨0, rfl, Nat.zero_le _⟩
  | some v =>
    obtain ⟨n, h1, h2⟩ := h.val k v e
    exact ⟨n, by rw [h1]; rfl, h2⟩
theorem CntI.set {es es' : List (Mx Int)} {l : List Int} {q n : Nat} {k : Int} (h : CntI es l q) (hn : n ≤ q) (hs : ∀ j, getM es' j = if j = k then some (.int .i64 ((n + 1 : Nat) : Int)) else getM es j) (hl : es'.length = es.length + (if (getM es k).isSome then 0 else 1)) : CntI es' (addI l k) (q + 1) := by
  refine ⟨?_, fun j => ?_, fun j v hv => ?_⟩
  · rw [hl, h.len]
    unfold addI
    by_cases hk : k ∈ l
    · rw [if_pos hk, if_pos ((h.iff k).1 hk)]; rfl
    · rw [if_neg hk, if_neg fun e => hk ((h.iff k).2 e)]; simp
  · rw [hs]
    by_cases e : j = k
    · subst e
      rw [if_pos rfl]
      unfold addI
      split
      · simp_all
      · simp
    · rw [if_neg e, ← h.iff j]
      unfold addI
      split
      · rfl
      · simp [e]
  · rw [hs] at hv
    by_cases e : j = k
    · rw [if_pos e] at hv
      cases hv
      exact ⟨n + 1, rfl, by omega⟩
    · rw [if_neg e] at hv
      obtain ⟨m, h1, h2⟩ := h.val j v hv
      exact ⟨m, h1, by omega⟩
theorem F.depth_le : ∀ f : F, f.depth ≤ f.size
  | .nil => Nat.le_refl _
  | .nd x ks r => by
    have := F.depth_le ks
    have := F.depth_le r
    simp only [F.depth, F.size]; omega
def enL (by' : Nat) : Nat → Nat → Nat
  | 0, out => out
  | k + 1, out => if 4611686018427387904 / by' < out then 4611686018427387904 else enL by' k (out * by')
theorem enL_yes {b k out : Nat} (h : 4611686018427387904 / b < out) : enL b (k + 1) out = 4611686018427387904 := by rw [enL, if_pos h]
theorem enL_no {b k out : Nat} (h : ¬ 4611686018427387904 / b < out) : enL b (k + 1) out = enL b k (out * b) := by rw [enL, if_neg h]
theorem en_mul {b out : Nat} (hb : 0 < b) (h : ¬ 4611686018427387904 / b < out) : out * b ≤ 4611686018427387904 := by
  have h1 : out ≤ 4611686018427387904 / b := by omega
  exact (Nat.le_div_iff_mul_le hb).1 h1
def enN (ks : F) (wt : Nat) (re : List Nd) (n : Nat) : Nat := enL (n + 2) (2 * (ks.depth + 1) + 2 * (refsI re).length + 4) wt
theorem tdiv_nat {a b : Nat} : ((a : Int).tdiv (b : Int)) = ((a / b : Nat) : Int) := by
  rw [Int.natCast_ediv]; exact Int.tdiv_eq_ediv_of_nonneg (by omega)
theorem wrap_u64n {x : Nat} (h : x < 18446744073709551616) : IntKind.u64.wrap (x : Int) = x := by rw [wrap_u64]; omega
def Eix (n : Nat) : List Value := [.int .i64 n]
instance : Enc Eix 1 := ⟨fun _ => rfl, fun _ _ h => by simp [Eix] at h; subst h; rfl⟩
def EndsOk (re : List Nd) (a : Nat) (l : List Nat) : Prop := l.length = re.length ∧ ∀ (i : Nat) (x : Nd) (ks r : F) (i' : Nat), a ≤ i → Part re (.nd x ks r) i i' → l[i]? = some (i + 1 + ks.size)
theorem Part.at {re : List Nd} : ∀ (f : F) (i i' : Nat), Part re f i i' → ∀ j, i ≤ j → j < i' → ∃ x ks r j', Part re (.nd x ks r) j j'
  | .nil, i, i', h, j, h1, h2 => by have := h.len; simp [F.size] at this; omega
  | .nd x ks r, i, i', h, j, h1, h2 => by
    obtain ⟨_, hk, hr⟩ := h.head
    by_cases e : j = i
    · subst e; exact ⟨x, ks, r, i', h⟩
    by_cases e2 : j < i + 1 + ks.size
    · exact Part.at ks _ _ hk j (by omega) e2
    · exact Part.at r _ _ hr j (by omega) h2
theorem Part.uniq {re : List Nd} {x y : Nd} {ks js r s : F} {i i' i2 : Nat} (h : Part re (.nd x ks r) i i') (h' : Part re (.nd y js s) i i2) : ks = js := by
  have h1 := h.one; have h2 := h'.one
  have := flat_inj (.nd x ks .nil) (.nd y js .nil) _ _ h1.wf h2.wf rfl (h1.flat.symm.trans h2.flat)
  have := this.1
  simp at this
  exact this.2
theorem EndsOk.start {re : List Nd} {l : List Nat} (h : l.length = re.length) : EndsOk re re.length l := ⟨h, fun i x ks r i' hi hp => by
  have := (List.getElem?_eq_some_iff.1 hp.head.1).1; omega⟩
theorem EndsOk.step {re : List Nd} {a : Nat} {l : List Nat} {x : Nd} {ks r : F} {i' : Nat} (h : EndsOk re (a + 1) l) (hp : Part re (.nd x ks r) a i') : EndsOk re a (l.set a (a + 1 + ks.size)) := by
  have hlt : a < re.length := (List.getElem?_eq_some_iff.1 hp.head.1).1
  refine ⟨by rw [List.length_set]; exact h.1, fun i y js s i2 hi hq => ?_⟩
  by_cases e : a = i
  · subst e
    rw [List.getElem?_set_self (by rw [h.1]; exact hlt), hp.uniq hq]
  · rw [List.getElem?_set_ne e]; exact h.2 i y js s i2 (by omega) hq
theorem F.size_nil {f : F} (h : f.size = 0) : f = .nil := by
  cases f with
  | nil => rfl
  | nd x ks r => simp [F.size] at h
theorem Ein_zero (o x y : Int) : Ein ⟨o, 0, x, y⟩ = [.int .i8 o, .int .u64 0, .int .u64 0, .int .u64 0, .int .u64 0, .int .i64 x, .int .i64 y] := by
  show _ :: (Ec 0#256 ++ _) = _
  rw [Ec_zero]; rfl
def codeOne (x : Nd) (ks : F) (b : Nat) : List In := oneC x (fun b => code ks false b 0) (fun b => code ks true b (b + lenM ks true)) (lenM ks false) b
def lenT (x : Nd) (ks : F) : Nat := lenOne x (lenM ks false) (lenM ks true)
theorem codeOne_len (x : Nd) (ks : F) (b : Nat) : (codeOne x ks b).length = lenT x ks := oneC_len (fun b => code_len ks false b 0) (fun b => code_len ks true b _) b
theorem code_cat (x : Nd) (ks r : F) (b e : Nat) : code (.nd x ks r) false b e = codeOne x ks b ++ code r false (b + lenT x ks) 0 := by simp only [code, Bool.false_eq_true, if_false]; rfl
theorem code_one (x : Nd) (ks : F) (b e : Nat) : code (.nd x ks .nil) false b e = codeOne x ks b := by rw [code_cat]; simp [code]
theorem lenM_cat (x : Nd) (ks r : F) : lenM (.nd x ks r) false = lenT x ks + lenM r false := by simp [lenM, lenT]
theorem copies_snoc {c : Nat → List In} {L : Nat} : ∀ k b, copies c L (k + 1) b = copies c L k b ++ c (b + k * L)
  | 0, b => by simp [copies]
  | k + 1, b => by
    rw [copies, copies_snoc k (b + L), copies, List.append_assoc]
    congr 3
    rw [Nat.succ_mul]; omega
theorem opts_snoc {c : Nat → List In} {L e : Nat} : ∀ k b, opts c L e (k + 1) b = opts c L e k b ++ (⟨5, 0, (b + k * (L + 1) + 1 : Nat), e⟩ :: c (b + k * (L + 1) + 1))
  | 0, b => by simp [opts]
  | k + 1, b => by
    rw [opts, opts_snoc k (b + 1 + L), opts]
    simp only [List.cons_append, List.append_assoc]
    rw [show b + 1 + L + k * (L + 1) + 1 = b + (k + 1) * (L + 1) + 1 by rw [Nat.succ_mul]; omega]
theorem opts_head {c : Nat → List In} {L e k b : Nat} : opts c L e (k + 1) b = ⟨5, 0, (b + 1 : Nat), e⟩ :: (c (b + 1) ++ opts c L e k (b + 1 + L)) := rfl
theorem set_mid {α : Type} {A B : List α} {a b : α} {n : Nat} (h : A.length = n) : (A ++ a :: B).set n b = A ++ b :: B := by
  subst h
  rw [List.set_append_right _ _ (Nat.le_refl _)]
  simp
theorem get_mid {α : Type} {A B : List α} {a : α} {n : Nat} (h : A.length = n) : (A ++ a :: B)[n]? = some a := by
  subst h
  rw [List.getElem?_append_right (Nat.le_refl _)]
  simp
theorem opts_patch {c : Nat → List In} {L e : Nat} (hl : ∀ b, (c b).length = L) {M : List In} {q n : Nat} (hq : q < n) :
    (M ++ (opts c L e q M.length ++ opts c L 0 (n - q) (M.length + q * (L + 1))))[M.length + q * (L + 1)]? = some ⟨5, 0, (M.length + q * (L + 1) + 1 : Nat), 0⟩ ∧
    (M ++ (opts c L e q M.length ++ opts c L 0 (n - q) (M.length + q * (L + 1)))).set (M.length + q * (L + 1)) ⟨5, 0, (M.length + q * (L + 1) + 1 : Nat), e⟩ =
    M ++ (opts c L e (q + 1) M.length ++ opts c L 0 (n - (q + 1)) (M.length + (q + 1) * (L + 1))) := by
  obtain ⟨r, hr⟩ : ∃ r, n - q = r + 1 := ⟨n - q - 1, by omega⟩
  have hr2 : n - (q + 1) = r := by omega
  have h1 : (M ++ opts c L e q M.length).length = M.length + q * (L + 1) := by rw [List.length_append, opts_len hl]
  rw [hr, hr2, opts_head, ← List.append_assoc]
  refine ⟨get_mid h1, ?_⟩
  rw [set_mid h1, opts_snoc, show M.length + (q + 1) * (L + 1) = M.length + q * (L + 1) + 1 + L by rw [Nat.succ_mul]; omega]
  simp [List.append_assoc]
theorem star_fin {x : Nd} {c : Nat → List In} {L : Nat} {m m1 : List In} (hcl : ∀ b, (c b).length = L) (hmx : x.mx = -1) (hm1 : m1 = m ++ copies c L x.mn.toNat m.length) :
    (m1 ++ (⟨5, 0, (m1.length + 1 : Nat), (m1.length + L + 2 : Nat)⟩ : In) :: (c (m1.length + 1) ++ [⟨4, 0, (m1.length : Nat), 0⟩])) = m ++ repC x c L m.length := by
  have hl : m1.length = m.length + x.mn.toNat * L := by rw [hm1, List.length_append, copies_len hcl]
  unfold repC
  rw [hl, hm1]
  simp only [hmx, if_true, List.append_assoc]
theorem opts_fin {x : Nd} {c : Nat → List In} {L k : Nat} {m m1 : List In} (hcl : ∀ b, (c b).length = L) (hmx : ¬ x.mx = -1) (hm1 : m1 = m ++ copies c L x.mn.toNat m.length) (hk : k = (x.mx - x.mn).toNat) :
    m1 ++ opts c L (m1.length + k * (L + 1)) k m1.length = m ++ repC x c L m.length := by
  have hl : m1.length = m.length + x.mn.toNat * L := by rw [hm1, List.length_append, copies_len hcl]
  unfold repC
  subst hk
  rw [hl, hm1]
  simp only [hmx, if_false, List.append_assoc]
def jmps : F → Nat → List Nat
  | .nil, _ => []
  | .nd x ks r, b => match r with
    | .nil => []
    | _ => (b + 1 + lenT x ks) :: jmps r (b + lenT x ks + 2)
theorem jmps_more (x : Nd) (ks : F) (y : Nd) (js s : F) (b : Nat) : jmps (.nd x ks (.nd y js s)) b = (b + 1 + lenT x ks) :: jmps (.nd y js s) (b + lenT x ks + 2) := rfl
theorem code_more (x : Nd) (ks : F) (y : Nd) (js s : F) (b e : Nat) : code (.nd x ks (.nd y js s)) true b e = ⟨5, 0, (b + 1 : Nat), (b + lenT x ks + 2 : Nat)⟩ :: (codeOne x ks (b + 1) ++ (⟨4, 0, e, 0⟩ :: code (.nd y js s) true (b + lenT x ks + 2) e)) := rfl
theorem code_last (x : Nd) (ks : F) (b e : Nat) : code (.nd x ks .nil) true b e = codeOne x ks b := rfl
theorem lenM_more (x : Nd) (ks : F) (y : Nd) (js s : F) : lenM (.nd x ks (.nd y js s)) true = lenT x ks + 2 + lenM (.nd y js s) true := rfl
theorem lenM_last (x : Nd) (ks : F) : lenM (.nd x ks .nil) true = lenT x ks := by simp [lenM, lenT]
def patch (l : List In) (ps : List Nat) (e : Nat) : List In := ps.foldl (fun l p => l.set p ⟨4, 0, e, 0⟩) l
theorem patch_len (ps : List Nat) (e : Nat) : ∀ l, (patch l ps e).length = l.length := by
  induction ps with
  | nil => intro l; rfl
  | cons p ps ih => intro l; simp only [patch, List.foldl_cons] at ih ⊢; rw [ih]; simp
theorem patch_snoc (l : List In) (ps : List Nat) (p e : Nat) : patch l (ps ++ [p]) e = (patch l ps e).set p ⟨4, 0, e, 0⟩ := by simp [patch]
theorem patch_alt (e : Nat) : ∀ (f : F) (M : List In), patch (M ++ code f true M.length 0) (jmps f M.length) e = M ++ code f true M.length e
  | .nil, M => rfl
  | .nd x ks .nil, M => rfl
  | .nd x ks (.nd y js s), M => by
    rw [jmps_more, code_more, code_more]
    have h1 : (M ++ (⟨5, 0, (M.length + 1 : Nat), (M.length + lenT x ks + 2 : Nat)⟩ :: codeOne x ks (M.length + 1)) : List In).length = M.length + 1 + lenT x ks := by
      simp only [List.length_append, List.length_cons, codeOne_len]; omega
    have e1 : ∀ (t : In) (B : List In), M ++ ((⟨5, 0, (M.length + 1 : Nat), (M.length + lenT x ks + 2 : Nat)⟩ : In) :: (codeOne x ks (M.length + 1) ++ (t :: B))) = (M ++ (⟨5, 0, (M.length + 1 : Nat), (M.length + lenT x ks + 2 : Nat)⟩ :: codeOne x ks (M.length + 1))) ++ t :: B := by intro t B; simp
    show patch ((M ++ _).set _ _) _ e = _
    rw [e1, set_mid h1, e1]
    have h2 := patch_alt e (.nd y js s) ((M ++ (⟨5, 0, (M.length + 1 : Nat), (M.length + lenT x ks + 2 : Nat)⟩ :: codeOne x ks (M.length + 1))) ++ [⟨4, 0, (e : Int), 0⟩])
    have h3 : ((M ++ (⟨5, 0, (M.length + 1 : Nat), (M.length + lenT x ks + 2 : Nat)⟩ :: codeOne x ks (M.length + 1))) ++ [(⟨4, 0, (e : Int), 0⟩ : In)]).length = M.length + lenT x ks + 2 := by
      rw [List.length_append, h1]; simp; omega
    rw [h3] at h2
    simp only [List.append_assoc, List.singleton_append, List.cons_append] at h2 ⊢
    exact h2
section
variable {x : Nd} {ks : F} {b : Nat}
theorem codeOne_1 (h : x.op = 1) : codeOne x ks b = [⟨1, x.set, 0, 0⟩] := by simp [codeOne, oneC, h]
theorem codeOne_2 (h : x.op = 2) : codeOne x ks b = [⟨2, 0, 0, 0⟩] := by simp [codeOne, oneC, h]
theorem codeOne_3 (h : x.op = 3) : codeOne x ks b = [⟨3, 0, 0, 0⟩] := by simp [codeOne, oneC, h]
theorem codeOne_5 (h : x.op = 5) : codeOne x ks b = code ks true b (b + lenM ks true) := by simp [codeOne, oneC, h]
theorem codeOne_6 (h : x.op = 6) : codeOne x ks b = repC x (fun b => code ks false b 0) (lenM ks false) b := by simp [codeOne, oneC, h]
theorem codeOne_c (h1 : x.op ≠ 1) (h2 : x.op ≠ 2) (h3 : x.op ≠ 3) (h5 : x.op ≠ 5) (h6 : x.op ≠ 6) : codeOne x ks b = code ks false b 0 := by simp [codeOne, oneC, h1, h2, h3, h5, h6]
theorem lenT_s (h : x.op = 1 ∨ x.op = 2 ∨ x.op = 3) : lenT x ks = 1 := by rw [lenT, lenOne, if_pos h]
theorem lenT_5 (h : x.op = 5) : lenT x ks = lenM ks true := by rw [lenT, lenOne, if_neg (by omega), if_pos h]
theorem lenT_6 (h : x.op = 6) : lenT x ks = x.mn.toNat * lenM ks false + (if x.mx = -1 then lenM ks false + 2 else (x.mx - x.mn).toNat * (lenM ks false + 1)) := by rw [lenT, lenOne, if_neg (by omega), if_neg (by omega), if_pos h]
theorem lenT_c (h1 : x.op ≠ 1) (h2 : x.op ≠ 2) (h3 : x.op ≠ 3) (h5 : x.op ≠ 5) (h6 : x.op ≠ 6) : lenT x ks = lenM ks false := by rw [lenT, lenOne, if_neg (by omega), if_neg h5, if_neg h6]
end
theorem rep_kid {x : Nd} {ks : F} (hw : (F.nd x ks .nil).wf) (h6 : x.op = 6) : ∃ y js, ks = .nd y js .nil := by
  have hk : x.kids = 1 := by
    have h := hw.1
    simp only [ndOk, Bool.and_eq_true, kidsOk] at h
    have h := h.2
    rw [if_pos (.inl h6)] at h
    simpa using h
  have hn := hw.2.1
  cases ks with
  | nil => simp [F.num] at hn; omega
  | nd y js r =>
    cases r with
    | nil => exact ⟨y, js, rfl⟩
    | nd _ _ _ => simp only [F.num] at hn; omega
theorem alt_ne {x : Nd} {ks : F} (hw : (F.nd x ks .nil).wf) (h5 : x.op = 5) : ks ≠ .nil := by
  rintro rfl
  have := alt_kids hw.1 h5
  have := hw.2.1
  simp [F.num] at this
  omega
def IsJ (l : List In) (p : Nat) : Prop := ∃ v : Int, l[p]? = some ⟨4, 0, v, 0⟩
theorem jmps_isJ : ∀ (f : F) (M : List In), ∀ p ∈ jmps f M.length, IsJ (M ++ code f true M.length 0) p
  | .nil, M, p, h => by cases h
  | .nd x ks .nil, M, p, h => by cases h
  | .nd x ks (.nd y js s), M, p, h => by
    rw [jmps_more] at h
    rw [code_more]
    have h1 : (M ++ (⟨5, 0, (M.length + 1 : Nat), (M.length + lenT x ks + 2 : Nat)⟩ :: codeOne x ks (M.length + 1)) : List In).length = M.length + 1 + lenT x ks := by
      simp only [List.length_append, List.length_cons, codeOne_len]; omega
    have e1 : ∀ (t : In) (B : List In), M ++ ((⟨5, 0, (M.length + 1 : Nat), (M.length + lenT x ks + 2 : Nat)⟩ : In) :: (codeOne x ks (M.length + 1) ++ (t :: B))) = (M ++ (⟨5, 0, (M.length + 1 : Nat), (M.length + lenT x ks + 2 : Nat)⟩ :: codeOne x ks (M.length + 1))) ++ t :: B := by intro t B; simp
    rw [e1]
    rcases List.mem_cons.1 h with rfl | h
    · exact ⟨_, get_mid h1⟩
    · have h2 := jmps_isJ (.nd y js s) ((M ++ (⟨5, 0, (M.length + 1 : Nat), (M.length + lenT x ks + 2 : Nat)⟩ :: codeOne x ks (M.length + 1))) ++ [⟨4, 0, ((0 : Nat) : Int), 0⟩]) p
      have h3 : ((M ++ (⟨5, 0, (M.length + 1 : Nat), (M.length + lenT x ks + 2 : Nat)⟩ :: codeOne x ks (M.length + 1))) ++ [(⟨4, 0, ((0 : Nat) : Int), 0⟩ : In)]).length = M.length + lenT x ks + 2 := by
        rw [List.length_append, h1]; simp; omega
      rw [h3] at h2
      have h4 := h2 h
      rw [List.append_assoc] at h4
      exact h4
theorem patch_isJ {e : Nat} (ps : List Nat) : ∀ (l : List In) (p : Nat), IsJ l p → IsJ (patch l ps e) p := by
  induction ps with
  | nil => intro l p h; exact h
  | cons q ps ih =>
    intro l p h
    refine ih _ p ?_
    by_cases e : q = p
    · subst e
      obtain ⟨v, hv⟩ := h
      exact ⟨_, List.getElem?_set_self (List.getElem?_eq_some_iff.1 hv).1⟩
    · obtain ⟨v, hv⟩ := h
      exact ⟨v, by rw [List.getElem?_set_ne e]; exact hv⟩
theorem patch_take {l : List In} {ps : List Nat} {q p e : Nat} (h : ps[q]? = some p) : (patch l (ps.take q) e).set p ⟨4, 0, e, 0⟩ = patch l (ps.take (q + 1)) e := by
  rw [List.take_add_one, h]
  exact (patch_snoc _ _ _ _).symm
theorem alt_step {y z : Nd} {ks1 js s : F} {m2 : List In} : m2 ++ code (.nd y ks1 (.nd z js s)) true m2.length 0 =
    (m2 ++ (⟨5, 0, (m2.length + 1 : Nat), (m2.length + 1 + lenT y ks1 + 1 : Nat)⟩ :: (codeOne y ks1 (m2.length + 1) ++ [⟨4, 0, 0, 0⟩]))) ++ code (.nd z js s) true (m2.length + 1 + lenT y ks1 + 1) 0 := by
  rw [code_more, show m2.length + lenT y ks1 + 2 = m2.length + 1 + lenT y ks1 + 1 by omega]
  simp
end Go.HL.Kl.Mc
namespace Go.HL.Kl.Mc
open Go Go.HL Go.HL.Kl
theorem F.size_weight : ∀ f : F, f.size ≤ f.weight
  | .nil => Nat.le_refl _
  | .nd x ks r => by
    have h1 := F.size_weight ks
    have h2 := F.size_weight r
    have h3 : ks.weight ≤ times x * ks.weight := Nat.le_mul_of_pos_left _ (times_pos x)
    simp only [F.size, F.weight]; omega
theorem mach_one (x : Nd) (ks : F) : mach (.nd x ks .nil) = codeOne x ks 0 ++ [⟨6, 0, 0, 0⟩] := by rw [mach, code_one]
theorem Shp.lenT {re : List Nd} {x : Nd} {ks : F} (h : Shp re x ks) : Mc.lenT x ks ≤ 65533 := by
  have h1 := (code_weight _ h.wf).1
  rw [lenM_cat] at h1
  have := h.weight
  simp only [F.num] at h1
  omega
theorem Shp.len {re : List Nd} {x : Nd} {ks : F} (h : Shp re x ks) : re.length ≤ 16384 := by
  have h1 := F.size_weight (.nd x ks .nil)
  have := h.weight
  rw [h.flat]
  simp only [F.size] at h1
  simp only [List.length_cons, F.flat_size]
  omega
theorem Shp.part {re : List Nd} {x : Nd} {ks : F} (h : Shp re x ks) : Part re (.nd x ks .nil) 0 re.length := by
  refine ⟨h.wf, by rw [List.drop_length, List.drop_zero, List.append_nil]; simp [F.flat, h.flat], ?_, Nat.le_refl _⟩
  rw [h.flat]; simp [F.size, F.flat_size]
inductive CompP (re : List Nd) (v : Value) (S' : Hp) : Prop
  | shape (hs : shapedB re = false) (hv : v = .tuple #[.slice none 0 0, .int .i64 49])
  | ref (hs : shapedB re = true) (hr : refsB re = true) (hv : v = .tuple #[.slice none 0 0, .int .i64 44])
  | ok {x : Nd} {ks : F} {a : Option Addr} (hs : shapedB re = true) (hr : refsB re = false) (h : Shp re x ks) (hv : v = .tuple #[.slice a (mach (.nd x ks .nil)).length (mach (.nd x ks .nil)).length, .int .i64 0]) (hm : RdS Ein (.slice a (mach (.nd x ks .nil)).length (mach (.nd x ks .nil)).length) (mach (.nd x ks .nil)) S')
inductive CompO (T : Nat) (re : List Nd) (v : Value) (S' : Hp) : Prop
  | shape (hs : shapedB re = false) (hv : v = .tuple #[.slice none 0 0, .int .i64 49]) (hn : S' = [])
  | ref (hs : shapedB re = true) (hr : refsB re = true) (hv : v = .tuple #[.slice none 0 0, .int .i64 44]) (hn : S' = [])
  | ok {x : Nd} {ks : F} {a : Option Addr} (hs : shapedB re = true) (hr : refsB re = false) (h : Shp re x ks) (hv : v = .tuple #[.slice a (mach (.nd x ks .nil)).length (mach (.nd x ks .nil)).length, .int .i64 0]) (hm : OwnS Ein 7 T (.slice a (mach (.nd x ks .nil)).length (mach (.nd x ks .nil)).length) (mach (.nd x ks .nil)) S')
theorem CompO.toP {T : Nat} {re : List Nd} {v : Value} {S' : Hp} (h : CompO T re v S') : CompP re v S' := by
  cases h with
  | shape hs hv => exact .shape hs hv
  | ref hs hr hv => exact .ref hs hr hv
  | ok hs hr h hv hm => exact .ok hs hr h hv hm.rds
end Go.HL.Kl.Mc
namespace Go.HL.Kl
open Go Go.HL
theorem wrap_i64n {x : Nat} (h : x < 9223372036854775808) : IntKind.i64.wrap (x : Int) = x := by
  simp [IntKind.wrap, IntKind.signed, IntKind.bits]; omega
end Go.HL.Kl
namespace Go.HL.Kl.Mc
open Go Go.HL Go.HL.Kl
noncomputable def mokB (m : List In) : Bool := @decide (MOk m) (Classical.propDecidable _)
theorem mokB_iff {m : List In} : mokB m = true ↔ MOk m := by
  unfold mokB
  exact ⟨fun h => @of_decide_eq_true _ (Classical.propDecidable _) h, fun h => @decide_eq_true _ (Classical.propDecidable _) h⟩
theorem mokB_no {m : List In} (h : ¬ MOk m) : mokB m = false := Bool.eq_false_iff.2 fun h' => h (mokB_iff.1 h')
theorem cels_set {κ : Cx} {H : Hp} {v : Value} {m : List In} {q : Nat} {t : In} (h : RdK Ein κ H v m) (ht : m[q]? = some t) {o : Nat} (ho : o = soff v + (q * 7 + 1)) : Cels κ H ⟨sblk v, o, none⟩ (Ec t.set) := by
  refine ⟨fun w st j u hu => ?_⟩
  subst ho
  have hj : j < 4 := by have := (List.getElem?_eq_some_iff.1 hu).1; rw [Ec_lenM] at this; exact this
  have h1 : (flat Ein m)[q * 7 + (1 + j)]? = some u := by
    rw [flat_get Ein m ht (by omega), show 1 + j = j + 1 by omega]
    simp only [Ein, List.getElem?_cons_succ]
    rw [List.getElem?_append_left (List.getElem?_eq_some_iff.1 hu).1]; exact hu
  have := (h.out w st).get _ _ h1
  rw [Addr.add_lit, show soff v + (q * 7 + 1) + j = soff v + (q * 7 + (1 + j)) by omega]
  exact this
def MUp (m : List In) (q : Nat) : Prop := ∀ i t, i < q → m[i]? = some t → InOk (m.length - 1) t ∧ (t.op ≤ 3 → i + 1 < m.length)
theorem MUp.zero {m : List In} : MUp m 0 := fun i t h => by omega
theorem MUp.step {m : List In} {q : Nat} {t : In} (h : MUp m q) (ht : m[q]? = some t) (h1 : InOk (m.length - 1) t) (h2 : t.op ≤ 3 → q + 1 < m.length) : MUp m (q + 1) := by
  intro i u hi hu
  by_cases e : i = q
  · subst e; rw [ht] at hu; cases hu; exact ⟨h1, h2⟩
  · exact h i u (by omega) hu
theorem MUp.all {m : List In} (h : MUp m m.length) (h1 : 1 ≤ m.length) (h2 : m.length ≤ 65540) : mokB m = true := mokB_iff.2 ⟨h1, h2, fun i t ht => h i t (List.getElem?_eq_some_iff.1 ht).1 ht⟩
theorem mok_len {m : List In} (h : ¬ (1 ≤ m.length ∧ m.length ≤ 65540)) : mokB m = false := mokB_no fun h' => h ⟨h'.1, h'.2.1⟩
theorem mok_in {m : List In} {q : Nat} {t : In} (ht : m[q]? = some t) (h : ¬ InOk (m.length - 1) t) : mokB m = false := mokB_no fun h' => h (h'.2.2 q t ht).1
theorem mok_last {m : List In} {q : Nat} {t : In} (ht : m[q]? = some t) (h3 : t.op ≤ 3) (h : ¬ q + 1 < m.length) : mokB m = false := mokB_no fun h' => h ((h'.2.2 q t ht).2 h3)
def wantI (t : In) : In := ⟨t.op, if t.op = 1 then t.set else 0, if t.op = 4 ∨ t.op = 5 then t.x else 0, if t.op = 5 then t.y else 0⟩
theorem wantI_of {E : Nat} {t : In} (h : InOk E t) : t = wantI t := by
  obtain ⟨_, h2, h3, h4⟩ := h
  cases t with
  | mk o s x y =>
    simp only at h2 h3 h4
    simp only [wantI, In.mk.injEq, true_and]
    refine ⟨?_, ?_, ?_⟩
    · split
      · rfl
      · exact h2.resolve_left ‹_›
    · split
      · rfl
      · rw [if_neg ‹_›] at h3; omega
    · split
      · rfl
      · rw [if_neg ‹_›] at h4; omega
theorem InOk.bnd {E : Nat} {t : In} (h : InOk E t) : 0 ≤ t.x ∧ t.x ≤ E ∧ 0 ≤ t.y ∧ t.y ≤ E := by
  obtain ⟨_, _, h3, h4⟩ := h
  refine ⟨h3.1, ?_, h4.1, ?_⟩
  · have := h3.2; split at this <;> omega
  · have := h4.2; split at this <;> omega
theorem inOk_of {n : Nat} {t : In} (h1 : 1 ≤ t.op ∧ t.op ≤ 6) (h : t = wantI t) (hx : 0 ≤ t.x ∧ t.x < (n : Int)) (hy : 0 ≤ t.y ∧ t.y < (n : Int)) : InOk (n - 1) t := by
  cases t with
  | mk o s x y =>
    simp only [wantI, In.mk.injEq, true_and] at h
    obtain ⟨e1, e2, e3⟩ := h
    simp only at hx hy h1
    refine ok_mk h1.1 h1.2 ?_ hx.1 ?_ hy.1 ?_
    · by_cases h : o = 1
      · exact .inl h
      · rw [if_neg h] at e1; exact .inr e1
    · by_cases h : o = 4 ∨ o = 5
      · rw [if_pos h]; omega
      · rw [if_neg h] at e2 ⊢; omega
    · by_cases h : o = 5
      · rw [if_pos h]; omega
      · rw [if_neg h] at e3 ⊢; omega
theorem in_set {x : In} : ∀ (j : Nat) u, (Ec x.set)[j]? = some u → (Ein x)[1 + j]? = some u := by
  intro j u h
  rw [show 1 + j = j + 1 by omega]
  simp only [Ein, List.getElem?_cons_succ]
  rw [List.getElem?_append_left (List.getElem?_eq_some_iff.1 h).1]; exact h
def succs (t : In) (n p i : Nat) : List Nat :=
  if t.op = 2 then (if p = 0 then [i + 1] else []) else if t.op = 3 then (if p = n then [i + 1] else [])
  else if t.op = 4 then [t.x.toNat] else if t.op = 5 then [t.x.toNat, t.y.toNat] else []
theorem eps_succs {m : List In} {n p i j : Nat} {t : In} (hm : MOk m) (ht : m[i]? = some t) : Eps m n p i j ↔ j ∈ succs t n p i := by
  have hb := (hm.2.2 i t ht).1.bnd
  unfold Eps succs
  constructor
  · rintro ⟨u, hu, h⟩
    rw [ht] at hu; cases hu
    rcases h with ⟨ho, h1, h2⟩ | ⟨ho, h1, h2⟩ | ⟨ho, h1⟩ | ⟨ho, h1 | h1⟩
    · rw [if_pos ho, if_pos h1, h2]; simp
    · rw [if_neg (by omega), if_pos ho, if_pos h1, h2]; simp
    · rw [if_neg (by omega), if_neg (by omega), if_pos ho, h1]; simp
    · rw [if_neg (by omega), if_neg (by omega), if_neg (by omega), if_pos ho, h1]; simp
    · rw [if_neg (by omega), if_neg (by omega), if_neg (by omega), if_pos ho, h1]; simp
  · intro h
    refine ⟨t, ht, ?_⟩
    split at h
    · split at h
      · simp at h; exact .inl ⟨‹_›, ‹_›, h⟩
      · cases h
    split at h
    · split at h
      · simp at h; exact .inr (.inl ⟨‹_›, ‹_›, h⟩)
      · cases h
    split at h
    · simp at h; exact .inr (.inr (.inl ⟨‹_›, by omega⟩))
    split at h
    · simp at h
      rcases h with h | h
      · exact .inr (.inr (.inr ⟨‹_›, .inl (by omega)⟩))
      · exact .inr (.inr (.inr ⟨‹_›, .inr (by omega)⟩))
    · cases h
structure Srch (m : List In) (n p from_ : Nat) (s0 sn : List Bool) (todo : List Nat) : Prop where
  len : sn.length = m.length
  a : ∀ i : Nat, s0[i]? = some true → sn[i]? = some true
  b : ∀ i : Nat, sn[i]? = some true → s0[i]? = some true ∨ EpsS m n p from_ i
  c : ∀ t ∈ todo, EpsS m n p from_ t ∧ t < m.length
  d : ∀ i j : Nat, sn[i]? = some true → Eps m n p i j → sn[j]? = some true ∨ j ∈ todo
  e : sn[from_]? = some true ∨ from_ ∈ todo
def unseen (l : List Bool) : Nat := l.countP (!·)
def Begn (m : List In) (w : List UInt8) (f p j : Nat) : Prop := (p = f ∧ j = 0) ∨ (f < p ∧ ∃ i, j = i + 1 ∧ Run m w (0, f) (i, p - 1) ∧ Eat m w i (p - 1))
def EndsP (m : List In) (w : List UInt8) (f : Int) (out : List Bool) : Prop := out.length = w.length + 1 ∧ ∀ t : Nat, out[t]? = some true ↔ MOk m ∧ ∃ g : Nat, f = g ∧ g ≤ w.length ∧ Hit m w g t
def SeenP (m : List In) (w : List UInt8) (p : Nat) (q : List Nat) (k : Nat) (sn : List Bool) : Prop :=
  sn.length = m.length ∧ (∀ i : Nat, sn[i]? = some true ↔ ∃ t j : Nat, t < k ∧ q[t]? = some j ∧ EpsS m w.length p j i) ∧ ∀ i j : Nat, sn[i]? = some true → Eps m w.length p i j → sn[j]? = some true
structure PassP (m : List In) (w : List UInt8) (p : Nat) (sn out : List Bool) (k : Nat) (o2 : List Bool) (q2 : List Nat) : Prop where
  len : o2.length = out.length
  st : ∀ j, j ∈ q2 ↔ ∃ i, i < k ∧ j = i + 1 ∧ sn[i]? = some true ∧ Eat m w i p
  out : ∀ t : Nat, o2[t]? = some true ↔ out[t]? = some true ∨ (t = p ∧ ∃ i u, i < k ∧ sn[i]? = some true ∧ m[i]? = some u ∧ u.op = 6)
  le : q2.length ≤ k
def EndsC (m : List In) (w : List UInt8) (f : Int) (v : Value) (S : Hp) : Prop := ∃ (a : Option Addr) (c : Nat) (out : List Bool), v = .slice a (w.length + 1) c ∧ OwnS Ebo 1 4 v out S ∧ EndsP m w f out
end Go.HL.Kl.Mc
namespace Go.Tab
open Go Go.HL
structure Fill {α : Type} (f : Nat → α) (n j : Nat) (l : List α) : Prop where
  len : l.length = n
  get : ∀ i, i < j → l[i]? = some (f i)
def idT : List UInt8 := (List.range 256).map UInt8.ofNat
def at0 (t : List UInt8) (i : Nat) : UInt8 := t.getD i 0
def thenT (t u : List UInt8) : List UInt8 := (List.range 256).map fun i => at0 u (at0 t i).toNat
def applyT (t b : List UInt8) : List UInt8 := (List.range b.length).map fun i => at0 t (at0 b i).toNat
def newAt (f t : List UInt8) : Nat → Option (List UInt8)
  | 0 => some idT
  | j + 1 => if at0 f j ∈ f.take j then none else (newAt f t j).map (·.set (at0 f j).toNat (at0 t j))
def newR (f t : List UInt8) : Option (List UInt8) := if f.length = t.length then newAt f t f.length else none
def zT : List UInt8 := List.replicate 256 0
def tabV (r : Option (List UInt8)) : Value := .tuple #[.agg (flat Eb (r.getD zT)).toArray, .int .i64 (if r.isSome then 0 else 60)]
def xyT : List UInt8 := (idT.set 97 120).set 98 121
attribute [irreducible] idT thenT applyT xyT
end Go.Tab
namespace Go.HL
open Go Go.Tab
section
variable {α : Type}
def wdlF (d : Nat → α) (xs : List α) (i : Nat) : α := (xs[i]?).getD (d i)
def wdl (d : Nat → α) (xs : List α) : List α := (List.range (xs.length + 64)).map (wdlF d xs)
theorem ext_upto {a b : List α} (hl : a.length = b.length) (h : ∀ i, i < a.length → a[i]? = b[i]?) : a = b := by
  apply List.ext_getElem?
  intro i
  by_cases hi : i < a.length
  · exact h i hi
  · rw [List.getElem?_eq_none (by omega), List.getElem?_eq_none (by omega)]
attribute [irreducible] wdl wdlF
end
end Go.HL
namespace Go.HL.Kl.Mc
open Go Go.HL Go.HL.Kl
def spI (i : Nat) : In := ⟨0, 0, ((1048576 * 9 + i + 1 : Nat) : Int), -7⟩
def letN (b : UInt8) : Nd := ⟨1, bit b.toNat, 0, 0, 0, 0⟩
theorem En_one : En ⟨1, 0, 0, 0, 0, 0⟩ = [.int .i8 1, .int .u64 0, .int .u64 0, .int .u64 0, .int .u64 0, .int .i64 0, .int .i64 0, .int .i64 0, .int .i64 0] := by
  show _ :: (Ec 0#256 ++ _) = _
  rw [Ec_zero]; rfl
theorem letN_set (b : UInt8) : (En (⟨1, 0, 0, 0, 0, 0⟩ : Nd)).set (0 + 1 + (((b.toNat / 64 : Nat) : Int)).toNat * 1) (Ew (1#64 <<< (b.toNat % 64))) = En (letN b) := by
  have hb := b.toNat_lt
  have h := with_eq (0#256) (x := b.toNat) hb
  have h0 : ∀ i, wd 0#256 i = 0#64 := fun i => by simp [wd]
  rw [h0, BitVec.zero_or, BitVec.zero_or] at h
  show (_ :: (Ec 0#256 ++ _)).set _ _ = _ :: (Ec (bit b.toNat) ++ _)
  rw [← h, ← Ec_set _ _ (by omega), Int.toNat_natCast, show 0 + 1 + b.toNat / 64 * 1 = b.toNat / 64 + 1 by omega, List.set_cons_succ, List.set_append_left _ _ (by show b.toNat / 64 < 4; omega)]; rfl
def starN : Nd := ⟨6, 0, 0, 0, -1, 1⟩
def reW : List Nd := [starN, letN 97]
def ksW : F := .nd (letN 97) .nil .nil
def mW : List In := mach (.nd starN ksW .nil)
theorem let_ok : ndOk (letN 97) = true := by decide +kernel
theorem wfW : (F.nd starN ksW .nil).wf := ⟨by decide +kernel, rfl, ⟨let_ok, rfl, trivial, trivial⟩, trivial⟩
theorem Shp.uniq {re : List Nd} {x y : Nd} {ks js : F} (h : Shp re x ks) (h' : Shp re y js) : x = y ∧ ks = js := by
  have := flat_inj (.nd x ks .nil) (.nd y js .nil) [] [] h.wf h'.wf rfl (by simp only [F.flat, List.append_nil]; rw [← h.flat, ← h'.flat])
  simpa using this.1
def wW : List UInt8 := [97, 97, 98]
theorem En_star : En starN = [.int .i8 6, .int .u64 0, .int .u64 0, .int .u64 0, .int .u64 0, .int .i64 0, .int .i64 0, .int .i64 (-1), .int .i64 1] := by
  show _ :: (Ec 0#256 ++ _) = _
  rw [Ec_zero]; rfl
attribute [irreducible] mW
/-! forests, one behind the other -/
def F.app : F → F → F
  | .nil, g => g
  | .nd x ks r, g => .nd x ks (r.app g)
theorem F.num_app : ∀ f g : F, (f.app g).num = f.num + g.num
  | .nil, g => by simp [F.app, F.num]
  | .nd x ks r, g => by simp only [F.app, F.num, F.num_app r g]; omega
theorem F.flat_app : ∀ f g : F, (f.app g).flat = f.flat ++ g.flat
  | .nil, g => by simp [F.app, F.flat]
  | .nd x ks r, g => by simp [F.app, F.flat, F.flat_app r g]
theorem F.size_app : ∀ f g : F, (f.app g).size = f.size + g.size
  | .nil, g => by simp [F.app, F.size]
  | .nd x ks r, g => by simp only [F.app, F.size, F.size_app r g]; omega
theorem F.wf_app : ∀ {f g : F}, f.wf → g.wf → (f.app g).wf
  | .nil, g, _, h => h
  | .nd x ks r, g, ⟨a, b, c, d⟩, h => ⟨a, b, c, F.wf_app d h⟩
theorem F.num_nil {f : F} (h : f.num = 0) : f = .nil := by
  cases f with
  | nil => rfl
  | nd x ks r => simp [F.num] at h
/-! lists of booleans -/
def bo0 (l : List Bool) (i : Nat) : Bool := l.getD i false
def orF (a b : List Bool) (i : Nat) : Bool := bo0 a i || bo0 b i
def orL (a b : List Bool) : List Bool := (List.range a.length).map (orF a b)
def moreTo (a b : List Bool) (k : Nat) : Bool := (List.range k).any fun i => bo0 b i && !bo0 a i
def moreB (a b : List Bool) : Bool := moreTo a b a.length
def cf (l : List Bool) : Nat := (List.range l.length).countP fun i => !bo0 l i
structure SetP (w : List UInt8) (s : Cl) (fr : List Bool) (j : Nat) (out : List Bool) : Prop where
  len : out.length = w.length + 1
  get : ∀ q : Nat, out[q]? = some true ↔ ∃ p, p < j ∧ q = p + 1 ∧ fr[p]? = some true ∧ ∃ b, w[p]? = some b ∧ s.getLsbD b.toNat = true
def OutP (N : Nat) (S : Nat → Prop) (vf : Value) (fr : List Bool) (v : Value) (S' : Hp) : Prop :=
  ∃ (a : Option Addr) (c : Nat) (l : List Bool), v = .slice a l.length c ∧ IsS l N S ∧ ∀ W : World, (∀ b o, (b, o) ∈ S' → W.heap[b]? = some o) → Rd Ebo W vf fr → Rd Ebo W v l
def OverC (P : Program) (fn : Nat) (w : List UInt8) (x : Nd) (ks : F) : Prop := ∀ (ra : Option Addr) (rc : Nat) (re : List Nd) (ta : Option Addr) (tc i i' : Nat) (fa : Option Addr) (fc : Nat) (fr : List Bool) (S : Nat → Prop),
  (∀ x ∈ re, -128 ≤ x.op ∧ x.op < 128) → (∀ x ∈ re, ¬ x.op = 8) → w.length ≤ 1000000 → Part re (.nd x ks .nil) i i' → IsS fr w.length S → (∀ p, S p → p ≤ w.length) →
  Fn P fn [.slice ra re.length rc, .int .i64 i, .slice ta w.length tc, .slice fa fr.length fc] (fun W => Rd En W (.slice ra re.length rc) re ∧ Rd Eb W (.slice ta w.length tc) w ∧ Rd Ebo W (.slice fa fr.length fc) fr) [] (OutP w.length (img (der1 w x ks) S) (.slice fa fr.length fc) fr)
def RdC (vf : Value) (fr : List Bool) (v : Value) (l : List Bool) (S : Hp) : Prop := ∀ W : World, (∀ b o, (b, o) ∈ S → W.heap[b]? = some o) → Rd Ebo W vf fr → Rd Ebo W v l
theorem Shp.mok {re : List Nd} {x : Nd} {ks : F} (h : Shp re x ks) : MOk (mach (.nd x ks .nil)) := mach_ok h.wf h.weight
def RR (x : Nd) (D : Nat → Nat → Prop) (r p q : Nat) : Prop := ∃ k : Nat, x.mn ≤ ((r + k : Nat) : Int) ∧ (x.mx = -1 ∨ ((r + k : Nat) : Int) ≤ x.mx) ∧ pow D k p q
def RQ (x : Nd) (D : Nat → Nat → Prop) (r p q m : Nat) : Prop := (x.mx = -1 ∨ (r : Int) < x.mx) ∧ (m ≠ p ∨ (r : Int) < x.mn ∨ r = 0) ∧ D p m ∧ RR x D (r + 1) m q
theorem rounds_RR {x : Nd} {D : Nat → Nat → Prop} {p q : Nat} : rounds x D p q ↔ RR x D 0 p q := by simp [rounds, RR]
theorem RR_cap {x : Nd} {D : Nat → Nat → Prop} {r s p q : Nat} (h1 : x.mx = -1) (h2 : x.mn ≤ (r : Int)) (h3 : x.mn ≤ (s : Int)) : RR x D r p q ↔ RR x D s p q :=
  ⟨fun ⟨k, _, _, hk⟩ => ⟨k, by omega, .inl h1, hk⟩, fun ⟨k, _, _, hk⟩ => ⟨k, by omega, .inl h1, hk⟩⟩
theorem RR_step {x : Nd} {D : Nat → Nat → Prop} {r q : Nat} : ∀ {p : Nat}, RR x D r p q ↔ (p = q ∧ x.mn ≤ (r : Int) ∧ (x.mx = -1 ∨ (r : Int) ≤ x.mx)) ∨ ∃ m, RQ x D r p q m := by
  have hf : ∀ k p, x.mn ≤ ((r + k : Nat) : Int) → (x.mx = -1 ∨ ((r + k : Nat) : Int) ≤ x.mx) → pow D k p q → (p = q ∧ x.mn ≤ (r : Int) ∧ (x.mx = -1 ∨ (r : Int) ≤ x.mx)) ∨ ∃ m, RQ x D r p q m := by
    intro k
    induction k with
    | zero => intro p h1 h2 h; exact .inl ⟨h, by simpa using h1, by simpa using h2⟩
    | succ k ih =>
      intro p h1 h2 ⟨m, hm, hk⟩
      by_cases hc : m ≠ p ∨ (r : Int) < x.mn ∨ r = 0
      · exact .inr ⟨m, by omega, hc, hm, k, by rw [show r + 1 + k = r + (k + 1) by omega]; exact h1, by rw [show r + 1 + k = r + (k + 1) by omega]; exact h2, hk⟩
      · obtain ⟨rfl, h3⟩ : m = p ∧ ¬ (r : Int) < x.mn := by
          refine ⟨?_, fun h => hc (.inr (.inl h))⟩
          exact Classical.byContradiction fun h => hc (.inl h)
        exact ih m (by omega) (by omega) hk
  intro p
  constructor
  · rintro ⟨k, h1, h2, h⟩; exact hf k p h1 h2 h
  · rintro (⟨rfl, h1, h2⟩ | ⟨m, h1, h2, h3, k, h4, h5, h6⟩)
    · exact ⟨0, by simpa using h1, by simpa using h2, rfl⟩
    · exact ⟨k + 1, by rw [show r + (k + 1) = r + 1 + k by omega]; exact h4, by rw [show r + (k + 1) = r + 1 + k by omega]; exact h5, m, h3, h6⟩
inductive Qry (w : List UInt8) (re : List Nd) : Ky → Prop
  | alt {x : Nd} {ks : F} {i i1 p q : Nat} (hp : Part re (.nd x ks .nil) i i1) (h5 : x.op = 5) (h : der w ks true p q) : Qry w re ⟨i, -1, p, q⟩
  | cat {x : Nd} {ks g : F} {i i1 m p q : Nat} (hp : Part re (.nd x ks .nil) i i1) (h4 : x.op = 4) (hg : Part re g m i1) (h : der w g false p q) : Qry w re ⟨i, m, p, q⟩
  | rep {x : Nd} {ks : F} {i i1 r p q : Nat} (hp : Part re (.nd x ks .nil) i i1) (h6 : x.op = 6) (h : RR x (der w ks false) r p q) : Qry w re ⟨i, r, p, q⟩
def MapOk (w : List UInt8) (re : List Nd) (es : List Me) : Prop := ∀ k, getK es k = 0 ∨ (getK es k = 1 ∧ Qry w re k) ∨ (getK es k = -1 ∧ ¬ Qry w re k)
open Classical in
noncomputable def dQ (Q : Prop) : Bool := decide Q
theorem dQ_t {Q : Prop} (h : Q) : dQ Q = true := by simp [dQ, h]
theorem dQ_f {Q : Prop} (h : ¬ Q) : dQ Q = false := by simp [dQ, h]
attribute [irreducible] dQ
structure AskE where
  (bRe bTx bA bS bE bM nF rF : Nat)
  (ra : Option Addr) (rc : Nat) (re : List Nd) (ta : Option Addr) (tc : Nat) (tx : List UInt8) (l : List Nat)
namespace AskE
abbrev vre (K : AskE) : Value := .slice K.ra K.re.length K.rc
abbrev vtx (K : AskE) : Value := .slice K.ta K.tx.length K.tc
abbrev ven (K : AskE) : Value := .slice (some ⟨K.bE, 0, none⟩) K.re.length K.re.length
abbrev pt (b : Nat) : Value := .pointer (some ⟨b, 0, none⟩)
abbrev cells (K : AskE) : List Value := [K.vre, K.ven, K.vtx, .map (some K.bM), .func (.func K.nF) [].toArray [pt K.bRe, pt K.bTx, pt K.bA].toArray, .func (.func K.rF) [].toArray [pt K.bA].toArray]
end AskE
open AskE
structure Env (w : World) (K : AskE) (M : List Nat) : Prop where
  p1 : RdP w K.bRe 0 [K.vre]
  p2 : RdP w K.bTx 0 [K.vtx]
  p3 : RdP w K.bA 0 [pt K.bS]
  p4 : RdP w K.bS 0 K.cells
  d1 : Rd En w K.vre K.re
  d2 : Rd Eb w K.vtx K.tx
  d3 : Rd Eix w K.ven K.l
  n1 : K.bRe ∉ M
  n2 : K.bTx ∉ M
  n3 : K.bA ∉ M
  n4 : K.bS ∉ M
  a1 : Apart M K.vre
  a2 : Apart M K.vtx
  a3 : Apart M K.ven
structure AskE.ok (K : AskE) : Prop where
  rng : ∀ x ∈ K.re, -128 ≤ x.op ∧ x.op < 128
  no8 : ∀ x ∈ K.re, ¬ x.op = 8
  len : K.re.length ≤ 1000000
  tx : K.tx.length ≤ 1000000
  ends : EndsOk K.re 0 K.l
def AnsK (K : AskE) (Q : Prop) (v : Value) (S' : Hp) : Prop := ∃ es c, v = .bool (dQ Q) ∧ S' = [(K.bM, mpO es c)] ∧ MapOk K.tx K.re es
def NodeK (P : Program) (K : AskE) (x : Nd) (ks : F) : Prop := ∀ (i i1 p q : Nat) (es : List Me) (c : Nat), Part K.re (.nd x ks .nil) i i1 → p ≤ q → q ≤ K.tx.length → MapOk K.tx K.re es →
  Fn P K.nF [.int .i64 i, .int .i64 p, .int .i64 q, pt K.bRe, pt K.bTx, pt K.bA] (fun W => Env W K [K.bM]) [(K.bM, mpO es c)] (AnsK K (der1 K.tx x ks p q))
def RestK (P : Program) (K : AskE) (k : Ky) : Prop := ∀ (es : List Me) (c : Nat), MapOk K.tx K.re es →
  Fn P K.rF [.agg (Ek k).toArray, pt K.bA] (fun W => Env W K [K.bM]) [(K.bM, mpO es c)] (AnsK K (Qry K.tx K.re k))
def FindK (P : Program) (K : AskE) (fn : Nat) (k : Ky) : Prop := ∀ (es : List Me) (c : Nat), MapOk K.tx K.re es →
  Fn P fn [pt K.bS, .agg (Ek k).toArray] (fun W => Env W K [K.bM]) [(K.bM, mpO es c)] (AnsK K (Qry K.tx K.re k))
def Grt (Q : Nat → Prop) (p q m : Nat) : Prop := p ≤ m ∧ m ≤ q ∧ Q m ∧ ∀ n, m < n → n ≤ q → ¬ Q n
def KidP (K : AskE) (Q : Nat → Prop) (p q : Nat) (v : Value) (S' : Hp) : Prop := ∃ es c, S' = [(K.bM, mpO es c)] ∧ MapOk K.tx K.re es ∧
  ((∃ m, Grt Q p q m ∧ v = .tuple #[.int .i64 m, .bool true]) ∨ ((∀ m, p ≤ m → m ≤ q → ¬ Q m) ∧ v = .tuple #[.int .i64 0, .bool false]))
def KidK (P : Program) (K : AskE) (fn : Nat) (k : Ky) (Q : Nat → Prop) (p q : Nat) : Prop := ∀ (es : List Me) (c : Nat), MapOk K.tx K.re es →
  Fn P fn [pt K.bS, .agg (Ek k).toArray] (fun W => Env W K [K.bM]) [(K.bM, mpO es c)] (KidP K Q p q)
end Go.HL.Kl.Mc
