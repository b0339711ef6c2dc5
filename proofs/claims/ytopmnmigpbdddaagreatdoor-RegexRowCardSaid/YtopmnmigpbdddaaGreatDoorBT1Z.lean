/- The tally's account, gathered end by end. Conditions: none. -/
import Derived.Test.YtopmnmigpbdddaaGreatDoorBS3Z
import Derived.Test.YtopmnmigpbdddaaGreatDoorZN1Z
import Derived.Test.YtopmnmigpbdddaaGreatDoorHTZ
import Derived.Test.YtopmnmigpbdddaaGreatDoorMT3Z
import Derived.Test.YtopmnmigpbdddaaGreatDoorMT8Z
namespace Go.HL.Kl.Mc
open Go Go.HL Go.HL.Kl AskE
theorem Ct.mono' {n : Nat} {q : TQ} {Z : List Caps} {k : Nat} (h : Ct n q Z k) : ∀ {Z' : List Caps} {k' : Nat}, (∀ d ∈ Z, d ∈ Z') → k ≤ k' → Ct n q Z' k' := by
  induction h with
  | leaf ho hz0 hk0 => exact fun hz hk => .leaf ho (fun h => hz _ (hz0 h)) (by omega)
  | cat ho h hk0 ih => exact fun hz hk => .cat ho (ih hz (Nat.le_refl _)) (by omega)
  | rep ho h hk0 ih => exact fun hz hk => .rep ho (ih hz (Nat.le_refl _)) (by omega)
  | grp ho h hz0 hk0 ih => exact fun hz hk => .grp ho h (fun d hd => hz _ (hz0 d hd)) (by omega)
  | altC ho h hk0 ih => exact fun hz hk => .altC ho (ih hz (Nat.le_refl _)) (by omega)
  | altNil => exact fun _ _ => .altNil
  | altCons h1 h2 z1 z2 hk0 => exact fun hz hk => .altCons h1 h2 (fun d hd => hz _ (z1 d hd)) (fun d hd => hz _ (z2 d hd)) (by omega)
  | rowNil hz0 => exact fun hz _ => .rowNil fun h => hz _ (hz0 h)
  | rowCons hes h1 h2 hz0 hk0 => exact fun hz hk => .rowCons hes h1 h2 (fun e he c1 hc1 d hd => hz _ (hz0 e he c1 hc1 d hd)) (by omega)
  | rnd hes h1 h2 hz0 hz2 hk0 => exact fun hz hk => .rnd hes h1 h2 (fun e he c1 hc1 d hd => hz _ (hz0 e he c1 hc1 d hd)) (fun a b => hz _ (hz2 a b)) (by omega)
theorem Ct.mono {n : Nat} {q : TQ} {Z Z' : List Caps} {k k' : Nat} (h : Ct n q Z k) (hz : ∀ d ∈ Z, d ∈ Z') (hk : k ≤ k') : Ct n q Z' k' := h.mono' hz hk
def IAcc (PR : Caps → List Caps → Nat → Prop) (dn : List Caps) (Z : List Caps) (T : Int) : Prop := ∃ (R : Caps → List Caps) (kR : Caps → Nat), (∀ c1 ∈ dn, PR c1 (R c1) (kR c1)) ∧ (∀ c1 ∈ dn, ∀ d ∈ R c1, d ∈ Z) ∧ (((dn.map fun c => kR c + 1).sum : Nat) : Int) ≤ 3 * T
theorem IAcc.nil {PR : Caps → List Caps → Nat → Prop} {Z : List Caps} {T : Int} (h : 0 ≤ T) : IAcc PR [] Z T := ⟨fun _ => [], fun _ => 0, fun c h => (by cases h), fun c h => (by cases h), by simp; omega⟩
theorem IAcc.mono {PR : Caps → List Caps → Nat → Prop} {dn Z Z' : List Caps} {T T' : Int} (h : IAcc PR dn Z T) (hz : ∀ d ∈ Z, d ∈ Z') (ht : T ≤ T') : IAcc PR dn Z' T' := by
  obtain ⟨R, kR, h1, h2, h3⟩ := h
  exact ⟨R, kR, h1, fun c hc d hd => hz _ (h2 c hc d hd), by omega⟩
theorem IAcc.snoc {PR : Caps → List Caps → Nat → Prop} {dn Z : List Caps} {T t : Int} (h : IAcc PR dn Z T) {c1 : Caps} {R1 : List Caps} {k1 : Nat} (hp : PR c1 R1 k1) (hz : ∀ d ∈ R1, d ∈ Z) (hk : (k1 : Int) + 1 ≤ 3 * t) : IAcc PR (dn ++ [c1]) Z (T + t) := by
  obtain ⟨R, kR, h1, h2, h3⟩ := h
  by_cases hm : c1 ∈ dn ∧ kR c1 ≤ k1
  · refine ⟨R, kR, fun c hc => ?_, fun c hc => ?_, ?_⟩
    · rcases List.mem_append.1 hc with hc | hc
      · exact h1 c hc
      · obtain rfl := List.mem_singleton.1 hc; exact h1 _ hm.1
    · rcases List.mem_append.1 hc with hc | hc
      · exact h2 c hc
      · obtain rfl := List.mem_singleton.1 hc; exact h2 _ hm.1
    · rw [List.map_append, List.sum_append]
      simp only [List.map_cons, List.map_nil, List.sum_cons, List.sum_nil]
      omega
  · refine ⟨fun c => if c = c1 then R1 else R c, fun c => if c = c1 then k1 else kR c, fun c hc => ?_, fun c hc => ?_, ?_⟩
    · by_cases e : c = c1
      · subst e; simp only [if_true]; exact hp
      · simp only [if_neg e]
        exact h1 c ((List.mem_append.1 hc).resolve_right fun h => e (List.mem_singleton.1 h))
    · by_cases e : c = c1
      · subst e; simp only [if_true]; exact hz
      · simp only [if_neg e]
        exact h2 c ((List.mem_append.1 hc).resolve_right fun h => e (List.mem_singleton.1 h))
    · rw [List.map_append, List.sum_append]
      simp only [List.map_cons, List.map_nil, List.sum_cons, List.sum_nil, if_true]
      have hs : (dn.map fun c => (if c = c1 then k1 else kR c) + 1).sum ≤ (dn.map fun c => kR c + 1).sum := sum_le fun c hc => by
        by_cases e : c = c1
        · subst e
          rw [if_pos rfl]
          have : ¬ kR c ≤ k1 := fun h => hm ⟨hc, h⟩
          omega
        · rw [if_neg e]; exact Nat.le_refl _
      omega
def GAcc (PN : Nat → List Caps → Nat → Prop) (PR : Nat → Caps → List Caps → Nat → Prop) (es : List Nat) (Z : List Caps) (T : Int) : Prop :=
  ∃ (L : Nat → List Caps) (kN : Nat → Nat) (R : Nat → Caps → List Caps) (kR : Nat → Caps → Nat), (∀ e, e ∈ es → PN e (L e) (kN e)) ∧ (∀ e, e ∈ es → ∀ c1, c1 ∈ L e → PR e c1 (R e c1) (kR e c1)) ∧ (∀ e, e ∈ es → ∀ c1, c1 ∈ L e → ∀ d, d ∈ R e c1 → d ∈ Z) ∧ ((sumW es L kN kR : Nat) : Int) + es.length ≤ 3 * T
theorem GAcc.nil {PN : Nat → List Caps → Nat → Prop} {PR : Nat → Caps → List Caps → Nat → Prop} {Z : List Caps} {T : Int} (h : 0 ≤ T) : GAcc PN PR [] Z T := ⟨fun _ => [], fun _ => 0, fun _ _ => [], fun _ _ => 0, fun e h => (by cases h), fun e h => (by cases h), fun e h => (by cases h), by simp [sumW]; omega⟩
theorem GAcc.mono {PN : Nat → List Caps → Nat → Prop} {PR : Nat → Caps → List Caps → Nat → Prop} {es : List Nat} {Z Z' : List Caps} {T T' : Int} (h : GAcc PN PR es Z T) (hz : ∀ d ∈ Z, d ∈ Z') (ht : T ≤ T') : GAcc PN PR es Z' T' := by
  obtain ⟨L, kN, R, kR, h1, h2, h3, h4⟩ := h
  exact ⟨L, kN, R, kR, h1, h2, fun e he c hc d hd => hz _ (h3 e he c hc d hd), by omega⟩
theorem sumW_app {L : Nat → List Caps} {kN : Nat → Nat} {kR : Nat → Caps → Nat} {es : List Nat} {e : Nat} : sumW (es ++ [e]) L kN kR = sumW es L kN kR + (kN e + ((L e).map fun c1 => kR e c1 + 1).sum) := by
  simp [sumW, List.map_append, List.sum_append]
theorem sumW_congr {L L' : Nat → List Caps} {kN kN' : Nat → Nat} {kR kR' : Nat → Caps → Nat} {es : List Nat} (h : ∀ e ∈ es, L e = L' e ∧ kN e = kN' e ∧ kR e = kR' e) : sumW es L kN kR = sumW es L' kN' kR' := by
  unfold sumW
  congr 1
  apply List.map_congr_left
  intro e he
  obtain ⟨a, b, c⟩ := h e he
  rw [a, b, c]
theorem GAcc.snoc {PN : Nat → List Caps → Nat → Prop} {PR : Nat → Caps → List Caps → Nat → Prop} {es : List Nat} {Z : List Caps} {T t T2 : Int} (h : GAcc PN PR es Z T) {e : Nat} (he : e ∉ es) {L1 : List Caps} {k1 : Nat} (hn : PN e L1 k1) (hk : (k1 : Int) + 1 ≤ 3 * t) (hi : IAcc (PR e) L1 Z T2) : GAcc PN PR (es ++ [e]) Z (T + t + T2) := by
  obtain ⟨L, kN, R, kR, h1, h2, h3, h4⟩ := h
  obtain ⟨R1, kR1, i1, i2, i3⟩ := hi
  have ne : ∀ e' ∈ es, e' ≠ e := fun e' he' h => he (h ▸ he')
  refine ⟨fun a => if a = e then L1 else L a, fun a => if a = e then k1 else kN a, fun a => if a = e then R1 else R a, fun a => if a = e then kR1 else kR a, fun a ha => ?_, fun a ha => ?_, fun a ha => ?_, ?_⟩
  · by_cases ae : a = e
    · subst ae; simp only [if_true]; exact hn
    · simp only [if_neg ae]
      exact h1 a ((List.mem_append.1 ha).resolve_right fun h => ae (List.mem_singleton.1 h))
  · by_cases ae : a = e
    · subst ae; simp only [if_true]; exact i1
    · simp only [if_neg ae]
      exact h2 a ((List.mem_append.1 ha).resolve_right fun h => ae (List.mem_singleton.1 h))
  · by_cases ae : a = e
    · subst ae; simp only [if_true]; exact i2
    · simp only [if_neg ae]
      exact h3 a ((List.mem_append.1 ha).resolve_right fun h => ae (List.mem_singleton.1 h))
  · rw [sumW_app, sumW_congr (L' := L) (kN' := kN) (kR' := kR) fun a ha => ⟨if_neg (ne a ha), if_neg (ne a ha), if_neg (ne a ha)⟩]
    simp only [if_true, List.length_append, List.length_singleton]
    omega
theorem ends_snoc {e j : Nat} (h : e ≤ j) : ends e j = ends (e + 1) j ++ [e] := by
  have key : ∀ k e, down e (k + 1) = down (e + 1) k ++ [e] := by
    intro k
    induction k with
    | zero => intro e; simp [down]
    | succ k ih =>
      intro e
      rw [down, ih e, down, List.cons_append]
      congr 1
      omega
  unfold ends
  rw [show j + 1 - e = (j - e) + 1 by omega, key, show j + 1 - (e + 1) = j - e by omega]
theorem ends_out {e j : Nat} : e ∉ ends (e + 1) j := fun h => by have := mem_ends.1 h; omega
theorem ends_none {j : Nat} : ends (j + 1) j = [] := by unfold ends; rw [show j + 1 - (j + 1) = 0 by omega]; rfl
def RowC (n : Nat) (g : F) (i j : Nat) (c : Caps) (Z : List Caps) (t : Int) : Prop := ∃ k, Ct n (.row g i j c) Z k ∧ ((g = .nil ∧ k = 0 ∧ 0 ≤ t) ∨ (k : Int) + 1 ≤ 3 * t)
def NodeC' (n : Nat) (x : Nd) (ks : F) (i j : Nat) (c : Caps) (Z : List Caps) (t : Int) : Prop := ∃ k, Ct n (.node x ks i j c) Z k ∧ (k : Int) + 1 ≤ 3 * t
def RndC (n : Nat) (x y : Nd) (js : F) (had i j : Nat) (c : Caps) (Z : List Caps) (t : Int) : Prop := ∃ k, Ct n (.rnd x y js had i j c) Z k ∧ (k : Int) + 1 ≤ 3 * t
theorem RowC.nilE {n i : Nat} {c : Caps} {Z : List Caps} {t : Int} (ht : 0 ≤ t) (hc : c ∈ Z) {j : Nat} : RowC n .nil i j c Z t := ⟨0, .rowNil fun _ => hc, .inl ⟨rfl, rfl, ht⟩⟩
theorem RowC.nilN {n i j : Nat} {c : Caps} {Z : List Caps} {t : Int} (ht : 0 ≤ t) (h : i ≠ j) : RowC n .nil i j c Z t := ⟨0, .rowNil fun e => absurd e h, .inl ⟨rfl, rfl, ht⟩⟩
abbrev GRow (n : Nat) (y : Nd) (js r : F) (i j : Nat) (c : Caps) (es : List Nat) (Z : List Caps) (T : Int) : Prop := GAcc (fun e L k => Ct n (.node y js i e c) L k) (fun e c1 R k => Ct n (.row r e j c1) R k) es Z T
theorem RowC.cons {n : Nat} {y : Nd} {js r : F} {i j : Nat} {c : Caps} {es : List Nat} {Z : List Caps} {T : Int} (h : GRow n y js r i j c es Z T) (hes : es = if r.num = 0 then [j] else ends i j) (hij : i ≤ j) : RowC n (.nd y js r) i j c Z T := by
  obtain ⟨L, kN, R, kR, h1, h2, h3, h4⟩ := h
  refine ⟨_, .rowCons hes h1 h2 h3 (Nat.le_refl _), .inr ?_⟩
  have : 1 ≤ es.length := by
    rw [hes]
    split
    · simp
    · rw [ends_snoc hij]; simp
  omega
abbrev GRnd (n : Nat) (x y : Nd) (js : F) (had i j : Nat) (c : Caps) (es : List Nat) (Z : List Caps) (T : Int) : Prop := GAcc (fun e L k => Ct n (.node y js i e (emp (F.nd y js .nil).flat c)) L k) (fun e c1 R k => Ct n (.rnd x y js (had + 1) e j c1) R k) es Z T
theorem RndC.of {n : Nat} {x y : Nd} {js : F} {had i j : Nat} {c : Caps} {es : List Nat} {Z Z' : List Caps} {T t : Int} (h : GRnd n x y js had i j c es Z T) (hes : es = rEs x had i j) (hz : ∀ d ∈ Z, d ∈ Z') (hz2 : i = j → x.mn ≤ (had : Int) → c ∈ Z') (ht : T + 1 ≤ t) : RndC n x y js had i j c Z' t := by
  obtain ⟨L, kN, R, kR, h1, h2, h3, h4⟩ := h
  exact ⟨_, .rnd hes h1 h2 (fun e he c1 hc1 d hd => hz _ (h3 e he c1 hc1 d hd)) hz2 (Nat.le_refl _), by omega⟩
def AltPre (n : Nat) (ks g : F) (i j : Nat) (c : Caps) (Z : List Caps) (k : Nat) : Prop := ∀ Z2 k2, Ct n (.alt g i j c) Z2 k2 → ∀ Z', (∀ d ∈ Z, d ∈ Z') → (∀ d ∈ Z2, d ∈ Z') → Ct n (.alt ks i j c) Z' (k + k2)
theorem AltPre.start {n : Nat} {ks : F} {i j : Nat} {c : Caps} : AltPre n ks ks i j c [] 0 := fun Z2 k2 h Z' _ h2 => h.mono h2 (by omega)
theorem AltPre.step {n : Nat} {ks r js : F} {y : Nd} {i j : Nat} {c : Caps} {Z Z1 Z3 : List Caps} {k k1 : Nat} (h : AltPre n ks (.nd y js r) i j c Z k) (h1 : Ct n (.node y js i j c) Z1 k1) (a : ∀ d ∈ Z, d ∈ Z3) (b : ∀ d ∈ Z1, d ∈ Z3) : AltPre n ks r i j c Z3 (k + k1) := fun Z2 k2 h2 Z' c1 c2 => by
  have := h (Z1 ++ Z2) (k1 + k2) (.altCons h1 h2 (fun d hd => List.mem_append_left _ hd) (fun d hd => List.mem_append_right _ hd) (Nat.le_refl _)) Z' (fun d hd => c1 d (a d hd)) (fun d hd => by
    rcases List.mem_append.1 hd with hd | hd
    · exact c1 d (b d hd)
    · exact c2 d hd)
  exact this.mono (fun _ h => h) (by omega)
theorem AltPre.done {n : Nat} {ks : F} {i j : Nat} {c : Caps} {Z : List Caps} {k : Nat} (h : AltPre n ks .nil i j c Z k) : Ct n (.alt ks i j c) Z k := h [] 0 .altNil Z (fun _ h => h) (fun d hd => by cases hd)
/-! groups emptied, place by place -/
def empTo (re : List Nd) (a j : Nat) (c : Caps) : Caps := emp ((re.drop a).take (j - a)) c
theorem empTo_start {re : List Nd} {a j : Nat} {c : Caps} (h : j ≤ a) : empTo re a j c = c := by unfold empTo; rw [show j - a = 0 by omega]; rfl
theorem empTo_step {re : List Nd} {a j : Nat} {c : Caps} {x : Nd} (h : re[j]? = some x) (ha : a ≤ j) : empTo re a (j + 1) c = em1 (empTo re a j c) x := by
  have hj : (re.drop a)[j - a]? = some x := by rw [List.getElem?_drop, show a + (j - a) = j by omega]; exact h
  unfold empTo
  rw [show j + 1 - a = (j - a) + 1 by omega, List.take_add_one, hj]
  show emp ((re.drop a).take (j - a) ++ [x]) c = _
  unfold emp
  rw [List.foldl_append]; rfl
theorem empTo_part {re : List Nd} {f : F} {a e : Nat} {c : Caps} (h : Part re f a e) : empTo re a e c = emp f.flat c := by
  unfold empTo
  rw [h.flat, h.len, show a + f.size - a = f.flat.length by rw [F.flat_size]; omega, List.take_left]
end Go.HL.Kl.Mc
namespace Go.HL.Kl.Mc
open Go Go.HL Go.HL.Kl AskE
theorem ends_self {j : Nat} : ends j j = [j] := by rw [ends_snoc (Nat.le_refl j), ends_none]; rfl
theorem ends_fin {e : Int} {i j : Nat} {p : Prop} [Decidable p] (h1 : p → (e + 1).toNat = j) (h2 : ¬ p → (e + 1).toNat = i) : ends (e + 1).toNat j = if p then [j] else ends i j := by
  by_cases h : p
  · rw [if_pos h, h1 h, ends_self]
  · rw [if_neg h, h2 h]
theorem row_step {n : Nat} {r : F} {e j : Nat} {c1 : Caps} {Z : List Caps} {t t2 : Int} (h : RowC n r e j c1 Z t) (hr : r.num = 0 → e = j) (ht : t + Z.length ≤ t2) : ∃ k, Ct n (.row r e j c1) Z k ∧ (k : Int) + 1 ≤ 3 * t2 := by
  obtain ⟨k, h1, h2⟩ := h
  refine ⟨k, h1, ?_⟩
  rcases h2 with ⟨rfl, rfl, h3⟩ | h2
  · have he := hr rfl
    cases h1 with
    | rowNil hz =>
      have : 0 < Z.length := List.length_pos_of_mem (hz he)
      omega
  · omega
end Go.HL.Kl.Mc
namespace Go.HL.Kl.Mc
open Go Go.HL Go.HL.Kl AskE
theorem rEs_done {x : Nd} {had i j : Nat} {e : Int} (hij : i ≤ j) (h : (¬ (x.mx = -1 ∨ (had : Int) < x.mx) ∧ e = j) ∨ ((x.mx = -1 ∨ (had : Int) < x.mx) ∧ e = (i : Int) - 1 ∧ ¬ (x.mn ≤ (had : Int) ∧ 0 < had)) ∨ ((x.mx = -1 ∨ (had : Int) < x.mx) ∧ e = i ∧ x.mn ≤ (had : Int) ∧ 0 < had)) : ends (e + 1).toNat j = rEs x had i j := by
  unfold rEs
  rcases h with ⟨h1, h2⟩ | ⟨h1, h2, h3⟩ | ⟨h1, h2, h3⟩
  · rw [if_neg h1, show (e + 1).toNat = j + 1 by omega, ends_none]
  · rw [if_pos h1, show (e + 1).toNat = i by omega, List.filter_eq_self.2]
    intro a _
    simp only [decide_eq_true_eq]
    exact fun h => h3 h.2
  · rw [if_pos h1, show (e + 1).toNat = i + 1 by omega, ends_snoc hij, List.filter_append, List.filter_eq_self.2]
    · have : ([i].filter fun e => decide (¬ (e = i ∧ x.mn ≤ (had : Int) ∧ 0 < had))) = [] := by
        exact List.filter_cons_of_neg (fun h => of_decide_eq_true h ⟨rfl, h3⟩)
      rw [this, List.append_nil]
    · intro a ha
      have := mem_ends.1 ha
      simp only [decide_eq_true_eq]
      exact fun h => by omega
theorem GRnd.done {n : Nat} {x y : Nd} {js : F} {had i j : Nat} {c : Caps} {e : Int} {Z : List Caps} {T : Int} (h : GRnd n x y js had i j c (ends (e + 1).toNat j) Z T) (hij : i ≤ j) (hd : (¬ (x.mx = -1 ∨ (had : Int) < x.mx) ∧ e = j) ∨ ((x.mx = -1 ∨ (had : Int) < x.mx) ∧ e = (i : Int) - 1 ∧ ¬ (x.mn ≤ (had : Int) ∧ 0 < had)) ∨ ((x.mx = -1 ∨ (had : Int) < x.mx) ∧ e = i ∧ x.mn ≤ (had : Int) ∧ 0 < had)) : GRnd n x y js had i j c (rEs x had i j) Z T := by
  rw [← rEs_done hij hd]; exact h
end Go.HL.Kl.Mc
namespace Go.HL.Kl.Mc
open Go Go.HL Go.HL.Kl AskE
section
variable {n : Nat} {x : Nd} {c : Caps} {i j : Nat}
theorem gT1 (h : goodT n x c i j) (o : x.op = 1) : j = i + 1 := by
  rcases h with ⟨_, h⟩ | ⟨h, _⟩ | ⟨h, _⟩ | ⟨h, _⟩ <;> omega
theorem gT2 (h : goodT n x c i j) (o : x.op = 2) : i = 0 ∧ j = 0 := by
  rcases h with ⟨h, _⟩ | ⟨_, h⟩ | ⟨h, _⟩ | ⟨h, _⟩ <;> omega
theorem gT3 (h : goodT n x c i j) (o : x.op = 3) : i = n ∧ j = n := by
  rcases h with ⟨h, _⟩ | ⟨h, _⟩ | ⟨_, h⟩ | ⟨h, _⟩ <;> omega
theorem gT8 (h : goodT n x c i j) (o : x.op = 8) (hn : 1 ≤ x.n) {s : Sp} (hs : c[(x.n - 1).toNat]? = some s) : 0 ≤ s.fr ∧ s.to - s.fr = (j : Int) - i := by
  rcases h with ⟨h, _⟩ | ⟨h, _⟩ | ⟨h, _⟩ | ⟨_, h1, h2⟩
  · omega
  · omega
  · omega
  · rw [List.getD_eq_getElem?_getD, show x.n.toNat - 1 = (x.n - 1).toNat by omega, hs] at h1 h2
    exact ⟨h1, h2⟩
end
end Go.HL.Kl.Mc
namespace Go.HL.Kl.Mc
open Go Go.HL Go.HL.Kl AskE
def LAcc (n : Nat) (x : Nd) (ks : F) (c : Caps) (ps : List (Nat × Nat)) (T : Int) : Prop := ∃ cost : Nat → Nat → Nat, (∀ p ∈ ps, ∃ Z, Ct n (.node x ks p.1 p.2 c) Z (cost p.1 p.2)) ∧ (((ps.map fun p => cost p.1 p.2).sum : Nat) : Int) ≤ 3 * T
theorem LAcc.nil {n : Nat} {x : Nd} {ks : F} {c : Caps} {T : Int} (h : 0 ≤ T) : LAcc n x ks c [] T := ⟨fun _ _ => 0, fun p h => (by cases h), by simp; omega⟩
theorem LAcc.snoc {n : Nat} {x : Nd} {ks : F} {c : Caps} {ps : List (Nat × Nat)} {T t : Int} (h : LAcc n x ks c ps T) {i j : Nat} {Z : List Caps} (hc : NodeC' n x ks i j c Z t) : LAcc n x ks c (ps ++ [(i, j)]) (T + t) := by
  obtain ⟨cost, h1, h2⟩ := h
  obtain ⟨k, c1, c2⟩ := hc
  by_cases hm : (i, j) ∈ ps ∧ cost i j ≤ k
  · refine ⟨cost, fun p hp => ?_, ?_⟩
    · rcases List.mem_append.1 hp with hp | hp
      · exact h1 p hp
      · obtain rfl := List.mem_singleton.1 hp; exact h1 _ hm.1
    · rw [List.map_append, List.sum_append]
      simp only [List.map_cons, List.map_nil, List.sum_cons, List.sum_nil]
      omega
  · refine ⟨fun a b => if a = i ∧ b = j then k else cost a b, fun p hp => ?_, ?_⟩
    · by_cases e : p.1 = i ∧ p.2 = j
      · refine ⟨Z, ?_⟩
        simp only [if_pos e]
        rw [e.1, e.2]; exact c1
      · simp only [if_neg e]
        exact h1 p ((List.mem_append.1 hp).resolve_right fun h => e (by obtain rfl := List.mem_singleton.1 h; exact ⟨rfl, rfl⟩))
    · rw [List.map_append, List.sum_append]
      simp only [List.map_cons, List.map_nil, List.sum_cons, List.sum_nil, and_self, if_true]
      have hs : (ps.map fun p => if p.1 = i ∧ p.2 = j then k else cost p.1 p.2).sum ≤ (ps.map fun p => cost p.1 p.2).sum := sum_le fun p hp => by
        by_cases e : p.1 = i ∧ p.2 = j
        · rw [if_pos e, e.1, e.2]
          have : ¬ cost i j ≤ k := fun h => hm ⟨by rw [← e.1, ← e.2]; exact hp, h⟩
          omega
        · rw [if_neg e]; exact Nat.le_refl _
      omega
theorem LAcc.mono {n : Nat} {x : Nd} {ks : F} {c : Caps} {ps : List (Nat × Nat)} {T T' : Int} (h : LAcc n x ks c ps T) (ht : T ≤ T') : LAcc n x ks c ps T' := by
  obtain ⟨cost, h1, h2⟩ := h
  exact ⟨cost, h1, by omega⟩
def rowP (n i : Nat) (es : List Nat) : List (Nat × Nat) := es.map fun j => (i, j)
def prs (n p : Nat) : List (Nat × Nat) := (List.range p).flatMap fun i => rowP n i (ends i n)
theorem prs_succ {n p : Nat} : prs n (p + 1) = prs n p ++ rowP n p (ends p n) := by simp [prs, List.range_succ, List.flatMap_append]
theorem rowP_snoc {n p j : Nat} (h : j ≤ n) : rowP n p (ends j n) = rowP n p (ends (j + 1) n) ++ [(p, j)] := by unfold rowP; rw [ends_snoc h, List.map_append]; rfl
theorem rowP_none {n p : Nat} : rowP n p (ends (n + 1) n) = [] := by unfold rowP; rw [ends_none]; rfl
theorem mem_prs {n p i j : Nat} (h1 : i < p) (h2 : i ≤ j) (h3 : j ≤ n) : (i, j) ∈ prs n p := by
  unfold prs
  rw [List.mem_flatMap]
  exact ⟨i, List.mem_range.2 h1, List.mem_map.2 ⟨j, mem_ends.2 ⟨h2, h3⟩, rfl⟩⟩
def BehU (re : List Nd) (bl : List Nat) (a b : Nat) : Prop := ∀ k y js r e, a ≤ k → k < b → Part re (.nd y js r) k e → bl[k]? = some (k + 1 + js.size)
theorem BehU.nil {re : List Nd} {bl : List Nat} {a : Nat} : BehU re bl a a := fun k _ _ _ _ h1 h2 => by omega
theorem BehU.cat {re : List Nd} {bl bl' : List Nat} {a b c : Nat} (h : BehU re bl a b) (hb : ∀ k, k < b → bl'[k]? = bl[k]?) (h' : BehU re bl' b c) : BehU re bl' a c := fun k y js r e h1 h2 hp => by
  by_cases hk : k < b
  · rw [hb k hk]; exact h k y js r e h1 hk hp
  · exact h' k y js r e (by omega) h2 hp
theorem BehU.top {re : List Nd} {bl : List Nat} {x : Nd} {ks : F} {at_ e : Nat} (hp : Part re (.nd x ks .nil) at_ e) (h : BehU re bl (at_ + 1) e) (hl : at_ < bl.length) (he : e = at_ + 1 + ks.size) : BehU re (bl.set at_ e) at_ e := fun k y js r e' h1 h2 hp' => by
  by_cases hk : k = at_
  · subst hk
    have hu : js = ks := by
      obtain ⟨h3, _, _⟩ := hp.head
      obtain ⟨h4, _, _⟩ := hp'.head
      rw [h3] at h4
      cases h4
      exact hp'.uniq hp
    rw [List.getElem?_set_self hl, hu, he]
  · rw [List.getElem?_set_ne (by omega)]
    exact h k y js r e' (by omega) h2 hp'
def rsum (cost : Nat → Nat → Nat) (n : Nat) : Nat → Nat
  | 0 => 0
  | m + 1 => ((ends (n - m) n).map (cost (n - m))).sum + rsum cost n m
theorem rsum_prs {cost : Nat → Nat → Nat} {n : Nat} : ∀ m, m ≤ n + 1 → ((prs n (n + 1 - m)).map fun p => cost p.1 p.2).sum + rsum cost n m = ((prs n (n + 1)).map fun p => cost p.1 p.2).sum
  | 0, _ => by simp [rsum]
  | m + 1, hm => by
    have ih := rsum_prs (cost := cost) (n := n) m (by omega)
    have e : n + 1 - m = (n - m) + 1 := by omega
    rw [e, prs_succ, List.map_append, List.sum_append] at ih
    have e2 : ((rowP n (n - m) (ends (n - m) n)).map fun p => cost p.1 p.2).sum = ((ends (n - m) n).map (cost (n - m))).sum := by
      unfold rowP; rw [List.map_map]; rfl
    rw [e2] at ih
    rw [rsum, show n + 1 - (m + 1) = n - m by omega]
    omega
theorem rsum_le {cost : Nat → Nat → Nat} {n m : Nat} (h : m ≤ n + 1) : rsum cost n m ≤ ((prs n (n + 1)).map fun p => cost p.1 p.2).sum := by
  have := rsum_prs (cost := cost) m h; omega
end Go.HL.Kl.Mc
namespace Go.Proofs.YtopmnmigpbdddaaGreatDoor
open Go Go.HL Go.Proofs Go.HL.Kl Go.HL.Kl.Mc Go.HL.Kl.Mc.AskE
set_option maxHeartbeats 1000000 in
theorem node_clo (K : AskE) (hK : K.ok) (x : Nd) (ks : F) (i i1 p q : Nat) (es : List Me) (c : Nat) (hp : Part K.re (.nd x ks .nil) i i1) (hpq : p ≤ q) (hq : q ≤ K.tx.length) (hes : MapOk K.tx K.re es) (ihN : x.op = 7 → ∀ y js, ks = .nd y js .nil → NodeK Tryz.prog K y js) (h4 : x.op = 4 → RestK Tryz.prog K ⟨i, (i + 1 : Nat), p, q⟩) (h5 : x.op = 5 → RestK Tryz.prog K ⟨i, -1, p, q⟩) (h6 : x.op = 6 → RestK Tryz.prog K ⟨i, (0 : Nat), p, q⟩) : HL.Fn Tryz.prog 124 [.int .i64 i, .int .i64 p, .int .i64 q, pt K.bRe, pt K.bTx, pt K.bA] (fun W => Env W K [K.bM]) [(K.bM, mpO es c)] (AnsK K (der1 K.tx x ks p q)) := by
  refine fn_of Tryz.func124 rfl rfl rfl fun w0 hw => ?_
  have hsl := hw.d1.sl
  have hst := hw.d2.sl
  have hse := hw.d3.sl
  have htl := hK.tx
  have hrl := hK.len
  obtain rfl : i1 = i + 1 + ks.size := by have := hp.len; simp only [F.size] at this; omega
  obtain ⟨hx, hpk, _⟩ := hp.head
  have hilt := (List.getElem?_eq_some_iff.1 hx).1
  have hxm := List.mem_of_getElem? hx
  have hox := hK.rng x hxm
  have hx8 := hK.no8 x hxm
  have hok : ndOk x = true := hp.wf.1
  have hop : 1 ≤ x.op ∧ x.op ≤ 8 := (flds_iff.1 (by simp only [ndOk, Bool.and_eq_true] at hok; exact hok.1)).1
  have hpkl := hpk.le
  have hei := hK.ends.2 i x ks .nil _ (Nat.zero_le _) hp
  have hell := hK.ends.1
  rw [hell] at hse
  refine cR fun _ hK1 => ?_; refine oA (oZ hK1 (c_seq fun _ hK2 => ?_)); refine cR fun _ hK3 => ?_; refine oS (s_ld rfl ((RdPK.old hw.p1 hw.n1).cel (j := 0) rfl rfl)) ?_; refine oM ?_; refine oS (s_idx rfl rfl hsl (by omega)) ?_; refine oS (s_ldB rfl ((RdK.old hw.d1 hw.a1).lds i hx rfl) (by rfl)) ?_; refine o_alloc (l := En zN) (by rw [En_zero]; rfl) rfl fun b10 => ?_; refine o_stW rfl rfl upA lnA lnA onA ?_; refine oZ hK3 (cR fun _ hK4 => ?_); refine oS sF ?_; refine oS sL (oZ hK4 (c_block (cR fun _ hK5 => ?_)))
  by_cases o1 : x.op = 1
  ·refine oS (eqT (h := o1)) ?_; refine oA (oZ hK5 ?_); refine cT (c_seq fun _ hK6 => ?_); refine c_drawE ([(b10, .cells (En x).toArray 108 (0, 0))]) (fun i => false) ?_; refine eK 0 rfl sM ?_; refine eK 1 rfl sM ?_; refine eK 2 rfl sD ?_
   by_cases hqp : (q : Int) = (p : Int) + 1
   ·obtain ⟨b, hb⟩ : ∃ b, K.tx[p]? = some b := gE
    refine eK 3 rfl eqT ?_; refine eK 4 rfl sM ?_; refine eG 5 rfl sF ?_; refine eG 6 rfl (s_ldB rfl (RdPK.cels (RdPK.own' (cs := Ec x.set) meA nd_set)) (Ec_lenM _)) ?_; refine eG 7 rfl (s_ld rfl ((RdPK.old hw.p2 hw.n2).cel (j := 0) rfl rfl)) ?_; refine eG 8 rfl sM ?_; refine eG 9 rfl (s_idx rfl rfl hst (by omega)) ?_; refine eG 10 rfl (s_ld rfl ((RdK.old hw.d2 hw.a2).ld p 0 hb rfl (by decide) (by omega))) ?_; refine eO 11 rfl ?_; refine oY ?_; refine o_callP (has_fn x.set b.toNat b.toNat_lt) rfl rfl rfl (fun _ _ => trivial) (fun v30 hv30 => ?_); subst hv30
    refine oX ?_; refine eK 12 rfl sT ?_; refine eK 13 rfl sA (eZ hK6 (c_ret ?_)); refine x_block_ret (x_then_ret (?_))
    refine x_sub (Sub.refl _) (H' := [(K.bM, mpO es c)]) hzB ?_; exact xR rfl rfl (⟨es, c, congrArg Value.bool (dQ_b (by rw [der1_1 o1]; exact ⟨fun h => ⟨by omega, b, hb, h⟩, fun ⟨_, b2, hb2, h⟩ => by rw [hb] at hb2; cases hb2; exact h⟩)).symm, rfl, hes⟩)
   ·refine eK 3 rfl eqF ?_; refine eK 4 rfl sM ?_; refine eS 5 rfl (eS 6 rfl (eS 7 rfl (eS 8 rfl (eS 9 rfl (eS 10 rfl (eO 11 rfl ?_)))))); refine oN (oX ?_); refine eK 12 rfl sP ?_; refine eK 13 rfl sA (eZ hK6 (c_ret ?_)); refine x_block_ret (x_then_ret (?_))
    refine x_sub (Sub.refl _) (H' := [(K.bM, mpO es c)]) hzB ?_; exact xR rfl rfl (⟨es, c, congrArg Value.bool (dQ_b (by rw [der1_1 o1]; exact ⟨fun h => (by cases h), fun h => absurd h.1 (by omega)⟩)).symm, rfl, hes⟩)
  ·refine oS (eqF (h := o1)) ?_; refine oA (oZ hK5 ?_); refine cF (cR fun _ hK7 => ?_)
   by_cases o2 : x.op = 2
   ·refine oS (eqT (h := o2)) ?_; refine oA (oZ hK7 ?_); refine cT (cR fun _ hK8 => ?_); refine oM ?_
    by_cases hp0 : (p : Int) = 0
    ·refine oS eqT (oM ?_); refine oY (oM ?_); refine oY ?_
     by_cases hq0 : (q : Int) = 0
     ·refine oS eqT ?_; refine oS sT (oA (oZ hK8 (c_ret ?_))); refine x_block_ret (x_then_ret (?_))
      refine x_sub (Sub.refl _) (H' := [(K.bM, mpO es c)]) hzB ?_; exact xR rfl rfl (⟨es, c, congrArg Value.bool (dQ_b (by rw [der1_2 o2]; exact ⟨fun _ => by omega, fun _ => rfl⟩)).symm, rfl, hes⟩)
     ·refine oS eqF ?_; refine oS sT (oA (oZ hK8 (c_ret ?_))); refine x_block_ret (x_then_ret (?_))
      refine x_sub (Sub.refl _) (H' := [(K.bM, mpO es c)]) hzB ?_; exact xR rfl rfl (⟨es, c, congrArg Value.bool (dQ_b (by rw [der1_2 o2]; exact ⟨fun h => (by cases h), fun h => absurd h (by omega)⟩)).symm, rfl, hes⟩)
    ·refine oS eqF (oM ?_); refine oN ?_; refine oN ?_; refine oS sP (oA (oZ hK8 (c_ret ?_))); refine x_block_ret (x_then_ret (?_))
     refine x_sub (Sub.refl _) (H' := [(K.bM, mpO es c)]) hzB ?_; exact xR rfl rfl (⟨es, c, congrArg Value.bool (dQ_b (by rw [der1_2 o2]; exact ⟨fun h => (by cases h), fun h => absurd h (by omega)⟩)).symm, rfl, hes⟩)
   ·refine oS (eqF (h := o2)) ?_; refine oA (oZ hK7 ?_); refine cF (cR fun _ hK9 => ?_)
    by_cases o3 : x.op = 3
    ·refine oS (eqT (h := o3)) ?_; refine oA (oZ hK9 ?_); refine cT (cR fun _ hK10 => ?_); refine oM ?_; refine oS (s_ld rfl ((RdPK.old hw.p2 hw.n2).cel (j := 0) rfl rfl)) ?_; refine oS sC ?_
     by_cases hpl : (p : Int) = K.tx.length
     ·refine oS eqT (oM ?_); refine oY (oM ?_); refine oY (oM ?_); refine oY ?_
      by_cases hqp : (q : Int) = p
      ·refine oS eqT ?_; refine oS sT (oA (oZ hK10 (c_ret ?_))); refine x_block_ret (x_then_ret (?_))
       refine x_sub (Sub.refl _) (H' := [(K.bM, mpO es c)]) hzB ?_; exact xR rfl rfl (⟨es, c, congrArg Value.bool (dQ_b (by rw [der1_3 o3]; exact ⟨fun _ => by omega, fun _ => rfl⟩)).symm, rfl, hes⟩)
      ·refine oS eqF ?_; refine oS sT (oA (oZ hK10 (c_ret ?_))); refine x_block_ret (x_then_ret (?_))
       refine x_sub (Sub.refl _) (H' := [(K.bM, mpO es c)]) hzB ?_; exact xR rfl rfl (⟨es, c, congrArg Value.bool (dQ_b (by rw [der1_3 o3]; exact ⟨fun h => (by cases h), fun h => absurd h (by omega)⟩)).symm, rfl, hes⟩)
     ·refine oS eqF (oM ?_); refine oN ?_; refine oN ?_; refine oN ?_; refine oS sP (oA (oZ hK10 (c_ret ?_))); refine x_block_ret (x_then_ret (?_))
      refine x_sub (Sub.refl _) (H' := [(K.bM, mpO es c)]) hzB ?_; exact xR rfl rfl (⟨es, c, congrArg Value.bool (dQ_b (by rw [der1_3 o3]; exact ⟨fun h => (by cases h), fun h => absurd h (by omega)⟩)).symm, rfl, hes⟩)
    ·refine oS (eqF (h := o3)) ?_; refine oA (oZ hK9 ?_); refine cF (cR fun _ hK11 => ?_)
     by_cases o7 : x.op = 7
     ·refine oS (eqT (h := o7)) ?_; refine oA (oZ hK11 ?_); refine cT (cR fun _ hK12 => ?_); refine oS (s_ld rfl ((RdPK.old hw.p3 hw.n3).cel (j := 0) rfl rfl)) ?_; refine oS sN ?_; refine oS sF ?_; refine oS (s_ld rfl ((RdPK.old hw.p4 hw.n4).cel (j := 4) rfl rfl)) ?_; refine oM ?_; refine oS sD (oM (oM ?_))
      obtain ⟨y, js, rfl⟩ := one_kid hp.wf (.inr o7)
      refine o_callC (us := []) (vs := [_, _, _]) (cs := [pt K.bRe, pt K.bTx, pt K.bA]) (ihN o7 y js rfl (i + 1) _ p q es c hpk hpq hq hes) rfl rfl rfl pkA (fun w st => hw.out st (fun _ h => h)) (fun v61 S61 ⟨es61, c61, hv61, hS61, hm61⟩ => ?_); subst hv61
      subst hS61; refine oA (oZ hK12 (c_ret ?_)); refine x_block_ret (x_then_ret (?_))
      refine x_sub (Sub.refl _) (H' := [(K.bM, mpO es61 c61)]) hzB ?_; exact xR rfl rfl (⟨es61, c61, congrArg Value.bool (dQ_congr (der_one.symm.trans (der1_4 (.inr o7)).symm)), rfl, hm61⟩)
     ·refine oS (eqF (h := o7)) ?_; refine oA (oZ hK11 ?_); refine cF (cR fun _ hK13 => ?_)
      by_cases o4 : x.op = 4
      ·refine oS (eqT (h := o4)) ?_; refine oA (oZ hK13 ?_); refine cT (cR fun _ hK14 => ?_); refine oS (s_ld rfl ((RdPK.old hw.p3 hw.n3).cel (j := 0) rfl rfl)) ?_; refine oS sN ?_; refine oS sF ?_; refine oS (s_ld rfl ((RdPK.old hw.p4 hw.n4).cel (j := 5) rfl rfl)) ?_; refine oM (oM ?_); refine oS sD (oM (oM ?_)); refine oS (s_build (cs := [_, _, _, _]) (vs := [_, _, _, _]) rfl rfl (.cons rfl rfl rfl rfl rfl (.cons rfl rfl rfl rfl rfl (.cons rfl rfl rfl rfl rfl (.cons rfl rfl rfl rfl rfl (.nil)))))) ?_; refine o_callC (us := []) (vs := [_]) (cs := [pt K.bA]) (h4 o4 es c hes) rfl rfl rfl pkA (fun w st => hw.out st (fun _ h => h)) (fun v74 S74 ⟨es74, c74, hv74, hS74, hm74⟩ => ?_)
       subst hv74; subst hS74
       refine oA (oZ hK14 (c_ret ?_)); refine x_block_ret (x_then_ret (?_))
       refine x_sub (Sub.refl _) (H' := [(K.bM, mpO es74 c74)]) hzB ?_; exact xR rfl rfl (⟨es74, c74, congrArg Value.bool (dQ_congr ((Qry_cat hp o4 hpk).trans (der1_4 (.inl o4)).symm)), rfl, hm74⟩)
      ·refine oS (eqF (h := o4)) ?_; refine oA (oZ hK13 ?_); refine cF (cR fun _ hK15 => ?_)
       by_cases o5 : x.op = 5
       ·refine oS (eqT (h := o5)) ?_; refine oA (oZ hK15 ?_); refine cT (cR fun _ hK16 => ?_); refine oS (s_ld rfl ((RdPK.old hw.p3 hw.n3).cel (j := 0) rfl rfl)) ?_; refine oS sN ?_; refine oS sF ?_; refine oS (s_ld rfl ((RdPK.old hw.p4 hw.n4).cel (j := 5) rfl rfl)) ?_; refine oM (oM (oM ?_)); refine oS (s_build (cs := [_, _, _, _]) (vs := [_, _, _, _]) rfl rfl (.cons rfl rfl rfl rfl rfl (.cons rfl rfl rfl rfl rfl (.cons rfl rfl rfl rfl rfl (.cons rfl rfl rfl rfl rfl (.nil)))))) ?_; refine o_callC (us := []) (vs := [_]) (cs := [pt K.bA]) (h5 o5 es c hes) rfl rfl rfl pkA (fun w st => hw.out st (fun _ h => h)) (fun v85 S85 ⟨es85, c85, hv85, hS85, hm85⟩ => ?_)
        subst hv85; subst hS85
        refine oA (oZ hK16 (c_ret ?_)); refine x_block_ret (x_then_ret (?_))
        refine x_sub (Sub.refl _) (H' := [(K.bM, mpO es85 c85)]) hzB ?_; exact xR rfl rfl (⟨es85, c85, congrArg Value.bool (dQ_congr ((Qry_alt hp o5).trans (der1_5 o5).symm)), rfl, hm85⟩)
       ·refine oS (eqF (h := o5)) ?_; refine oA (oZ hK15 ?_); refine cF (c_skip (x_block (xZ hK2 (cR fun _ hK17 => ?_)))); refine oS (s_ld rfl ((RdPK.old hw.p3 hw.n3).cel (j := 0) rfl rfl)) ?_; refine oS sN ?_; refine oS sF ?_; refine oS (s_ld rfl ((RdPK.old hw.p4 hw.n4).cel (j := 5) rfl rfl)) ?_; refine oM (oM (oM ?_)); refine oS (s_build (cs := [_, _, _, _]) (vs := [_, _, _, _]) rfl rfl (.cons rfl rfl rfl rfl rfl (.cons rfl rfl rfl rfl rfl (.cons rfl rfl rfl rfl rfl (.cons rfl rfl rfl rfl rfl (.nil)))))) ?_
        have o6 : x.op = 6 := by omega
        refine o_callC (us := []) (vs := [_]) (cs := [pt K.bA]) (h6 o6 es c hes) rfl rfl rfl pkA (fun w st => hw.out st (fun _ h => h)) (fun v94 S94 ⟨es94, c94, hv94, hS94, hm94⟩ => ?_); subst hv94
        subst hS94; refine oA (oZ hK17 (c_ret ?_)); refine ?_; refine x_sub (Sub.refl _) (H' := [(K.bM, mpO es94 c94)]) hzB ?_; exact xR rfl rfl (⟨es94, c94, congrArg Value.bool (dQ_congr ((Qry_rep hp o6).trans (der1_6 o6).symm)), rfl, hm94⟩)
set_option maxHeartbeats 1000000 in
theorem rest_clo (K : AskE) (k : Ky) (es : List Me) (c : Nat) (hes : MapOk K.tx K.re es) (hF : FindK Tryz.prog K 126 k) : HL.Fn Tryz.prog 125 [.agg (Ek k).toArray, pt K.bA] (fun W => Env W K [K.bM]) [(K.bM, mpO es c)] (AnsK K (Qry K.tx K.re k)) := by
  refine fn_of Tryz.func125 rfl rfl rfl fun w0 hw => ?_; refine cR fun _ hK1 => ?_; refine o_box rfl rfl rfl fun b2 => ?_; refine oA (oZ hK1 (c_seq fun _ hK2 => ?_)); refine c_seq fun _ hK3 => ?_; refine c_drawE ([(b2, .cells (Ek k).toArray 184 (0, 0)), (K.bM, mpO es c)]) (fun i => false) ?_; refine eK 0 rfl (s_ld rfl ((RdPK.old hw.p3 hw.n3).cel (j := 0) rfl rfl)) ?_; refine eK 1 rfl sN ?_; refine eK 2 rfl sF ?_; refine eK 3 rfl (s_ld rfl ((RdPK.old hw.p4 hw.n4).cel (j := 3) rfl rfl)) ?_; refine eK 4 rfl (s_ldB rfl (RdPK.cels (.own meA)) lnA) ?_; refine eK 5 rfl (s_look rfl rfl meA) ?_; refine eK 6 rfl sA (eZ hK3 (cR fun _ hK4 => ?_)); refine oM ?_
  by_cases h0 : getK es k ≠ 0
  ·refine oS (s_neq_t rfl rfl h0) ?_; refine oZ hK4 ?_; refine cT (cR fun _ hK5 => ?_); refine oM ?_; refine oS (s_gtr rfl rfl) ?_; refine oA (oZ hK5 (c_ret ?_)); refine x_then_ret (?_); refine x_sub (Sub.refl _) (H' := [(K.bM, mpO es c)]) hzB ?_; exact xR rfl rfl (⟨es, c, congrArg Value.bool (hes.ans h0), rfl, hes⟩)
  ·refine oS (s_neq_f rfl rfl (Decidable.not_not.1 h0)) ?_; refine oZ hK4 ?_; refine cFZ hK2 (cR fun _ hK6 => ?_); refine oS (s_ld rfl ((RdPK.old hw.p3 hw.n3).cel (j := 0) rfl rfl)) ?_; refine oS (s_ldB rfl (RdPK.cels (.own meA)) lnA) ?_; refine o_call (hF es c hes) rfl rfl rfl pkA (fun w st => hw.out st (fun _ h => h)) (fun v18 S18 ⟨es18, c18, hv18, hS18, hm18⟩ => ?_); subst hv18
   subst hS18
   cases hb18 : dQ (Qry K.tx K.re k)
   ·refine oA (oZ hK6 (c_seq fun _ hK7 => ?_)); refine c_drawE ([(b2, .cells (Ek k).toArray 184 (0, 0))]) (fun i => false) ?_; refine eK 0 rfl (s_ld rfl ((RdPK.old hw.p3 hw.n3).cel (j := 0) rfl rfl)) ?_; refine eK 1 rfl sN ?_; refine eK 2 rfl sF ?_; refine eK 3 rfl (s_ld rfl ((RdPK.old hw.p4 hw.n4).cel (j := 3) rfl rfl)) ?_; refine eK 4 rfl (s_ldB rfl (RdPK.cels (.own meA)) lnA) ?_; refine eO 5 rfl ?_; refine o_mset rfl rfl rfl pkB fun esA cA hgA => ?_; refine oX (eZ hK7 (c_seq fun _ hK8 => ?_)); refine cR fun _ hK9 => ?_; refine oM (oZ hK9 ?_); refine cFZ hK8 (cR fun _ hK10 => ?_); refine oM (oA (oZ hK10 (c_ret ?_))); refine ?_; refine x_sub (Sub.refl _) (H' := [(K.bM, mpO esA cA)]) hzB ?_; exact xR rfl rfl (⟨esA, cA, congrArg Value.bool hb18.symm, rfl, hm18.no (fun h => by rw [dQ_t h] at hb18; cases hb18) hgA⟩)
   ·refine oA (oZ hK6 (c_seq fun _ hK11 => ?_)); refine c_drawE ([(b2, .cells (Ek k).toArray 184 (0, 0))]) (fun i => false) ?_; refine eK 0 rfl (s_ld rfl ((RdPK.old hw.p3 hw.n3).cel (j := 0) rfl rfl)) ?_; refine eK 1 rfl sN ?_; refine eK 2 rfl sF ?_; refine eK 3 rfl (s_ld rfl ((RdPK.old hw.p4 hw.n4).cel (j := 3) rfl rfl)) ?_; refine eK 4 rfl (s_ldB rfl (RdPK.cels (.own meA)) lnA) ?_; refine eO 5 rfl ?_; refine o_mset rfl rfl rfl pkB fun esA cA hgA => ?_; refine oX (eZ hK11 (c_seq fun _ hK12 => ?_)); refine cR fun _ hK13 => ?_; refine oM (oZ hK13 ?_); refine cT ?_; refine c_drawE ([(b2, .cells (Ek k).toArray 184 (0, 0))]) (fun i => false) ?_; refine eK 0 rfl (s_ld rfl ((RdPK.old hw.p3 hw.n3).cel (j := 0) rfl rfl)) ?_; refine eK 1 rfl sN ?_; refine eK 2 rfl sF ?_; refine eK 3 rfl (s_ld rfl ((RdPK.old hw.p4 hw.n4).cel (j := 3) rfl rfl)) ?_; refine eK 4 rfl (s_ldB rfl (RdPK.cels (.own meA)) lnA) ?_; refine eO 5 rfl ?_; refine o_mset rfl rfl rfl pkB fun esB cB hgB => ?_; refine oX (eZ hK12 (cR fun _ hK14 => ?_)); refine oM (oA (oZ hK14 (c_ret ?_))); refine ?_; refine x_sub (Sub.refl _) (H' := [(K.bM, mpO esB cB)]) hzB ?_; exact xR rfl rfl (⟨esB, cB, congrArg Value.bool hb18.symm, rfl, hm18.yes (dQ_iff.1 hb18) hgA hgB⟩)
set_option maxHeartbeats 1000000 in
theorem find_alt (K : AskE) (hK : K.ok) (x : Nd) (ks : F) (i i1 p q : Nat) (es : List Me) (c : Nat) (hp : Part K.re (.nd x ks .nil) i i1) (hpq : p ≤ q) (hq : q ≤ K.tx.length) (hes : MapOk K.tx K.re es) (h5 : x.op = 5) (ihN : ∀ y js, js.size < ks.size → NodeK Tryz.prog K y js) : HL.Fn Tryz.prog 126 [pt K.bS, .agg (Ek (⟨i, -1, p, q⟩ : Ky)).toArray] (fun W => Env W K [K.bM]) [(K.bM, mpO es c)] (AnsK K (Qry K.tx K.re (⟨i, -1, p, q⟩ : Ky))) := by
  refine fn_of Tryz.func126 rfl rfl rfl fun w0 hw => ?_
  have hsl := hw.d1.sl
  have hst := hw.d2.sl
  have hse := hw.d3.sl
  have htl := hK.tx
  have hrl := hK.len
  obtain rfl : i1 = i + 1 + ks.size := by have := hp.len; simp only [F.size] at this; omega
  obtain ⟨hx, hpk, _⟩ := hp.head
  have hilt := (List.getElem?_eq_some_iff.1 hx).1
  have hxm := List.mem_of_getElem? hx
  have hox := hK.rng x hxm
  have hx8 := hK.no8 x hxm
  have hok : ndOk x = true := hp.wf.1
  have hop : 1 ≤ x.op ∧ x.op ≤ 8 := (flds_iff.1 (by simp only [ndOk, Bool.and_eq_true] at hok; exact hok.1)).1
  have hpkl := hpk.le
  have hei := hK.ends.2 i x ks .nil _ (Nat.zero_le _) hp
  have hell := hK.ends.1
  rw [hell] at hse
  refine cR fun _ hK1 => ?_; refine o_box rfl rfl rfl fun b3 => ?_; refine oA (oZ hK1 (c_seq fun _ hK2 => ?_)); refine c_drawE ([(b3, .cells (Ek (⟨i, -1, p, q⟩ : Ky)).toArray 184 (0, 0))]) (fun i => false) ?_; refine eK 0 rfl sM ?_; refine eK 1 rfl sN ?_; refine eK 2 rfl sF ?_; refine eK 3 rfl (s_ld rfl ((RdPK.old hw.p4 hw.n4).cel (j := 0) rfl rfl)) ?_; refine eK 4 rfl sF ?_; refine eK 5 rfl (s_ld rfl ((.own meA rfl : Cel _ _ _ (.int .i64 (i : Int))))) ?_; refine eK 6 rfl (s_idx rfl rfl hsl (by omega)) ?_; refine eK 7 rfl (s_ldB rfl ((RdK.old hw.d1 hw.a1).lds i hx rfl) (by rfl)) ?_; refine eO 8 rfl ?_; refine o_alloc (l := En zN) (by rw [En_zero]; rfl) rfl fun b5 => ?_; refine oX (eO 9 rfl ?_); refine o_stW rfl rfl upA lnA lnA onA ?_; refine oX (eZ hK2 (c_seq fun _ hK3 => ?_)); refine cR fun _ hK4 => ?_; refine oS sF ?_; refine oS sL (oZ hK4 (c_block (cR fun _ hK5 => ?_))); refine oS (s_eql_t rfl rfl (by omega)) ?_; refine oA (oZ hK5 ?_); refine cT (c_seq fun _ hK6 => ?_); refine cR fun _ hK7 => ?_; refine oS sF ?_; refine oS (s_ld rfl ((.own meA rfl : Cel _ _ _ (.int .i64 (i : Int))))) ?_; refine oS sD ?_
  refine oA (oZ hK7 (c_block ?_))
  refine c_loop4 (fun (kp : Nat) (g : F) (es2 : List Me) (c2 : Nat) => Part K.re g kp (i + 1 + ks.size) ∧ g.size ≤ ks.size ∧ (der K.tx ks true p q ↔ der K.tx g true p q) ∧ MapOk K.tx K.re es2) (fun (kp : Nat) (g : F) (es2 : List Me) (c2 : Nat) => [(6, .int .i64 kp)]) [(0, _), (3, _), (5, _)] (fun (kp : Nat) (g : F) (es2 : List Me) (c2 : Nat) => (K.bM, mpO es2 c2) :: (b5, .cells (En x).toArray 108 (0, 0)) :: [(b3, .cells (Ek (⟨i, -1, p, q⟩ : Ky)).toArray 184 (0, 0))]) (fun (kp : Nat) (g : F) (es2 : List Me) (c2 : Nat) => g.size) (i + 1) ks es c ⟨hpk, Nat.le_refl _, Iff.rfl, hes⟩ sbA sbA hzB ?_
  rintro kp g es2 c2 ⟨hpg, hgs, hder, hes2⟩
  have hgl := hpg.len
  have hgle := hpg.le
  refine c_seq fun _ hK8 => ?_; refine c_seq fun _ hK9 => ?_; refine c_drawE ([(b3, .cells (Ek (⟨i, -1, p, q⟩ : Ky)).toArray 184 (0, 0))]) (fun i => false) ?_; refine eK 0 rfl sM ?_; refine eK 1 rfl sM ?_; refine eK 2 rfl sN ?_; refine eK 3 rfl sF ?_; refine eK 4 rfl (s_ld rfl ((RdPK.old hw.p4 hw.n4).cel (j := 1) rfl rfl)) ?_; refine eK 5 rfl sF ?_; refine eK 6 rfl (s_ld rfl ((.own meA rfl : Cel _ _ _ (.int .i64 (i : Int))))) ?_; refine eK 7 rfl (s_idx rfl rfl hse (by omega)) ?_; refine eK 8 rfl (s_ld rfl ((RdK.old hw.d3 hw.a3).ld i 0 hei rfl (by decide) (by omega))) ?_
  by_cases hk : (kp : Int) < i + 1 + ks.size
  ·obtain ⟨y, js, r2, rfl⟩ : ∃ y ks1 r2, g = F.nd y ks1 r2 := by cases g with | nil => simp [F.size] at hgl; omega | nd y a b => exact ⟨y, a, b, rfl⟩
   obtain ⟨hy, hpy, hpt⟩ := hpg.head
   have hpo := hpg.one
   have hge := hK.ends.2 _ y js r2 _ (Nat.zero_le _) hpg
   have hply := hpy.le
   simp only [F.size] at hgs hgl
   refine eK 9 rfl lsT (eZ hK9 ?_); refine cTZ hK8 (c_seq fun _ hK10 => ?_); refine c_block (c_seq fun _ hK11 => ?_); refine c_drawE ([(b3, .cells (Ek (⟨i, -1, p, q⟩ : Ky)).toArray 184 (0, 0))]) (fun i => false) ?_; refine eK 0 rfl sM ?_; refine eK 1 rfl sN ?_; refine eK 2 rfl sF ?_; refine eK 3 rfl (s_ld rfl ((RdPK.old hw.p4 hw.n4).cel (j := 4) rfl rfl)) ?_; refine eK 4 rfl sM ?_; refine eK 5 rfl sF ?_; refine eK 6 rfl (s_ld rfl ((.own meA rfl : Cel _ _ _ (.int .i64 (p : Int))))) ?_; refine eK 7 rfl sF ?_; refine eK 8 rfl (s_ld rfl ((.own meA rfl : Cel _ _ _ (.int .i64 (q : Int))))) ?_; refine eO 9 rfl ?_; refine o_callC (us := []) (vs := [_, _, _]) (cs := [pt K.bRe, pt K.bTx, pt K.bA]) (ihN y js (by omega) kp _ p q es2 c2 hpo hpq hq hes2) rfl rfl rfl pkA (fun w st => hw.out st (fun _ h => h)) (fun v52 S52 ⟨es52, c52, hv52, hS52, hm52⟩ => ?_); subst hv52
   subst hS52
   cases hb52 : dQ (der1 K.tx y js p q)
   ·have hn52 : ¬ der1 K.tx y js p q := fun h => by rw [dQ_t h] at hb52; cases hb52
    refine oX (eZ hK11 ?_); refine cF (c_skip (x_block (xZ hK10 (c_region (oM ?_))))); refine oS sN ?_; refine oS sF ?_; refine oS (s_ld rfl ((RdPK.old hw.p4 hw.n4).cel (j := 1) rfl rfl)) ?_; refine oM ?_; refine oS (s_idx rfl rfl hse (by omega)) ?_; refine oS (s_ld rfl ((RdK.old hw.d3 hw.a3).ld kp 0 hge rfl (by decide) (by omega))) ?_; refine oA (o_nil ?_); exact x_then (x_inv ((kp + 1 + js.size), r2, es52, c52) ⟨hpt, by dsimp only; omega, by dsimp only; rw [hder, der_alt]; exact ⟨fun h => h.resolve_left hn52, .inr⟩, hm52⟩ (by simp only [F.size]; omega) sbA hzB)
   ·refine oX (eZ hK11 ?_); refine cT (cR fun _ hK12 => ?_); refine oA (oZ hK12 (c_ret ?_)); refine x_block_ret (x_then_ret (x_then_ret (x_block_ret (x_then_ret (x_block_ret (x_then_ret (?_)))))))
    refine x_sub (Sub.refl _) (H' := [(K.bM, mpO es52 c52)]) hzB ?_; exact xR rfl rfl (⟨es52, c52, congrArg Value.bool (dQ_t ((Qry_alt hp h5).2 (hder.2 (der_alt.2 (.inl (dQ_iff.1 hb52)))))).symm, rfl, hm52⟩)
  ·obtain rfl : g = F.nil := F.size_nil (by omega)
   refine eK 9 rfl lsF (eZ hK9 ?_); refine cF ?_; refine c_exit ?_; refine x_then_exit (x_then_exit (x_block_exit (xZ hK6 (cR fun _ hK13 => ?_)))); refine oA (oZ hK13 (c_ret ?_)); refine x_block_ret (x_then_ret (?_))
   refine x_sub (Sub.refl _) (H' := [(K.bM, mpO es2 c2)]) hzB ?_; exact xR rfl rfl (⟨es2, c2, congrArg Value.bool (dQ_f fun h => der_nil'.1 (hder.1 ((Qry_alt hp h5).1 h))).symm, rfl, hes2⟩)
set_option maxHeartbeats 1000000 in
theorem find_cat (K : AskE) (hK : K.ok) (x : Nd) (ks : F) (i i1 p q : Nat) (es : List Me) (c : Nat) (hp : Part K.re (.nd x ks .nil) i i1) (hpq : p ≤ q) (hq : q ≤ K.tx.length) (hes : MapOk K.tx K.re es) (m : Nat) (g : F) (hg : Part K.re g m i1) (h4 : x.op = 4) (hkid : ∀ y js r, g = .nd y js r → KidK Tryz.prog K 143 (⟨i, m, p, q⟩ : Ky) (fun n => der1 K.tx y js p n ∧ der K.tx r false n q) p q) : HL.Fn Tryz.prog 126 [pt K.bS, .agg (Ek (⟨i, m, p, q⟩ : Ky)).toArray] (fun W => Env W K [K.bM]) [(K.bM, mpO es c)] (AnsK K (Qry K.tx K.re (⟨i, m, p, q⟩ : Ky))) := by
  refine fn_of Tryz.func126 rfl rfl rfl fun w0 hw => ?_
  have hsl := hw.d1.sl
  have hst := hw.d2.sl
  have hse := hw.d3.sl
  have htl := hK.tx
  have hrl := hK.len
  obtain rfl : i1 = i + 1 + ks.size := by have := hp.len; simp only [F.size] at this; omega
  obtain ⟨hx, hpk, _⟩ := hp.head
  have hilt := (List.getElem?_eq_some_iff.1 hx).1
  have hxm := List.mem_of_getElem? hx
  have hox := hK.rng x hxm
  have hx8 := hK.no8 x hxm
  have hok : ndOk x = true := hp.wf.1
  have hop : 1 ≤ x.op ∧ x.op ≤ 8 := (flds_iff.1 (by simp only [ndOk, Bool.and_eq_true] at hok; exact hok.1)).1
  have hpkl := hpk.le
  have hei := hK.ends.2 i x ks .nil _ (Nat.zero_le _) hp
  have hell := hK.ends.1
  rw [hell] at hse
  have hpg := hg
  have hgl := hpg.len
  refine cR fun _ hK1 => ?_; refine o_box rfl rfl rfl fun b3 => ?_; refine oA (oZ hK1 (c_seq fun _ hK2 => ?_)); refine c_drawE ([(b3, .cells (Ek (⟨i, m, p, q⟩ : Ky)).toArray 184 (0, 0))]) (fun i => false) ?_; refine eK 0 rfl sM ?_; refine eK 1 rfl sN ?_; refine eK 2 rfl sF ?_; refine eK 3 rfl (s_ld rfl ((RdPK.old hw.p4 hw.n4).cel (j := 0) rfl rfl)) ?_; refine eK 4 rfl sF ?_; refine eK 5 rfl (s_ld rfl ((.own meA rfl : Cel _ _ _ (.int .i64 (i : Int))))) ?_; refine eK 6 rfl (s_idx rfl rfl hsl (by omega)) ?_; refine eK 7 rfl (s_ldB rfl ((RdK.old hw.d1 hw.a1).lds i hx rfl) (by rfl)) ?_; refine eO 8 rfl ?_; refine o_alloc (l := En zN) (by rw [En_zero]; rfl) rfl fun b5 => ?_; refine oX (eO 9 rfl ?_); refine o_stW rfl rfl upA lnA lnA onA ?_; refine oX (eZ hK2 (c_seq fun _ hK3 => ?_)); refine cR fun _ hK4 => ?_; refine oS sF ?_; refine oS sL (oZ hK4 (c_block (cR fun _ hK5 => ?_))); refine oS (s_eql_f rfl rfl (by omega)) ?_; refine oA (oZ hK5 ?_); refine cF (cR fun _ hK6 => ?_); refine oS (s_eql_t rfl rfl (by omega)) ?_; refine oA (oZ hK6 ?_); refine cT (c_seq fun _ hK7 => ?_)
  refine c_seq fun _ hK8 => ?_; refine c_drawE ([(b3, .cells (Ek (⟨i, m, p, q⟩ : Ky)).toArray 184 (0, 0))]) (fun i => false) ?_; refine eK 0 rfl sF ?_; refine eK 1 rfl (s_ld rfl ((.own meA rfl : Cel _ _ _ (.int .i64 (m : Int))))) ?_; refine eK 2 rfl sM ?_; refine eK 3 rfl sN ?_; refine eK 4 rfl sF ?_; refine eK 5 rfl (s_ld rfl ((RdPK.old hw.p4 hw.n4).cel (j := 1) rfl rfl)) ?_; refine eK 6 rfl sF ?_; refine eK 7 rfl (s_ld rfl ((.own meA rfl : Cel _ _ _ (.int .i64 (i : Int))))) ?_; refine eK 8 rfl (s_idx rfl rfl hse (by omega)) ?_; refine eK 9 rfl (s_ld rfl ((RdK.old hw.d3 hw.a3).ld i 0 hei rfl (by decide) (by omega))) ?_
  by_cases hme : (m : Int) = i + 1 + ks.size
  ·obtain rfl : g = F.nil := F.size_nil (by omega)
   refine eK 10 rfl eqT (eZ hK8 ?_); refine cT (cR fun _ hK9 => ?_); refine oS sF ?_; refine oS (s_ld rfl ((.own meA rfl : Cel _ _ _ (.int .i64 (p : Int))))) ?_; refine oS sF ?_; refine oS (s_ld rfl ((.own meA rfl : Cel _ _ _ (.int .i64 (q : Int))))) ?_; refine oS (s_eql rfl rfl) ?_; refine oA (oZ hK9 (c_ret ?_)); refine x_then_ret (x_block_ret (x_then_ret (?_)))
   refine x_sub (Sub.refl _) (H' := [(K.bM, mpO es c)]) hzB ?_; exact xR rfl rfl (⟨es, c, congrArg Value.bool (dQ_b (by rw [Qry_cat hp h4 hg, der_nil, decide_eq_true_iff]; omega)).symm, rfl, hes⟩)
  ·obtain ⟨y, js, r2, rfl⟩ : ∃ y ks1 r2, g = F.nd y ks1 r2 := by cases g with | nil => simp [F.size] at hgl; omega | nd y a b => exact ⟨y, a, b, rfl⟩
   obtain ⟨hy, hpy, hpt⟩ := hpg.head
   have hpo := hpg.one
   have hge := hK.ends.2 _ y js r2 _ (Nat.zero_le _) hpg
   have hply := hpy.le
   refine eK 10 rfl eqF (eZ hK8 ?_); refine cFZ hK7 (cR fun _ hK10 => ?_); refine oM ?_; refine oS (s_ldB rfl (RdPK.cels (.own meA)) lnA) ?_; refine o_call (hkid y js r2 rfl es c hes) rfl rfl rfl pkA (fun w st => hw.out st (fun _ h => h)) (fun v74 S74 ⟨es74, c74, hS74, hm74, hv74⟩ => ?_); subst hS74
   rcases hv74 with ⟨m74, hg74, rfl⟩ | ⟨hn74, rfl⟩
   ·refine oM ?_; refine oS sE ?_; refine oS sE (oA (oA (oZ hK10 (cR fun _ hK11 => ?_)))); refine oM (oA (oZ hK11 (c_ret ?_))); refine x_block_ret (x_then_ret (?_))
    refine x_sub (Sub.refl _) (H' := [(K.bM, mpO es74 c74)]) hzB ?_; exact xR rfl rfl (⟨es74, c74, congrArg Value.bool (dQ_t ((Qry_cat hp h4 hg).2 (der_cat.2 ⟨m74, hg74.2.2.1.1, hg74.2.2.1.2⟩))).symm, rfl, hm74⟩)
   ·refine oM ?_; refine oS sE ?_; refine oS sE (oA (oA (oZ hK10 (cR fun _ hK12 => ?_)))); refine oM (oA (oZ hK12 (c_ret ?_))); refine x_block_ret (x_then_ret (?_))
    refine x_sub (Sub.refl _) (H' := [(K.bM, mpO es74 c74)]) hzB ?_; exact xR rfl rfl (⟨es74, c74, congrArg Value.bool (dQ_f fun h => kid_cat hn74 ((Qry_cat hp h4 hg).1 h)).symm, rfl, hm74⟩)
set_option maxHeartbeats 1000000 in
theorem find_rep (K : AskE) (hK : K.ok) (x : Nd) (ks : F) (i i1 p q : Nat) (es : List Me) (c : Nat) (hp : Part K.re (.nd x ks .nil) i i1) (hpq : p ≤ q) (hq : q ≤ K.tx.length) (hes : MapOk K.tx K.re es) (r : Nat) (h6 : x.op = 6) (hr : x.mx = -1 ∨ (r : Int) ≤ x.mx) (hrnd : KidK Tryz.prog K 144 (⟨i, r, p, q⟩ : Ky) (RQ x (der K.tx ks false) r p q) p q) : HL.Fn Tryz.prog 126 [pt K.bS, .agg (Ek (⟨i, r, p, q⟩ : Ky)).toArray] (fun W => Env W K [K.bM]) [(K.bM, mpO es c)] (AnsK K (Qry K.tx K.re (⟨i, r, p, q⟩ : Ky))) := by
  refine fn_of Tryz.func126 rfl rfl rfl fun w0 hw => ?_
  have hsl := hw.d1.sl
  have hst := hw.d2.sl
  have hse := hw.d3.sl
  have htl := hK.tx
  have hrl := hK.len
  obtain rfl : i1 = i + 1 + ks.size := by have := hp.len; simp only [F.size] at this; omega
  obtain ⟨hx, hpk, _⟩ := hp.head
  have hilt := (List.getElem?_eq_some_iff.1 hx).1
  have hxm := List.mem_of_getElem? hx
  have hox := hK.rng x hxm
  have hx8 := hK.no8 x hxm
  have hok : ndOk x = true := hp.wf.1
  have hop : 1 ≤ x.op ∧ x.op ≤ 8 := (flds_iff.1 (by simp only [ndOk, Bool.and_eq_true] at hok; exact hok.1)).1
  have hpkl := hpk.le
  have hei := hK.ends.2 i x ks .nil _ (Nat.zero_le _) hp
  have hell := hK.ends.1
  rw [hell] at hse
  refine cR fun _ hK1 => ?_; refine o_box rfl rfl rfl fun b3 => ?_; refine oA (oZ hK1 (c_seq fun _ hK2 => ?_)); refine c_drawE ([(b3, .cells (Ek (⟨i, r, p, q⟩ : Ky)).toArray 184 (0, 0))]) (fun i => false) ?_; refine eK 0 rfl sM ?_; refine eK 1 rfl sN ?_; refine eK 2 rfl sF ?_; refine eK 3 rfl (s_ld rfl ((RdPK.old hw.p4 hw.n4).cel (j := 0) rfl rfl)) ?_; refine eK 4 rfl sF ?_; refine eK 5 rfl (s_ld rfl ((.own meA rfl : Cel _ _ _ (.int .i64 (i : Int))))) ?_; refine eK 6 rfl (s_idx rfl rfl hsl (by omega)) ?_; refine eK 7 rfl (s_ldB rfl ((RdK.old hw.d1 hw.a1).lds i hx rfl) (by rfl)) ?_; refine eO 8 rfl ?_; refine o_alloc (l := En zN) (by rw [En_zero]; rfl) rfl fun b5 => ?_; refine oX (eO 9 rfl ?_); refine o_stW rfl rfl upA lnA lnA onA ?_; refine oX (eZ hK2 (c_seq fun _ hK3 => ?_)); refine cR fun _ hK4 => ?_; refine oS sF ?_; refine oS sL (oZ hK4 (c_block (cR fun _ hK5 => ?_))); refine oS (s_eql_f rfl rfl (by omega)) ?_; refine oA (oZ hK5 ?_); refine cF (cR fun _ hK6 => ?_); refine oS (s_eql_f rfl rfl (by omega)) ?_; refine oA (oZ hK6 ?_); refine cF (c_skip (x_block ?_))
  refine xZ hK3 (c_seq fun _ hK7 => ?_); refine cR fun _ hK8 => ?_; refine oS sF ?_; refine oS (s_ld rfl ((.own meA rfl : Cel _ _ _ (.int .i64 (p : Int))))) ?_; refine oS sF ?_; refine oS (s_ld rfl ((.own meA rfl : Cel _ _ _ (.int .i64 (q : Int))))) ?_
  by_cases hpe : (p : Int) = q
  ·refine oS eqT (oM ?_); refine oY ?_; refine oS sF ?_; refine oY ?_; refine oS (s_ld rfl ((.own meA rfl : Cel _ _ _ (.int .i64 (r : Int))))) ?_; refine oY ?_; refine oS sF ?_; refine oY ?_; refine oS sL ?_; refine oY ?_
   by_cases hrm : (r : Int) ≥ x.mn
   ·refine oS geT ?_; refine oS sT (oZ hK8 ?_); refine cT (cR fun _ hK9 => ?_); refine oA (oZ hK9 (c_ret ?_)); refine x_then_ret (?_); refine x_sub (Sub.refl _) (H' := [(K.bM, mpO es c)]) hzB ?_; exact xR rfl rfl (⟨es, c, congrArg Value.bool (dQ_t ((Qry_rep hp h6).2 (RR_step.2 (.inl ⟨by omega, hrm, hr⟩)))).symm, rfl, hes⟩)
   ·refine oS geF ?_; refine oS sT (oZ hK8 ?_); refine cFZ hK7 (cR fun _ hK10 => ?_); refine oM ?_; refine oS (s_ldB rfl (RdPK.cels (.own meA)) lnA) ?_; refine o_call (hrnd es c hes) rfl rfl rfl pkA (fun w st => hw.out st (fun _ h => h)) (fun v93 S93 ⟨es93, c93, hS93, hm93, hv93⟩ => ?_); subst hS93
    rcases hv93 with ⟨m93, hg93, rfl⟩ | ⟨hn93, rfl⟩
    ·refine oM ?_; refine oS sE ?_; refine oS sE (oA (oA (oZ hK10 (cR fun _ hK11 => ?_)))); refine oM (oA (oZ hK11 (c_ret ?_))); refine ?_; refine x_sub (Sub.refl _) (H' := [(K.bM, mpO es93 c93)]) hzB ?_; exact xR rfl rfl (⟨es93, c93, congrArg Value.bool (dQ_t ((Qry_rep hp h6).2 (RR_step.2 (.inr ⟨m93, hg93.2.2.1⟩)))).symm, rfl, hm93⟩)
    ·refine oM ?_; refine oS sE ?_; refine oS sE (oA (oA (oZ hK10 (cR fun _ hK12 => ?_)))); refine oM (oA (oZ hK12 (c_ret ?_))); refine ?_; refine x_sub (Sub.refl _) (H' := [(K.bM, mpO es93 c93)]) hzB ?_; exact xR rfl rfl (⟨es93, c93, congrArg Value.bool (dQ_f fun h => kid_rep (der_up _ _) (by omega) hn93 ((Qry_rep hp h6).1 h)).symm, rfl, hm93⟩)
  ·refine oS eqF (oM ?_); refine oN ?_; refine oN ?_; refine oN ?_; refine oN ?_; refine oN ?_; refine oS sP (oZ hK8 ?_); refine cFZ hK7 (cR fun _ hK13 => ?_); refine oM ?_; refine oS (s_ldB rfl (RdPK.cels (.own meA)) lnA) ?_; refine o_call (hrnd es c hes) rfl rfl rfl pkA (fun w st => hw.out st (fun _ h => h)) (fun v93 S93 ⟨es93, c93, hS93, hm93, hv93⟩ => ?_); subst hS93
   rcases hv93 with ⟨m93, hg93, rfl⟩ | ⟨hn93, rfl⟩
   ·refine oM ?_; refine oS sE ?_; refine oS sE (oA (oA (oZ hK13 (cR fun _ hK14 => ?_)))); refine oM (oA (oZ hK14 (c_ret ?_))); refine ?_; refine x_sub (Sub.refl _) (H' := [(K.bM, mpO es93 c93)]) hzB ?_; exact xR rfl rfl (⟨es93, c93, congrArg Value.bool (dQ_t ((Qry_rep hp h6).2 (RR_step.2 (.inr ⟨m93, hg93.2.2.1⟩)))).symm, rfl, hm93⟩)
   ·refine oM ?_; refine oS sE ?_; refine oS sE (oA (oA (oZ hK13 (cR fun _ hK15 => ?_)))); refine oM (oA (oZ hK15 (c_ret ?_))); refine ?_; refine x_sub (Sub.refl _) (H' := [(K.bM, mpO es93 c93)]) hzB ?_; exact xR rfl rfl (⟨es93, c93, congrArg Value.bool (dQ_f fun h => kid_rep (der_up _ _) (by omega) hn93 ((Qry_rep hp h6).1 h)).symm, rfl, hm93⟩)
end Go.Proofs.YtopmnmigpbdddaaGreatDoor
