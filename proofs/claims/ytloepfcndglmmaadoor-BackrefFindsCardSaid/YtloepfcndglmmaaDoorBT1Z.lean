/- The tally's account, gathered end by end. Conditions: none. -/
import Derived.Test.YtloepfcndglmmaaDoorBS4Z
import Derived.Test.YtloepfcndglmmaaDoorUB3Z
import Derived.Test.YtloepfcndglmmaaDoorMT6Z
import Derived.Test.YtloepfcndglmmaaDoorVA1Z
import Derived.Test.YtloepfcndglmmaaDoorHM2Z
import Derived.Test.YtloepfcndglmmaaDoorHTZ
import Derived.Test.YtloepfcndglmmaaDoorVZN3Z
import Derived.Test.YtloepfcndglmmaaDoorUB7Z
import Derived.Test.YtloepfcndglmmaaDoorMT23Z
import Derived.Test.YtloepfcndglmmaaDoorBS7Z
namespace Go.HL.Kl.Mc
open Go Go.HL Go.HL.Kl AskE
theorem Ct.mono' {n : Nat} {q : TQ} {Z : List Caps} {k : Nat} (h : Ct n q Z k) : ∀ {Z' : List Caps} {k' : Nat}, (∀ d ∈ Z, d ∈ Z') → k ≤ k' → Ct n q Z' k' := by
  induction h with
  | leaf ho hz0 hk0 => exact fun hz hk => .leaf ho (fun h => hz _ (hz0 h)) (by omega)
  | cat ho h hk0 ih => exact fun hz hk => .cat ho (ih hz (Nat.le_refl _)) (by omega)
  | rep ho h hk0 ih => exact fun hz hk => .rep ho (ih hz (Nat.le_refl _)) (by omega)
  | grp ho h hz0 hk0 ih => exact fun hz hk => .grp ho h (fun d hd => hz _ (hz0 d hd)) (by omega)
  | altC ho h hk0 ih => exact fun hz hk => .altC ho (ih hz (Nat.le_refl _)) (by omega)
  | altNil => exact fun _ _ => .altNil
  | altCons h1 h2 z1 z2 hk0 => exact fun hz hk => .altCons h1 h2 (fun d hd => hz _ (z1 d hd)) (fun d hd => hz _ (z2 d hd)) (by omega)
  | rowNil hz0 => exact fun hz _ => .rowNil fun h => hz _ (hz0 h)
  | rowCons hes h1 h2 hz0 hk0 => exact fun hz hk => .rowCons hes h1 h2 (fun e he c1 hc1 d hd => hz _ (hz0 e he c1 hc1 d hd)) (by omega)
  | rnd hes h1 h2 hz0 hz2 hk0 => exact fun hz hk => .rnd hes h1 h2 (fun e he c1 hc1 d hd => hz _ (hz0 e he c1 hc1 d hd)) (fun a b => hz _ (hz2 a b)) (by omega)
theorem Ct.mono {n : Nat} {q : TQ} {Z Z' : List Caps} {k k' : Nat} (h : Ct n q Z k) (hz : ∀ d ∈ Z, d ∈ Z') (hk : k ≤ k') : Ct n q Z' k' := h.mono' hz hk
def IAcc (PR : Caps → List Caps → Nat → Prop) (dn : List Caps) (Z : List Caps) (T : Int) : Prop := ∃ (R : Caps → List Caps) (kR : Caps → Nat), (∀ c1 ∈ dn, PR c1 (R c1) (kR c1)) ∧ (∀ c1 ∈ dn, ∀ d ∈ R c1, d ∈ Z) ∧ (((dn.map fun c => kR c + 1).sum : Nat) : Int) ≤ 3 * T
theorem IAcc.nil {PR : Caps → List Caps → Nat → Prop} {Z : List Caps} {T : Int} (h : 0 ≤ T) : IAcc PR [] Z T := ⟨fun _ => [], fun _ => 0, fun c h => (by cases h), fun c h => (by cases h), by simp; omega⟩
theorem IAcc.mono {PR : Caps → List Caps → Nat → Prop} {dn Z Z' : List Caps} {T T' : Int} (h : IAcc PR dn Z T) (hz : ∀ d ∈ Z, d ∈ Z') (ht : T ≤ T') : IAcc PR dn Z' T' := by
  obtain ⟨R, kR, h1, h2, h3⟩ := h
  exact ⟨R, kR, h1, fun c hc d hd => hz _ (h2 c hc d hd), by omega⟩
theorem IAcc.snoc {PR : Caps → List Caps → Nat → Prop} {dn Z : List Caps} {T t : Int} (h : IAcc PR dn Z T) {c1 : Caps} {R1 : List Caps} {k1 : Nat} (hp : PR c1 R1 k1) (hz : ∀ d ∈ R1, d ∈ Z) (hk : (k1 : Int) + 1 ≤ 3 * t) : IAcc PR (dn ++ [c1]) Z (T + t) := by
  obtain ⟨R, kR, h1, h2, h3⟩ := h
  by_cases hm : c1 ∈ dn ∧ kR c1 ≤ k1
  · refine ⟨R, kR, fun c hc => ?_, fun c hc => ?_, ?_⟩
    · rcases List.mem_append.1 hc with hc | hc
      · exact h1 c hc
      · obtain rfl := List.mem_singleton.1 hc; exact h1 _ hm.1
    · rcases List.mem_append.1 hc with hc | hc
      · exact h2 c hc
      · obtain rfl := List.mem_singleton.1 hc; exact h2 _ hm.1
    · rw [List.map_append, List.sum_append]
      simp only [List.map_cons, List.map_nil, List.sum_cons, List.sum_nil]
      omega
  · refine ⟨fun c => if c = c1 then R1 else R c, fun c => if c = c1 then k1 else kR c, fun c hc => ?_, fun c hc => ?_, ?_⟩
    · by_cases e : c = c1
      · subst e; simp only [if_true]; exact hp
      · simp only [if_neg e]
        exact h1 c ((List.mem_append.1 hc).resolve_right fun h => e (List.mem_singleton.1 h))
    · by_cases e : c = c1
      · subst e; simp only [if_true]; exact hz
      · simp only [if_neg e]
        exact h2 c ((List.mem_append.1 hc).resolve_right fun h => e (List.mem_singleton.1 h))
    · rw [List.map_append, List.sum_append]
      simp only [List.map_cons, List.map_nil, List.sum_cons, List.sum_nil, if_true]
      have hs : (dn.map fun c => (if c = c1 then k1 else kR c) + 1).sum ≤ (dn.map fun c => kR c + 1).sum := sum_le fun c hc => by
        by_cases e : c = c1
        · subst e
          rw [if_pos rfl]
          have : ¬ kR c ≤ k1 := fun h => hm ⟨hc, h⟩
          omega
        · rw [if_neg e]; exact Nat.le_refl _
      omega
def GAcc (PN : Nat → List Caps → Nat → Prop) (PR : Nat → Caps → List Caps → Nat → Prop) (es : List Nat) (Z : List Caps) (T : Int) : Prop :=
  ∃ (L : Nat → List Caps) (kN : Nat → Nat) (R : Nat → Caps → List Caps) (kR : Nat → Caps → Nat), (∀ e, e ∈ es → PN e (L e) (kN e)) ∧ (∀ e, e ∈ es → ∀ c1, c1 ∈ L e → PR e c1 (R e c1) (kR e c1)) ∧ (∀ e, e ∈ es → ∀ c1, c1 ∈ L e → ∀ d, d ∈ R e c1 → d ∈ Z) ∧ ((sumW es L kN kR : Nat) : Int) + es.length ≤ 3 * T
theorem GAcc.nil {PN : Nat → List Caps → Nat → Prop} {PR : Nat → Caps → List Caps → Nat → Prop} {Z : List Caps} {T : Int} (h : 0 ≤ T) : GAcc PN PR [] Z T := ⟨fun _ => [], fun _ => 0, fun _ _ => [], fun _ _ => 0, fun e h => (by cases h), fun e h => (by cases h), fun e h => (by cases h), by simp [sumW]; omega⟩
theorem GAcc.mono {PN : Nat → List Caps → Nat → Prop} {PR : Nat → Caps → List Caps → Nat → Prop} {es : List Nat} {Z Z' : List Caps} {T T' : Int} (h : GAcc PN PR es Z T) (hz : ∀ d ∈ Z, d ∈ Z') (ht : T ≤ T') : GAcc PN PR es Z' T' := by
  obtain ⟨L, kN, R, kR, h1, h2, h3, h4⟩ := h
  exact ⟨L, kN, R, kR, h1, h2, fun e he c hc d hd => hz _ (h3 e he c hc d hd), by omega⟩
theorem sumW_app {L : Nat → List Caps} {kN : Nat → Nat} {kR : Nat → Caps → Nat} {es : List Nat} {e : Nat} : sumW (es ++ [e]) L kN kR = sumW es L kN kR + (kN e + ((L e).map fun c1 => kR e c1 + 1).sum) := by
  simp [sumW, List.map_append, List.sum_append]
theorem sumW_congr {L L' : Nat → List Caps} {kN kN' : Nat → Nat} {kR kR' : Nat → Caps → Nat} {es : List Nat} (h : ∀ e ∈ es, L e = L' e ∧ kN e = kN' e ∧ kR e = kR' e) : sumW es L kN kR = sumW es L' kN' kR' := by
  unfold sumW
  congr 1
  apply List.map_congr_left
  intro e he
  obtain ⟨a, b, c⟩ := h e he
  rw [a, b, c]
theorem GAcc.snoc {PN : Nat → List Caps → Nat → Prop} {PR : Nat → Caps → List Caps → Nat → Prop} {es : List Nat} {Z : List Caps} {T t T2 : Int} (h : GAcc PN PR es Z T) {e : Nat} (he : e ∉ es) {L1 : List Caps} {k1 : Nat} (hn : PN e L1 k1) (hk : (k1 : Int) + 1 ≤ 3 * t) (hi : IAcc (PR e) L1 Z T2) : GAcc PN PR (es ++ [e]) Z (T + t + T2) := by
  obtain ⟨L, kN, R, kR, h1, h2, h3, h4⟩ := h
  obtain ⟨R1, kR1, i1, i2, i3⟩ := hi
  have ne : ∀ e' ∈ es, e' ≠ e := fun e' he' h => he (h ▸ he')
  refine ⟨fun a => if a = e then L1 else L a, fun a => if a = e then k1 else kN a, fun a => if a = e then R1 else R a, fun a => if a = e then kR1 else kR a, fun a ha => ?_, fun a ha => ?_, fun a ha => ?_, ?_⟩
  · by_cases ae : a = e
    · subst ae; simp only [if_true]; exact hn
    · simp only [if_neg ae]
      exact h1 a ((List.mem_append.1 ha).resolve_right fun h => ae (List.mem_singleton.1 h))
  · by_cases ae : a = e
    · subst ae; simp only [if_true]; exact i1
    · simp only [if_neg ae]
      exact h2 a ((List.mem_append.1 ha).resolve_right fun h => ae (List.mem_singleton.1 h))
  · by_cases ae : a = e
    · subst ae; simp only [if_true]; exact i2
    · simp only [if_neg ae]
      exact h3 a ((List.mem_append.1 ha).resolve_right fun h => ae (List.mem_singleton.1 h))
  · rw [sumW_app, sumW_congr (L' := L) (kN' := kN) (kR' := kR) fun a ha => ⟨if_neg (ne a ha), if_neg (ne a ha), if_neg (ne a ha)⟩]
    simp only [if_true, List.length_append, List.length_singleton]
    omega
theorem ends_snoc {e j : Nat} (h : e ≤ j) : ends e j = ends (e + 1) j ++ [e] := by
  have key : ∀ k e, down e (k + 1) = down (e + 1) k ++ [e] := by
    intro k
    induction k with
    | zero => intro e; simp [down]
    | succ k ih =>
      intro e
      rw [down, ih e, down, List.cons_append]
      congr 1
      omega
  unfold ends
  rw [show j + 1 - e = (j - e) + 1 by omega, key, show j + 1 - (e + 1) = j - e by omega]
theorem ends_out {e j : Nat} : e ∉ ends (e + 1) j := fun h => by have := mem_ends.1 h; omega
theorem ends_none {j : Nat} : ends (j + 1) j = [] := by unfold ends; rw [show j + 1 - (j + 1) = 0 by omega]; rfl
def RowC (n : Nat) (g : F) (i j : Nat) (c : Caps) (Z : List Caps) (t : Int) : Prop := ∃ k, Ct n (.row g i j c) Z k ∧ ((g = .nil ∧ k = 0 ∧ 0 ≤ t) ∨ (k : Int) + 1 ≤ 3 * t)
def NodeC' (n : Nat) (x : Nd) (ks : F) (i j : Nat) (c : Caps) (Z : List Caps) (t : Int) : Prop := ∃ k, Ct n (.node x ks i j c) Z k ∧ (k : Int) + 1 ≤ 3 * t
def RndC (n : Nat) (x y : Nd) (js : F) (had i j : Nat) (c : Caps) (Z : List Caps) (t : Int) : Prop := ∃ k, Ct n (.rnd x y js had i j c) Z k ∧ (k : Int) + 1 ≤ 3 * t
theorem RowC.nilE {n i : Nat} {c : Caps} {Z : List Caps} {t : Int} (ht : 0 ≤ t) (hc : c ∈ Z) {j : Nat} : RowC n .nil i j c Z t := ⟨0, .rowNil fun _ => hc, .inl ⟨rfl, rfl, ht⟩⟩
theorem RowC.nilN {n i j : Nat} {c : Caps} {Z : List Caps} {t : Int} (ht : 0 ≤ t) (h : i ≠ j) : RowC n .nil i j c Z t := ⟨0, .rowNil fun e => absurd e h, .inl ⟨rfl, rfl, ht⟩⟩
abbrev GRow (n : Nat) (y : Nd) (js r : F) (i j : Nat) (c : Caps) (es : List Nat) (Z : List Caps) (T : Int) : Prop := GAcc (fun e L k => Ct n (.node y js i e c) L k) (fun e c1 R k => Ct n (.row r e j c1) R k) es Z T
theorem RowC.cons {n : Nat} {y : Nd} {js r : F} {i j : Nat} {c : Caps} {es : List Nat} {Z : List Caps} {T : Int} (h : GRow n y js r i j c es Z T) (hes : es = if r.num = 0 then [j] else ends i j) (hij : i ≤ j) : RowC n (.nd y js r) i j c Z T := by
  obtain ⟨L, kN, R, kR, h1, h2, h3, h4⟩ := h
  refine ⟨_, .rowCons hes h1 h2 h3 (Nat.le_refl _), .inr ?_⟩
  have : 1 ≤ es.length := by
    rw [hes]
    split
    · simp
    · rw [ends_snoc hij]; simp
  omega
abbrev GRnd (n : Nat) (x y : Nd) (js : F) (had i j : Nat) (c : Caps) (es : List Nat) (Z : List Caps) (T : Int) : Prop := GAcc (fun e L k => Ct n (.node y js i e (emp (F.nd y js .nil).flat c)) L k) (fun e c1 R k => Ct n (.rnd x y js (had + 1) e j c1) R k) es Z T
theorem RndC.of {n : Nat} {x y : Nd} {js : F} {had i j : Nat} {c : Caps} {es : List Nat} {Z Z' : List Caps} {T t : Int} (h : GRnd n x y js had i j c es Z T) (hes : es = rEs x had i j) (hz : ∀ d ∈ Z, d ∈ Z') (hz2 : i = j → x.mn ≤ (had : Int) → c ∈ Z') (ht : T + 1 ≤ t) : RndC n x y js had i j c Z' t := by
  obtain ⟨L, kN, R, kR, h1, h2, h3, h4⟩ := h
  exact ⟨_, .rnd hes h1 h2 (fun e he c1 hc1 d hd => hz _ (h3 e he c1 hc1 d hd)) hz2 (Nat.le_refl _), by omega⟩
def AltPre (n : Nat) (ks g : F) (i j : Nat) (c : Caps) (Z : List Caps) (k : Nat) : Prop := ∀ Z2 k2, Ct n (.alt g i j c) Z2 k2 → ∀ Z', (∀ d ∈ Z, d ∈ Z') → (∀ d ∈ Z2, d ∈ Z') → Ct n (.alt ks i j c) Z' (k + k2)
theorem AltPre.start {n : Nat} {ks : F} {i j : Nat} {c : Caps} : AltPre n ks ks i j c [] 0 := fun Z2 k2 h Z' _ h2 => h.mono h2 (by omega)
theorem AltPre.step {n : Nat} {ks r js : F} {y : Nd} {i j : Nat} {c : Caps} {Z Z1 Z3 : List Caps} {k k1 : Nat} (h : AltPre n ks (.nd y js r) i j c Z k) (h1 : Ct n (.node y js i j c) Z1 k1) (a : ∀ d ∈ Z, d ∈ Z3) (b : ∀ d ∈ Z1, d ∈ Z3) : AltPre n ks r i j c Z3 (k + k1) := fun Z2 k2 h2 Z' c1 c2 => by
  have := h (Z1 ++ Z2) (k1 + k2) (.altCons h1 h2 (fun d hd => List.mem_append_left _ hd) (fun d hd => List.mem_append_right _ hd) (Nat.le_refl _)) Z' (fun d hd => c1 d (a d hd)) (fun d hd => by
    rcases List.mem_append.1 hd with hd | hd
    · exact c1 d (b d hd)
    · exact c2 d hd)
  exact this.mono (fun _ h => h) (by omega)
theorem AltPre.done {n : Nat} {ks : F} {i j : Nat} {c : Caps} {Z : List Caps} {k : Nat} (h : AltPre n ks .nil i j c Z k) : Ct n (.alt ks i j c) Z k := h [] 0 .altNil Z (fun _ h => h) (fun d hd => by cases hd)
/-! groups emptied, place by place -/
def empTo (re : List Nd) (a j : Nat) (c : Caps) : Caps := emp ((re.drop a).take (j - a)) c
theorem empTo_start {re : List Nd} {a j : Nat} {c : Caps} (h : j ≤ a) : empTo re a j c = c := by unfold empTo; rw [show j - a = 0 by omega]; rfl
theorem empTo_step {re : List Nd} {a j : Nat} {c : Caps} {x : Nd} (h : re[j]? = some x) (ha : a ≤ j) : empTo re a (j + 1) c = em1 (empTo re a j c) x := by
  have hj : (re.drop a)[j - a]? = some x := by rw [List.getElem?_drop, show a + (j - a) = j by omega]; exact h
  unfold empTo
  rw [show j + 1 - a = (j - a) + 1 by omega, List.take_add_one, hj]
  show emp ((re.drop a).take (j - a) ++ [x]) c = _
  unfold emp
  rw [List.foldl_append]; rfl
theorem empTo_part {re : List Nd} {f : F} {a e : Nat} {c : Caps} (h : Part re f a e) : empTo re a e c = emp f.flat c := by
  unfold empTo
  rw [h.flat, h.len, show a + f.size - a = f.flat.length by rw [F.flat_size]; omega, List.take_left]
end Go.HL.Kl.Mc
namespace Go.HL.Kl.Mc
open Go Go.HL Go.HL.Kl AskE
theorem ends_self {j : Nat} : ends j j = [j] := by rw [ends_snoc (Nat.le_refl j), ends_none]; rfl
theorem ends_fin {e : Int} {i j : Nat} {p : Prop} [Decidable p] (h1 : p → (e + 1).toNat = j) (h2 : ¬ p → (e + 1).toNat = i) : ends (e + 1).toNat j = if p then [j] else ends i j := by
  by_cases h : p
  · rw [if_pos h, h1 h, ends_self]
  · rw [if_neg h, h2 h]
theorem row_step {n : Nat} {r : F} {e j : Nat} {c1 : Caps} {Z : List Caps} {t t2 : Int} (h : RowC n r e j c1 Z t) (hr : r.num = 0 → e = j) (ht : t + Z.length ≤ t2) : ∃ k, Ct n (.row r e j c1) Z k ∧ (k : Int) + 1 ≤ 3 * t2 := by
  obtain ⟨k, h1, h2⟩ := h
  refine ⟨k, h1, ?_⟩
  rcases h2 with ⟨rfl, rfl, h3⟩ | h2
  · have he := hr rfl
    cases h1 with
    | rowNil hz =>
      have : 0 < Z.length := List.length_pos_of_mem (hz he)
      omega
  · omega
end Go.HL.Kl.Mc
namespace Go.HL.Kl.Mc
open Go Go.HL Go.HL.Kl AskE
theorem rEs_done {x : Nd} {had i j : Nat} {e : Int} (hij : i ≤ j) (h : (¬ (x.mx = -1 ∨ (had : Int) < x.mx) ∧ e = j) ∨ ((x.mx = -1 ∨ (had : Int) < x.mx) ∧ e = (i : Int) - 1 ∧ ¬ (x.mn ≤ (had : Int) ∧ 0 < had)) ∨ ((x.mx = -1 ∨ (had : Int) < x.mx) ∧ e = i ∧ x.mn ≤ (had : Int) ∧ 0 < had)) : ends (e + 1).toNat j = rEs x had i j := by
  unfold rEs
  rcases h with ⟨h1, h2⟩ | ⟨h1, h2, h3⟩ | ⟨h1, h2, h3⟩
  · rw [if_neg h1, show (e + 1).toNat = j + 1 by omega, ends_none]
  · rw [if_pos h1, show (e + 1).toNat = i by omega, List.filter_eq_self.2]
    intro a _
    simp only [decide_eq_true_eq]
    exact fun h => h3 h.2
  · rw [if_pos h1, show (e + 1).toNat = i + 1 by omega, ends_snoc hij, List.filter_append, List.filter_eq_self.2]
    · have : ([i].filter fun e => decide (¬ (e = i ∧ x.mn ≤ (had : Int) ∧ 0 < had))) = [] := by
        exact List.filter_cons_of_neg (fun h => of_decide_eq_true h ⟨rfl, h3⟩)
      rw [this, List.append_nil]
    · intro a ha
      have := mem_ends.1 ha
      simp only [decide_eq_true_eq]
      exact fun h => by omega
theorem GRnd.done {n : Nat} {x y : Nd} {js : F} {had i j : Nat} {c : Caps} {e : Int} {Z : List Caps} {T : Int} (h : GRnd n x y js had i j c (ends (e + 1).toNat j) Z T) (hij : i ≤ j) (hd : (¬ (x.mx = -1 ∨ (had : Int) < x.mx) ∧ e = j) ∨ ((x.mx = -1 ∨ (had : Int) < x.mx) ∧ e = (i : Int) - 1 ∧ ¬ (x.mn ≤ (had : Int) ∧ 0 < had)) ∨ ((x.mx = -1 ∨ (had : Int) < x.mx) ∧ e = i ∧ x.mn ≤ (had : Int) ∧ 0 < had)) : GRnd n x y js had i j c (rEs x had i j) Z T := by
  rw [← rEs_done hij hd]; exact h
end Go.HL.Kl.Mc
namespace Go.HL.Kl.Mc
open Go Go.HL Go.HL.Kl AskE
section
variable {n : Nat} {x : Nd} {c : Caps} {i j : Nat}
theorem gT1 (h : goodT n x c i j) (o : x.op = 1) : j = i + 1 := by
  rcases h with ⟨_, h⟩ | ⟨h, _⟩ | ⟨h, _⟩ | ⟨h, _⟩ <;> omega
theorem gT2 (h : goodT n x c i j) (o : x.op = 2) : i = 0 ∧ j = 0 := by
  rcases h with ⟨h, _⟩ | ⟨_, h⟩ | ⟨h, _⟩ | ⟨h, _⟩ <;> omega
theorem gT3 (h : goodT n x c i j) (o : x.op = 3) : i = n ∧ j = n := by
  rcases h with ⟨h, _⟩ | ⟨h, _⟩ | ⟨_, h⟩ | ⟨h, _⟩ <;> omega
theorem gT8 (h : goodT n x c i j) (o : x.op = 8) (hn : 1 ≤ x.n) {s : Sp} (hs : c[(x.n - 1).toNat]? = some s) : 0 ≤ s.fr ∧ s.to - s.fr = (j : Int) - i := by
  rcases h with ⟨h, _⟩ | ⟨h, _⟩ | ⟨h, _⟩ | ⟨_, h1, h2⟩
  · omega
  · omega
  · omega
  · rw [List.getD_eq_getElem?_getD, show x.n.toNat - 1 = (x.n - 1).toNat by omega, hs] at h1 h2
    exact ⟨h1, h2⟩
end
end Go.HL.Kl.Mc
namespace Go.HL.Kl.Mc
open Go Go.HL Go.HL.Kl AskE
def LAcc (n : Nat) (x : Nd) (ks : F) (c : Caps) (ps : List (Nat × Nat)) (T : Int) : Prop := ∃ cost : Nat → Nat → Nat, (∀ p ∈ ps, ∃ Z, Ct n (.node x ks p.1 p.2 c) Z (cost p.1 p.2)) ∧ (((ps.map fun p => cost p.1 p.2).sum : Nat) : Int) ≤ 3 * T
theorem LAcc.nil {n : Nat} {x : Nd} {ks : F} {c : Caps} {T : Int} (h : 0 ≤ T) : LAcc n x ks c [] T := ⟨fun _ _ => 0, fun p h => (by cases h), by simp; omega⟩
theorem LAcc.snoc {n : Nat} {x : Nd} {ks : F} {c : Caps} {ps : List (Nat × Nat)} {T t : Int} (h : LAcc n x ks c ps T) {i j : Nat} {Z : List Caps} (hc : NodeC' n x ks i j c Z t) : LAcc n x ks c (ps ++ [(i, j)]) (T + t) := by
  obtain ⟨cost, h1, h2⟩ := h
  obtain ⟨k, c1, c2⟩ := hc
  by_cases hm : (i, j) ∈ ps ∧ cost i j ≤ k
  · refine ⟨cost, fun p hp => ?_, ?_⟩
    · rcases List.mem_append.1 hp with hp | hp
      · exact h1 p hp
      · obtain rfl := List.mem_singleton.1 hp; exact h1 _ hm.1
    · rw [List.map_append, List.sum_append]
      simp only [List.map_cons, List.map_nil, List.sum_cons, List.sum_nil]
      omega
  · refine ⟨fun a b => if a = i ∧ b = j then k else cost a b, fun p hp => ?_, ?_⟩
    · by_cases e : p.1 = i ∧ p.2 = j
      · refine ⟨Z, ?_⟩
        simp only [if_pos e]
        rw [e.1, e.2]; exact c1
      · simp only [if_neg e]
        exact h1 p ((List.mem_append.1 hp).resolve_right fun h => e (by obtain rfl := List.mem_singleton.1 h; exact ⟨rfl, rfl⟩))
    · rw [List.map_append, List.sum_append]
      simp only [List.map_cons, List.map_nil, List.sum_cons, List.sum_nil, and_self, if_true]
      have hs : (ps.map fun p => if p.1 = i ∧ p.2 = j then k else cost p.1 p.2).sum ≤ (ps.map fun p => cost p.1 p.2).sum := sum_le fun p hp => by
        by_cases e : p.1 = i ∧ p.2 = j
        · rw [if_pos e, e.1, e.2]
          have : ¬ cost i j ≤ k := fun h => hm ⟨by rw [← e.1, ← e.2]; exact hp, h⟩
          omega
        · rw [if_neg e]; exact Nat.le_refl _
      omega
theorem LAcc.mono {n : Nat} {x : Nd} {ks : F} {c : Caps} {ps : List (Nat × Nat)} {T T' : Int} (h : LAcc n x ks c ps T) (ht : T ≤ T') : LAcc n x ks c ps T' := by
  obtain ⟨cost, h1, h2⟩ := h
  exact ⟨cost, h1, by omega⟩
def rowP (n i : Nat) (es : List Nat) : List (Nat × Nat) := es.map fun j => (i, j)
def prs (n p : Nat) : List (Nat × Nat) := (List.range p).flatMap fun i => rowP n i (ends i n)
theorem prs_succ {n p : Nat} : prs n (p + 1) = prs n p ++ rowP n p (ends p n) := by simp [prs, List.range_succ, List.flatMap_append]
theorem rowP_snoc {n p j : Nat} (h : j ≤ n) : rowP n p (ends j n) = rowP n p (ends (j + 1) n) ++ [(p, j)] := by unfold rowP; rw [ends_snoc h, List.map_append]; rfl
theorem rowP_none {n p : Nat} : rowP n p (ends (n + 1) n) = [] := by unfold rowP; rw [ends_none]; rfl
theorem mem_prs {n p i j : Nat} (h1 : i < p) (h2 : i ≤ j) (h3 : j ≤ n) : (i, j) ∈ prs n p := by
  unfold prs
  rw [List.mem_flatMap]
  exact ⟨i, List.mem_range.2 h1, List.mem_map.2 ⟨j, mem_ends.2 ⟨h2, h3⟩, rfl⟩⟩
def BehU (re : List Nd) (bl : List Nat) (a b : Nat) : Prop := ∀ k y js r e, a ≤ k → k < b → Part re (.nd y js r) k e → bl[k]? = some (k + 1 + js.size)
theorem BehU.nil {re : List Nd} {bl : List Nat} {a : Nat} : BehU re bl a a := fun k _ _ _ _ h1 h2 => by omega
theorem BehU.cat {re : List Nd} {bl bl' : List Nat} {a b c : Nat} (h : BehU re bl a b) (hb : ∀ k, k < b → bl'[k]? = bl[k]?) (h' : BehU re bl' b c) : BehU re bl' a c := fun k y js r e h1 h2 hp => by
  by_cases hk : k < b
  · rw [hb k hk]; exact h k y js r e h1 hk hp
  · exact h' k y js r e (by omega) h2 hp
theorem BehU.top {re : List Nd} {bl : List Nat} {x : Nd} {ks : F} {at_ e : Nat} (hp : Part re (.nd x ks .nil) at_ e) (h : BehU re bl (at_ + 1) e) (hl : at_ < bl.length) (he : e = at_ + 1 + ks.size) : BehU re (bl.set at_ e) at_ e := fun k y js r e' h1 h2 hp' => by
  by_cases hk : k = at_
  · subst hk
    have hu : js = ks := by
      obtain ⟨h3, _, _⟩ := hp.head
      obtain ⟨h4, _, _⟩ := hp'.head
      rw [h3] at h4
      cases h4
      exact hp'.uniq hp
    rw [List.getElem?_set_self hl, hu, he]
  · rw [List.getElem?_set_ne (by omega)]
    exact h k y js r e' (by omega) h2 hp'
def rsum (cost : Nat → Nat → Nat) (n : Nat) : Nat → Nat
  | 0 => 0
  | m + 1 => ((ends (n - m) n).map (cost (n - m))).sum + rsum cost n m
theorem rsum_prs {cost : Nat → Nat → Nat} {n : Nat} : ∀ m, m ≤ n + 1 → ((prs n (n + 1 - m)).map fun p => cost p.1 p.2).sum + rsum cost n m = ((prs n (n + 1)).map fun p => cost p.1 p.2).sum
  | 0, _ => by simp [rsum]
  | m + 1, hm => by
    have ih := rsum_prs (cost := cost) (n := n) m (by omega)
    have e : n + 1 - m = (n - m) + 1 := by omega
    rw [e, prs_succ, List.map_append, List.sum_append] at ih
    have e2 : ((rowP n (n - m) (ends (n - m) n)).map fun p => cost p.1 p.2).sum = ((ends (n - m) n).map (cost (n - m))).sum := by
      unfold rowP; rw [List.map_map]; rfl
    rw [e2] at ih
    rw [rsum, show n + 1 - (m + 1) = n - m by omega]
    omega
theorem rsum_le {cost : Nat → Nat → Nat} {n m : Nat} (h : m ≤ n + 1) : rsum cost n m ≤ ((prs n (n + 1)).map fun p => cost p.1 p.2).sum := by
  have := rsum_prs (cost := cost) m h; omega
end Go.HL.Kl.Mc
namespace Go.Proofs.YtloepfcndglmmaaDoor
open Go Go.HL Go.Proofs Go.HL.Kl Go.HL.Kl.Mc Go.HL.Kl.Mc.AskE
theorem groups_fn (ra : Option Addr) (rc : Nat) (re : List Nd) (hre : ∀ x ∈ re, -128 ≤ x.op ∧ x.op < 128) : HL.Fn Tryd.prog 25 [.slice ra re.length rc] (fun w => Rd En w (.slice ra re.length rc) re) [] (fun v _ => v = .int .i64 ((if shapedB re = true then gcn re else 0 : Nat) : Int)) := by
  refine fn_of Tryd.func25 rfl rfl rfl fun w0 hw => ?_
  have hsl := hw.sl
  have hbl := hsl.le
  refine cR fun _ hK1 => ?_; refine oA (oZ hK1 (cR fun _ hK2 => ?_)); refine oA (oZ hK2 (c_seq fun _ hK3 => ?_)); refine cR fun _ hK4 => ?_; refine oM ?_; refine o_callP (shaped_fn ra rc re hre) rfl rfl rfl (fun w st => (RdK.old0 hw).out w st) (fun v7 hv7 => ?_); subst hv7
  cases hsb : shapedB re
  ·refine oZ hK4 ?_; refine cFZ hK3 (cR fun _ hK5 => ?_); refine oM (oA (oZ hK5 (c_ret ?_))); refine ?_; exact xR rfl rfl ((by rw [hsb]; rfl))
  ·refine oZ hK4 ?_; refine cT (cR fun _ hK6 => ?_); refine oM ?_; refine oS sC (oM (oZ hK6 (c_block ?_))); refine c_loopB (fun (j : Nat) => j ≤ re.length) (fun (j : Nat) => [(10, .int .i64 j), (3, .int .i64 (gcn (re.take j) : Nat))]) [(2, _), (8, _), (9, _)] (fun (j : Nat) => _) (fun (j : Nat) => re.length - j) 0 (Nat.zero_le _) sbA sbA hzB ?_
   rintro j hj
   refine cR fun _ hK7 => ?_
   by_cases hjl : j < re.length
   ·obtain ⟨x, hx⟩ : ∃ x, re[j]? = some x := ⟨_, List.getElem?_eq_getElem hjl⟩
    have hxo := hre x (List.mem_of_getElem? hx)
    have hgl : gcn (re.take j) ≤ j := by have h1 := List.countP_le_length (p := fun x => decide (x.op = 7)) (l := re.take j); rw [List.length_take] at h1; unfold gcn; omega
    refine oS lsT (oZ hK7 (c_seq fun _ hK8 => ?_)); refine cTZ hK8 (c_seq fun _ hK9 => ?_); refine c_block (cR fun _ hK10 => ?_); refine oS (s_idx rfl rfl hsl (by omega)) ?_; refine oS (s_ldB rfl ((RdK.old0 hw).lds j hx rfl) (by rfl)) ?_; refine o_alloc (l := En zN) (by rw [En_zero]; rfl) rfl fun b5 => ?_; refine o_stW rfl rfl upA lnA lnA onA ?_; refine oZ hK10 (cR fun _ hK11 => ?_); refine oS sF ?_; refine oS sL ?_
    by_cases h7 : x.op = 7
    ·refine oS (eqT (h := h7)) ?_; refine oZ hK11 ?_; refine cT (c_region (oM ?_)); refine oS sD (oA (o_nil (x_block (xZ hK9 (c_region ?_))))); refine oS sD (oM (o_nil ?_)); exact x_then (x_inv (j + 1) (by omega) (by first | omega | (dsimp only; omega)) (by exact Sub.cons rfl (Sub.cons' rfl (by rw [gcn_take hx, if_pos h7]; rfl) sbA)) hzB)
    ·refine oS (eqF (h := h7)) ?_; refine oZ hK11 ?_; refine cF (c_skip (x_block (xZ hK9 (c_region ?_)))); refine oS sD (oM (o_nil ?_)); exact x_then (x_inv (j + 1) (by omega) (by first | omega | (dsimp only; omega)) (by exact Sub.cons rfl (Sub.cons' rfl (by rw [gcn_take hx, if_neg h7]; rfl) sbA)) hzB)
   ·obtain rfl : j = re.length := by omega
    refine oS lsF (oZ hK7 (c_seq fun _ hK12 => ?_)); refine cF ?_; refine c_exit ?_; refine x_then_exit (x_then_exit (x_block_exit (xZ hK3 (cR fun _ hK13 => ?_)))); refine oM (oA (oZ hK13 (c_ret ?_))); refine ?_; exact xR rfl rfl ((by rw [hsb, List.take_length]; rfl))
theorem rep_set {α : Type} {i m : Nat} {a b : α} : (List.replicate i a ++ List.replicate (m + 1) b).set i a = List.replicate (i + 1) a ++ List.replicate m b := by
  rw [List.set_append, if_neg (by simp), List.length_replicate, Nat.sub_self, List.replicate_succ, List.set_cons_zero, List.replicate_succ', List.append_assoc]; rfl
structure RefI (re : List Nd) (q : Nat) (R : List Nat) (es : List Bool) : Prop where
  iff : ∀ n, n ∈ R ↔ es[n]? = some true
  got : ∀ k x, k < q → re[k]? = some x → x.op = 8 → x.n.toNat ∈ R
  len : R.length ≤ q
  nd : R.Nodup
  sub : ∀ r ∈ R, ∃ x ∈ re, x.op = 8 ∧ x.n.toNat = r
theorem RefI.nil {re : List Nd} {n : Nat} : RefI re 0 [] (List.replicate n false) := ⟨fun m => ⟨fun h => (by cases h), fun h => by have := List.mem_of_getElem? h; rw [List.mem_replicate] at this; cases this.2⟩, fun _ _ h => absurd h (Nat.not_lt_zero _), Nat.le_refl _, List.nodup_nil, fun _ h => (by cases h)⟩
theorem RefI.yes {re : List Nd} {q : Nat} {R : List Nat} {es : List Bool} (h : RefI re q R es) {x : Nd} (hx : re[q]? = some x) (o8 : x.op = 8) (hn : x.n.toNat < es.length) (hz : es[x.n.toNat]? = some false) : RefI re (q + 1) (R ++ [x.n.toNat]) (es.set x.n.toNat true) :=
  ⟨fun m => by
    by_cases e : m = x.n.toNat
    · subst e; simp [hn]
    · rw [List.getElem?_set_ne (Ne.symm e), ← h.iff m]; simp [e], fun k y hk hy h8 => by
    by_cases e : k = q
    · subst e; rw [hx] at hy; cases hy; simp
    · exact List.mem_append_left _ (h.got k y (by omega) hy h8), by rw [List.length_append, List.length_singleton]; have := h.len; omega, List.nodup_append.2 ⟨h.nd, by simp, fun a ha b hb => by
    rw [List.mem_singleton.1 hb]
    intro e
    have := (h.iff a).1 ha
    rw [e, hz] at this
    cases this⟩, fun r hr => by
    rcases List.mem_append.1 hr with hr | hr
    · exact h.sub r hr
    · exact ⟨x, List.mem_of_getElem? hx, o8, (List.mem_singleton.1 hr).symm⟩⟩
theorem RefI.old {re : List Nd} {q : Nat} {R : List Nat} {es : List Bool} (h : RefI re q R es) {x : Nd} (hx : re[q]? = some x) {z : Bool} (hz : es[x.n.toNat]? = some z) (hf : ¬ z = false) : RefI re (q + 1) R es :=
  ⟨h.iff, fun k y hk hy h8 => by
    by_cases e : k = q
    · subst e; rw [hx] at hy; cases hy; exact (h.iff _).2 (by rw [hz]; simpa using hf)
    · exact h.got k y (by omega) hy h8, by have := h.len; omega, h.nd, h.sub⟩
theorem RefI.no {re : List Nd} {q : Nat} {R : List Nat} {es : List Bool} (h : RefI re q R es) {x : Nd} (hx : re[q]? = some x) (h8 : ¬ x.op = 8) : RefI re (q + 1) R es :=
  ⟨h.iff, fun k y hk hy h8' => by
    by_cases e : k = q
    · subst e; rw [hx] at hy; cases hy; exact absurd h8' h8
    · exact h.got k y (by omega) hy h8', by have := h.len; omega, h.nd, h.sub⟩
theorem RefI.all {re : List Nd} {R : List Nat} {es : List Bool} (h : RefI re re.length R es) {x : Nd} (hx : x ∈ re) (h8 : x.op = 8) : x.n.toNat ∈ R := by
  obtain ⟨k, hk⟩ := List.mem_iff_getElem?.1 hx
  exact h.got k x (List.getElem?_eq_some_iff.1 hk).1 hk h8
theorem RefI.le {re : List Nd} {q N : Nat} {R : List Nat} {es : List Bool} (h : RefI re q R es) (hl : es.length = N + 1) : ∀ r ∈ R, r ≤ N := fun r hr => by
  have := (List.getElem?_eq_some_iff.1 ((h.iff r).1 hr)).1
  omega
structure MsE where
  (bS : Nat) (ra : Option Addr) (rc : Nat) (re : List Nd) (ba : Option Addr) (bc : Nat) (v1 v3 v4 v5 v6 v7 v8 v9 v10 : Value)
def MsE.Meas (K : MsE) (L : Nat) : Prop := ∀ (x : Nd) (ks : F) (at_ e : Nat) (bl : List Nat) (Sb : Hp), ks.size < L → Part K.re (.nd x ks .nil) at_ e → bl.length = K.re.length → OwnS Eix 1 3 (.slice K.ba K.re.length K.bc) bl Sb →
  HL.Fn Tryd.prog 82 [pt K.bS, .int .i64 at_] (fun W => Rd En W (.slice K.ra K.re.length K.rc) K.re ∧ Apart (keys ((K.bS, .cells [.slice K.ra K.re.length K.rc, K.v1, .slice K.ba K.re.length K.bc, K.v3, K.v4, K.v5, K.v6, K.v7, K.v8, K.v9, K.v10].toArray 103 (0, 0)) :: Sb)) (.slice K.ra K.re.length K.rc)) ((K.bS, .cells [.slice K.ra K.re.length K.rc, K.v1, .slice K.ba K.re.length K.bc, K.v3, K.v4, K.v5, K.v6, K.v7, K.v8, K.v9, K.v10].toArray 103 (0, 0)) :: Sb)
    (fun v S' => ∃ bl' Sb', v = .int .i64 (e : Nat) ∧ S' = (K.bS, .cells [.slice K.ra K.re.length K.rc, K.v1, .slice K.ba K.re.length K.bc, K.v3, K.v4, K.v5, K.v6, K.v7, K.v8, K.v9, K.v10].toArray 103 (0, 0)) :: Sb' ∧ OwnS Eix 1 3 (.slice K.ba K.re.length K.bc) bl' Sb' ∧ bl'.length = K.re.length ∧ (∀ k, k < at_ → bl'[k]? = bl[k]?) ∧ BehU K.re bl' at_ e)
set_option maxHeartbeats 2000000 in
theorem measure_step (K : MsE) (hrl : K.re.length ≤ 1000000) (L : Nat) (ih : K.Meas L) (x : Nd) (ks : F) (at_ e : Nat) (bl : List Nat) (Sb : Hp) (hks : ks.size ≤ L) (hp : Part K.re (.nd x ks .nil) at_ e) (hbl : bl.length = K.re.length) (hO : OwnS Eix 1 3 (.slice K.ba K.re.length K.bc) bl Sb) : HL.Fn Tryd.prog 82 [pt K.bS, .int .i64 at_] (fun W => Rd En W (.slice K.ra K.re.length K.rc) K.re ∧ Apart (keys ((K.bS, .cells [.slice K.ra K.re.length K.rc, K.v1, .slice K.ba K.re.length K.bc, K.v3, K.v4, K.v5, K.v6, K.v7, K.v8, K.v9, K.v10].toArray 103 (0, 0)) :: Sb)) (.slice K.ra K.re.length K.rc)) ((K.bS, .cells [.slice K.ra K.re.length K.rc, K.v1, .slice K.ba K.re.length K.bc, K.v3, K.v4, K.v5, K.v6, K.v7, K.v8, K.v9, K.v10].toArray 103 (0, 0)) :: Sb) (fun v S' => ∃ bl' Sb', v = .int .i64 (e : Nat) ∧ S' = (K.bS, .cells [.slice K.ra K.re.length K.rc, K.v1, .slice K.ba K.re.length K.bc, K.v3, K.v4, K.v5, K.v6, K.v7, K.v8, K.v9, K.v10].toArray 103 (0, 0)) :: Sb' ∧ OwnS Eix 1 3 (.slice K.ba K.re.length K.bc) bl' Sb' ∧ bl'.length = K.re.length ∧ (∀ k, k < at_ → bl'[k]? = bl[k]?) ∧ BehU K.re bl' at_ e) := by
  refine fn_of Tryd.func82 rfl rfl rfl fun w0 hw => ?_
  have hsl := hw.1.sl
  have hx := hp.head.1
  have hel := hp.le
  have he := hp.len
  simp only [F.size, Nat.add_zero] at he
  have hkn := hp.wf.2.1
  have hksn := ks.num_le
  have hlt := (List.getElem?_eq_some_iff.1 hx).1
  refine cR fun _ hK1 => ?_; refine oA (oZ hK1 (cR fun _ hK2 => ?_)); refine oM ?_; refine oS sD (oA (oZ hK2 (c_seq fun _ hK3 => ?_))); refine cR fun _ hK4 => ?_; refine oM ?_; refine oS sN ?_; refine oS sF ?_; refine oS sL (oM ?_); refine oS (s_idx rfl rfl hsl (by omega)) ?_; refine oS sF ?_; refine oS (s_ld rfl ((RdK.old hw.1 hw.2).ld at_ 8 hx rfl (by decide) (by omega))) ?_; refine oM (oZ hK4 ?_)
  refine c_block ?_; refine c_loop5 (fun (m : Nat) (kid : Nat) (g : F) (bl2 : List Nat) (Sb2 : Hp) => Part K.re g kid e ∧ (m : Int) + g.num = x.kids ∧ g.size ≤ ks.size ∧ OwnS Eix 1 3 (.slice K.ba K.re.length K.bc) bl2 Sb2 ∧ bl2.length = K.re.length ∧ (∀ k, k < at_ → bl2[k]? = bl[k]?) ∧ BehU K.re bl2 (at_ + 1) kid ∧ at_ + 1 ≤ kid) (fun (m : Nat) (kid : Nat) (g : F) (bl2 : List Nat) (Sb2 : Hp) => [(16, .int .i64 m), (5, .int .i64 kid)]) [(0, _), (1, _), (4, _), (15, _)] (fun (m : Nat) (kid : Nat) (g : F) (bl2 : List Nat) (Sb2 : Hp) => (K.bS, .cells [.slice K.ra K.re.length K.rc, K.v1, .slice K.ba K.re.length K.bc, K.v3, K.v4, K.v5, K.v6, K.v7, K.v8, K.v9, K.v10].toArray 103 (0, 0)) :: Sb2) (fun (m : Nat) (kid : Nat) (g : F) (bl2 : List Nat) (Sb2 : Hp) => g.num) 0 (at_ + 1) ks bl Sb ⟨by have := hp.head.2.1; rw [show at_ + 1 + ks.size = e by omega] at this; exact this, by omega, Nat.le_refl _, hO, hbl, fun _ _ => rfl, .nil, Nat.le_refl _⟩ sbA sbA hzB ?_
  rintro m kid g bl2 Sb2 ⟨hpg, hmg, hgs, hO2, hbl2, hfr, hB, hak⟩
  have hgn := g.num_le
  have hgl := hpg.len
  refine cR fun _ hK5 => ?_
  by_cases hmk : (m : Int) < x.kids
  ·obtain ⟨y, js, r, rfl⟩ : ∃ y js r, g = F.nd y js r := by cases g with | nil => simp only [F.num] at hmg; omega | nd y a c => exact ⟨y, a, c, rfl⟩
   simp only [F.num] at hmg
   simp only [F.size] at hgs hgl
   refine oS lsT (oZ hK5 (c_seq fun _ hK6 => ?_)); refine cTZ hK6 (c_seq fun _ hK7 => ?_); refine c_block (c_region (oM (oM ?_))); refine o_call (ih y js kid (kid + 1 + js.size) bl2 Sb2 (by omega) hpg.one hbl2 hO2) rfl rfl rfl pkA (fun w st => ⟨(RdK.old hw.1 hw.2).out w st, st.apart_M (hin_cons meA hiA) hw.1 hw.2 (by decide)⟩) (fun v20 S20 ⟨bl', Sb', hv20, hS20, hO', hbl', hfr', hB'⟩ => ?_); subst hv20
   subst hS20; refine oA (o_nil (x_block (xZ hK7 (c_region ?_)))); refine oS sD (oM (o_nil ?_)); exact x_then (x_inv (m + 1, kid + 1 + js.size, r, bl', Sb') ⟨hpg.head.2.2, by dsimp only; omega, by dsimp only; omega, hO', hbl', fun k hk => (hfr' k (by omega)).trans (hfr k hk), hB.cat hfr' hB', by dsimp only; omega⟩ (by simp only [F.num]; omega) sbA hzB)
  ·obtain rfl : g = F.nil := F.num_nil (by omega)
   obtain rfl : kid = e := by simp only [F.size] at hgl; omega
   have hbs := hO2.sl
   refine oS lsF (oZ hK5 (c_seq fun _ hK8 => ?_)); refine cF ?_; refine c_exit ?_; refine x_then_exit (x_then_exit (x_block_exit (xZ hK3 (cR fun _ hK9 => ?_)))); refine oM ?_; refine oS sN ?_; refine oS sF ?_; refine oS sL (oM (oM ?_)); refine oS (s_idx rfl rfl (hbl2 ▸ hbs) (by omega)) ?_; refine o_stS1 at_ kid hO2 pkA rfl rfl rfl (by omega) (by omega) fun S' hS' => ?_; refine oZ hK9 (cR fun _ hK10 => ?_); refine oM (oA (oZ hK10 (c_ret ?_))); refine ?_; refine x_sub (Sub.refl _) (H' := (K.bS, .cells [.slice K.ra K.re.length K.rc, K.v1, .slice K.ba K.re.length K.bc, K.v3, K.v4, K.v5, K.v6, K.v7, K.v8, K.v9, K.v10].toArray 103 (0, 0)) :: S') hzB ?_; exact xR rfl rfl (⟨bl2.set at_ kid, S', rfl, rfl, hS', by rw [List.length_set]; exact hbl2, fun k hk => by rw [List.getElem?_set_ne (by omega)]; exact hfr k hk, hB.top hp (by omega) (by omega)⟩)
theorem meas_all (K : MsE) (hrl : K.re.length ≤ 1000000) : ∀ L, K.Meas L
  | 0 => fun _ _ _ _ _ _ h => absurd h (Nat.not_lt_zero _)
  | L + 1 => fun x ks at_ e bl Sb hL hp hbl hO => measure_step K hrl L (meas_all K hrl L) x ks at_ e bl Sb (by omega) hp hbl hO
set_option maxHeartbeats 4000000 in
theorem startK_fn (ra : Option Addr) (rc : Nat) (re : List Nd) (hre : ∀ x ∈ re, -128 ≤ x.op ∧ x.op < 128) (ta : Option Addr) (tc : Nat) (w : List UInt8) (hrl : re.length ≤ 1000000) (hwl : w.length ≤ 1000000) (hsb : shapedB re = true) (f : Nat) : HL.Fn Tryd.prog 46 [.slice ra re.length rc, .slice ta w.length tc, .int .i64 (f : Nat)] (fun W => Rd En W (.slice ra re.length rc) re ∧ RdP W 0 0 (Esp noS)) [] (fun v S' => ∃ (K : BkE) (s : BkS) (Sb SX : Hp), v = pt K.b ∧ S' = ((K.b, .cells [.slice K.ra K.re.length K.rc, .slice K.ta K.w.length K.tc, .slice K.ba K.bl.length K.bc, .slice K.xa K.R.length K.xc, .slice s.fa (zeroF :: s.S.fs).length s.fc, .map (some K.bn), .map (some K.bt), .map (some K.bf), .slice K.sa (K.N + 1) K.sc, .int .i64 (s.S.fuel : Nat), .bool s.d].toArray 103 (0, 0)) :: K.tl s) ++ (Sb ++ SX) ∧ (K.ra = ra ∧ K.rc = rc ∧ K.re = re ∧ K.ta = ta ∧ K.tc = tc ∧ K.w = w ∧ K.N = gcn re) ∧ OwnS Eix 1 3 (.slice K.ba K.bl.length K.bc) K.bl Sb ∧ OwnS Eix 1 3 (.slice K.xa K.R.length K.xc) K.R SX ∧ K.ok ∧ K.Rep s ∧ s.S = ⟨[], [], [], List.replicate (gcn re + 1) noS, f, 0⟩ ∧ s.d = false ∧ K.R.Nodup ∧ (∀ r ∈ K.R, ∃ x ∈ K.re, x.op = 8 ∧ x.n.toNat = r)) := by
  refine fn_of Tryd.func46 rfl rfl rfl fun w0 hw => ?_
  have hsl := hw.1.sl
  obtain ⟨_, x0, ks0, hS⟩ := shapedB_iff.1 hsb
  have hroot : Part re (.nd x0 ks0 .nil) 0 re.length := hS.part
  have hgc : gcn re ≤ re.length := List.countP_le_length
  refine cR fun _ hK1 => ?_; refine oA (oZ hK1 (cR fun _ hK2 => ?_)); refine oM (oM (oM ?_)); refine o_mmap2 (Ek := EkF) rfl fun b15 => ?_; refine o_mmap2 (Ek := EkT) rfl fun b16 => ?_; refine o_mmap2 (Ek := EkP) rfl fun b17 => ?_; refine oS (s_build (cs := [_, _, _, _, _, _]) (vs := []) rfl rfl (.nil)) ?_; refine o_bs (E := Efr) (xs := [zeroF]) (vs := [_]) rfl rfl rfl rfl rfl (by decide) (by decide) fun b19 S19 hS19 => ?_; refine oS (s_build (cs := [_, _, _, _, _, _, _, _, _, _, _]) (vs := [_, _, _, _, _, _, _]) rfl rfl (.cons rfl rfl rfl rfl rfl (.cons rfl rfl rfl rfl rfl (.cons rfl rfl rfl rfl rfl (.cons rfl rfl rfl rfl rfl (.cons rfl rfl rfl rfl rfl (.cons rfl rfl rfl rfl rfl (.cons rfl rfl rfl rfl rfl (.nil))))))))) ?_; refine o_box rfl rfl rfl fun b21 => ?_; refine oA (oZ hK2 (cR fun _ hK3 => ?_)); refine oM (oM ?_); refine oS sC ?_; refine o_make (E := Eix) (zx := 0) (n := re.length) rfl rfl rfl (by omega) (by omega) rfl fun b25 S25 hS25 => ?_; refine oS sN ?_; refine oS sF ?_; refine o_store rfl rfl rfl upA ltA rfl ?_; refine oZ hK3 (cR fun _ hK4 => ?_); refine oM ?_; refine o_call (meas_all (⟨b21, ra, rc, re, some ⟨b25, 0, none⟩, re.length, .slice ta w.length tc, .slice none 0 0, .slice (some ⟨b19, 0, none⟩) 1 1, .map (some b15), .map (some b16), .map (some b17), .slice none 0 0, .int .i64 (f : Nat), .bool false⟩ : MsE) hrl (ks0.size + 1) x0 ks0 0 re.length _ S25 (Nat.lt_succ_self _) hroot List.length_replicate hS25) rfl rfl rfl ((Pick.takeC pkA pkA)) (fun w st => ⟨(RdK.old0 hw.1).out w st, st.apart_M (hin_cons meA hiA) hw.1 Apart.nil (by decide)⟩) (fun v29 S29 ⟨bl, Sb, hv29, hS29, hOb, hbl, _, hB⟩ => ?_)
  subst hv29; subst hS29
  dsimp only at hOb hbl hB ⊢
  refine oZ hK4 (cR fun _ hK5 => ?_); refine oM (oM ?_); refine o_callP (groups_fn ra rc re hre) rfl rfl rfl (fun w st => (RdK.old0 hw.1).out w st) (fun v32 hv32 => ?_)
  rw [if_pos hsb] at hv32
  subst hv32; refine oS (step_cast (v' := .int .i64 ((gcn re + 1 : Nat) : Int)) (s_add rfl rfl (by omega)) (congrArg _ (by omega))) ?_; refine o_make (E := Esp) (zx := ⟨0, 0⟩) (n := gcn re + 1) rfl rfl rfl (by omega) (by omega) rfl fun b34 S34 hS34 => ?_; refine oS sN ?_; refine oS sF ?_; refine o_store rfl rfl rfl upA ltA rfl ?_; refine oZ hK5 (cR fun _ hK6 => ?_); refine oM ?_; refine oS sN ?_; refine oS sF ?_; refine oS sL ?_; refine oS sC ?_; refine o_make (E := Ebo) (zx := false) (n := gcn re + 1) rfl rfl rfl (by omega) (by omega) rfl fun b42 S42 hS42 => ?_; refine oA (oZ hK6 (c_seq fun _ hK7 => ?_)); refine cR fun _ hK8 => ?_; refine oM ?_; refine oS sC (oM (oZ hK8 (c_block ?_))); refine c_loop7 (fun (q : Nat) (es : List Bool) (xa : Option Addr) (xc : Nat) (R : List Nat) (SE : Hp) (SX : Hp) => q ≤ re.length ∧ es.length = gcn re + 1 ∧ OwnS Ebo 1 4 (.slice (some ⟨b42, 0, none⟩) (gcn re + 1) (gcn re + 1)) es SE ∧ OwnS Eix 1 3 (.slice xa R.length xc) R SX ∧ RefI re q R es) (fun (q : Nat) (es : List Bool) (xa : Option Addr) (xc : Nat) (R : List Nat) (SE : Hp) (SX : Hp) => [(45, .int .i64 q)]) [(6, _), (7, _), (8, _), (43, _), (44, _)] (fun (q : Nat) (es : List Bool) (xa : Option Addr) (xc : Nat) (R : List Nat) (SE : Hp) (SX : Hp) => (b21, .cells [.slice ra re.length rc, .slice ta w.length tc, .slice (some ⟨b25, 0, none⟩) re.length re.length, .slice xa R.length xc, .slice (some ⟨b19, 0, none⟩) 1 1, .map (some b15), .map (some b16), .map (some b17), .slice (some ⟨b34, 0, none⟩) (gcn re + 1) (gcn re + 1), .int .i64 (f : Nat), .bool false].toArray 103 (0, 0)) :: (b15, mxO EkF [] 0) :: (b16, mxO EkT [] 0) :: (b17, mxO EkP [] 0) :: (S19 ++ (S34 ++ (Sb ++ (SE ++ SX))))) (fun (q : Nat) (es : List Bool) (xa : Option Addr) (xc : Nat) (R : List Nat) (SE : Hp) (SX : Hp) => re.length - q) 0 (List.replicate (gcn re + 1) false) none 0 [] S42 [] ⟨Nat.zero_le _, List.length_replicate, hS42, .nil, .nil⟩ sbA sbA hzB ?_
  rintro q es xa xc R SE SX ⟨hq, hes, hE, hX, hRI⟩
  have hsE := hE.sl
  rw [hes] at hsE
  have hRq := hRI.len
  refine cR fun _ hK9 => ?_
  by_cases hql : (q : Int) < re.length
  ·obtain ⟨x, hx⟩ : ∃ x, re[q]? = some x := gE
   have hxm := List.mem_of_getElem? hx
   refine oS lsT (oZ hK9 (c_seq fun _ hK10 => ?_)); refine cTZ hK10 (c_seq fun _ hK11 => ?_); refine c_block (cR fun _ hK12 => ?_); refine oS (s_idx rfl rfl hsl (by omega)) ?_; refine oS (s_ldB rfl ((RdK.old0 hw.1).lds q hx rfl) (by rfl)) ?_; refine o_alloc (l := En zN) (by rw [En_zero]; rfl) rfl fun b10 => ?_; refine o_stW rfl rfl upA lnA lnA onA ?_; refine oZ hK12 (cR fun _ hK13 => ?_); refine oS sF ?_; refine oS sL ?_
   by_cases o8 : x.op = 8
   ·obtain ⟨hn1, hn2⟩ := ref_n hsb hxm o8
    obtain ⟨z, hez⟩ : ∃ z, es[x.n.toNat]? = some z := gE
    refine oS (eqT (h := o8)) ?_; refine oM ?_; refine oY (oM ?_); refine oY ?_; refine oS sF ?_; refine oY ?_; refine oS sL ?_; refine oY ?_; refine oS (s_idx rfl rfl hsE (by omega)) ?_; refine oY ?_; refine oS (s_ld rfl ((hE.rdk hiA).ld x.n.toNat 0 hez rfl (by decide) (by omega))) ?_; refine oY ?_
    by_cases hz : z = false
    ·refine oS (step_cast (v' := .bool true) (s_not rfl) (by rw [hz]; rfl)) ?_; refine oS sT (oZ hK13 ?_); refine cT (cR fun _ hK14 => ?_); refine oM ?_; refine oS sF ?_; refine oS sL ?_; refine oS (s_idx rfl rfl hsE (by omega)) ?_; refine o_stS1 x.n.toNat true hE pkA rfl rfl rfl (by omega) (by omega) fun S64 hS64 => ?_; refine oZ hK14 ?_; refine c_drawE ([(b21, .cells [.slice ra re.length rc, .slice ta w.length tc, .slice (some ⟨b25, 0, none⟩) re.length re.length, .slice xa R.length xc, .slice (some ⟨b19, 0, none⟩) 1 1, .map (some b15), .map (some b16), .map (some b17), .slice (some ⟨b34, 0, none⟩) (gcn re + 1) (gcn re + 1), .int .i64 (f : Nat), .bool false].toArray 103 (0, 0)), (b10, .cells (En x).toArray 80 (0, 0))]) (fun i => Nat.beq i 11) ?_; refine eP 0 rfl sM ?_; refine eP 1 rfl sM ?_; refine eP 2 rfl sN ?_; refine eP 3 rfl sF ?_; refine eK 4 rfl sL ?_; refine eP 5 rfl sF ?_; refine eK 6 rfl (step_cast (v' := .int .i64 ((x.n.toNat : Nat) : Int)) (s_ld rfl (.own meA rfl)) (congrArg _ (by omega))) ?_; refine eO 7 rfl ?_; refine o_bs (E := Eix) (xs := [x.n.toNat]) (vs := [_]) rfl rfl rfl rfl rfl (by decide) (by decide) fun b71 S71 hS71 => ?_; refine oX (eO 8 rfl ?_); refine o_app hX (hS71.rdk hiA) rfl rfl rfl rfl (by simp only [List.length_singleton]; omega) (by simp only [List.length_singleton]; omega) rfl pkA fun a72 c72 S72 hS72 => ?_; refine oX (eO 9 rfl ?_); refine oS sN ?_
     refine oX (eO 10 rfl ?_); refine oS sF (oX (eO 11 rfl ?_)); refine o_store rfl rfl rfl upA ltA rfl ?_; refine o_nil ?_; refine x_oneL rfl ?_; refine e_done (by kernel_rfl) ?_; refine x_block (xZ hK11 (c_region ?_)); refine oS sD (oM (o_nil ?_)); exact xI (q + 1, es.set x.n.toNat true, a72, c72, R ++ [x.n.toNat], S64, S72) ⟨by dsimp only; omega, by dsimp only; rw [List.length_set]; exact hes, hS64, hS72, hRI.yes hx o8 (by omega) (by rw [hez, hz])⟩
    ·refine oS (step_cast (v' := .bool false) (s_not rfl) (by rw [show z = true by simpa using hz]; rfl)) ?_; refine oS sT (oZ hK13 ?_); refine cF (c_skip (x_block (xZ hK11 (c_region ?_)))); refine oS sD (oM (o_nil ?_)); exact xI (q + 1, es, xa, xc, R, SE, SX) ⟨by dsimp only; omega, hes, hE, hX, hRI.old hx hez hz⟩
   ·refine oS (eqF (h := o8)) ?_; refine oM ?_; refine oN ?_; refine oN ?_; refine oN ?_; refine oN ?_; refine oN ?_; refine oN ?_; refine oS sP (oZ hK13 ?_); refine cF (c_skip (x_block (xZ hK11 (c_region ?_)))); refine oS sD (oM (o_nil ?_)); exact xI (q + 1, es, xa, xc, R, SE, SX) ⟨by dsimp only; omega, hes, hE, hX, hRI.no hx o8⟩
  ·obtain rfl : q = re.length := by omega
   refine oS lsF (oZ hK9 (c_seq fun _ hK15 => ?_)); refine cF ?_; refine c_exit ?_; refine x_then_exit (x_then_exit (x_block_exit (xZ hK7 (c_seq fun _ hK16 => ?_)))); refine cR fun _ hK17 => ?_; refine oM ?_; refine oS sN ?_; refine oS sF ?_; refine oS sL ?_; refine oS sC (oM (oZ hK17 (c_block ?_))); refine c_loop3 (fun (i : Nat) (cs : List Sp) (SS : Hp) => i ≤ gcn re + 1 ∧ cs = List.replicate i noS ++ List.replicate (gcn re + 1 - i) ⟨0, 0⟩ ∧ OwnS Esp 2 45 (.slice (some ⟨b34, 0, none⟩) (gcn re + 1) (gcn re + 1)) cs SS) (fun (i : Nat) (cs : List Sp) (SS : Hp) => [(81, .int .i64 i)]) [(6, _), (7, _), (80, _)] (fun (i : Nat) (cs : List Sp) (SS : Hp) => (b21, .cells [.slice ra re.length rc, .slice ta w.length tc, .slice (some ⟨b25, 0, none⟩) re.length re.length, .slice xa R.length xc, .slice (some ⟨b19, 0, none⟩) 1 1, .map (some b15), .map (some b16), .map (some b17), .slice (some ⟨b34, 0, none⟩) (gcn re + 1) (gcn re + 1), .int .i64 (f : Nat), .bool false].toArray 103 (0, 0)) :: (b15, mxO EkF [] 0) :: (b16, mxO EkT [] 0) :: (b17, mxO EkP [] 0) :: (S19 ++ (SS ++ (Sb ++ (SE ++ SX))))) (fun (i : Nat) (cs : List Sp) (SS : Hp) => gcn re + 1 - i) 0 (List.replicate (gcn re + 1) ⟨0, 0⟩) S34 ⟨Nat.zero_le _, rfl, hS34⟩ sbA sbA hzB ?_
   rintro i cs SS ⟨hi, hcs, hC⟩
   have hcl : cs.length = gcn re + 1 := by rw [hcs, List.length_append, List.length_replicate, List.length_replicate]; omega
   have hsC := hC.sl
   rw [hcl] at hsC
   refine cR fun _ hK18 => ?_
   by_cases hil : (i : Int) < (gcn re + 1 : Nat)
   ·refine oS lsT (oZ hK18 (c_seq fun _ hK19 => ?_)); refine cTZ hK19 (c_seq fun _ hK20 => ?_); refine c_block (cR fun _ hK21 => ?_); refine oM (oA (oZ hK21 ?_)); refine c_drawE ((b21, .cells [.slice ra re.length rc, .slice ta w.length tc, .slice (some ⟨b25, 0, none⟩) re.length re.length, .slice xa R.length xc, .slice (some ⟨b19, 0, none⟩) 1 1, .map (some b15), .map (some b16), .map (some b17), .slice (some ⟨b34, 0, none⟩) (gcn re + 1) (gcn re + 1), .int .i64 (f : Nat), .bool false].toArray 103 (0, 0)) :: SS) (fun i => Nat.beq i 7) ?_; refine eP 0 rfl sM ?_; refine eP 1 rfl sN ?_; refine eP 2 rfl sF ?_; refine eK 3 rfl sL ?_; refine eP 4 rfl sM ?_; refine eK 5 rfl (s_ldB (cs := Esp noS) rfl (RdPK.old0 hw.2).cels rfl) ?_; refine eO 6 rfl ?_; refine oS (s_idx rfl rfl hsC (by omega)) ?_; refine oX (eO 7 rfl ?_); refine o_stSE i noS hC pkA rfl rfl (by omega) (by rfl) fun S' hS' => ?_; refine o_nil ?_; refine x_oneL rfl ?_; refine e_done (by kernel_rfl) ?_; refine x_block (xZ hK20 (c_region ?_)); refine oS sD (oM (o_nil ?_)); exact xI (i + 1, cs.set i noS, S') ⟨by dsimp only; omega, by dsimp only; rw [hcs, show gcn re + 1 - i = (gcn re + 1 - (i + 1)) + 1 by omega]; exact rep_set, hS'⟩
   ·obtain rfl : i = gcn re + 1 := by omega
    rw [Nat.sub_self, List.replicate_zero, List.append_nil] at hcs
    subst hcs; refine oS lsF (oZ hK18 (c_seq fun _ hK22 => ?_)); refine cF ?_; refine c_exit ?_; refine x_then_exit (x_then_exit (x_block_exit (xZ hK16 (cR fun _ hK23 => ?_)))); refine oM (oA (oZ hK23 (c_ret ?_))); refine ?_; refine x_sub (Sub.refl _) (H' := ((b21, .cells [.slice ra re.length rc, .slice ta w.length tc, .slice (some ⟨b25, 0, none⟩) re.length re.length, .slice xa R.length xc, .slice (some ⟨b19, 0, none⟩) 1 1, .map (some b15), .map (some b16), .map (some b17), .slice (some ⟨b34, 0, none⟩) (gcn re + 1) (gcn re + 1), .int .i64 (f : Nat), .bool false].toArray 103 (0, 0)) :: (b15, mxO EkF [] 0) :: (b16, mxO EkT [] 0) :: (b17, mxO EkP [] 0) :: (S19 ++ SS)) ++ (Sb ++ SX)) hzB ?_
    exact xR rfl rfl (⟨(⟨b21, ra, rc, re, ta, tc, w, some ⟨b25, 0, none⟩, re.length, bl, xa, xc, R, b15, b16, b17, some ⟨b34, 0, none⟩, gcn re + 1, gcn re⟩ : BkE), (⟨⟨[], [], [], List.replicate (gcn re + 1) noS, f, 0⟩, some ⟨b19, 0, none⟩, 1, S19, SS, [], 0, [], 0, [], 0, false⟩ : BkS), Sb, SX, rfl, by dsimp only; rw [hbl]; rfl, ⟨rfl, rfl, rfl, rfl, rfl, rfl, rfl⟩, by dsimp only; rw [hbl]; exact hOb, hX, ⟨⟨_, hroot⟩, hrl, hwl, by dsimp only; omega, ⟨hbl, fun k y js r e hk hp => hB k y js r e (Nat.zero_le _) hk hp⟩, ⟨fun y hy h8 => ⟨(ref_n hsb hy h8).1, hRI.all hy h8⟩, fun y hy h7 => (by have := grp_le hsb hy h7; show 1 ≤ y.n ∧ y.n.toNat ≤ gcn re; omega), by have := (gl_take hsb re.length (Nat.le_refl _)).1; rw [List.take_length] at this; exact this⟩, fun r hr => (by have := hRI.le hes r hr; exact this), by dsimp only; omega⟩, ⟨hS19, hC, List.length_replicate, fun _ => rfl, fun _ => rfl, rfl, fun p => by simp [getM]⟩, rfl, rfl, hRI.nd, hRI.sub⟩)
def RowP (N : Nat) (Pool : Hp) (s : Sl Sp) : Prop := s.xs.length = N ∧ IsSl s.v s.xs.length ∧ RdS Esp s.v s.xs Pool
theorem RowP.mono {N : Nat} {P P' : Hp} {s : Sl Sp} (h : RowP N P s) (hs : HIn P P') : RowP N P' s := ⟨h.1, h.2.1, h.2.2.mono hs⟩
def PoolR (zs : List (Sl Sp)) (N : Nat) (Pool : Hp) : Prop := ∀ s ∈ zs, RowP N Pool s
theorem PoolR.mono {zs : List (Sl Sp)} {N : Nat} {P P' : Hp} (h : PoolR zs N P) (hs : HIn P P') : PoolR zs N P' := fun s hm => (h s hm).mono hs
theorem PoolR.snoc {zs : List (Sl Sp)} {x : Sl Sp} {N : Nat} {P : Hp} (h : PoolR zs N P) (hx : RowP N P x) : PoolR (zs ++ [x]) N P := fun s hm => by
  rcases List.mem_append.1 hm with hm | hm
  · exact h s hm
  · obtain rfl := List.mem_singleton.1 hm
    exact hx
end Go.Proofs.YtloepfcndglmmaaDoor
