/- Part of the proofs over this seat: see the text that holds the theorem. Conditions: each theorem bears its own. -/
import Derived.Test.YtloepfcndglmmaaDoorVZB7
import Derived.Test.YtloepfcndglmmaaDoorBS2Z
import Derived.Test.YtloepfcndglmmaaDoorBB3Z
import Derived.Test.YtloepfcndglmmaaDoorVZN1Z
import Derived.Test.YtloepfcndglmmaaDoorMT20Z
import Derived.Test.YtloepfcndglmmaaDoorMT9Z
namespace Go.Proofs.YtloepfcndglmmaaDoor
open Go Go.HL Go.Proofs Go.HL.Kl Go.HL.Kl.Mc Go.HL.Kl.Mc.AskE
theorem rowB_of {K : BkE} (hK : K.ok) {n v : Nat} (hN : NextB K n v) (hT : TakeB K n) : RowB K n v := fun s f x at_ b S' hR hF hf hx h4 hup hv hat hE hn hz => by
  subst hup
  exact rowK_fn K hK n s f x at_ b S' hR hF hf hx h4 hv hat hE hn hz hN hT
theorem rndB_of {K : BkE} (hK : K.ok) {n v : Nat} (hN : NextB K n v) (hT : TakeB K n) : RndB K n v := fun s f x at_ b S' hR hF hf hx h4 hup hv hat hE hn hz => by
  subst hup
  exact roundsK_fn K hK n s f x at_ b S' hR hF hf hx h4 hv hat hE hn hz hN hT
theorem nextB_of {K : BkE} (hK : K.ok) {n : Nat} (hT : TakeB K n) (u : Nat) : NextB K n u := by
  induction u using Nat.strongRecOn with
  | ind u ih =>
    intro s at_ b S' hR hF hu hat hE hn hz
    exact nextK_fn K hK n s u at_ b S' hR hF hu hat hE hn hz (fun v hv => rowB_of hK (ih v hv) hT) (fun v hv => rndB_of hK (ih v hv) hT) fun v hv => ih v hv
theorem takeB_all {K : BkE} (hK : K.ok) : ∀ n, n ≤ 9223372036854775807 → TakeB K n
  | 0, _ => fun s at_ i j up b S' hR hF hat hij hj hup hE hn hz => absurd hE.iFuel (by omega)
  | n + 1, hn => fun s at_ i j up b S' hR hF hat hij hj hup hE hf hz => takeK_fn K hK n s at_ i j up b S' hR hF hat hij hj hup hE hf (by omega) hz (nextB_of hK (takeB_all hK n (by omega))) (takeB_all hK n (by omega))
end Go.Proofs.YtloepfcndglmmaaDoor
namespace Go.HL.Kl.Mc
open Go Go.HL Go.HL.Kl AskE
theorem Ct.mono' {n : Nat} {q : TQ} {Z : List Caps} {k : Nat} (h : Ct n q Z k) : ∀ {Z' : List Caps} {k' : Nat}, (∀ d ∈ Z, d ∈ Z') → k ≤ k' → Ct n q Z' k' := by
  induction h with
  | leaf ho hz0 hk0 => exact fun hz hk => .leaf ho (fun h => hz _ (hz0 h)) (by omega)
  | cat ho h hk0 ih => exact fun hz hk => .cat ho (ih hz (Nat.le_refl _)) (by omega)
  | rep ho h hk0 ih => exact fun hz hk => .rep ho (ih hz (Nat.le_refl _)) (by omega)
  | grp ho h hz0 hk0 ih => exact fun hz hk => .grp ho h (fun d hd => hz _ (hz0 d hd)) (by omega)
  | altC ho h hk0 ih => exact fun hz hk => .altC ho (ih hz (Nat.le_refl _)) (by omega)
  | altNil => exact fun _ _ => .altNil
  | altCons h1 h2 z1 z2 hk0 => exact fun hz hk => .altCons h1 h2 (fun d hd => hz _ (z1 d hd)) (fun d hd => hz _ (z2 d hd)) (by omega)
  | rowNil hz0 => exact fun hz _ => .rowNil fun h => hz _ (hz0 h)
  | rowCons hes h1 h2 hz0 hk0 => exact fun hz hk => .rowCons hes h1 h2 (fun e he c1 hc1 d hd => hz _ (hz0 e he c1 hc1 d hd)) (by omega)
  | rnd hes h1 h2 hz0 hz2 hk0 => exact fun hz hk => .rnd hes h1 h2 (fun e he c1 hc1 d hd => hz _ (hz0 e he c1 hc1 d hd)) (fun a b => hz _ (hz2 a b)) (by omega)
theorem Ct.mono {n : Nat} {q : TQ} {Z Z' : List Caps} {k k' : Nat} (h : Ct n q Z k) (hz : ∀ d ∈ Z, d ∈ Z') (hk : k ≤ k') : Ct n q Z' k' := h.mono' hz hk
/-- the rests behind some of the ends of a node -/
def IAcc (PR : Caps → List Caps → Nat → Prop) (dn : List Caps) (Z : List Caps) (T : Int) : Prop := ∃ (R : Caps → List Caps) (kR : Caps → Nat), (∀ c1 ∈ dn, PR c1 (R c1) (kR c1)) ∧ (∀ c1 ∈ dn, ∀ d ∈ R c1, d ∈ Z) ∧ (((dn.map fun c => kR c + 1).sum : Nat) : Int) ≤ 3 * T
theorem IAcc.nil {PR : Caps → List Caps → Nat → Prop} {Z : List Caps} {T : Int} (h : 0 ≤ T) : IAcc PR [] Z T := ⟨fun _ => [], fun _ => 0, fun c h => (by cases h), fun c h => (by cases h), by simp; omega⟩
theorem IAcc.mono {PR : Caps → List Caps → Nat → Prop} {dn Z Z' : List Caps} {T T' : Int} (h : IAcc PR dn Z T) (hz : ∀ d ∈ Z, d ∈ Z') (ht : T ≤ T') : IAcc PR dn Z' T' := by
  obtain ⟨R, kR, h1, h2, h3⟩ := h
  exact ⟨R, kR, h1, fun c hc d hd => hz _ (h2 c hc d hd), by omega⟩
theorem IAcc.snoc {PR : Caps → List Caps → Nat → Prop} {dn Z : List Caps} {T t : Int} (h : IAcc PR dn Z T) {c1 : Caps} {R1 : List Caps} {k1 : Nat} (hp : PR c1 R1 k1) (hz : ∀ d ∈ R1, d ∈ Z) (hk : (k1 : Int) + 1 ≤ 3 * t) : IAcc PR (dn ++ [c1]) Z (T + t) := by
  obtain ⟨R, kR, h1, h2, h3⟩ := h
  by_cases hm : c1 ∈ dn ∧ kR c1 ≤ k1
  · refine ⟨R, kR, fun c hc => ?_, fun c hc => ?_, ?_⟩
    · rcases List.mem_append.1 hc with hc | hc
      · exact h1 c hc
      · obtain rfl := List.mem_singleton.1 hc; exact h1 _ hm.1
    · rcases List.mem_append.1 hc with hc | hc
      · exact h2 c hc
      · obtain rfl := List.mem_singleton.1 hc; exact h2 _ hm.1
    · rw [List.map_append, List.sum_append]
      simp only [List.map_cons, List.map_nil, List.sum_cons, List.sum_nil]
      omega
  · refine ⟨fun c => if c = c1 then R1 else R c, fun c => if c = c1 then k1 else kR c, fun c hc => ?_, fun c hc => ?_, ?_⟩
    · by_cases e : c = c1
      · subst e; simp only [if_true]; exact hp
      · simp only [if_neg e]
        exact h1 c ((List.mem_append.1 hc).resolve_right fun h => e (List.mem_singleton.1 h))
    · by_cases e : c = c1
      · subst e; simp only [if_true]; exact hz
      · simp only [if_neg e]
        exact h2 c ((List.mem_append.1 hc).resolve_right fun h => e (List.mem_singleton.1 h))
    · rw [List.map_append, List.sum_append]
      simp only [List.map_cons, List.map_nil, List.sum_cons, List.sum_nil, if_true]
      have hs : (dn.map fun c => (if c = c1 then k1 else kR c) + 1).sum ≤ (dn.map fun c => kR c + 1).sum := sum_le fun c hc => by
        by_cases e : c = c1
        · subst e
          rw [if_pos rfl]
          have : ¬ kR c ≤ k1 := fun h => hm ⟨hc, h⟩
          omega
        · rw [if_neg e]; exact Nat.le_refl _
      omega
/-- the ends gone through -/
def GAcc (PN : Nat → List Caps → Nat → Prop) (PR : Nat → Caps → List Caps → Nat → Prop) (es : List Nat) (Z : List Caps) (T : Int) : Prop :=
  ∃ (L : Nat → List Caps) (kN : Nat → Nat) (R : Nat → Caps → List Caps) (kR : Nat → Caps → Nat), (∀ e, e ∈ es → PN e (L e) (kN e)) ∧ (∀ e, e ∈ es → ∀ c1, c1 ∈ L e → PR e c1 (R e c1) (kR e c1)) ∧ (∀ e, e ∈ es → ∀ c1, c1 ∈ L e → ∀ d, d ∈ R e c1 → d ∈ Z) ∧ ((sumW es L kN kR : Nat) : Int) + es.length ≤ 3 * T
theorem GAcc.nil {PN : Nat → List Caps → Nat → Prop} {PR : Nat → Caps → List Caps → Nat → Prop} {Z : List Caps} {T : Int} (h : 0 ≤ T) : GAcc PN PR [] Z T := ⟨fun _ => [], fun _ => 0, fun _ _ => [], fun _ _ => 0, fun e h => (by cases h), fun e h => (by cases h), fun e h => (by cases h), by simp [sumW]; omega⟩
theorem GAcc.mono {PN : Nat → List Caps → Nat → Prop} {PR : Nat → Caps → List Caps → Nat → Prop} {es : List Nat} {Z Z' : List Caps} {T T' : Int} (h : GAcc PN PR es Z T) (hz : ∀ d ∈ Z, d ∈ Z') (ht : T ≤ T') : GAcc PN PR es Z' T' := by
  obtain ⟨L, kN, R, kR, h1, h2, h3, h4⟩ := h
  exact ⟨L, kN, R, kR, h1, h2, fun e he c hc d hd => hz _ (h3 e he c hc d hd), by omega⟩
theorem sumW_app {L : Nat → List Caps} {kN : Nat → Nat} {kR : Nat → Caps → Nat} {es : List Nat} {e : Nat} : sumW (es ++ [e]) L kN kR = sumW es L kN kR + (kN e + ((L e).map fun c1 => kR e c1 + 1).sum) := by
  simp [sumW, List.map_append, List.sum_append]
theorem sumW_congr {L L' : Nat → List Caps} {kN kN' : Nat → Nat} {kR kR' : Nat → Caps → Nat} {es : List Nat} (h : ∀ e ∈ es, L e = L' e ∧ kN e = kN' e ∧ kR e = kR' e) : sumW es L kN kR = sumW es L' kN' kR' := by
  unfold sumW
  congr 1
  apply List.map_congr_left
  intro e he
  obtain ⟨a, b, c⟩ := h e he
  rw [a, b, c]
theorem GAcc.snoc {PN : Nat → List Caps → Nat → Prop} {PR : Nat → Caps → List Caps → Nat → Prop} {es : List Nat} {Z : List Caps} {T t T2 : Int} (h : GAcc PN PR es Z T) {e : Nat} (he : e ∉ es) {L1 : List Caps} {k1 : Nat} (hn : PN e L1 k1) (hk : (k1 : Int) + 1 ≤ 3 * t) (hi : IAcc (PR e) L1 Z T2) : GAcc PN PR (es ++ [e]) Z (T + t + T2) := by
  obtain ⟨L, kN, R, kR, h1, h2, h3, h4⟩ := h
  obtain ⟨R1, kR1, i1, i2, i3⟩ := hi
  have ne : ∀ e' ∈ es, e' ≠ e := fun e' he' h => he (h ▸ he')
  refine ⟨fun a => if a = e then L1 else L a, fun a => if a = e then k1 else kN a, fun a => if a = e then R1 else R a, fun a => if a = e then kR1 else kR a, fun a ha => ?_, fun a ha => ?_, fun a ha => ?_, ?_⟩
  · by_cases ae : a = e
    · subst ae; simp only [if_true]; exact hn
    · simp only [if_neg ae]
      exact h1 a ((List.mem_append.1 ha).resolve_right fun h => ae (List.mem_singleton.1 h))
  · by_cases ae : a = e
    · subst ae; simp only [if_true]; exact i1
    · simp only [if_neg ae]
      exact h2 a ((List.mem_append.1 ha).resolve_right fun h => ae (List.mem_singleton.1 h))
  · by_cases ae : a = e
    · subst ae; simp only [if_true]; exact i2
    · simp only [if_neg ae]
      exact h3 a ((List.mem_append.1 ha).resolve_right fun h => ae (List.mem_singleton.1 h))
  · rw [sumW_app, sumW_congr (L' := L) (kN' := kN) (kR' := kR) fun a ha => ⟨if_neg (ne a ha), if_neg (ne a ha), if_neg (ne a ha)⟩]
    simp only [if_true, List.length_append, List.length_singleton]
    omega
theorem ends_snoc {e j : Nat} (h : e ≤ j) : ends e j = ends (e + 1) j ++ [e] := by
  have key : ∀ k e, down e (k + 1) = down (e + 1) k ++ [e] := by
    intro k
    induction k with
    | zero => intro e; simp [down]
    | succ k ih =>
      intro e
      rw [down, ih e, down, List.cons_append]
      congr 1
      omega
  unfold ends
  rw [show j + 1 - e = (j - e) + 1 by omega, key, show j + 1 - (e + 1) = j - e by omega]
theorem ends_out {e j : Nat} : e ∉ ends (e + 1) j := fun h => by have := mem_ends.1 h; omega
theorem ends_none {j : Nat} : ends (j + 1) j = [] := by unfold ends; rw [show j + 1 - (j + 1) = 0 by omega]; rfl
/-- what a row's account comes to -/
def RowC (n : Nat) (g : F) (i j : Nat) (c : Caps) (Z : List Caps) (t : Int) : Prop := ∃ k, Ct n (.row g i j c) Z k ∧ ((g = .nil ∧ k = 0 ∧ 0 ≤ t) ∨ (k : Int) + 1 ≤ 3 * t)
def NodeC' (n : Nat) (x : Nd) (ks : F) (i j : Nat) (c : Caps) (Z : List Caps) (t : Int) : Prop := ∃ k, Ct n (.node x ks i j c) Z k ∧ (k : Int) + 1 ≤ 3 * t
def RndC (n : Nat) (x y : Nd) (js : F) (had i j : Nat) (c : Caps) (Z : List Caps) (t : Int) : Prop := ∃ k, Ct n (.rnd x y js had i j c) Z k ∧ (k : Int) + 1 ≤ 3 * t
theorem RowC.nilE {n i : Nat} {c : Caps} {Z : List Caps} {t : Int} (ht : 0 ≤ t) (hc : c ∈ Z) {j : Nat} : RowC n .nil i j c Z t := ⟨0, .rowNil fun _ => hc, .inl ⟨rfl, rfl, ht⟩⟩
theorem RowC.nilN {n i j : Nat} {c : Caps} {Z : List Caps} {t : Int} (ht : 0 ≤ t) (h : i ≠ j) : RowC n .nil i j c Z t := ⟨0, .rowNil fun e => absurd e h, .inl ⟨rfl, rfl, ht⟩⟩
abbrev GRow (n : Nat) (y : Nd) (js r : F) (i j : Nat) (c : Caps) (es : List Nat) (Z : List Caps) (T : Int) : Prop := GAcc (fun e L k => Ct n (.node y js i e c) L k) (fun e c1 R k => Ct n (.row r e j c1) R k) es Z T
theorem RowC.cons {n : Nat} {y : Nd} {js r : F} {i j : Nat} {c : Caps} {es : List Nat} {Z : List Caps} {T : Int} (h : GRow n y js r i j c es Z T) (hes : es = if r.num = 0 then [j] else ends i j) (hij : i ≤ j) : RowC n (.nd y js r) i j c Z T := by
  obtain ⟨L, kN, R, kR, h1, h2, h3, h4⟩ := h
  refine ⟨_, .rowCons hes h1 h2 h3 (Nat.le_refl _), .inr ?_⟩
  have : 1 ≤ es.length := by
    rw [hes]
    split
    · simp
    · rw [ends_snoc hij]; simp
  omega
abbrev GRnd (n : Nat) (x y : Nd) (js : F) (had i j : Nat) (c : Caps) (es : List Nat) (Z : List Caps) (T : Int) : Prop := GAcc (fun e L k => Ct n (.node y js i e (emp (F.nd y js .nil).flat c)) L k) (fun e c1 R k => Ct n (.rnd x y js (had + 1) e j c1) R k) es Z T
theorem RndC.of {n : Nat} {x y : Nd} {js : F} {had i j : Nat} {c : Caps} {es : List Nat} {Z Z' : List Caps} {T t : Int} (h : GRnd n x y js had i j c es Z T) (hes : es = rEs x had i j) (hz : ∀ d ∈ Z, d ∈ Z') (hz2 : i = j → x.mn ≤ (had : Int) → c ∈ Z') (ht : T + 1 ≤ t) : RndC n x y js had i j c Z' t := by
  obtain ⟨L, kN, R, kR, h1, h2, h3, h4⟩ := h
  exact ⟨_, .rnd hes h1 h2 (fun e he c1 hc1 d hd => hz _ (h3 e he c1 hc1 d hd)) hz2 (Nat.le_refl _), by omega⟩
/-- a choice, from the left -/
def AltPre (n : Nat) (ks g : F) (i j : Nat) (c : Caps) (Z : List Caps) (k : Nat) : Prop := ∀ Z2 k2, Ct n (.alt g i j c) Z2 k2 → ∀ Z', (∀ d ∈ Z, d ∈ Z') → (∀ d ∈ Z2, d ∈ Z') → Ct n (.alt ks i j c) Z' (k + k2)
theorem AltPre.start {n : Nat} {ks : F} {i j : Nat} {c : Caps} : AltPre n ks ks i j c [] 0 := fun Z2 k2 h Z' _ h2 => h.mono h2 (by omega)
theorem AltPre.step {n : Nat} {ks r js : F} {y : Nd} {i j : Nat} {c : Caps} {Z Z1 Z3 : List Caps} {k k1 : Nat} (h : AltPre n ks (.nd y js r) i j c Z k) (h1 : Ct n (.node y js i j c) Z1 k1) (a : ∀ d ∈ Z, d ∈ Z3) (b : ∀ d ∈ Z1, d ∈ Z3) : AltPre n ks r i j c Z3 (k + k1) := fun Z2 k2 h2 Z' c1 c2 => by
  have := h (Z1 ++ Z2) (k1 + k2) (.altCons h1 h2 (fun d hd => List.mem_append_left _ hd) (fun d hd => List.mem_append_right _ hd) (Nat.le_refl _)) Z' (fun d hd => c1 d (a d hd)) (fun d hd => by
    rcases List.mem_append.1 hd with hd | hd
    · exact c1 d (b d hd)
    · exact c2 d hd)
  exact this.mono (fun _ h => h) (by omega)
theorem AltPre.done {n : Nat} {ks : F} {i j : Nat} {c : Caps} {Z : List Caps} {k : Nat} (h : AltPre n ks .nil i j c Z k) : Ct n (.alt ks i j c) Z k := h [] 0 .altNil Z (fun _ h => h) (fun d hd => by cases hd)
/-! groups emptied, place by place -/
def empTo (re : List Nd) (a j : Nat) (c : Caps) : Caps := emp ((re.drop a).take (j - a)) c
theorem empTo_start {re : List Nd} {a j : Nat} {c : Caps} (h : j ≤ a) : empTo re a j c = c := by unfold empTo; rw [show j - a = 0 by omega]; rfl
theorem empTo_step {re : List Nd} {a j : Nat} {c : Caps} {x : Nd} (h : re[j]? = some x) (ha : a ≤ j) : empTo re a (j + 1) c = em1 (empTo re a j c) x := by
  have hj : (re.drop a)[j - a]? = some x := by rw [List.getElem?_drop, show a + (j - a) = j by omega]; exact h
  unfold empTo
  rw [show j + 1 - a = (j - a) + 1 by omega, List.take_add_one, hj]
  show emp ((re.drop a).take (j - a) ++ [x]) c = _
  unfold emp
  rw [List.foldl_append]; rfl
theorem empTo_part {re : List Nd} {f : F} {a e : Nat} {c : Caps} (h : Part re f a e) : empTo re a e c = emp f.flat c := by
  unfold empTo
  rw [h.flat, h.len, show a + f.size - a = f.flat.length by rw [F.flat_size]; omega, List.take_left]
end Go.HL.Kl.Mc
namespace Go.HL.Kl.Mc
open Go Go.HL Go.HL.Kl AskE
theorem ends_self {j : Nat} : ends j j = [j] := by rw [ends_snoc (Nat.le_refl j), ends_none]; rfl
theorem ends_fin {e : Int} {i j : Nat} {p : Prop} [Decidable p] (h1 : p → (e + 1).toNat = j) (h2 : ¬ p → (e + 1).toNat = i) : ends (e + 1).toNat j = if p then [j] else ends i j := by
  by_cases h : p
  · rw [if_pos h, h1 h, ends_self]
  · rw [if_neg h, h2 h]
theorem row_step {n : Nat} {r : F} {e j : Nat} {c1 : Caps} {Z : List Caps} {t t2 : Int} (h : RowC n r e j c1 Z t) (hr : r.num = 0 → e = j) (ht : t + Z.length ≤ t2) : ∃ k, Ct n (.row r e j c1) Z k ∧ (k : Int) + 1 ≤ 3 * t2 := by
  obtain ⟨k, h1, h2⟩ := h
  refine ⟨k, h1, ?_⟩
  rcases h2 with ⟨rfl, rfl, h3⟩ | h2
  · have he := hr rfl
    cases h1 with
    | rowNil hz =>
      have : 0 < Z.length := List.length_pos_of_mem (hz he)
      omega
  · omega
end Go.HL.Kl.Mc
namespace Go.HL.Kl.Mc
open Go Go.HL Go.HL.Kl AskE
theorem rEs_done {x : Nd} {had i j : Nat} {e : Int} (hij : i ≤ j) (h : (¬ (x.mx = -1 ∨ (had : Int) < x.mx) ∧ e = j) ∨ ((x.mx = -1 ∨ (had : Int) < x.mx) ∧ e = (i : Int) - 1 ∧ ¬ (x.mn ≤ (had : Int) ∧ 0 < had)) ∨ ((x.mx = -1 ∨ (had : Int) < x.mx) ∧ e = i ∧ x.mn ≤ (had : Int) ∧ 0 < had)) : ends (e + 1).toNat j = rEs x had i j := by
  unfold rEs
  rcases h with ⟨h1, h2⟩ | ⟨h1, h2, h3⟩ | ⟨h1, h2, h3⟩
  · rw [if_neg h1, show (e + 1).toNat = j + 1 by omega, ends_none]
  · rw [if_pos h1, show (e + 1).toNat = i by omega, List.filter_eq_self.2]
    intro a _
    simp only [decide_eq_true_eq]
    exact fun h => h3 h.2
  · rw [if_pos h1, show (e + 1).toNat = i + 1 by omega, ends_snoc hij, List.filter_append, List.filter_eq_self.2]
    · have : ([i].filter fun e => decide (¬ (e = i ∧ x.mn ≤ (had : Int) ∧ 0 < had))) = [] := by
        exact List.filter_cons_of_neg (fun h => of_decide_eq_true h ⟨rfl, h3⟩)
      rw [this, List.append_nil]
    · intro a ha
      have := mem_ends.1 ha
      simp only [decide_eq_true_eq]
      exact fun h => by omega
theorem GRnd.done {n : Nat} {x y : Nd} {js : F} {had i j : Nat} {c : Caps} {e : Int} {Z : List Caps} {T : Int} (h : GRnd n x y js had i j c (ends (e + 1).toNat j) Z T) (hij : i ≤ j) (hd : (¬ (x.mx = -1 ∨ (had : Int) < x.mx) ∧ e = j) ∨ ((x.mx = -1 ∨ (had : Int) < x.mx) ∧ e = (i : Int) - 1 ∧ ¬ (x.mn ≤ (had : Int) ∧ 0 < had)) ∨ ((x.mx = -1 ∨ (had : Int) < x.mx) ∧ e = i ∧ x.mn ≤ (had : Int) ∧ 0 < had)) : GRnd n x y js had i j c (rEs x had i j) Z T := by
  rw [← rEs_done hij hd]; exact h
end Go.HL.Kl.Mc
namespace Go.HL.Kl.Mc
open Go Go.HL Go.HL.Kl AskE
section
variable {n : Nat} {x : Nd} {c : Caps} {i j : Nat}
theorem gT1 (h : goodT n x c i j) (o : x.op = 1) : j = i + 1 := by
  rcases h with ⟨_, h⟩ | ⟨h, _⟩ | ⟨h, _⟩ | ⟨h, _⟩ <;> omega
theorem gT2 (h : goodT n x c i j) (o : x.op = 2) : i = 0 ∧ j = 0 := by
  rcases h with ⟨h, _⟩ | ⟨_, h⟩ | ⟨h, _⟩ | ⟨h, _⟩ <;> omega
theorem gT3 (h : goodT n x c i j) (o : x.op = 3) : i = n ∧ j = n := by
  rcases h with ⟨h, _⟩ | ⟨h, _⟩ | ⟨_, h⟩ | ⟨h, _⟩ <;> omega
theorem gT8 (h : goodT n x c i j) (o : x.op = 8) (hn : 1 ≤ x.n) {s : Sp} (hs : c[(x.n - 1).toNat]? = some s) : 0 ≤ s.fr ∧ s.to - s.fr = (j : Int) - i := by
  rcases h with ⟨h, _⟩ | ⟨h, _⟩ | ⟨h, _⟩ | ⟨_, h1, h2⟩
  · omega
  · omega
  · omega
  · rw [List.getD_eq_getElem?_getD, show x.n.toNat - 1 = (x.n - 1).toNat by omega, hs] at h1 h2
    exact ⟨h1, h2⟩
end
end Go.HL.Kl.Mc
namespace Go.HL.Kl.Mc
open Go Go.HL Go.HL.Kl AskE
def LAcc (n : Nat) (x : Nd) (ks : F) (c : Caps) (ps : List (Nat × Nat)) (T : Int) : Prop := ∃ cost : Nat → Nat → Nat, (∀ p ∈ ps, ∃ Z, Ct n (.node x ks p.1 p.2 c) Z (cost p.1 p.2)) ∧ (((ps.map fun p => cost p.1 p.2).sum : Nat) : Int) ≤ 3 * T
theorem LAcc.nil {n : Nat} {x : Nd} {ks : F} {c : Caps} {T : Int} (h : 0 ≤ T) : LAcc n x ks c [] T := ⟨fun _ _ => 0, fun p h => (by cases h), by simp; omega⟩
theorem LAcc.snoc {n : Nat} {x : Nd} {ks : F} {c : Caps} {ps : List (Nat × Nat)} {T t : Int} (h : LAcc n x ks c ps T) {i j : Nat} {Z : List Caps} (hc : NodeC' n x ks i j c Z t) : LAcc n x ks c (ps ++ [(i, j)]) (T + t) := by
  obtain ⟨cost, h1, h2⟩ := h
  obtain ⟨k, c1, c2⟩ := hc
  by_cases hm : (i, j) ∈ ps ∧ cost i j ≤ k
  · refine ⟨cost, fun p hp => ?_, ?_⟩
    · rcases List.mem_append.1 hp with hp | hp
      · exact h1 p hp
      · obtain rfl := List.mem_singleton.1 hp; exact h1 _ hm.1
    · rw [List.map_append, List.sum_append]
      simp only [List.map_cons, List.map_nil, List.sum_cons, List.sum_nil]
      omega
  · refine ⟨fun a b => if a = i ∧ b = j then k else cost a b, fun p hp => ?_, ?_⟩
    · by_cases e : p.1 = i ∧ p.2 = j
      · refine ⟨Z, ?_⟩
        simp only [if_pos e]
        rw [e.1, e.2]; exact c1
      · simp only [if_neg e]
        exact h1 p ((List.mem_append.1 hp).resolve_right fun h => e (by obtain rfl := List.mem_singleton.1 h; exact ⟨rfl, rfl⟩))
    · rw [List.map_append, List.sum_append]
      simp only [List.map_cons, List.map_nil, List.sum_cons, List.sum_nil, and_self, if_true]
      have hs : (ps.map fun p => if p.1 = i ∧ p.2 = j then k else cost p.1 p.2).sum ≤ (ps.map fun p => cost p.1 p.2).sum := sum_le fun p hp => by
        by_cases e : p.1 = i ∧ p.2 = j
        · rw [if_pos e, e.1, e.2]
          have : ¬ cost i j ≤ k := fun h => hm ⟨by rw [← e.1, ← e.2]; exact hp, h⟩
          omega
        · rw [if_neg e]; exact Nat.le_refl _
      omega
theorem LAcc.mono {n : Nat} {x : Nd} {ks : F} {c : Caps} {ps : List (Nat × Nat)} {T T' : Int} (h : LAcc n x ks c ps T) (ht : T ≤ T') : LAcc n x ks c ps T' := by
  obtain ⟨cost, h1, h2⟩ := h
  exact ⟨cost, h1, by omega⟩
def rowP (n i : Nat) (es : List Nat) : List (Nat × Nat) := es.map fun j => (i, j)
def prs (n p : Nat) : List (Nat × Nat) := (List.range p).flatMap fun i => rowP n i (ends i n)
theorem prs_succ {n p : Nat} : prs n (p + 1) = prs n p ++ rowP n p (ends p n) := by simp [prs, List.range_succ, List.flatMap_append]
theorem rowP_snoc {n p j : Nat} (h : j ≤ n) : rowP n p (ends j n) = rowP n p (ends (j + 1) n) ++ [(p, j)] := by unfold rowP; rw [ends_snoc h, List.map_append]; rfl
theorem rowP_none {n p : Nat} : rowP n p (ends (n + 1) n) = [] := by unfold rowP; rw [ends_none]; rfl
theorem mem_prs {n p i j : Nat} (h1 : i < p) (h2 : i ≤ j) (h3 : j ≤ n) : (i, j) ∈ prs n p := by
  unfold prs
  rw [List.mem_flatMap]
  exact ⟨i, List.mem_range.2 h1, List.mem_map.2 ⟨j, mem_ends.2 ⟨h2, h3⟩, rfl⟩⟩
def BehU (re : List Nd) (bl : List Nat) (a b : Nat) : Prop := ∀ k y js r e, a ≤ k → k < b → Part re (.nd y js r) k e → bl[k]? = some (k + 1 + js.size)
theorem BehU.nil {re : List Nd} {bl : List Nat} {a : Nat} : BehU re bl a a := fun k _ _ _ _ h1 h2 => by omega
theorem BehU.cat {re : List Nd} {bl bl' : List Nat} {a b c : Nat} (h : BehU re bl a b) (hb : ∀ k, k < b → bl'[k]? = bl[k]?) (h' : BehU re bl' b c) : BehU re bl' a c := fun k y js r e h1 h2 hp => by
  by_cases hk : k < b
  · rw [hb k hk]; exact h k y js r e h1 hk hp
  · exact h' k y js r e (by omega) h2 hp
theorem BehU.top {re : List Nd} {bl : List Nat} {x : Nd} {ks : F} {at_ e : Nat} (hp : Part re (.nd x ks .nil) at_ e) (h : BehU re bl (at_ + 1) e) (hl : at_ < bl.length) (he : e = at_ + 1 + ks.size) : BehU re (bl.set at_ e) at_ e := fun k y js r e' h1 h2 hp' => by
  by_cases hk : k = at_
  · subst hk
    have hu : js = ks := by
      obtain ⟨h3, _, _⟩ := hp.head
      obtain ⟨h4, _, _⟩ := hp'.head
      rw [h3] at h4
      cases h4
      exact hp'.uniq hp
    rw [List.getElem?_set_self hl, hu, he]
  · rw [List.getElem?_set_ne (by omega)]
    exact h k y js r e' (by omega) h2 hp'
/-- what is left to pay, place by place -/
def rsum (cost : Nat → Nat → Nat) (n : Nat) : Nat → Nat
  | 0 => 0
  | m + 1 => ((ends (n - m) n).map (cost (n - m))).sum + rsum cost n m
theorem rsum_prs {cost : Nat → Nat → Nat} {n : Nat} : ∀ m, m ≤ n + 1 → ((prs n (n + 1 - m)).map fun p => cost p.1 p.2).sum + rsum cost n m = ((prs n (n + 1)).map fun p => cost p.1 p.2).sum
  | 0, _ => by simp [rsum]
  | m + 1, hm => by
    have ih := rsum_prs (cost := cost) (n := n) m (by omega)
    have e : n + 1 - m = (n - m) + 1 := by omega
    rw [e, prs_succ, List.map_append, List.sum_append] at ih
    have e2 : ((rowP n (n - m) (ends (n - m) n)).map fun p => cost p.1 p.2).sum = ((ends (n - m) n).map (cost (n - m))).sum := by
      unfold rowP; rw [List.map_map]; rfl
    rw [e2] at ih
    rw [rsum, show n + 1 - (m + 1) = n - m by omega]
    omega
theorem rsum_le {cost : Nat → Nat → Nat} {n m : Nat} (h : m ≤ n + 1) : rsum cost n m ≤ ((prs n (n + 1)).map fun p => cost p.1 p.2).sum := by
  have := rsum_prs (cost := cost) m h; omega
end Go.HL.Kl.Mc
namespace Go.Proofs.YtloepfcndglmmaaDoor
open Go Go.HL Go.Proofs Go.HL.Kl Go.HL.Kl.Mc Go.HL.Kl.Mc.AskE
theorem groups_fn (ra : Option Addr) (rc : Nat) (re : List Nd) (hre : ∀ x ∈ re, -128 ≤ x.op ∧ x.op < 128) : HL.Fn Tryd.prog 25 [.slice ra re.length rc] (fun w => Rd En w (.slice ra re.length rc) re) [] (fun v _ => v = .int .i64 ((if shapedB re = true then gcn re else 0 : Nat) : Int)) := by
  refine fn_of Tryd.func25 rfl rfl rfl fun w0 hw => ?_
  have hsl := hw.sl
  have hbl := hsl.le
  refine c_seq fun _ hK1 => ?_
  refine c_region ?_
  refine o_step rfl (s_assign rfl) ?_
  refine o_nil ?_
  refine x_then (hK1 _ _ ?_)
  refine c_seq fun _ hK2 => ?_
  refine c_region ?_
  refine o_step rfl (s_assign rfl) ?_
  refine o_nil ?_
  refine x_then (hK2 _ _ ?_)
  refine c_seq fun _ hK3 => ?_
  refine c_seq fun _ hK4 => ?_
  refine c_region ?_
  refine o_step rfl (s_move rfl) ?_
  refine o_callP (shaped_fn ra rc re hre) rfl rfl rfl (fun w st => (RdK.old0 hw).out w st) (fun v7 hv7 => ?_)
  subst hv7
  cases hsb : shapedB re
  ·
   refine o_nil ?_
   refine x_then (hK4 _ _ ?_)
   refine c_false rfl ?_
   refine c_skip ?_
   refine x_then (hK3 _ _ ?_)
   refine c_seq fun _ hK5 => ?_
   refine c_region ?_
   refine o_step rfl (s_move rfl) ?_
   refine o_step rfl (s_assign rfl) ?_
   refine o_nil ?_
   refine x_then (hK5 _ _ ?_)
   refine c_ret ?_
   refine ?_
   exact x_ret rfl (.tmp rfl (.nil)) ((by rw [hsb]; rfl))
  ·
   refine o_nil ?_
   refine x_then (hK4 _ _ ?_)
   refine c_true rfl ?_
   refine c_seq fun _ hK6 => ?_
   refine c_region ?_
   refine o_step rfl (s_move rfl) ?_
   refine o_step rfl (s_len rfl) ?_
   refine o_step rfl (s_move rfl) ?_
   refine o_nil ?_
   refine x_then (hK6 _ _ ?_)
   refine c_block ?_
   refine c_loopB (fun (j : Nat) => j ≤ re.length) (fun (j : Nat) => [(10, .int .i64 j), (3, .int .i64 (gcn (re.take j) : Nat))]) [(2, _), (8, _), (9, _)] (fun (j : Nat) => _) (fun (j : Nat) => re.length - j) 0 (Nat.zero_le _) sbA sbA hzB ?_
   rintro j hj
   refine c_seq fun _ hK7 => ?_
   refine c_region ?_
   by_cases hjl : j < re.length
   ·
    obtain ⟨x, hx⟩ : ∃ x, re[j]? = some x := ⟨_, List.getElem?_eq_getElem hjl⟩
    have hxo := hre x (List.mem_of_getElem? hx)
    have hgl : gcn (re.take j) ≤ j := by have h1 := List.countP_le_length (p := fun x => decide (x.op = 7)) (l := re.take j); rw [List.length_take] at h1; unfold gcn; omega
    refine o_step rfl (step_cast (v' := .bool true) (s_lss rfl rfl) (by rw [decide_eq_true (by omega)])) ?_
    refine o_nil ?_
    refine x_then (hK7 _ _ ?_)
    refine c_seq fun _ hK8 => ?_
    refine c_true rfl ?_
    refine c_skip ?_
    refine x_then (hK8 _ _ ?_)
    refine c_seq fun _ hK9 => ?_
    refine c_block ?_
    refine c_seq fun _ hK10 => ?_
    refine c_region ?_
    refine o_step rfl (s_idx rfl rfl hsl (by omega)) ?_
    refine o_step rfl (s_ldB rfl ((RdK.old0 hw).lds j hx rfl) (by rfl)) ?_
    refine o_alloc (l := En zN) (by rw [En_zero]; rfl) rfl fun b5 => ?_
    refine o_stW rfl rfl upA lnA lnA onA ?_
    refine o_nil ?_
    refine x_then (hK10 _ _ ?_)
    refine c_seq fun _ hK11 => ?_
    refine c_region ?_
    refine o_step rfl (s_field rfl rfl (by decide)) ?_
    refine o_step rfl (s_ld rfl (.own meA rfl)) ?_
    by_cases h7 : x.op = 7
    ·
     refine o_step rfl (step_cast (v' := .bool true) (s_eql rfl rfl) (by rw [decide_eq_true h7])) ?_
     refine o_nil ?_
     refine x_then (hK11 _ _ ?_)
     refine c_true rfl ?_
     refine c_region ?_
     refine o_step rfl (s_move rfl) ?_
     refine o_step rfl (s_add rfl rfl (by omega)) ?_
     refine o_step rfl (s_assign rfl) ?_
     refine o_nil ?_
     refine x_block ?_
     refine x_then (hK9 _ _ ?_)
     refine c_region ?_
     refine o_step rfl (s_add rfl rfl (by omega)) ?_
     refine o_step rfl (s_move rfl) ?_
     refine o_nil ?_
     exact x_then (x_inv (j + 1) (by omega) (by first | omega | (dsimp only; omega)) (by exact Sub.cons rfl (Sub.cons' rfl (by rw [gcn_take hx, if_pos h7]; rfl) sbA)) hzB)
    ·
     refine o_step rfl (step_cast (v' := .bool false) (s_eql rfl rfl) (by rw [decide_eq_false h7])) ?_
     refine o_nil ?_
     refine x_then (hK11 _ _ ?_)
     refine c_false rfl ?_
     refine c_skip ?_
     refine x_block ?_
     refine x_then (hK9 _ _ ?_)
     refine c_region ?_
     refine o_step rfl (s_add rfl rfl (by omega)) ?_
     refine o_step rfl (s_move rfl) ?_
     refine o_nil ?_
     exact x_then (x_inv (j + 1) (by omega) (by first | omega | (dsimp only; omega)) (by exact Sub.cons rfl (Sub.cons' rfl (by rw [gcn_take hx, if_neg h7]; rfl) sbA)) hzB)
   ·
    obtain rfl : j = re.length := by omega
    refine o_step rfl (step_cast (v' := .bool false) (s_lss rfl rfl) (by rw [decide_eq_false (by omega)])) ?_
    refine o_nil ?_
    refine x_then (hK7 _ _ ?_)
    refine c_seq fun _ hK12 => ?_
    refine c_false rfl ?_
    refine c_exit ?_
    refine x_then_exit ?_
    refine x_then_exit ?_
    refine x_block_exit ?_
    refine x_then (hK3 _ _ ?_)
    refine c_seq fun _ hK13 => ?_
    refine c_region ?_
    refine o_step rfl (s_move rfl) ?_
    refine o_step rfl (s_assign rfl) ?_
    refine o_nil ?_
    refine x_then (hK13 _ _ ?_)
    refine c_ret ?_
    refine ?_
    exact x_ret rfl (.tmp rfl (.nil)) ((by rw [hsb, List.take_length]; rfl))
end Go.Proofs.YtloepfcndglmmaaDoor
