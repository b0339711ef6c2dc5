/- Part of the proofs over this seat: see the text that holds the theorem. Conditions: each theorem bears its own. -/
import Derived.Test.YtafbigmneipkiaaDoorMB2
import Derived.Test.YtafbigmneipkiaaDoorMC13
namespace Go.HL.Kl.Bk
open Go Go.HL Go.Tab

theorem thP_ok {l : List Mk} {a a' i : Nat} {t : Th} (h : thP l a i = .ok t) : thP l a' i = .ok t := by
  rcases thP_at l i with ⟨t', h'⟩ | h' | h'
  · rw [h'] at h ⊢; exact h
  · rw [h'] at h; cases h
  · rw [h'] at h; cases h
theorem itemP_ok {l : List Mk} {a a' i : Nat} {f : Bool} {t : Th} (h : itemP l a i f = .ok t) : itemP l a' i f = .ok t := by
  unfold itemP at h ⊢
  cases h1 : thP l a i with
  | bad e p => rw [h1] at h; cases h
  | ok x =>
    rw [thP_ok (a' := a') h1]
    rw [h1] at h
    simp only at h ⊢
    split
    · rename_i hc
      rw [if_pos hc] at h
      split at h <;> cases h
    · rename_i hc
      rw [if_neg hc] at h
      split
      · rename_i hd
        rw [if_pos hd] at h
        exact h
      · rename_i hd
        rw [if_neg hd] at h
        split
        · rename_i he
          rw [if_pos he] at h; cases h
        · rename_i he
          rw [if_neg he] at h
          cases h2 : thP l a (x.next + 1) with
          | bad e p => rw [h2] at h; cases h
          | ok y =>
            rw [h2] at h
            rw [thP_ok (a' := a') h2]
            exact h
theorem itemP_pre {A l : List Mk} {a a' : Nat} {f : Bool} {t : Th} (h : itemP l a 0 f = .ok t) : itemP (A ++ l) a' A.length f = .ok { t with next := A.length + t.next } := by
  have := itemP_app (A := A) (l := l) (a := a) (i := 0) (f := f)
  rw [h] at this
  exact itemP_ok this

/-! how a class is written -/
def sgn (b : UInt8) : Mk := ⟨b, false⟩
def endM (b : UInt8) : List Mk := if b = 91 ∨ b = 93 ∨ b = 45 ∨ b = 94 then [sgn 91, sgn 46, sgn b, sgn 46, sgn 93] else [sgn b]
def runM (r : Nat × Nat) : List Mk := endM (UInt8.ofNat r.1) ++ if r.2 = r.1 then [] else sgn 45 :: endM (UInt8.ofNat r.2)
def neg (c : Cl) : Bool := decide (c ≠ rng 0 255) && (c.getLsbD 10 || decide (c = 0))
def body (c : Cl) : Cl := if neg c = true then ~~~c else c
def printP (c : Cl) : List Mk := sgn 91 :: ((if neg c = true then [sgn 94] else []) ++ ((runs (body c)).flatMap runM ++ [sgn 93]))
theorem endM_head (b : UInt8) (rest : List Mk) {x : UInt8} (hx : x = 93 ∨ x = 45 ∨ x = 94) : sg (endM b ++ rest) 0 x = false := by
  unfold endM
  split
  · rcases hx with rfl | rfl | rfl <;> simp [sg, sgn]
  · rename_i h
    simp only [sg, sgn, List.singleton_append, List.getElem?_cons_zero, Option.some.injEq, Mk.mk.injEq, and_true]
    refine decide_eq_false fun e => h ?_
    rcases hx with rfl | rfl | rfl <;> simp [e]
theorem endM_pos (b : UInt8) : 0 < (endM b).length := by unfold endM; split <;> simp
theorem thP_end (b : UInt8) (rest : List Mk) (a : Nat) : thP (endM b ++ rest) a 0 = .ok ⟨ofL [b], b, true, (endM b).length⟩ := by
  unfold endM
  split
  · simp [thP, encP, sg, sgn, mk0]
  · rename_i h
    have h1 : b ≠ 91 := fun e => h (.inl e)
    simp [thP, sg, sgn, mk0, oneP, h1]
theorem item_run {r : Nat × Nat} (h1 : r.1 ≤ r.2) (h2 : r.2 < 256) (rest : List Mk) (hr : sg rest 0 45 = false) (a : Nat) (f : Bool) :
    ∃ t, itemP (runM r ++ rest) a 0 f = .ok t ∧ t.set = rng r.1 r.2 ∧ t.next = (runM r).length := by
  have e1 : (UInt8.ofNat r.1).toNat = r.1 := UInt8.toNat_ofNat_of_lt' (by simp [UInt8.size]; omega)
  have e2 : (UInt8.ofNat r.2).toNat = r.2 := UInt8.toNat_ofNat_of_lt' (by simp [UInt8.size]; omega)
  by_cases he : r.2 = r.1
  · have er : runM r = endM (UInt8.ofNat r.1) := by rw [runM, if_pos he, List.append_nil]
    rw [er]
    refine ⟨⟨ofL [UInt8.ofNat r.1], UInt8.ofNat r.1, true, (endM (UInt8.ofNat r.1)).length⟩, ?_, ?_, rfl⟩
    · simp only [itemP, thP_end]
      have h3 : sg (endM (UInt8.ofNat r.1) ++ rest) (endM (UInt8.ofNat r.1)).length 45 = false := by
        have := sg_app (A := endM (UInt8.ofNat r.1)) (l := rest) (i := 0) (b := 45)
        rw [Nat.add_zero] at this
        rw [this, hr]
      rw [if_neg (by rintro ⟨h, _⟩; rw [endM_head _ _ (.inr (.inl rfl))] at h; cases h), if_pos (.inl h3)]
    · rw [he, rng_one]; show ofL _ = _; rw [ofL_one, e1]
  · have er : runM r ++ rest = endM (UInt8.ofNat r.1) ++ (sgn 45 :: (endM (UInt8.ofNat r.2) ++ rest)) := by rw [runM, if_neg he]; simp
    have er2 : runM r ++ rest = (endM (UInt8.ofNat r.1) ++ [sgn 45]) ++ (endM (UInt8.ofNat r.2) ++ rest) := by rw [er]; simp
    have hlen : (runM r).length = (endM (UInt8.ofNat r.1)).length + 1 + (endM (UInt8.ofNat r.2)).length := by rw [runM, if_neg he]; simp; omega
    refine ⟨⟨rng r.1 r.2, 0, false, (runM r).length⟩, ?_, rfl, rfl⟩
    have t1 : thP (runM r ++ rest) a 0 = .ok ⟨ofL [UInt8.ofNat r.1], UInt8.ofNat r.1, true, (endM (UInt8.ofNat r.1)).length⟩ := by rw [er]; exact thP_end _ _ _
    have t2 : thP (runM r ++ rest) a ((endM (UInt8.ofNat r.1)).length + 1) = .ok ⟨ofL [UInt8.ofNat r.2], UInt8.ofNat r.2, true, (runM r).length⟩ := by
      have h := thP_app (A := endM (UInt8.ofNat r.1) ++ [sgn 45]) (l := endM (UInt8.ofNat r.2) ++ rest) (a := 0) (i := 0)
      rw [thP_end, ← er2] at h
      simp only [R.sh, List.length_append, List.length_singleton, Nat.add_zero] at h
      rw [hlen]
      exact thP_ok h
    have g1 : sg (runM r ++ rest) 0 45 = false := by rw [er]; exact endM_head _ _ (.inr (.inl rfl))
    have g2 : sg (runM r ++ rest) (endM (UInt8.ofNat r.1)).length 45 = true := by
      have := sg_app (A := endM (UInt8.ofNat r.1)) (l := sgn 45 :: (endM (UInt8.ofNat r.2) ++ rest)) (i := 0) (b := 45)
      rw [Nat.add_zero] at this
      rw [er, this]; rfl
    have g3 : sg (runM r ++ rest) ((endM (UInt8.ofNat r.1)).length + 1) 93 = false := by
      have := sg_app (A := endM (UInt8.ofNat r.1) ++ [sgn 45]) (l := endM (UInt8.ofNat r.2) ++ rest) (i := 0) (b := 93)
      simp only [List.length_append, List.length_singleton, Nat.add_zero] at this
      rw [er2, this]
      exact endM_head _ _ (.inl rfl)
    have hp := endM_pos (UInt8.ofNat r.2)
    simp only [itemP, t1, t2]
    rw [if_neg (by rintro ⟨h, _⟩; rw [g1] at h; cases h), if_neg (by
      rintro (h | h | h)
      · rw [g2] at h; cases h
      · simp only [List.length_append] at h; omega
      · rw [g3] at h; cases h), if_neg (by decide), if_neg (by
      rintro (h | h)
      · cases h
      · rw [e1, e2] at h; omega), e1, e2]
theorem orR_cons (r : Nat × Nat) (l : List (Nat × Nat)) : orR (r :: l) = rng r.1 r.2 ||| orR l := by
  have key : ∀ (l : List (Nat × Nat)) (c : Cl), l.foldl (fun c r => c ||| rng r.1 r.2) c = c ||| l.foldl (fun c r => c ||| rng r.1 r.2) 0 := by
    intro l
    induction l with
    | nil => intro c; simp
    | cons x l ih =>
      intro c
      simp only [List.foldl_cons]
      rw [ih (c ||| rng x.1 x.2), ih ((0 : Cl) ||| rng x.1 x.2)]
      simp [BitVec.or_assoc]
  simp only [orR, List.foldl_cons]
  rw [key l ((0 : Cl) ||| rng r.1 r.2)]
  simp
theorem runM_head (r : Nat × Nat) (rest : List Mk) {x : UInt8} (hx : x = 93 ∨ x = 45 ∨ x = 94) : sg (runM r ++ rest) 0 x = false := by
  rw [runM, List.append_assoc]; exact endM_head _ _ hx
theorem loop_runs (bh : List Mk) (a : Nat) : ∀ (rs : List (Nat × Nat)) (A : List Mk) (n : Nat) (f : Bool) (c : Cl), rs ≠ [] → (∀ r ∈ rs, r.1 ≤ r.2 ∧ r.2 < 256) → rs.length ≤ n →
    loopP (A ++ (rs.flatMap runM ++ (sgn 93 :: bh))) a n A.length f c = .ok (c ||| orR rs) (A.length + (rs.flatMap runM).length)
  | [], _, _, _, _, h, _, _ => absurd rfl h
  | _ :: _, _, 0, _, _, _, _, h => by simp at h
  | r :: rs, A, n + 1, f, c, _, hr, hn => by
    have e : A ++ ((r :: rs).flatMap runM ++ (sgn 93 :: bh)) = A ++ (runM r ++ (rs.flatMap runM ++ (sgn 93 :: bh))) := by simp
    have hd : ∀ x, x = 93 ∨ x = 45 → sg (rs.flatMap runM ++ (sgn 93 :: bh)) 0 x = (decide (rs = []) && decide (x = 93)) := by
      intro x hx
      cases rs with
      | nil => rcases hx with rfl | rfl <;> rfl
      | cons r' rs' =>
        rw [List.flatMap_cons, List.append_assoc]
        rw [runM_head _ _ (hx.elim .inl fun h => .inr (.inl h))]
        simp
    obtain ⟨t, ht, hs, hx⟩ := item_run (hr r List.mem_cons_self).1 (hr r List.mem_cons_self).2 (rs.flatMap runM ++ (sgn 93 :: bh)) (by rw [hd 45 (.inr rfl)]; simp) 0 f
    have hi := itemP_pre (A := A) (a' := a) ht
    rw [e]
    simp only [loopP, hi]
    have g : sg (A ++ (runM r ++ (rs.flatMap runM ++ (sgn 93 :: bh)))) (A.length + t.next) 93 = decide (rs = []) := by
      rw [hx, ← List.append_assoc, ← List.length_append]
      have := sg_app (A := A ++ runM r) (l := rs.flatMap runM ++ (sgn 93 :: bh)) (i := 0) (b := 93)
      rw [Nat.add_zero] at this
      rw [this, hd 93 (.inl rfl)]; simp
    rw [g, hs, hx, orR_cons]
    cases rs with
    | nil =>
      rw [if_pos (by simp)]
      simp [orR]
    | cons r' rs' =>
      rw [if_neg (by simp)]
      have ih := loop_runs bh a (r' :: rs') (A ++ runM r) n false (c ||| rng r.1 r.2) (by simp) (fun q hq => hr q (List.mem_cons_of_mem _ hq)) (by simp at hn ⊢; omega)
      rw [List.append_assoc, List.length_append] at ih
      rw [ih]
      congr 1
      · rw [BitVec.or_assoc]
      · simp only [List.flatMap_cons, List.length_append]; omega
theorem body_ne (c : Cl) : body c ≠ 0 := by
  have hall : rng 0 255 = BitVec.allOnes 256 := by decide +kernel
  unfold body neg
  by_cases h1 : c = rng 0 255
  · subst h1
    have e : (decide (rng 0 255 ≠ rng 0 255) && ((rng 0 255).getLsbD 10 || decide (rng 0 255 = 0))) = false := by simp
    rw [e]
    intro h
    rw [if_neg (by simp), hall] at h
    revert h; decide +kernel
  · by_cases h2 : (c.getLsbD 10 || decide (c = 0)) = true
    · rw [h2, decide_eq_true h1, if_pos (by rfl)]
      intro h
      apply h1
      rw [hall]
      have := congrArg (fun x => ~~~x) h
      simpa using this
    · have h2' : (c.getLsbD 10 || decide (c = 0)) = false := by simpa using h2
      rw [h2', Bool.and_false, if_neg (by simp)]
      simp only [Bool.or_eq_false_iff, decide_eq_false_iff_not] at h2'
      exact h2'.2
theorem runs_ne (c : Cl) (h : c ≠ 0) : runs c ≠ [] := fun e => h (by have := orR_runs c; rw [e] at this; rw [← this]; rfl)
/-- what is written is read back, among any marks -/
theorem back (c : Cl) (A B : List Mk) : parseP (A ++ (printP c ++ B)) A.length = (c, (A.length : Int) + (printP c).length, 0) := by
  have hrr := runs_rise (body c)
  have hr : ∀ r ∈ runs (body c), r.1 ≤ r.2 ∧ r.2 < 256 := by
    intro r hm
    obtain ⟨i, hi, rfl⟩ := List.getElem_of_mem hm
    have := hrr i _ (List.getElem?_eq_getElem hi)
    exact ⟨this.1, this.2.1⟩
  have hne := runs_ne _ (body_ne c)
  have hln := runs_le (body c)
  have h0 : sg (printP c ++ B) 0 91 = true := by simp [printP, sg, sgn]
  have h1 : sg (printP c ++ B) 1 94 = neg c := by
    unfold printP
    cases hn : neg c with
    | true => simp [sg, sgn]
    | false =>
      have hb : body c = c := by rw [body, hn]; rfl
      rw [if_neg (by decide), List.nil_append]
      have := sg_app (A := [sgn 91]) (l := (runs (body c)).flatMap runM ++ [sgn 93] ++ B) (i := 0) (b := 94)
      simp only [List.length_singleton, Nat.add_zero] at this
      rw [List.cons_append]
      rw [List.singleton_append] at this
      rw [this]
      cases hq : runs (body c) with
      | nil => exact absurd hq hne
      | cons r rs => rw [List.flatMap_cons, List.append_assoc, List.append_assoc]; exact runM_head _ _ (.inr (.inr rfl))
  have hl := loop_runs B 0 (runs (body c)) (sgn 91 :: (if neg c = true then [sgn 94] else [])) ((printP c ++ B).length + 1) true 0 hne hr (by
    have : ((runs (body c)).flatMap runM).length ≥ (runs (body c)).length := by
      have : ∀ l : List (Nat × Nat), l.length ≤ (l.flatMap runM).length := by
        intro l
        induction l with
        | nil => simp
        | cons r l ih =>
          have := endM_pos (UInt8.ofNat r.1)
          simp only [List.flatMap_cons, List.length_append, List.length_cons, runM] at ih ⊢
          omega
      exact this _
    simp only [printP, List.length_append, List.length_cons]; omega)
  have eL : (sgn 91 :: (if neg c = true then [sgn 94] else [])) ++ ((runs (body c)).flatMap runM ++ (sgn 93 :: B)) = printP c ++ B := by simp [printP]
  have eA : (sgn 91 :: (if neg c = true then [sgn 94] else [])).length = 1 + (if sg (printP c ++ B) 1 94 = true then 1 else 0) := by
    rw [h1]; split <;> simp
  rw [eL, eA, orR_runs] at hl
  have := parseP_ok (A := A) h0 hl
  rw [this, h1]
  have hlen : (printP c).length = 1 + (if sg (printP c ++ B) 1 94 = true then 1 else 0) + ((runs (body c)).flatMap runM).length + 1 := by
    rw [h1]; simp only [printP]; split <;> simp <;> omega
  refine Prod.ext ?_ (Prod.ext ?_ rfl)
  · show (if neg c = true then ~~~((0 : Cl) ||| body c) else (0 : Cl) ||| body c) = c
    unfold body
    split <;> simp
  · show (A.length : Int) + ((1 + _ + _ : Nat) : Int) + 1 = _
    rw [hlen, h1]
    generalize (if neg c = true then 1 else 0 : Nat) = kk
    dsimp only
    omega
theorem orR_has {l : List (Nat × Nat)} {r : Nat × Nat} (hm : r ∈ l) {x : Nat} (hx : x < 256) (h : (rng r.1 r.2).getLsbD x = true) : (orR l).getLsbD x = true := by
  induction l with
  | nil => cases hm
  | cons q l ih =>
    rw [orR_cons, BitVec.getLsbD_or]
    rcases List.mem_cons.1 hm with e | hm
    · subst e; rw [h]; rfl
    · rw [ih hm]; simp
theorem runs_all : runs (rng 0 255) = [(0, 255)] := by decide +kernel
theorem runs_ten (c : Cl) : ∀ r ∈ runs (body c), r.1 ≠ 10 ∧ r.2 ≠ 10 := by
  have hall : rng 0 255 = BitVec.allOnes 256 := by decide +kernel
  have h2 : body c = rng 0 255 ∨ (body c).getLsbD 10 = false := by
    unfold body
    by_cases h1 : c = rng 0 255
    · refine .inl ?_
      subst h1
      have e : neg (rng 0 255) = false := by simp [neg]
      rw [e]; rfl
    · by_cases hz : c = 0
      · refine .inl ?_
        subst hz
        have e : neg 0 = true := by decide +kernel
        rw [e, hall]; decide +kernel
      · refine .inr ?_
        have e : neg c = c.getLsbD 10 := by rw [neg, decide_eq_true h1, decide_eq_false hz, Bool.or_false, Bool.true_and]
        rw [e]
        cases h3 : c.getLsbD 10 with
        | true => rw [if_pos rfl, BitVec.getLsbD_not, h3]; rfl
        | false => rw [if_neg (by decide)]; exact h3
  intro r hr
  rcases h2 with h2 | h2
  · rw [h2, runs_all] at hr
    have := List.mem_singleton.1 hr
    subst this
    exact ⟨by decide, by decide⟩
  · have hg := runs_rise (body c)
    obtain ⟨i, hi, rfl⟩ := List.getElem_of_mem hr
    have h3 := hg i _ (List.getElem?_eq_getElem hi)
    have h4 : ∀ x, x < 256 → (rng (runs (body c))[i].1 (runs (body c))[i].2).getLsbD x = true → (body c).getLsbD x = true := by
      intro x hx h
      have := orR_has hr hx h
      rwa [orR_runs] at this
    refine ⟨fun e => ?_, fun e => ?_⟩
    · have := h4 10 (by decide) (by rw [rng_get (by decide)]; simp; omega)
      rw [h2] at this; cases this
    · have := h4 10 (by decide) (by rw [rng_get (by decide)]; simp; omega)
      rw [h2] at this; cases this
/-- none of the marks is plain, or a line end -/
theorem endM_mem {b : UInt8} (hb : b ≠ 10) : ∀ m ∈ endM b, m.p = false ∧ m.b ≠ 10 := by
  intro m hm
  unfold endM at hm
  split at hm
  · simp only [List.mem_cons, List.not_mem_nil, or_false] at hm
    rcases hm with rfl | rfl | rfl | rfl | rfl <;> first | exact ⟨rfl, by decide⟩ | exact ⟨rfl, hb⟩
  · have := List.mem_singleton.1 hm
    subst this
    exact ⟨rfl, hb⟩
theorem print_mem (c : Cl) : ∀ m ∈ printP c, m.p = false ∧ m.b ≠ 10 := by
  have h10 := runs_ten c
  have hrr := runs_rise (body c)
  intro m hm
  simp only [printP, List.mem_cons, List.mem_append, List.mem_flatMap, List.not_mem_nil, or_false] at hm
  rcases hm with rfl | hm | ⟨r, hr, hm⟩ | rfl
  · exact ⟨rfl, by decide⟩
  · split at hm
    · have := List.mem_singleton.1 hm
      subst this; exact ⟨rfl, by decide⟩
    · cases hm
  · have h3 := h10 r hr
    have h4 : r.1 < 256 ∧ r.2 < 256 := by
      obtain ⟨i, hi, rfl⟩ := List.getElem_of_mem hr
      have := hrr i _ (List.getElem?_eq_getElem hi)
      omega
    have hu : ∀ x, x < 256 → x ≠ 10 → UInt8.ofNat x ≠ 10 := fun x hx hn e => hn (by
      have := congrArg UInt8.toNat e
      rwa [UInt8.toNat_ofNat_of_lt' (by simpa [UInt8.size] using hx)] at this)
    rcases List.mem_append.1 hm with hm | hm
    · exact endM_mem (hu _ h4.1 h3.1) m hm
    · split at hm
      · cases hm
      · rcases List.mem_cons.1 hm with rfl | hm
        · exact ⟨rfl, by decide⟩
        · exact endM_mem (hu _ h4.2 h3.2) m hm
  · exact ⟨rfl, by decide⟩
end Go.HL.Kl.Bk
