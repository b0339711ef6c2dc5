/- Mathematics of back-references: all that groups may have taken, the best derivation's first. Conditions: none. -/
import Derived.Test.YtloepfcndglmmaaDoorMT20Z
import Derived.Test.YtloepfcndglmmaaDoorMT9Z
import Derived.Test.YtloepfcndglmmaaDoorHlB
import Derived.Test.YtloepfcndglmmaaDoorVZF1Z
import Derived.Test.YtloepfcndglmmaaDoorVZN1Z
namespace Go.HL.Kl.Mc
open Go Go.HL Go.HL.Kl
abbrev Caps := List Sp
/-- the groups of some nodes have taken nothing -/
def em1 (c : Caps) (x : Nd) : Caps := if x.op = 7 then c.set (x.n.toNat - 1) noS else c
def emp (l : List Nd) (c : Caps) : Caps := l.foldl em1 c
theorem em1_len (c : Caps) (x : Nd) : (em1 c x).length = c.length := by unfold em1; split <;> simp
theorem emp_len : ∀ (l : List Nd) (c : Caps), (emp l c).length = c.length
  | [], c => rfl
  | x :: l, c => by show (emp l (em1 c x)).length = _; rw [emp_len l, em1_len]
/-- does a text stand at two places? -/
def sameAt (w : List UInt8) (x : Sp) (i j : Nat) : Bool := decide (0 ≤ x.fr ∧ x.to - x.fr = (j : Int) - i) && decide ((w.drop x.fr.toNat).take (j - i) = (w.drop i).take (j - i))
/-- the ends from q down to p -/
def down (p : Nat) : Nat → List Nat
  | 0 => []
  | k + 1 => (p + k) :: down p k
def ends (p q : Nat) : List Nat := down p (q + 1 - p)
theorem mem_down {p e : Nat} : ∀ {k : Nat}, e ∈ down p k ↔ p ≤ e ∧ e < p + k
  | 0 => by simp only [down, List.not_mem_nil, false_iff]; omega
  | k + 1 => by rw [down, List.mem_cons, mem_down]; omega
theorem mem_ends {p q e : Nat} : e ∈ ends p q ↔ p ≤ e ∧ e ≤ q := by rw [ends, mem_down]; omega
/-- a repetition that had so many rounds -/
def RL (x : Nd) (B : Nat → Nat → Caps → List Caps) (q : Nat) : Nat → Nat → Nat → Caps → List Caps
  | 0, _, _, _ => []
  | f + 1, had, p, c =>
    (if x.mx = -1 ∨ (had : Int) < x.mx then (ends p q).flatMap (fun e => if e = p ∧ x.mn ≤ (had : Int) ∧ 0 < had then [] else (B p e c).flatMap (fun c1 => RL x B q f (had + 1) e c1)) else []) ++
    (if p = q ∧ x.mn ≤ (had : Int) then [c] else [])
def fuelR (x : Nd) (q had p : Nat) : Nat := (q - p) + (max x.mn.toNat 1 - had) + 1
def RLf (x : Nd) (B : Nat → Nat → Caps → List Caps) (q had p : Nat) (c : Caps) : List Caps := RL x B q (fuelR x q had p) had p c
theorem flatMap_congr' {α β : Type} {f g : α → List β} : ∀ {l : List α}, (∀ a ∈ l, f a = g a) → l.flatMap f = l.flatMap g
  | [], _ => rfl
  | a :: l, h => by rw [List.flatMap_cons, List.flatMap_cons, h a List.mem_cons_self, flatMap_congr' fun b hb => h b (List.mem_cons_of_mem _ hb)]
theorem RL_fuel {x : Nd} {B : Nat → Nat → Caps → List Caps} {q : Nat} : ∀ (f f' had p : Nat) (c : Caps), fuelR x q had p ≤ f → fuelR x q had p ≤ f' → RL x B q f had p c = RL x B q f' had p c
  | 0, _, had, p, c, h, _ => by unfold fuelR at h; omega
  | f + 1, 0, had, p, c, _, h => by unfold fuelR at h; omega
  | f + 1, f' + 1, had, p, c, h, h' => by
    rw [RL, RL]
    congr 1
    split
    · refine flatMap_congr' fun e he => ?_
      have he := mem_ends.1 he
      split
      · rfl
      · rename_i hn
        refine flatMap_congr' fun c1 _ => RL_fuel f f' (had + 1) e c1 ?_ ?_ <;> (unfold fuelR at h h' ⊢; omega)
    · rfl
theorem RLf_eq {x : Nd} {B : Nat → Nat → Caps → List Caps} {q had p : Nat} {c : Caps} : RLf x B q had p c =
    (if x.mx = -1 ∨ (had : Int) < x.mx then (ends p q).flatMap (fun e => if e = p ∧ x.mn ≤ (had : Int) ∧ 0 < had then [] else (B p e c).flatMap (fun c1 => RLf x B q (had + 1) e c1)) else []) ++
    (if p = q ∧ x.mn ≤ (had : Int) then [c] else []) := by
  have e0 : RLf x B q had p c = RL x B q (fuelR x q had p + 1) had p c := RL_fuel _ _ _ _ _ (Nat.le_refl _) (by omega)
  rw [e0, RL]
  congr 1
  split
  · refine flatMap_congr' fun e he => ?_
    have he := mem_ends.1 he
    split
    · rfl
    · exact flatMap_congr' fun c1 _ => RL_fuel _ _ _ _ _ (by unfold fuelR; omega) (Nat.le_refl _)
  · rfl
/-- beyond what counts, rounds are alike -/
theorem RLf_cap {x : Nd} {B : Nat → Nat → Caps → List Caps} {q : Nat} (hx : x.mx = -1) : ∀ (n had had' p : Nat) (c : Caps), q + 1 - p ≤ n → max x.mn.toNat 1 ≤ had → max x.mn.toNat 1 ≤ had' → RLf x B q had p c = RLf x B q had' p c := by
  intro n
  induction n with
  | zero =>
    intro had had' p c hn h1 h2
    rw [RLf_eq, RLf_eq]
    have e0 : ends p q = [] := by rw [ends, show q + 1 - p = 0 by omega]; rfl
    rw [e0, if_neg (show ¬ (p = q ∧ x.mn ≤ (had : Int)) by omega), if_neg (show ¬ (p = q ∧ x.mn ≤ (had' : Int)) by omega)]
    simp
  | succ n ih =>
    intro had had' p c hn h1 h2
    rw [RLf_eq, RLf_eq, if_pos (show x.mx = -1 ∨ (had : Int) < x.mx from .inl hx), if_pos (show x.mx = -1 ∨ (had' : Int) < x.mx from .inl hx)]
    congr 1
    · refine flatMap_congr' fun e he => ?_
      have he := mem_ends.1 he
      by_cases ep : e = p
      · rw [if_pos (show e = p ∧ x.mn ≤ (had : Int) ∧ 0 < had from ⟨ep, by omega, by omega⟩), if_pos (show e = p ∧ x.mn ≤ (had' : Int) ∧ 0 < had' from ⟨ep, by omega, by omega⟩)]
      · rw [if_neg (fun h => ep h.1), if_neg (fun h => ep h.1)]
        exact flatMap_congr' fun c1 _ => ih _ _ e c1 (by omega) (by omega) (by omega)
    · have e1 : (p = q ∧ x.mn ≤ (had : Int)) = (p = q ∧ x.mn ≤ (had' : Int)) := propext ⟨fun h => ⟨h.1, by omega⟩, fun h => ⟨h.1, by omega⟩⟩
      simp only [e1]
/-- of a forest: one behind the other, or one of them -/
def LF (w : List UInt8) : F → Bool → Nat → Nat → Caps → List Caps
  | .nil, md, i, j, c => if md = false ∧ i = j then [c] else []
  | .nd x ks r, md, i, j, c =>
    let one : Nat → Nat → Caps → List Caps := fun i j c =>
      if x.op = 1 then (if j = i + 1 ∧ (∃ b, w[i]? = some b ∧ x.set.getLsbD b.toNat = true) then [c] else [])
      else if x.op = 2 then (if i = 0 ∧ j = 0 then [c] else [])
      else if x.op = 3 then (if i = w.length ∧ j = w.length then [c] else [])
      else if x.op = 8 then (if sameAt w (c.getD (x.n.toNat - 1) noS) i j = true then [c] else [])
      else if x.op = 5 then LF w ks true i j c
      else if x.op = 6 then RLf x (fun p e c => LF w ks false p e (emp ks.flat c)) j 0 i c
      else if x.op = 7 then (LF w ks false i j (emp ks.flat c)).map (fun d => d.set (x.n.toNat - 1) ⟨i, j⟩)
      else LF w ks false i j c
    if md = true then one i j c ++ LF w r true i j c
    else (ends i j).flatMap (fun e => (one i e c).flatMap (fun c1 => LF w r false e j c1))
/-- a list with one more, if it has it not -/
def moreC (l : List Caps) (c : Caps) : List Caps := if c ∈ l then l else l ++ [c]
def addC (l m : List Caps) : List Caps := m.foldl moreC l
/-- captures that are alike at some groups -/
def Sim (R : Nat → Prop) (c c' : Caps) : Prop := c.length = c'.length ∧ ∀ n, R n → c[n]? = c'[n]?
theorem Sim.set {R : Nat → Prop} {c c' : Caps} (h : Sim R c c') (n : Nat) (s : Sp) : Sim R (c.set n s) (c'.set n s) := by
  refine ⟨by simp [h.1], fun m hm => ?_⟩
  by_cases e : n = m
  · subst e
    by_cases hl : n < c.length
    · rw [List.getElem?_set_self hl, List.getElem?_set_self (by rw [← h.1]; exact hl)]
    · rw [List.getElem?_eq_none (by simp; omega), List.getElem?_eq_none (by simp [← h.1]; omega)]
  · rw [List.getElem?_set_ne e, List.getElem?_set_ne e, h.2 m hm]
theorem Sim.emp {R : Nat → Prop} : ∀ (l : List Nd) {c c' : Caps}, Sim R c c' → Sim R (emp l c) (emp l c')
  | [], c, c', h => h
  | x :: l, c, c', h => by
    show Sim R (Mc.emp l (em1 c x)) (Mc.emp l (em1 c' x))
    refine Sim.emp l ?_
    unfold em1
    split
    · exact h.set _ _
    · exact h
/-- lists that are alike, one by one -/
inductive SimL (R : Nat → Prop) : List Caps → List Caps → Prop
  | nil : SimL R [] []
  | cons {c c' : Caps} {l l' : List Caps} (h : Sim R c c') (t : SimL R l l') : SimL R (c :: l) (c' :: l')
theorem SimL.app {R : Nat → Prop} {l l' m m' : List Caps} (h : SimL R l l') (h' : SimL R m m') : SimL R (l ++ m) (l' ++ m') := by
  induction h with
  | nil => exact h'
  | cons a _ ih => exact .cons a ih
theorem SimL.flat {R : Nat → Prop} {f f' : Caps → List Caps} (hf : ∀ c c', Sim R c c' → SimL R (f c) (f' c')) {l l' : List Caps} (h : SimL R l l') : SimL R (l.flatMap f) (l'.flatMap f') := by
  induction h with
  | nil => exact .nil
  | cons a _ ih => rw [List.flatMap_cons, List.flatMap_cons]; exact (hf _ _ a).app ih
theorem SimL.flat1 {R : Nat → Prop} {α : Type} {f f' : α → List Caps} : ∀ (l : List α), (∀ a ∈ l, SimL R (f a) (f' a)) → SimL R (l.flatMap f) (l.flatMap f')
  | [], _ => .nil
  | a :: l, h => by rw [List.flatMap_cons, List.flatMap_cons]; exact (h a List.mem_cons_self).app (SimL.flat1 l fun b hb => h b (List.mem_cons_of_mem _ hb))
theorem SimL.map {R : Nat → Prop} {f : Caps → Caps} (hf : ∀ c c', Sim R c c' → Sim R (f c) (f c')) {l l' : List Caps} (h : SimL R l l') : SimL R (l.map f) (l'.map f) := by
  induction h with
  | nil => exact .nil
  | cons a _ ih => exact .cons (hf _ _ a) ih
theorem SimL.ite {R : Nat → Prop} {p : Prop} [Decidable p] {l l' : List Caps} (h : SimL R l l') : SimL R (if p then l else []) (if p then l' else []) := by
  split
  · exact h
  · exact .nil
theorem RLf_sim {R : Nat → Prop} {x : Nd} {B : Nat → Nat → Caps → List Caps} {q : Nat} (hB : ∀ p e c c', Sim R c c' → SimL R (B p e c) (B p e c')) : ∀ (f had p : Nat) (c c' : Caps), Sim R c c' → SimL R (RL x B q f had p c) (RL x B q f had p c')
  | 0, _, _, _, _, _ => .nil
  | f + 1, had, p, c, c', h => by
    rw [RL, RL]
    refine SimL.app (SimL.ite ?_) (SimL.ite (.cons h .nil))
    refine SimL.flat1 _ fun e _ => ?_
    split
    · exact .nil
    · exact (hB _ _ _ _ h).flat fun c1 c1' h1 => RLf_sim hB f _ _ _ _ h1
/-- which groups are referred to -/
def refd (l : List Nd) (n : Nat) : Prop := ∃ x ∈ l, x.op = 8 ∧ x.n.toNat - 1 = n
theorem LF_sim {w : List UInt8} {R : Nat → Prop} : ∀ (f : F) (md : Bool) (i j : Nat) (c c' : Caps), (∀ n, refd f.flat n → R n) → Sim R c c' → SimL R (LF w f md i j c) (LF w f md i j c')
  | .nil, md, i, j, c, c', _, h => by rw [LF, LF]; exact SimL.ite (.cons h .nil)
  | .nd x ks r, md, i, j, c, c', hR, h => by
    have hks : ∀ n, refd ks.flat n → R n := fun n ⟨y, hy, h1, h2⟩ => hR n ⟨y, by simp [F.flat, hy], h1, h2⟩
    have hr : ∀ n, refd r.flat n → R n := fun n ⟨y, hy, h1, h2⟩ => hR n ⟨y, by simp [F.flat, hy], h1, h2⟩
    have hone : ∀ i j c c', Sim R c c' → SimL R
      (if x.op = 1 then (if j = i + 1 ∧ (∃ b, w[i]? = some b ∧ x.set.getLsbD b.toNat = true) then [c] else [])
      else if x.op = 2 then (if i = 0 ∧ j = 0 then [c] else [])
      else if x.op = 3 then (if i = w.length ∧ j = w.length then [c] else [])
      else if x.op = 8 then (if sameAt w (c.getD (x.n.toNat - 1) noS) i j = true then [c] else [])
      else if x.op = 5 then LF w ks true i j c
      else if x.op = 6 then RLf x (fun p e c => LF w ks false p e (emp ks.flat c)) j 0 i c
      else if x.op = 7 then (LF w ks false i j (emp ks.flat c)).map (fun d => d.set (x.n.toNat - 1) ⟨i, j⟩)
      else LF w ks false i j c)
      (if x.op = 1 then (if j = i + 1 ∧ (∃ b, w[i]? = some b ∧ x.set.getLsbD b.toNat = true) then [c'] else [])
      else if x.op = 2 then (if i = 0 ∧ j = 0 then [c'] else [])
      else if x.op = 3 then (if i = w.length ∧ j = w.length then [c'] else [])
      else if x.op = 8 then (if sameAt w (c'.getD (x.n.toNat - 1) noS) i j = true then [c'] else [])
      else if x.op = 5 then LF w ks true i j c'
      else if x.op = 6 then RLf x (fun p e c => LF w ks false p e (emp ks.flat c)) j 0 i c'
      else if x.op = 7 then (LF w ks false i j (emp ks.flat c')).map (fun d => d.set (x.n.toNat - 1) ⟨i, j⟩)
      else LF w ks false i j c') := by
      intro i j c c' h
      split
      · exact SimL.ite (.cons h .nil)
      split
      · exact SimL.ite (.cons h .nil)
      split
      · exact SimL.ite (.cons h .nil)
      split
      · rename_i h8
        have e : c.getD (x.n.toNat - 1) noS = c'.getD (x.n.toNat - 1) noS := by
          rw [List.getD_eq_getElem?_getD, List.getD_eq_getElem?_getD, h.2 _ (hR _ ⟨x, by simp [F.flat], h8, rfl⟩)]
        rw [e]; exact SimL.ite (.cons h .nil)
      split
      · exact LF_sim ks true i j c c' hks h
      split
      · exact RLf_sim (fun p e c c' h => LF_sim ks false p e _ _ hks (h.emp _)) _ _ _ _ _ h
      split
      · exact (LF_sim ks false i j _ _ hks (h.emp _)).map fun c c' h => h.set _ _
      · exact LF_sim ks false i j c c' hks h
    rw [LF, LF]
    cases md with
    | true =>
      simp only [if_true]
      exact (hone i j c c' h).app (LF_sim r true i j c c' hr h)
    | false =>
      simp only [Bool.false_eq_true, if_false]
      exact SimL.flat1 _ fun e _ => (hone i e c c' h).flat fun c1 c1' h1 => LF_sim r false e j _ _ hr h1
/-- an answer: a list of its own of so many instructions -/
def CodeP (T n : Nat) (v : Value) (S' : Hp) : Prop := ∃ (a : Option Addr) (c : Nat) (m : List In), v = .slice a m.length c ∧ m.length = n ∧ OwnS Ein 7 T (.slice a m.length c) m S'
/-- the contract of code, of sides -/
def CodeC (P : Program) (fn T : Nat) (x : Nd) (ks : F) : Prop := ∀ (ma : Option Addr) (mc : Nat) (m : List In) (Sm : Hp) (ra : Option Addr) (rc : Nat) (re : List Nd) (i i1 : Nat), (∀ x ∈ re, -128 ≤ x.op ∧ x.op < 128) → (∀ x ∈ re, ¬ x.op = 8) → re.length ≤ 1000000 → Part re (.nd x ks .nil) i i1 → OwnS Ein 7 T (.slice ma m.length mc) m Sm → m.length + lenT x ks ≤ 70000 →
  Fn P fn [.slice ma m.length mc, .slice ra re.length rc, .int .i64 i] (fun W => Rd En W (.slice ra re.length rc) re ∧ Apart (keys Sm) (.slice ra re.length rc)) Sm (CodeP T (m.length + lenT x ks))
end Go.HL.Kl.Mc
namespace Go.HL.Kl.Mc
open Go Go.HL Go.HL.Kl Go.RowKit Go.ChangeShapes Go.WideShapes Go.ChangeAt
def Ew1 (w : BitVec 64) : List Value := [Ew w]
instance : Enc Ew1 1 := ⟨fun _ => rfl, fun _ v hv => by simp [Ew1, Ew] at hv; subst hv; rfl⟩
theorem open_u64 {P : Program} {t : TypeId} (ht : P.underlying t = some (.int .u64)) : Opens P t Ew1 (fun _ _ => True) := by
  refine ⟨fun enc w fuel cs x h _ => ?_⟩
  obtain ⟨n, rfl, _, hw⟩ := DataW.trod_int ht h
  have hb : 0 ≤ n ∧ n ≤ 18446744073709551615 := by
    simp only [Lit.wf] at hw
    simpa [IntKind.min, IntKind.max, IntKind.signed, IntKind.bits] using hw
  refine ⟨BitVec.ofNat 64 n.toNat, ?_, trivial⟩
  have e : (BitVec.ofNat 64 n.toNat).toNat = n.toNat := by
    rw [BitVec.toNat_ofNat]
    exact Nat.mod_eq_of_lt (by rw [show (2 : Nat) ^ 64 = 18446744073709551616 from by decide]; omega)
  simp only [Ew1, Ew, e, List.cons.injEq, Value.int.injEq, true_and, and_true]
  omega
def mk4 (a b c d : BitVec 64) : Cl := setw (setw (setw (setw 0 0 a) 1 b) 2 c) 3 d
theorem mk4_wd (a b c d : BitVec 64) : Ec (mk4 a b c d) = [Ew a, Ew b, Ew c, Ew d] := by
  simp [Ec, mk4, wd_setw]
theorem open_cl {P : Program} {t e : TypeId} (ht : P.underlying t = some (.array 4 e)) (he : P.underlying e = some (.int .u64)) (hk : P.cellsOf e = 1) (hc : P.cellsOf t = 4) : Opens P t Ec (fun _ _ => True) := by
  refine ⟨fun enc w fuel cs x h hw => ?_⟩
  obtain ⟨xs, rfl, hl, _⟩ := (open_array ht hk (by rw [hc]) (open_u64 he)).out enc w fuel cs x h hw
  match xs, hl with
  | [a, b, c, d], _ => exact ⟨mk4 a b c d, by rw [mk4_wd]; rfl, trivial⟩
def Ei8 (n : Int) : List Value := [.int .i8 n]
instance : Enc Ei8 1 := ⟨fun _ => rfl, fun _ _ h => by simp [Ei8] at h; subst h; rfl⟩
theorem open_i8 {P : Program} {t : TypeId} (ht : P.underlying t = some (.int .i8)) : Opens P t Ei8 (fun _ n => -128 ≤ n ∧ n < 128) := by
  refine ⟨fun enc w fuel cs x h _ => ?_⟩
  obtain ⟨n, rfl, _, hw⟩ := DataW.trod_int ht h
  refine ⟨n, rfl, ?_⟩
  simp only [Lit.wf] at hw
  have : -128 ≤ n ∧ n ≤ 127 := by simpa [IntKind.min, IntKind.max, IntKind.signed, IntKind.bits] using hw
  omega
theorem open_struct6 {P : Program} {t : TypeId} {f0 f1 f2 f3 f4 f5 : Field} {α0 α1 α2 α3 α4 α5 γ : Type} {E0 : α0 → List Value} {E1 : α1 → List Value} {E2 : α2 → List Value} {E3 : α3 → List Value} {E4 : α4 → List Value} {E5 : α5 → List Value} {E : γ → List Value} {M0 : World → α0 → Prop} {M1 : World → α1 → Prop} {M2 : World → α2 → Prop} {M3 : World → α3 → Prop} {M4 : World → α4 → Prop} {M5 : World → α5 → Prop} {Mem : World → γ → Prop}
    (ht : P.underlying t = some (.struct #[f0, f1, f2, f3, f4, f5])) (h0 : f0.offset = 0) (h1 : f1.offset = P.cellsOf f0.type) (h2 : f2.offset = P.cellsOf f0.type + P.cellsOf f1.type) (h3 : f3.offset = P.cellsOf f0.type + P.cellsOf f1.type + P.cellsOf f2.type)
    (h4 : f4.offset = P.cellsOf f0.type + P.cellsOf f1.type + P.cellsOf f2.type + P.cellsOf f3.type) (h5 : f5.offset = P.cellsOf f0.type + P.cellsOf f1.type + P.cellsOf f2.type + P.cellsOf f3.type + P.cellsOf f4.type) (hc : P.cellsOf t = P.cellsOf f0.type + P.cellsOf f1.type + P.cellsOf f2.type + P.cellsOf f3.type + P.cellsOf f4.type + P.cellsOf f5.type)
    (o0 : Opens P f0.type E0 M0) (o1 : Opens P f1.type E1 M1) (o2 : Opens P f2.type E2 M2) (o3 : Opens P f3.type E3 M3) (o4 : Opens P f4.type E4 M4) (o5 : Opens P f5.type E5 M5) (mk : ∀ w a b c d e f, M0 w a → M1 w b → M2 w c → M3 w d → M4 w e → M5 w f → ∃ z, E z = E0 a ++ (E1 b ++ (E2 c ++ (E3 d ++ (E4 e ++ E5 f)))) ∧ Mem w z) : Opens P t E Mem := by
  refine ⟨fun enc w fuel cs x h hw => ?_⟩
  obtain ⟨hl, n, hf⟩ := trod_fields ht h hw
  obtain ⟨y0, e0, w0⟩ := hf 0 f0 rfl
  obtain ⟨y1, e1, w1⟩ := hf 1 f1 rfl
  obtain ⟨y2, e2, w2⟩ := hf 2 f2 rfl
  obtain ⟨y3, e3, w3⟩ := hf 3 f3 rfl
  obtain ⟨y4, e4, w4⟩ := hf 4 f4 rfl
  obtain ⟨y5, e5, w5⟩ := hf 5 f5 rfl
  obtain ⟨a, ha, ma⟩ := o0.out enc w _ _ _ e0 w0
  obtain ⟨b, hb, mb⟩ := o1.out enc w _ _ _ e1 w1
  obtain ⟨c, hcc, mc⟩ := o2.out enc w _ _ _ e2 w2
  obtain ⟨d, hd, md⟩ := o3.out enc w _ _ _ e3 w3
  obtain ⟨e, he, me⟩ := o4.out enc w _ _ _ e4 w4
  obtain ⟨f, hff, mf⟩ := o5.out enc w _ _ _ e5 w5
  obtain ⟨z, hz, hm⟩ := mk w a b c d e f ma mb mc md me mf
  refine ⟨z, ?_, hm⟩
  rw [hz, ← ha, ← hb, ← hcc, ← hd, ← he, ← hff, h0, h1, h2, h3, h4, h5, List.drop_zero, List.take_of_length_le (l := cs.drop (P.cellsOf f0.type + _ + _ + _ + _)) (by rw [List.length_drop]; omega), ← cells_split, ← cells_split, ← cells_split, ← cells_split, List.take_append_drop]
end Go.HL.Kl.Mc
namespace Go.HL
open Go
/-! lists of lists: for the bag that looks whether lists share memory -/
section
variable {α : Type} {E : α → List Value} {k : Nat} {T : TypeId}
/-- lists that the heap's part S bears, each owned: headers, and what they hold -/
inductive OwnL (E : α → List Value) (k : Nat) (T : TypeId) : List (Sl α) → List (List α) → Hp → Prop
  | nil : OwnL E k T [] [] []
  | cons {s : Sl α} {xs : List α} {sls : List (Sl α)} {xss : List (List α)} {S R : Hp} (h : OwnS E k T s.v xs S) (hs : OwnL E k T sls xss R) : OwnL E k T (s :: sls) (xs :: xss) (S ++ R)
/-- what is written into the list n -/
def mkL (f : Nat → Nat → α) (n m : Nat) : List α := (List.range m).map (f n)
/-- likewise, all of them marked, from the list n on -/
inductive OwnF (E : α → List Value) (k : Nat) (T : TypeId) (f : Nat → Nat → α) : Nat → List (Sl α) → Hp → Prop
  | nil {n : Nat} : OwnF E k T f n [] []
  | cons {n : Nat} {s : Sl α} {sls : List (Sl α)} {S R : Hp} (h : OwnS E k T s.v (mkL f n s.xs.length) S) (hs : OwnF E k T f (n + 1) sls R) : OwnF E k T f n (s :: sls) (S ++ R)
/-- the first n lists have been gone on with -/
structure Done (E : α → List Value) (f : Nat → Nat → α) (sls ones mores : List (Sl α)) (G : Hp) (n : Nat) : Prop where
  out : ∀ j, j < n → ∃ s o m, sls[j]? = some s ∧ ones[j]? = some o ∧ mores[j]? = some m ∧ o.xs = mkL f j (s.xs.length + 1) ∧ m.xs = mkL f j (s.xs.length + 70) ∧ IsSl s.v s.xs.length ∧ IsSl o.v o.xs.length ∧ IsSl m.v m.xs.length ∧ RdS E s.v (mkL f j s.xs.length) G ∧ RdS E o.v o.xs G ∧ RdS E m.v m.xs G
end
end Go.HL
namespace Go.HL.Kl.Mc
open Go Go.HL Go.HL.Kl
/-- the error of Compile -/
noncomputable def errC (re : List Nd) : Int := if shapedB re = false then 49 else if refsB re = true then 44 else 0
/-- the first j nodes are sets -/
structure SetsTo (l : List Nd) (n j : Nat) : Prop where
  len : l.length = n
  rng : ∀ x ∈ l, -128 ≤ x.op ∧ x.op < 128
  get : ∀ t, t < j → ∃ y, l[t]? = some y ∧ y.op = 1 ∧ y.kids = 0
def cls9 (j : Nat) : Cl := mk4 9#64 0#64 (BitVec.ofNat 64 j) 0#64
attribute [irreducible] cls9
def spN (i : Nat) : Nd := ⟨0, 0, ((1048576 * 9 + i + 1 : Nat) : Int), -7, 0, 0⟩
end Go.HL.Kl.Mc
namespace Go.HL.Kl.Mc
open Go Go.HL Go.HL.Kl AskE
/-- a regex that captures take, and a place of a derivation -/
structure May (re : List Nd) (w : List UInt8) (x : Nd) (ks : F) : Prop where
  sh : shapedB re = true
  rf : refsB re = false
  hs : Shp re x ks
def CapO (T : Nat) (w : List UInt8) (re : List Nd) (x : Nd) (ks : F) (p q : Nat) (v : Value) (S' : Hp) : Prop := ∃ a cc, v = .tuple #[.slice a (capsV w re x ks p q).length cc, .bool true] ∧ OwnS Esp 2 T (.slice a (capsV w re x ks p q).length cc) (capsV w re x ks p q) S'
def BestP (T : Nat) (re : List Nd) (w : List UInt8) (fr to : Int) (v : Value) (S' : Hp) : Prop :=
  (∃ x ks, ∃ p q : Nat, May re w x ks ∧ fr = p ∧ to = q ∧ p ≤ q ∧ q ≤ w.length ∧ der1 w x ks p q ∧ CapO T w re x ks p q v S') ∨
  ((¬ ∃ x ks, ∃ p q : Nat, May re w x ks ∧ fr = p ∧ to = q ∧ p ≤ q ∧ q ≤ w.length ∧ der1 w x ks p q) ∧ v = .tuple #[.slice none 0 0, .bool false] ∧ S' = [])
/-- the leftmost, there the longest -/
structure Lft (w : List UInt8) (x : Nd) (ks : F) (f p q : Nat) : Prop where
  ge : f ≤ p
  le : p ≤ q
  len : q ≤ w.length
  der : der1 w x ks p q
  left : ∀ p' q', f ≤ p' → p' < p → q' ≤ w.length → ¬ der1 w x ks p' q'
  long : ∀ q', q < q' → q' ≤ w.length → ¬ der1 w x ks p q'
def FindP (T : Nat) (re : List Nd) (w : List UInt8) (f : Int) (v : Value) (S' : Hp) : Prop :=
  (∃ x ks, ∃ g p q : Nat, May re w x ks ∧ f = g ∧ Lft w x ks g p q ∧ CapO T w re x ks p q v S') ∨
  ((¬ ∃ x ks, ∃ g p q : Nat, May re w x ks ∧ f = g ∧ g ≤ p ∧ q ≤ w.length ∧ der1 w x ks p q) ∧ v = .tuple #[.slice none 0 0, .bool false] ∧ S' = [])
end Go.HL.Kl.Mc
namespace Go.HL.Kl.Mc
open Go Go.HL Go.HL.Kl
/-- rows of sets -/
structure RowsP (rs : List (Sl Bool)) (N : Nat) (D : Nat → Nat → Prop) : Prop where
  len : rs.length = N + 1
  get : ∀ p, p ≤ N → ∃ s, rs[p]? = some s ∧ IsS s.xs N (D p)
/-- the first k rows -/
structure RowsTo (rs : List (Sl Bool)) (N k : Nat) (D : Nat → Nat → Prop) : Prop where
  len : rs.length = k
  get : ∀ p, p < k → ∃ s, rs[p]? = some s ∧ IsS s.xs N (D p)
/-- rows that a part of the heap bears -/
structure RdRows (W : World) (v : Value) (rs : List (Sl Bool)) : Prop where
  out : Rd (Esl (α := Bool)) W v rs
  row : ∀ s ∈ rs, Rd Ebo W (.slice s.a s.xs.length s.c) s.xs
/-! a set, added place by place -/
def orTo (a b : List Bool) (i : Nat) : List Bool := (List.range a.length).map fun j => if j < i then orF a b j else bo0 a j
def fromTo (D : Nat → Nat → Prop) (P : Nat → Prop) (k q : Nat) : Prop := ∃ p, p < k ∧ P p ∧ D p q
structure AgP (N : Nat) (D : Nat → Nat → Prop) (p : Nat) (out : List Bool) (todo : List Nat) : Prop where
  len : out.length = N + 1
  me : out[p]? = some true
  sound : ∀ q : Nat, out[q]? = some true → ∃ k, pow D k p q
  td : ∀ t ∈ todo, out[t]? = some true
  closed : ∀ q : Nat, out[q]? = some true → q ∉ todo → ∀ r, r ≤ N → D q r → out[r]? = some true
/-- the place t at hand, its first k targets looked at -/
structure AgK (N : Nat) (D : Nat → Nat → Prop) (p t k : Nat) (out : List Bool) (todo : List Nat) : Prop where
  len : out.length = N + 1
  me : out[p]? = some true
  tt : out[t]? = some true
  sound : ∀ q : Nat, out[q]? = some true → ∃ k, pow D k p q
  td : ∀ t ∈ todo, out[t]? = some true
  closed : ∀ q : Nat, out[q]? = some true → q ∉ todo → q ≠ t → ∀ r, r ≤ N → D q r → out[r]? = some true
  part : ∀ r, r < k → D t r → out[r]? = some true
def mvN (g : Nat) (x : Nd) : Nd := if 0 < x.n then { x with n := IntKind.i64.wrap (x.n + g) } else x
def F.mv (g : Nat) : F → F
  | .nil => .nil
  | .nd x ks r => .nd (mvN g x) (ks.mv g) (r.mv g)
/-- two regexes under one node -/
def catN : Nd := ⟨4, 0, 0, 0, 0, 2⟩
def altN : Nd := ⟨5, 0, 0, 0, 0, 2⟩
def twoL (n : Nd) (a b : List Nd) (g : Nat) : List Nd := n :: (a ++ b.map (mvN g))
end Go.HL.Kl.Mc
namespace Go.HL.Kl.Mc
open Go Go.HL Go.HL.Kl
def mvTo (g : Nat) (b : List Nd) (j : Nat) : List Nd := (b.take j).map (mvN g) ++ b.drop j
/-- the answer of runs -/
def RowsC (N : Nat) (D : Nat → Nat → Prop) (v : Value) (S : Hp) : Prop := ∃ (a : Option Addr) (c : Nat) (rs : List (Sl Bool)), v = .slice a rs.length c ∧ RowsP rs N D ∧ ∀ W : World, (∀ b o, (b, o) ∈ S → W.heap[b]? = some o) → RdRows W (.slice a rs.length c) rs
/-- read as rows, in every world that bears this part -/
def RdRS (v : Value) (rs : List (Sl Bool)) (S : Hp) : Prop := ∀ W : World, (∀ b o, (b, o) ∈ S → W.heap[b]? = some o) → RdRows W v rs
/-- an answer of Compile that is good -/
def CompOk (re : List Nd) (sv : Value) (S : Hp) (x : Nd) (ks : F) : Prop := ∃ a, shapedB re = true ∧ refsB re = false ∧ Shp re x ks ∧ sv = .slice a (mach (.nd x ks .nil)).length (mach (.nd x ks .nil)).length ∧ RdS Ein (.slice a (mach (.nd x ks .nil)).length (mach (.nd x ks .nil)).length) (mach (.nd x ks .nil)) S
/-! well shaped: forests without groups and references -/
def F.plain : F → Prop
  | .nil => True
  | .nd x ks r => (¬ x.op = 7 ∧ ¬ x.op = 8) ∧ ks.plain ∧ r.plain
def endN : Nd := ⟨4, 0, 0, 0, 0, 0⟩
def rowN (n : Nat) : Nd := ⟨4, 0, 0, 0, 0, (n : Int) + 1⟩
def timN (l m : Nat) : Nd := ⟨6, 0, 0, l, (l : Int) + m, 1⟩
def rowF : List UInt8 → F
  | [] => .nd endN .nil .nil
  | b :: bs => .nd (letN b) .nil (rowF bs)
def rowR (row : List UInt8) (l m : Nat) : List Nd := timN l m :: rowN row.length :: (row.map letN ++ [endN])
theorem let_ok' (b : UInt8) : ndOk (letN b) = true := by
  have : flds (letN b) = true := flds_iff.2 ⟨by simp [letN], .inl rfl, .inr (.inr rfl), (fun h => by cases h), fun _ => ⟨rfl, rfl⟩⟩
  rw [ndOk, this]; rfl
def Mt (row w : List UInt8) (p : Nat) : Prop := (w.drop p).take row.length = row
/-- the greatest number of rounds -/
def Most (row w : List UInt8) (n k : Nat) : Prop := k ≤ n ∧ (∀ j, j < k → Mt row w (j * row.length)) ∧ (k = n ∨ ¬ Mt row w (k * row.length))
end Go.HL.Kl.Mc
namespace Go.HL.Kl.Mc
open Go Go.HL Go.HL.Kl AskE
def gl (l : List Nd) : List Nat := (l.filter fun y => decide (y.op = 7)).map fun y => y.n.toNat
def gn (f : F) : List Nat := gl f.flat
theorem gl_cons (x : Nd) (l : List Nd) : gl (x :: l) = (if x.op = 7 then [x.n.toNat] else []) ++ gl l := by
  unfold gl
  by_cases h : x.op = 7 <;> simp [List.filter_cons, h]
theorem gl_app (l m : List Nd) : gl (l ++ m) = gl l ++ gl m := by simp [gl]
def Non (f : F) (cs : List Sp) : Prop := ∀ i ∈ gn f, cs[i]? = some noS
def Nst : F → Int → Int → List Sp → Prop
  | .nil, _, _, _ => True
  | .nd x ks r, lo, hi, cs => (if x.op = 7 then ∃ s, cs[x.n.toNat]? = some s ∧ ((s = noS ∧ Non ks cs) ∨ (lo ≤ s.fr ∧ s.fr ≤ s.to ∧ s.to ≤ hi ∧ Nst ks s.fr s.to cs)) else Nst ks lo hi cs) ∧ Nst r lo hi cs
theorem gl_take {re : List Nd} (h : shapedB re = true) : ∀ j, j ≤ re.length → (gl (re.take j)).Nodup ∧ ∀ i ∈ gl (re.take j), 1 ≤ i ∧ i ≤ gcn (re.take j)
  | 0, _ => by simp [gl]
  | j + 1, hj => by
    obtain ⟨h1, h2⟩ := gl_take h j (by omega)
    have hx : re[j]? = some re[j] := List.getElem?_eq_getElem (by omega)
    have ht := gcn_take hx
    have e : gl (re.take (j + 1)) = gl (re.take j) ++ gl [re[j]] := by rw [List.take_add_one, hx, gl_app]; rfl
    rw [e, gl_cons]
    by_cases h7 : re[j].op = 7
    · have hn := (grp_n h hx h7).1
      rw [if_pos h7] at ht ⊢
      rw [show gl ([] : List Nd) = [] from rfl, List.append_nil]
      refine ⟨List.nodup_append.2 ⟨h1, by simp, fun a ha b hb => ?_⟩, fun i hi => ?_⟩
      · obtain rfl := List.mem_singleton.1 hb
        have := (h2 a ha).2; omega
      · rcases List.mem_append.1 hi with hi | hi
        · have := h2 i hi; omega
        · obtain rfl := List.mem_singleton.1 hi; omega
    · rw [if_neg h7] at ht ⊢
      rw [show gl ([] : List Nd) = [] from rfl, List.append_nil, List.append_nil]
      exact ⟨h1, fun i hi => by have := h2 i hi; omega⟩
def catC : Nd := ⟨4, 0, 0, 0, 0, 2⟩
def grpC : Nd := ⟨7, 0, 1, 0, 0, 1⟩
def reC : List Nd := [catC, grpC, starN, letN 97, letN 98]
def ksG : F := .nd starN ksW .nil
def ksB : F := .nd (letN 98) .nil .nil
def ksC : F := .nd grpC ksG ksB
def wC : List UInt8 := [99, 97, 97, 98]
theorem En_grpC : En grpC = [.int .i8 7, .int .u64 0, .int .u64 0, .int .u64 0, .int .u64 0, .int .i64 1, .int .i64 0, .int .i64 0, .int .i64 1] := by
  show _ :: (Ec 0#256 ++ _) = _
  rw [Ec_zero]; rfl
def Refd (re : List Nd) (b i i' b' : Nat) : Prop := b ≤ b' ∧ ∀ j x, i ≤ j → j < i' → re[j]? = some x → x.op = 8 → 1 ≤ x.n ∧ x.n ≤ (b' : Int)
theorem kidsN_ref {re : List Nd} {step : Nat → List Bool → Option (Nat × List Bool)} (hs : ∀ i en i' en', step i en = some (i', en') → i ≤ i' ∧ Refd re en.length i i' en'.length) :
    ∀ k i en i' en', kidsN step k i en = some (i', en') → i ≤ i' ∧ Refd re en.length i i' en'.length := by
  intro k
  induction k with
  | zero =>
    intro i en i' en' h
    simp only [kidsN, Option.some.injEq, Prod.mk.injEq] at h
    obtain ⟨rfl, rfl⟩ := h
    exact ⟨Nat.le_refl _, Nat.le_refl _, fun j x h1 h2 => by omega⟩
  | succ k ih =>
    intro i en i' en' h
    simp only [kidsN] at h
    split at h
    · cases h
    · rename_i j en1 hst
      obtain ⟨h1, h2, h3⟩ := hs _ _ _ _ hst
      obtain ⟨h4, h5, h6⟩ := ih _ _ _ _ h
      refine ⟨by omega, by omega, fun t x ht1 ht2 hx h8 => ?_⟩
      rcases Nat.lt_or_ge t j with e | e
      · have := h3 t x ht1 e hx h8; omega
      · exact h6 t x e ht2 hx h8
theorem shN_ref {re : List Nd} : ∀ f i en g i' en', shN re f i en g = some (i', en') → i ≤ i' ∧ Refd re en.length i i' en'.length := by
  intro f
  induction f with
  | zero => intro i en g i' en' h; cases h
  | succ f ih =>
    intro i en g i' en' h
    simp only [shN] at h
    split at h
    · cases h
    · rename_i x hx
      split at h
      · split at h
        · cases h
        · rename_i en1 g1 hg
          split at h
          · cases h
          · rename_i i2 en2 hk
            simp only [Option.some.injEq, Prod.mk.injEq] at h
            obtain ⟨rfl, rfl⟩ := h
            obtain ⟨h1, h2, h3⟩ := kidsN_ref (fun i en i' en' h => ih i en g1 i' en' h) _ _ _ _ _ hk
            have he : en.length ≤ en1.length ∧ (x.op = 8 → 1 ≤ x.n ∧ x.n ≤ en.length) := by
              unfold gate at hg
              split at hg
              · split at hg
                · cases hg; rename_i _ hc; exact ⟨Nat.le_refl _, fun _ => ⟨hc.1, hc.2.1⟩⟩
                · cases hg
              split at hg
              · split at hg
                · cases hg; rename_i h8 _ _; exact ⟨by simp, fun h => absurd h h8⟩
                · cases hg
              · cases hg; rename_i h8 _; exact ⟨Nat.le_refl _, fun h => absurd h h8⟩
            have hl : (if x.op = 7 then en2.set (x.n.toNat - 1) true else en2).length = en2.length := by split <;> simp
            refine ⟨by omega, by rw [hl]; omega, fun j y hj1 hj2 hy h8 => ?_⟩
            rw [hl]
            by_cases e : j = i
            · subst e
              rw [hx] at hy; cases hy
              have := he.2 h8; omega
            · exact h3 j y (by omega) hj2 hy h8
      · cases h
theorem ref_n {re : List Nd} (h : shapedB re = true) {y : Nd} (hy : y ∈ re) (h8 : y.op = 8) : 1 ≤ y.n ∧ y.n ≤ (gcn re : Nat) := by
  obtain ⟨⟨en, hsh⟩, _⟩ := shapedB_iff.1 h
  obtain ⟨_, h1, _⟩ := shN_num _ _ _ _ _ _ hsh
  obtain ⟨_, _, h3⟩ := shN_ref _ _ _ _ _ _ hsh
  obtain ⟨j, hj⟩ := List.getElem?_of_mem hy
  have h4 := h3 j y (Nat.zero_le _) (List.getElem?_eq_some_iff.1 hj).1 hj h8
  rw [List.take_length] at h1
  simp [gcn] at h1
  simp only [gcn]
  omega
theorem grp_le {re : List Nd} (h : shapedB re = true) {y : Nd} (hy : y ∈ re) (h7 : y.op = 7) : 1 ≤ y.n ∧ y.n ≤ (gcn re : Nat) := by
  obtain ⟨j, hj⟩ := List.getElem?_of_mem hy
  have h1 := grp_n h hj h7
  omega
theorem Part.app {re : List Nd} {f g : F} {a b c : Nat} (h : Part re f a b) (h' : Part re g b c) : Part re (f.app g) a c :=
  ⟨F.wf_app h.wf h'.wf, by rw [h.flat, h'.flat, F.flat_app, List.append_assoc], by rw [h'.len, h.len, F.size_app]; omega, h'.le⟩
theorem part_at {re : List Nd} : ∀ (f : F) (a b : Nat), Part re f a b → ∀ k, a ≤ k → k < b → ∃ y js r e, Part re (.nd y js r) k e
  | .nil, a, b, h, k, h1, h2 => by have := h.len; simp only [F.size] at this; omega
  | .nd x ks r, a, b, h, k, h1, h2 => by
    obtain ⟨_, h3, h4⟩ := h.head
    by_cases e : k = a
    · subst e; exact ⟨x, ks, r, b, h⟩
    · rcases Nat.lt_or_ge k (a + 1 + ks.size) with h5 | h5
      · exact part_at ks _ _ h3 k (by omega) h5
      · exact part_at r _ _ h4 k h5 h2
def BehI (re : List Nd) (hl : List Nat) (i : Nat) : Prop := hl.length = i ∧ ∀ k y js r e, k < i → Part re (.nd y js r) k e → hl[k]? = some (k + 1 + js.size)
theorem BehI.nil {re : List Nd} : BehI re [] 0 := ⟨rfl, fun _ _ _ _ _ h => absurd h (Nat.not_lt_zero _)⟩
theorem BehI.snoc {re : List Nd} {hl : List Nat} {i : Nat} (h : BehI re hl i) {y : Nd} {js r : F} {e : Nat} (hp : Part re (.nd y js r) i e) : BehI re (hl ++ [i + 1 + js.size]) (i + 1) :=
  ⟨by rw [List.length_append, h.1]; rfl, fun k y' js' r' e' hk hp' => by
    by_cases e : k = i
    · subst e
      have hu : js' = js := by
        obtain ⟨h1, _, _⟩ := hp.head
        obtain ⟨h2, _, _⟩ := hp'.head
        rw [h1] at h2
        cases h2
        exact hp'.uniq hp
      subst hu
      rw [List.getElem?_append_right (by rw [h.1]; exact Nat.le_refl _), h.1, Nat.sub_self]; rfl
    · rw [List.getElem?_append_left (by rw [h.1]; omega)]
      exact h.2 k y' js' r' e' (by omega) hp'⟩
theorem Part.one_end {re : List Nd} {y : Nd} {js r : F} {k e : Nat} (hp : Part re (.nd y js r) k e) : Part re (.nd y js .nil) k (k + 1 + js.size) := hp.one
/-! all ends of one node -/
def LF1 (w : List UInt8) (x : Nd) (ks : F) (i j : Nat) (c : Caps) : List Caps := LF w (.nd x ks .nil) true i j c
theorem LF_nilT {w : List UInt8} {i j : Nat} {c : Caps} : LF w .nil true i j c = [] := by rw [LF]; simp
theorem LF_nilF {w : List UInt8} {i j : Nat} {c : Caps} : LF w .nil false i j c = if i = j then [c] else [] := by rw [LF]; simp
theorem LF_alt {w : List UInt8} {y : Nd} {js r : F} {i j : Nat} {c : Caps} : LF w (.nd y js r) true i j c = LF1 w y js i j c ++ LF w r true i j c := by
  rw [LF1, LF, LF, LF_nilT]
  simp only [if_true, List.append_nil]
theorem LF_cat {w : List UInt8} {y : Nd} {js r : F} {i j : Nat} {c : Caps} : LF w (.nd y js r) false i j c = (ends i j).flatMap (fun e => (LF1 w y js i e c).flatMap (fun c1 => LF w r false e j c1)) := by
  rw [LF]
  simp only [Bool.false_eq_true, if_false]
  refine flatMap_congr' fun e _ => ?_
  rw [LF1, LF, LF_nilT]
  simp only [if_true, List.append_nil]
section
variable {w : List UInt8} {x : Nd} {ks : F} {i j : Nat} {c : Caps}
theorem LF1_def : LF1 w x ks i j c = (if x.op = 1 then (if j = i + 1 ∧ (∃ b, w[i]? = some b ∧ x.set.getLsbD b.toNat = true) then [c] else [])
      else if x.op = 2 then (if i = 0 ∧ j = 0 then [c] else [])
      else if x.op = 3 then (if i = w.length ∧ j = w.length then [c] else [])
      else if x.op = 8 then (if sameAt w (c.getD (x.n.toNat - 1) noS) i j = true then [c] else [])
      else if x.op = 5 then LF w ks true i j c
      else if x.op = 6 then RLf x (fun p e c => LF w ks false p e (emp ks.flat c)) j 0 i c
      else if x.op = 7 then (LF w ks false i j (emp ks.flat c)).map (fun d => d.set (x.n.toNat - 1) ⟨i, j⟩)
      else LF w ks false i j c) := by
  rw [LF1, LF, LF_nilT]
  simp only [if_true, List.append_nil]
theorem LF1_1 (h : x.op = 1) : LF1 w x ks i j c = if j = i + 1 ∧ (∃ b, w[i]? = some b ∧ x.set.getLsbD b.toNat = true) then [c] else [] := by rw [LF1_def, if_pos h]
theorem LF1_2 (h : x.op = 2) : LF1 w x ks i j c = if i = 0 ∧ j = 0 then [c] else [] := by rw [LF1_def, if_neg (by omega), if_pos h]
theorem LF1_3 (h : x.op = 3) : LF1 w x ks i j c = if i = w.length ∧ j = w.length then [c] else [] := by rw [LF1_def, if_neg (by omega), if_neg (by omega), if_pos h]
theorem LF1_8 (h : x.op = 8) : LF1 w x ks i j c = if sameAt w (c.getD (x.n.toNat - 1) noS) i j = true then [c] else [] := by rw [LF1_def, if_neg (by omega), if_neg (by omega), if_neg (by omega), if_pos h]
theorem LF1_5 (h : x.op = 5) : LF1 w x ks i j c = LF w ks true i j c := by rw [LF1_def, if_neg (by omega), if_neg (by omega), if_neg (by omega), if_neg (by omega), if_pos h]
theorem LF1_6 (h : x.op = 6) : LF1 w x ks i j c = RLf x (fun p e c => LF w ks false p e (emp ks.flat c)) j 0 i c := by rw [LF1_def, if_neg (by omega), if_neg (by omega), if_neg (by omega), if_neg (by omega), if_neg (by omega), if_pos h]
theorem LF1_7 (h : x.op = 7) : LF1 w x ks i j c = (LF w ks false i j (emp ks.flat c)).map (fun d => d.set (x.n.toNat - 1) ⟨i, j⟩) := by rw [LF1_def, if_neg (by omega), if_neg (by omega), if_neg (by omega), if_neg (by omega), if_neg (by omega), if_neg (by omega), if_pos h]
theorem LF1_4 (h : x.op = 4) : LF1 w x ks i j c = LF w ks false i j c := by rw [LF1_def, if_neg (by omega), if_neg (by omega), if_neg (by omega), if_neg (by omega), if_neg (by omega), if_neg (by omega), if_neg (by omega)]
theorem LF_one : LF w (.nd x ks .nil) false i j c = if i ≤ j then LF1 w x ks i j c else [] := by
  rw [LF_cat]
  have e1 : ∀ e, (LF1 w x ks i e c).flatMap (fun c1 => LF w .nil false e j c1) = if e = j then LF1 w x ks i e c else [] := fun e => by
    by_cases h : e = j
    · rw [if_pos h]
      have : (fun c1 => LF w .nil false e j c1) = fun c1 => [c1] := by funext c1; rw [LF_nilF, if_pos h]
      rw [this, List.flatMap_singleton']
    · rw [if_neg h]
      have : (fun c1 : Caps => LF w .nil false e j c1) = fun _ => [] := by funext c1; rw [LF_nilF, if_neg h]
      rw [this]; simp
  have e2 : ∀ (k : Nat), (down i k).flatMap (fun e => if e = j then LF1 w x ks i e c else []) = if i ≤ j ∧ j < i + k then LF1 w x ks i j c else [] := by
    intro k
    induction k with
    | zero => rw [if_neg (by omega)]; rfl
    | succ k ih =>
      rw [down, List.flatMap_cons, ih]
      by_cases h : i + k = j
      · subst h
        rw [if_pos rfl, if_neg (by omega), if_pos (by omega), List.append_nil]
      · rw [if_neg h, List.nil_append]
        by_cases h2 : i ≤ j ∧ j < i + k
        · rw [if_pos h2, if_pos (by omega)]
        · rw [if_neg h2, if_neg (by omega)]
  rw [flatMap_congr' (fun e _ => e1 e), ends, e2]
  by_cases h : i ≤ j
  · rw [if_pos (by omega), if_pos h]
  · rw [if_neg (by omega), if_neg h]
end
/-! forests by their place and their number of trees -/
theorem Part.uniqN {re : List Nd} : ∀ (f g : F) (i e e' : Nat), Part re f i e → Part re g i e' → f.num = g.num → f = g
  | .nil, .nil, _, _, _, _, _, _ => rfl
  | .nil, .nd y js s, i, e, e', _, _, h => by simp only [F.num] at h; omega
  | .nd x ks r, .nil, i, e, e', _, _, h => by simp only [F.num] at h; omega
  | .nd x ks r, .nd y js s, i, e, e', h1, h2, h => by
    have hk := h1.uniq h2
    subst hk
    obtain ⟨a1, a2, a3⟩ := h1.head
    obtain ⟨b1, b2, b3⟩ := h2.head
    rw [a1] at b1
    cases b1
    rw [Part.uniqN r s _ _ _ a3 b3 (by simp only [F.num] at h; omega)]
open Classical in
noncomputable def foAt (re : List Nd) (k m : Nat) : F := if h : ∃ g, (∃ e, Part re g k e) ∧ g.num = m then h.choose else .nil
theorem foAt_eq {re : List Nd} {g : F} {k e : Nat} (h : Part re g k e) : foAt re k g.num = g := by
  have hx : ∃ g', (∃ e, Part re g' k e) ∧ g'.num = g.num := ⟨g, ⟨e, h⟩, rfl⟩
  unfold foAt
  rw [dif_pos hx]
  obtain ⟨⟨e', h1⟩, h2⟩ := hx.choose_spec
  exact Part.uniqN _ _ _ _ _ h1 h h2
theorem Part.mem {re : List Nd} {g : F} {k e : Nat} (h : Part re g k e) {y : Nd} (hy : y ∈ g.flat) : y ∈ re := List.mem_of_mem_drop (by rw [h.flat]; exact List.mem_append_left _ hy)
theorem foAt_mem {re : List Nd} {k m : Nat} {y : Nd} (h : y ∈ (foAt re k m).flat) : y ∈ re := by
  unfold foAt at h
  split at h
  · rename_i hx
    obtain ⟨⟨e', h1⟩, h2⟩ := hx.choose_spec
    exact h1.mem h
  · simp [F.flat] at h
/-! frames -/
structure Frm where
  up : Nat
  node : Nat
  kid : Nat
  left : Nat
  fr : Nat
  to : Nat
  deriving DecidableEq
structure SrE where
  re : List Nd
  w : List UInt8
  R : List Nat
namespace SrE
variable (K : SrE)
noncomputable def kidsB (node : Nat) : Nat → Nat → Caps → List Caps := fun p e c => LF K.w (foAt K.re (node + 1) 1) false p e (emp (foAt K.re (node + 1) 1).flat c)
/-- what a frame says is done, from a place on: what the groups have taken at last -/
noncomputable def kontF (fs : List Frm) : Nat → Nat → Nat → Caps → Option Caps
  | 0, _, _, c => some c
  | n + 1, u, at_, c => if u = 0 then some c else match fs[u - 1]? with
    | none => none
    | some f => match K.re[f.node]? with
      | none => none
      | some x =>
        if x.op = 4 then (LF K.w (foAt K.re f.kid f.left) false at_ f.to c).findSome? (fun c' => kontF fs n f.up f.to c')
        else if x.op = 6 then (RLf x (K.kidsB f.node) f.to f.kid at_ c).findSome? (fun c' => kontF fs n f.up f.to c')
        else kontF fs n f.up at_ (c.set (x.n.toNat - 1) ⟨f.fr, f.to⟩)
noncomputable def kont (fs : List Frm) (u at_ : Nat) (c : Caps) : Option Caps := K.kontF fs u u at_ c
end SrE
/-- each frame is behind an elder one -/
def Chn (fs : List Frm) : Prop := ∀ (k : Nat) f, fs[k]? = some f → f.up ≤ k
theorem Chn.snoc {fs : List Frm} (h : Chn fs) {f : Frm} (hf : f.up ≤ fs.length) : Chn (fs ++ [f]) := fun k g hg => by
  rcases Nat.lt_or_ge k fs.length with h' | h'
  · rw [List.getElem?_append_left h'] at hg; exact h k g hg
  · rw [List.getElem?_append_right h'] at hg
    have hk : k - fs.length = 0 := by
      rcases Nat.lt_or_ge (k - fs.length) 1 with a | a
      · omega
      · rw [List.getElem?_eq_none (by simpa using a)] at hg; cases hg
    rw [hk] at hg
    have : f = g := by simpa using hg
    subst this; omega
namespace SrE
variable {K : SrE}
theorem kontF_up {fs : List Frm} (hc : Chn fs) : ∀ (u n : Nat), u ≤ n → ∀ (at_ : Nat) (c : Caps), K.kontF fs n u at_ c = K.kontF fs u u at_ c := by
  intro u
  induction u using Nat.strongRecOn with
  | ind u ih =>
    intro n hn at_ c
    cases u with
    | zero => cases n <;> simp [kontF]
    | succ k =>
      obtain ⟨m, rfl⟩ : ∃ m, n = m + 1 := ⟨n - 1, by omega⟩
      rw [kontF, kontF]
      simp only [Nat.add_one_ne_zero, if_false, Nat.add_sub_cancel]
      cases hf : fs[k]? with
      | none => rfl
      | some f =>
        have hu := hc k f hf
        have e : ∀ at_ c, K.kontF fs m f.up at_ c = K.kontF fs k f.up at_ c := fun at_ c => by
          rw [ih f.up (by omega) m (by omega), ih f.up (by omega) k hu]
        have e2 : K.kontF fs m f.up = K.kontF fs k f.up := by funext a b; exact e a b
        simp only [e2]
theorem kont_zero {fs : List Frm} {at_ : Nat} {c : Caps} : K.kont fs 0 at_ c = some c := rfl
theorem kont_succ {fs : List Frm} (hc : Chn fs) {k : Nat} {f : Frm} {x : Nd} (hf : fs[k]? = some f) (hx : K.re[f.node]? = some x) {at_ : Nat} {c : Caps} : K.kont fs (k + 1) at_ c =
    (if x.op = 4 then (LF K.w (foAt K.re f.kid f.left) false at_ f.to c).findSome? (fun c' => K.kont fs f.up f.to c')
    else if x.op = 6 then (RLf x (K.kidsB f.node) f.to f.kid at_ c).findSome? (fun c' => K.kont fs f.up f.to c')
    else K.kont fs f.up at_ (c.set (x.n.toNat - 1) ⟨f.fr, f.to⟩)) := by
  have e : K.kontF fs k f.up = K.kont fs f.up := by funext a b; exact kontF_up hc f.up k (hc k f hf) a b
  unfold kont at e ⊢
  rw [kontF]
  simp only [Nat.add_one_ne_zero, if_false, Nat.add_sub_cancel, hf, hx, e]
theorem kont_ext {fs gs : List Frm} (hc : Chn fs) (hc' : Chn (fs ++ gs)) : ∀ (u : Nat), u ≤ fs.length → ∀ (at_ : Nat) (c : Caps), K.kont (fs ++ gs) u at_ c = K.kont fs u at_ c := by
  intro u
  induction u using Nat.strongRecOn with
  | ind u ih =>
    intro hu at_ c
    cases u with
    | zero => rfl
    | succ k =>
      have hk : fs[k]? = some fs[k] := List.getElem?_eq_getElem (by omega)
      have hk' : (fs ++ gs)[k]? = some fs[k] := by rw [List.getElem?_append_left (by omega)]; exact hk
      have hup := hc k _ hk
      cases hx : K.re[(fs[k]).node]? with
      | none =>
        unfold kont
        rw [kontF, kontF]
        simp only [Nat.add_one_ne_zero, if_false, Nat.add_sub_cancel, hk, hk', hx]
      | some x =>
        have e : K.kont (fs ++ gs) (fs[k]).up = K.kont fs (fs[k]).up := by funext a b; exact ih _ (by omega) (by omega) a b
        rw [kont_succ hc' hk' hx, kont_succ hc hk hx, e]
end SrE
theorem SimL.find {R : Nat → Prop} {k k' : Caps → Option Caps} (hk : ∀ c c', Sim R c c' → (k c = none ↔ k' c' = none)) {l l' : List Caps} (h : SimL R l l') : l.findSome? k = none ↔ l'.findSome? k' = none := by
  induction h with
  | nil => simp
  | cons a t ih =>
    rw [List.findSome?_cons, List.findSome?_cons]
    have h1 := hk _ _ a
    split
    · rename_i h2
      split
      · simp
      · rename_i h3; rw [h1.2 h3] at h2; cases h2
    · rename_i h2
      rw [h1.1 h2]
      exact ih
namespace SrE
variable {K : SrE}
/-- captures that are alike where they are referred to -/
abbrev Sm (K : SrE) (c c' : Caps) : Prop := Sim (fun n => n + 1 ∈ K.R) c c'
theorem kont_sim (hR : ∀ x ∈ K.re, x.op = 8 → 1 ≤ x.n ∧ x.n.toNat ∈ K.R) {fs : List Frm} (hc : Chn fs) : ∀ (u at_ : Nat) (c c' : Caps), K.Sm c c' → (K.kont fs u at_ c = none ↔ K.kont fs u at_ c' = none) := by
  have hfo : ∀ k m n, refd (foAt K.re k m).flat n → n + 1 ∈ K.R := fun k m n ⟨y, hy, h8, hn⟩ => by
    obtain ⟨h1, h2⟩ := hR y (foAt_mem hy) h8
    rw [← hn, show y.n.toNat - 1 + 1 = y.n.toNat by omega]; exact h2
  intro u
  induction u using Nat.strongRecOn with
  | ind u ih =>
    intro at_ c c' hs
    cases u with
    | zero => simp [kont_zero]
    | succ k =>
      cases hf : fs[k]? with
      | none => unfold kont; rw [kontF, kontF]; simp only [Nat.add_one_ne_zero, if_false, Nat.add_sub_cancel, hf]
      | some f =>
        cases hx : K.re[f.node]? with
        | none => unfold kont; rw [kontF, kontF]; simp only [Nat.add_one_ne_zero, if_false, Nat.add_sub_cancel, hf, hx]
        | some x =>
          have hup := hc k f hf
          rw [kont_succ hc hf hx, kont_succ hc hf hx]
          split
          · exact SimL.find (fun c c' h => ih f.up (by omega) _ c c' h) (LF_sim _ _ _ _ _ _ (hfo _ _) hs)
          split
          · have hB : ∀ p e c c', K.Sm c c' → SimL (fun n => n + 1 ∈ K.R) (K.kidsB f.node p e c) (K.kidsB f.node p e c') := fun p e c c' h => LF_sim _ _ _ _ _ _ (hfo _ _) (h.emp _)
            exact SimL.find (fun c c' h => ih f.up (by omega) _ c c' h) (RLf_sim hB _ _ _ _ _ hs)
          · exact ih f.up (by omega) _ _ _ (hs.set _ _)
end SrE
end Go.HL.Kl.Mc
