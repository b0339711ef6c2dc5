/- What the reference's code answers: so many instructions. Conditions: none. -/
import Derived.Test.YtiggliigookieaaMT7Z
import Derived.Test.YtiggliigookieaaHlB
import Derived.Test.YtiggliigookieaaKF1Z
import Derived.Test.YtiggliigookieaaMC3Z
import Derived.Test.YtiggliigookieaaMT17Z
import Derived.Test.YtiggliigookieaaKN5Z
import Derived.Test.YtiggliigookieaaKW5Z
namespace Go.HL.Kl.Mc
open Go Go.HL Go.HL.Kl
/-- an answer: a list of its own of so many instructions -/
def CodeP (T n : Nat) (v : Value) (S' : Hp) : Prop := ∃ (a : Option Addr) (c : Nat) (m : List In), v = .slice a m.length c ∧ m.length = n ∧ OwnS Ein 7 T (.slice a m.length c) m S'
theorem CodeP.of {T n c : Nat} {a : Option Addr} {m : List In} {S : Hp} (h : OwnS Ein 7 T (.slice a m.length c) m S) (hn : m.length = n) : CodeP T n (.slice a m.length c) S := ⟨a, c, m, rfl, hn, h⟩
theorem CodeP.of2 {T N n c : Nat} {a : Option Addr} {m : List In} {S : Hp} (h : OwnS Ein 7 T (.slice a n c) m S) (hl : m.length = n) (hn : n = N) : CodeP T N (.slice a n c) S := by subst hl; exact .of h hn
/-- the contract of code, of sides -/
def CodeC (P : Program) (fn T : Nat) (x : Nd) (ks : F) : Prop := ∀ (ma : Option Addr) (mc : Nat) (m : List In) (Sm : Hp) (ra : Option Addr) (rc : Nat) (re : List Nd) (i i1 : Nat), (∀ x ∈ re, -128 ≤ x.op ∧ x.op < 128) → (∀ x ∈ re, ¬ x.op = 8) → re.length ≤ 1000000 → Part re (.nd x ks .nil) i i1 → OwnS Ein 7 T (.slice ma m.length mc) m Sm → m.length + lenT x ks ≤ 70000 →
  Fn P fn [.slice ma m.length mc, .slice ra re.length rc, .int .i64 i] (fun W => Rd En W (.slice ra re.length rc) re ∧ Apart (keys Sm) (.slice ra re.length rc)) Sm (CodeP T (m.length + lenT x ks))
theorem lenM_true (y : Nd) (js r : F) (h : r ≠ .nil) : lenM (.nd y js r) true = lenT y js + 2 + lenM r true := by
  cases r with
  | nil => exact absurd rfl h
  | nd z a b => exact lenM_more y js z a b
theorem F.num_pos {r : F} (h : 0 < r.num) : r ≠ .nil := fun e => by subst e; simp [F.num] at h
theorem lenT_7 {x y : Nd} {js : F} (h7 : x.op = 7) : lenT x (.nd y js .nil) = lenT y js := by
  rw [lenT_c (by omega) (by omega) (by omega) (by omega) (by omega), lenM_cat]; simp [lenM]
theorem lenM_one (y : Nd) (js : F) : lenM (.nd y js .nil) false = lenT y js := by rw [lenM_cat]; simp [lenM]
theorem mul_step {j n L : Nat} (h : j < n) : j * L + L ≤ n * L := by rw [← Nat.succ_mul]; exact Nat.mul_le_mul_right _ h
theorem rep_len {x : Nd} {ks : F} (h6 : x.op = 6) : lenT x ks = x.mn.toNat * lenM ks false + (if x.mx = -1 then lenM ks false + 2 else (x.mx - x.mn).toNat * (lenM ks false + 1)) := lenT_6 h6
end Go.HL.Kl.Mc

/- Nodes, instructions and their lists as they come in. Conditions: none. -/
namespace Go.HL.Kl.Mc
open Go Go.HL Go.HL.Kl Go.RowKit Go.ChangeShapes Go.WideShapes Go.ChangeAt
def Ew1 (w : BitVec 64) : List Value := [Ew w]
instance : Enc Ew1 1 := ⟨fun _ => rfl, fun _ v hv => by simp [Ew1, Ew] at hv; subst hv; rfl⟩
theorem open_u64 {P : Program} {t : TypeId} (ht : P.underlying t = some (.int .u64)) : Opens P t Ew1 (fun _ _ => True) := by
  refine ⟨fun enc w fuel cs x h _ => ?_⟩
  obtain ⟨n, rfl, _, hw⟩ := DataW.trod_int ht h
  have hb : 0 ≤ n ∧ n ≤ 18446744073709551615 := by
    simp only [Lit.wf] at hw
    simpa [IntKind.min, IntKind.max, IntKind.signed, IntKind.bits] using hw
  refine ⟨BitVec.ofNat 64 n.toNat, ?_, trivial⟩
  have e : (BitVec.ofNat 64 n.toNat).toNat = n.toNat := by
    rw [BitVec.toNat_ofNat]
    exact Nat.mod_eq_of_lt (by rw [show (2 : Nat) ^ 64 = 18446744073709551616 from by decide]; omega)
  simp only [Ew1, Ew, e, List.cons.injEq, Value.int.injEq, true_and, and_true]
  omega
def mk4 (a b c d : BitVec 64) : Cl := setw (setw (setw (setw 0 0 a) 1 b) 2 c) 3 d
theorem mk4_wd (a b c d : BitVec 64) : Ec (mk4 a b c d) = [Ew a, Ew b, Ew c, Ew d] := by
  simp [Ec, mk4, wd_setw]
theorem open_cl {P : Program} {t e : TypeId} (ht : P.underlying t = some (.array 4 e)) (he : P.underlying e = some (.int .u64)) (hk : P.cellsOf e = 1) (hc : P.cellsOf t = 4) : Opens P t Ec (fun _ _ => True) := by
  refine ⟨fun enc w fuel cs x h hw => ?_⟩
  obtain ⟨xs, rfl, hl, _⟩ := (open_array ht hk (by rw [hc]) (open_u64 he)).out enc w fuel cs x h hw
  match xs, hl with
  | [a, b, c, d], _ => exact ⟨mk4 a b c d, by rw [mk4_wd]; rfl, trivial⟩
def Ei8 (n : Int) : List Value := [.int .i8 n]
instance : Enc Ei8 1 := ⟨fun _ => rfl, fun _ _ h => by simp [Ei8] at h; subst h; rfl⟩
theorem open_i8 {P : Program} {t : TypeId} (ht : P.underlying t = some (.int .i8)) : Opens P t Ei8 (fun _ n => -128 ≤ n ∧ n < 128) := by
  refine ⟨fun enc w fuel cs x h _ => ?_⟩
  obtain ⟨n, rfl, _, hw⟩ := DataW.trod_int ht h
  refine ⟨n, rfl, ?_⟩
  simp only [Lit.wf] at hw
  have : -128 ≤ n ∧ n ≤ 127 := by simpa [IntKind.min, IntKind.max, IntKind.signed, IntKind.bits] using hw
  omega
theorem open_struct6 {P : Program} {t : TypeId} {f0 f1 f2 f3 f4 f5 : Field} {α0 α1 α2 α3 α4 α5 γ : Type} {E0 : α0 → List Value} {E1 : α1 → List Value} {E2 : α2 → List Value} {E3 : α3 → List Value} {E4 : α4 → List Value} {E5 : α5 → List Value} {E : γ → List Value} {M0 : World → α0 → Prop} {M1 : World → α1 → Prop} {M2 : World → α2 → Prop} {M3 : World → α3 → Prop} {M4 : World → α4 → Prop} {M5 : World → α5 → Prop} {Mem : World → γ → Prop}
    (ht : P.underlying t = some (.struct #[f0, f1, f2, f3, f4, f5])) (h0 : f0.offset = 0) (h1 : f1.offset = P.cellsOf f0.type) (h2 : f2.offset = P.cellsOf f0.type + P.cellsOf f1.type) (h3 : f3.offset = P.cellsOf f0.type + P.cellsOf f1.type + P.cellsOf f2.type)
    (h4 : f4.offset = P.cellsOf f0.type + P.cellsOf f1.type + P.cellsOf f2.type + P.cellsOf f3.type) (h5 : f5.offset = P.cellsOf f0.type + P.cellsOf f1.type + P.cellsOf f2.type + P.cellsOf f3.type + P.cellsOf f4.type) (hc : P.cellsOf t = P.cellsOf f0.type + P.cellsOf f1.type + P.cellsOf f2.type + P.cellsOf f3.type + P.cellsOf f4.type + P.cellsOf f5.type)
    (o0 : Opens P f0.type E0 M0) (o1 : Opens P f1.type E1 M1) (o2 : Opens P f2.type E2 M2) (o3 : Opens P f3.type E3 M3) (o4 : Opens P f4.type E4 M4) (o5 : Opens P f5.type E5 M5) (mk : ∀ w a b c d e f, M0 w a → M1 w b → M2 w c → M3 w d → M4 w e → M5 w f → ∃ z, E z = E0 a ++ (E1 b ++ (E2 c ++ (E3 d ++ (E4 e ++ E5 f)))) ∧ Mem w z) : Opens P t E Mem := by
  refine ⟨fun enc w fuel cs x h hw => ?_⟩
  obtain ⟨hl, n, hf⟩ := trod_fields ht h hw
  obtain ⟨y0, e0, w0⟩ := hf 0 f0 rfl
  obtain ⟨y1, e1, w1⟩ := hf 1 f1 rfl
  obtain ⟨y2, e2, w2⟩ := hf 2 f2 rfl
  obtain ⟨y3, e3, w3⟩ := hf 3 f3 rfl
  obtain ⟨y4, e4, w4⟩ := hf 4 f4 rfl
  obtain ⟨y5, e5, w5⟩ := hf 5 f5 rfl
  obtain ⟨a, ha, ma⟩ := o0.out enc w _ _ _ e0 w0
  obtain ⟨b, hb, mb⟩ := o1.out enc w _ _ _ e1 w1
  obtain ⟨c, hcc, mc⟩ := o2.out enc w _ _ _ e2 w2
  obtain ⟨d, hd, md⟩ := o3.out enc w _ _ _ e3 w3
  obtain ⟨e, he, me⟩ := o4.out enc w _ _ _ e4 w4
  obtain ⟨f, hff, mf⟩ := o5.out enc w _ _ _ e5 w5
  obtain ⟨z, hz, hm⟩ := mk w a b c d e f ma mb mc md me mf
  refine ⟨z, ?_, hm⟩
  rw [hz, ← ha, ← hb, ← hcc, ← hd, ← he, ← hff, h0, h1, h2, h3, h4, h5, List.drop_zero, List.take_of_length_le (l := cs.drop (P.cellsOf f0.type + _ + _ + _ + _)) (by rw [List.length_drop]; omega), ← cells_split, ← cells_split, ← cells_split, ← cells_split, List.take_append_drop]
end Go.HL.Kl.Mc

/- Part of the proofs over this seat: see the text that holds the theorem. Conditions: each theorem bears its own. -/
namespace Go.HL
open Go
/-! lists of lists: for the bag that looks whether lists share memory -/
section
variable {α : Type} {E : α → List Value} {k : Nat} {T : TypeId}
/-- lists that the heap's part S bears, each owned: headers, and what they hold -/
inductive OwnL (E : α → List Value) (k : Nat) (T : TypeId) : List (Sl α) → List (List α) → Hp → Prop
  | nil : OwnL E k T [] [] []
  | cons {s : Sl α} {xs : List α} {sls : List (Sl α)} {xss : List (List α)} {S R : Hp} (h : OwnS E k T s.v xs S) (hs : OwnL E k T sls xss R) : OwnL E k T (s :: sls) (xs :: xss) (S ++ R)
theorem OwnL.at {sls : List (Sl α)} {xss : List (List α)} {S : Hp} (h : OwnL E k T sls xss S) : ∀ {n : Nat} {s : Sl α}, sls[n]? = some s →
    ∃ xs S1 Sn S2, xss[n]? = some xs ∧ S = S1 ++ (Sn ++ S2) ∧ OwnS E k T s.v xs Sn ∧ ∀ xs' Sn', OwnS E k T s.v xs' Sn' → OwnL E k T sls (xss.set n xs') (S1 ++ (Sn' ++ S2)) := by
  induction h with
  | nil => intro n s hs; simp at hs
  | @cons s xs sls xss S R h hs ih =>
    intro n s' hn
    cases n with
    | zero =>
      simp at hn; subst hn
      exact ⟨xs, [], S, R, rfl, rfl, h, fun xs' Sn' h' => by simpa using OwnL.cons h' hs⟩
    | succ n =>
      obtain ⟨xs', S1, Sn, S2, h1, rfl, h3, h4⟩ := ih (by simpa using hn)
      exact ⟨xs', S ++ S1, Sn, S2, by simpa using h1, by simp, h3, fun y Sy hy => by simpa using OwnL.cons h (h4 y Sy hy)⟩
theorem OwnL.snoc {sls : List (Sl α)} {xss : List (List α)} {S S' : Hp} {s : Sl α} {xs : List α} (h : OwnL E k T sls xss S) (h' : OwnS E k T s.v xs S') : OwnL E k T (sls ++ [s]) (xss ++ [xs]) (S ++ S') := by
  induction h with
  | nil => simpa using OwnL.cons h' .nil
  | cons h hs ih => simpa using OwnL.cons h ih
theorem OwnL.len {sls : List (Sl α)} {xss : List (List α)} {S : Hp} (h : OwnL E k T sls xss S) : xss.length = sls.length := by
  induction h with
  | nil => rfl
  | cons h hs ih => simp [ih]
/-- what is written into the list n -/
def mkL (f : Nat → Nat → α) (n m : Nat) : List α := (List.range m).map (f n)
theorem mkL_len {f : Nat → Nat → α} {n m : Nat} : (mkL f n m).length = m := by simp [mkL]
theorem mkL_get {f : Nat → Nat → α} {n m i : Nat} (h : i < m) : (mkL f n m)[i]? = some (f n i) := by simp [mkL, List.getElem?_range h]
theorem mkL_succ {f : Nat → Nat → α} {n m : Nat} : mkL f n m ++ [f n m] = mkL f n (m + 1) := by simp [mkL, List.range_succ]
theorem mkL_fill {f : Nat → Nat → α} {n m i : Nat} {l : List α} (h : Tab.Fill (f n) m i l) (hi : m ≤ i) : l = mkL f n m := h.done hi
/-- likewise, all of them marked, from the list n on -/
inductive OwnF (E : α → List Value) (k : Nat) (T : TypeId) (f : Nat → Nat → α) : Nat → List (Sl α) → Hp → Prop
  | nil {n : Nat} : OwnF E k T f n [] []
  | cons {n : Nat} {s : Sl α} {sls : List (Sl α)} {S R : Hp} (h : OwnS E k T s.v (mkL f n s.xs.length) S) (hs : OwnF E k T f (n + 1) sls R) : OwnF E k T f n (s :: sls) (S ++ R)
theorem OwnL.all {f : Nat → Nat → α} {sls : List (Sl α)} {xss : List (List α)} {S : Hp} (h : OwnL E k T sls xss S) : ∀ {n : Nat}, (∀ j s, sls[j]? = some s → xss[j]? = some (mkL f (n + j) s.xs.length)) → OwnF E k T f n sls S := by
  induction h with
  | nil => intro n _; exact .nil
  | @cons s xs sls xss S R h hs ih =>
    intro n hj
    have h0 := hj 0 s rfl
    simp at h0
    subst h0
    refine .cons h (ih fun j s' hs' => ?_)
    have := hj (j + 1) s' (by simpa using hs')
    rw [show n + 1 + j = n + (j + 1) by omega]
    simpa using this
theorem OwnF.head {f : Nat → Nat → α} {sls : List (Sl α)} {S : Hp} {n : Nat} {s : Sl α} (h : OwnF E k T f n (sls.drop n) S) (hs : sls[n]? = some s) : ∃ S1 S2, S = S1 ++ S2 ∧ OwnS E k T s.v (mkL f n s.xs.length) S1 ∧ OwnF E k T f (n + 1) (sls.drop (n + 1)) S2 := by
  have hn : n < sls.length := by
    rcases Nat.lt_or_ge n sls.length with h' | h'
    · exact h'
    · rw [List.getElem?_eq_none h'] at hs; cases hs
  have e : sls.drop n = s :: sls.drop (n + 1) := by
    rw [List.drop_eq_getElem_cons hn]
    rw [List.getElem?_eq_getElem hn] at hs
    simp at hs; rw [hs]
  rw [e] at h
  cases h with
  | cons h1 h2 => exact ⟨_, _, rfl, h1, h2⟩
/-- the first n lists have been gone on with -/
structure Done (E : α → List Value) (f : Nat → Nat → α) (sls ones mores : List (Sl α)) (G : Hp) (n : Nat) : Prop where
  out : ∀ j, j < n → ∃ s o m, sls[j]? = some s ∧ ones[j]? = some o ∧ mores[j]? = some m ∧ o.xs = mkL f j (s.xs.length + 1) ∧ m.xs = mkL f j (s.xs.length + 70) ∧ IsSl s.v s.xs.length ∧ IsSl o.v o.xs.length ∧ IsSl m.v m.xs.length ∧ RdS E s.v (mkL f j s.xs.length) G ∧ RdS E o.v o.xs G ∧ RdS E m.v m.xs G
theorem Done.zero {f : Nat → Nat → α} {sls ones mores : List (Sl α)} {G : Hp} : Done E f sls ones mores G 0 := ⟨fun _ h => by omega⟩
theorem Done.step {f : Nat → Nat → α} {sls ones mores : List (Sl α)} {G G' : Hp} {n : Nat} {s o m : Sl α} (h : Done E f sls ones mores G n) (h1 : ones.length = n) (h2 : mores.length = n) (hs : sls[n]? = some s)
    (ho : o.xs = mkL f n (s.xs.length + 1)) (hm : m.xs = mkL f n (s.xs.length + 70)) (i1 : IsSl s.v s.xs.length) (i2 : IsSl o.v o.xs.length) (i3 : IsSl m.v m.xs.length) (r1 : RdS E s.v (mkL f n s.xs.length) G') (r2 : RdS E o.v o.xs G') (r3 : RdS E m.v m.xs G') : Done E f sls (ones ++ [o]) (mores ++ [m]) (G' ++ G) (n + 1) := by
  refine ⟨fun j hj => ?_⟩
  by_cases e : j = n
  · subst e
    exact ⟨s, o, m, hs, by rw [List.getElem?_append_right (by omega)]; simp [h1], by rw [List.getElem?_append_right (by omega)]; simp [h2], ho, hm, i1, i2, i3, r1.mono HIn.appL, r2.mono HIn.appL, r3.mono HIn.appL⟩
  · obtain ⟨s', o', m', a1, a2, a3, a4, a5, b1, b2, b3, a6, a7, a8⟩ := h.out j (by omega)
    exact ⟨s', o', m', a1, by rw [List.getElem?_append_left (by omega)]; exact a2, by rw [List.getElem?_append_left (by omega)]; exact a3, a4, a5, b1, b2, b3, a6.mono HIn.appR, a7.mono HIn.appR, a8.mono HIn.appR⟩
theorem set_all {f : Nat → Nat → α} {sls : List (Sl α)} {xss : List (List α)} {n : Nat} {s : Sl α} {l xs : List α} (hA : ∀ j s, j < n → sls[j]? = some s → xss[j]? = some (mkL f j s.xs.length)) (hs : sls[n]? = some s) (hl : l = mkL f n s.xs.length) (hx : xss[n]? = some xs) :
    ∀ j s', j < n + 1 → sls[j]? = some s' → (xss.set n l)[j]? = some (mkL f j s'.xs.length) := by
  intro j s' hj hs'
  by_cases e : n = j
  · subst e
    rw [hs] at hs'; cases hs'
    rw [List.getElem?_set_self (List.getElem?_eq_some_iff.1 hx).1, hl]
  · rw [List.getElem?_set_ne e]; exact hA j s' (by omega) hs'
theorem Keep.more {v0 v : Value} {xs0 xs : List α} {S G G' : Hp} (h : Keep E k T v0 xs0 v xs S G) (hG : HIn G G') : Keep E k T v0 xs0 v xs S G' := ⟨h.own, h.old.imp (fun r => r.mono hG) fun r => r⟩
theorem sl_get {sls : List (Sl α)} {n : Nat} (h : n < sls.length) : ∃ s, sls[n]? = some s := ⟨_, List.getElem?_eq_getElem h⟩
theorem Sl.v_len {s : Sl α} {a : Option Addr} {n c : Nat} {xs : List α} {S : Hp} [Enc E k] (h : OwnS E k T s.v xs S) (_e : s.v = .slice a n c) : xs.length = s.xs.length := by
  obtain ⟨a', c', e', _⟩ := h.sl.out
  simp [Sl.v] at e'; exact e'.2.1.symm
theorem OwnS.lenv [Enc E k] {s : Sl α} {xs : List α} {S : Hp} (h : OwnS E k T s.v xs S) : xs.length = s.xs.length := by
  obtain ⟨a', c', e', _⟩ := h.sl.out
  simp [Sl.v] at e'; exact e'.2.1.symm
end
end Go.HL

/- Compile's errors; nodes written over. Conditions: none. -/
namespace Go.HL.Kl.Mc
open Go Go.HL Go.HL.Kl
/-- the error of Compile -/
noncomputable def errC (re : List Nd) : Int := if shapedB re = false then 49 else if refsB re = true then 44 else 0
theorem errC_shape {re : List Nd} (h : shapedB re = false) : errC re = 49 := by rw [errC, if_pos h]
theorem errC_ref {re : List Nd} (hs : shapedB re = true) (h : refsB re = true) : errC re = 44 := by rw [errC, if_neg (by rw [hs]; decide), if_pos h]
theorem errC_ok {re : List Nd} (hs : shapedB re = true) (h : refsB re = false) : errC re = 0 := by rw [errC, if_neg (by rw [hs]; decide), if_neg (by rw [h]; decide)]
theorem CompO.pair {T : Nat} {re : List Nd} {v : Value} {S : Hp} (h : CompO T re v S) : ∃ sv, v = .tuple #[sv, .int .i64 (errC re)] ∧ (errC re ≠ 0 → sv = .slice none 0 0 ∧ S = []) ∧
    (errC re = 0 → ∃ x ks a, shapedB re = true ∧ Shp re x ks ∧ sv = .slice a (mach (.nd x ks .nil)).length (mach (.nd x ks .nil)).length ∧ OwnS Ein 7 T (.slice a (mach (.nd x ks .nil)).length (mach (.nd x ks .nil)).length) (mach (.nd x ks .nil)) S) := by
  cases h with
  | shape hs hv hn => rw [errC_shape hs]; exact ⟨_, hv, fun _ => ⟨rfl, hn⟩, fun h => by cases h⟩
  | ref hs hr hv hn => rw [errC_ref hs hr]; exact ⟨_, hv, fun _ => ⟨rfl, hn⟩, fun h => by cases h⟩
  | ok hs hr h hv hm => rw [errC_ok hs hr]; exact ⟨_, hv, fun h => absurd rfl h, fun _ => ⟨_, _, _, hs, h, rfl, hm⟩⟩
theorem cut_eq {n : Nat} (h : n ≤ 16384) : cut n = n := by unfold cut; omega
theorem Shp.mach_le {re : List Nd} {x : Nd} {ks : F} (h : Shp re x ks) : (mach (.nd x ks .nil)).length ≤ 4 * (F.nd x ks .nil).weight + 4 := by
  have h1 := (code_weight (.nd x ks .nil) h.wf).1
  rw [mach_len]; omega
/-- the first j nodes are sets -/
structure SetsTo (l : List Nd) (n j : Nat) : Prop where
  len : l.length = n
  rng : ∀ x ∈ l, -128 ≤ x.op ∧ x.op < 128
  get : ∀ t, t < j → ∃ y, l[t]? = some y ∧ y.op = 1 ∧ y.kids = 0
theorem SetsTo.start {l : List Nd} (h : ∀ x ∈ l, -128 ≤ x.op ∧ x.op < 128) : SetsTo l l.length 0 := ⟨rfl, h, fun t h => by omega⟩
theorem mem_set3 {α : Type} {l : List α} {j : Nat} {a b y x : α} (h : x ∈ ((l.set j a).set j b).set j y) : x = y ∨ x ∈ l := by
  rw [List.set_set, List.set_set] at h
  rcases List.mem_or_eq_of_mem_set h with h | h
  · exact .inr h
  · exact .inl h
theorem SetsTo.step {l : List Nd} {n j : Nat} (h : SetsTo l n j) (hj : j < n) (a b y : Nd) (hy : y.op = 1 ∧ y.kids = 0) : SetsTo (((l.set j a).set j b).set j y) n (j + 1) := by
  refine ⟨by simp [h.len], fun x hx => ?_, fun t ht => ?_⟩
  · rcases mem_set3 hx with rfl | hx
    · rw [hy.1]; omega
    · exact h.rng x hx
  · rw [List.set_set, List.set_set]
    by_cases e : j = t
    · subst e
      exact ⟨y, List.getElem?_set_self (by rw [h.len]; exact hj), hy⟩
    · rw [List.getElem?_set_ne e]
      exact h.get t (by omega)
theorem SetsTo.bad {l : List Nd} {n : Nat} (h : SetsTo l n n) (hn : 1 < n) : errC l = 49 := by
  refine errC_shape (shapedB_no fun ⟨_, x, ks, hs⟩ => ?_)
  obtain ⟨y, hy, h1, h2⟩ := h.get 0 (by omega)
  have hx : x = y := by
    rw [hs.flat] at hy
    simpa using hy
  subst hx
  have hk : (ks.num : Int) = x.kids := hs.wf.2.1
  cases ks with
  | nil =>
    have := congrArg List.length hs.flat
    rw [h.len] at this
    simp [F.flat] at this
    omega
  | nd z a b => simp only [F.num] at hk; omega
def cls9 (j : Nat) : Cl := mk4 9#64 0#64 (BitVec.ofNat 64 j) 0#64
theorem conv9 {j : Nat} (h : j ≤ 1000000000000) : Value.int .u64 (IntKind.u64.wrap (j : Int)) = Ew (BitVec.ofNat 64 j) := by
  have h1 : (BitVec.ofNat 64 j).toNat = j := by
    rw [BitVec.toNat_ofNat]
    exact Nat.mod_eq_of_lt (by rw [show (2 : Nat) ^ 64 = 18446744073709551616 from by decide]; omega)
  rw [Ew, h1, wrap_u64, Int.emod_eq_of_lt (by omega) (by omega)]
theorem Ec_cls9 (j : Nat) : Ec (cls9 j) = [.int .u64 9, .int .u64 0, Ew (BitVec.ofNat 64 j), .int .u64 0] := mk4_wd _ _ _ _
attribute [irreducible] cls9
def spN (i : Nat) : Nd := ⟨0, 0, ((1048576 * 9 + i + 1 : Nat) : Int), -7, 0, 0⟩
theorem En_sp (i : Nat) : En (spN i) = [.int .i8 0, .int .u64 0, .int .u64 0, .int .u64 0, .int .u64 0, .int .i64 ((1048576 * 9 + i + 1 : Nat) : Int), .int .i64 (-7), .int .i64 0, .int .i64 0] := by
  show _ :: (Ec 0#256 ++ _) = _
  rw [Ec_zero]; rfl
theorem OwnL.one1 {α : Type} {E : α → List Value} {k T : Nat} {s : Sl α} {xs : List α} {S : Hp} (h : OwnS E k T s.v xs S) : OwnL E k T [s] [xs] S := by simpa using OwnL.cons h .nil
theorem sl_all2 {α : Type} {s u : Sl α} {n : Nat} (h1 : s.xs.length ≤ n) (h2 : u.xs.length ≤ n) : ∀ (j : Nat) (x : Sl α), [s, u][j]? = some x → x.xs.length ≤ n := fun j x hx => by
  rcases List.mem_cons.1 (List.mem_of_getElem? hx) with rfl | hm
  · exact h1
  · obtain rfl := List.mem_singleton.1 hm; exact h2
end Go.HL.Kl.Mc

/- What Best and Find answer. Conditions: none. -/
namespace Go.HL.Kl.Mc
open Go Go.HL Go.HL.Kl AskE
/-- a regex that captures take, and a place of a derivation -/
structure May (re : List Nd) (w : List UInt8) (x : Nd) (ks : F) : Prop where
  sh : shapedB re = true
  rf : refsB re = false
  hs : Shp re x ks
def CapO (T : Nat) (w : List UInt8) (re : List Nd) (x : Nd) (ks : F) (p q : Nat) (v : Value) (S' : Hp) : Prop := ∃ a cc, v = .tuple #[.slice a (capsV w re x ks p q).length cc, .bool true] ∧ OwnS Esp 2 T (.slice a (capsV w re x ks p q).length cc) (capsV w re x ks p q) S'
def BestP (T : Nat) (re : List Nd) (w : List UInt8) (fr to : Int) (v : Value) (S' : Hp) : Prop :=
  (∃ x ks, ∃ p q : Nat, May re w x ks ∧ fr = p ∧ to = q ∧ p ≤ q ∧ q ≤ w.length ∧ der1 w x ks p q ∧ CapO T w re x ks p q v S') ∨
  ((¬ ∃ x ks, ∃ p q : Nat, May re w x ks ∧ fr = p ∧ to = q ∧ p ≤ q ∧ q ≤ w.length ∧ der1 w x ks p q) ∧ v = .tuple #[.slice none 0 0, .bool false] ∧ S' = [])
/-- the leftmost, there the longest -/
structure Lft (w : List UInt8) (x : Nd) (ks : F) (f p q : Nat) : Prop where
  ge : f ≤ p
  le : p ≤ q
  len : q ≤ w.length
  der : der1 w x ks p q
  left : ∀ p' q', f ≤ p' → p' < p → q' ≤ w.length → ¬ der1 w x ks p' q'
  long : ∀ q', q < q' → q' ≤ w.length → ¬ der1 w x ks p q'
def FindP (T : Nat) (re : List Nd) (w : List UInt8) (f : Int) (v : Value) (S' : Hp) : Prop :=
  (∃ x ks, ∃ g p q : Nat, May re w x ks ∧ f = g ∧ Lft w x ks g p q ∧ CapO T w re x ks p q v S') ∨
  ((¬ ∃ x ks, ∃ g p q : Nat, May re w x ks ∧ f = g ∧ g ≤ p ∧ q ≤ w.length ∧ der1 w x ks p q) ∧ v = .tuple #[.slice none 0 0, .bool false] ∧ S' = [])
end Go.HL.Kl.Mc

/- Part of the proofs over this seat: see the text that holds the theorem. Conditions: each theorem bears its own. -/
namespace Go.Proofs.Ytiggliigookieaa
open Go Go.HL Go.Proofs Go.HL.Kl Go.HL.Kl.Mc Go.HL.Kl.Mc.AskE
set_option maxHeartbeats 1000000 in
theorem captures_fn (K : AskE) (hK : K.ok) (hn : K.nF = 39) (hr : K.rF = 41) (hsb : shapedB K.re = true) (x : Nd) (ks : F) (hs : Shp K.re x ks) (p q : Nat) (hpq : p ≤ q) (hq : q ≤ K.tx.length) (hd : der1 K.tx x ks p q) (es : List Me) (c : Nat) (hes : MapOk K.tx K.re es) : HL.Fn Try.prog 26 [pt K.bS, .agg (Esp ⟨p, q⟩).toArray] (fun W => Env W K [K.bM]) [(K.bM, mpO es c)] (CapsP K 25 (capsV K.tx K.re x ks p q)) := by
  refine fn_of Try.func26 rfl rfl rfl fun w0 hw => ?_
  have hgl : gcn K.re ≤ K.re.length := List.countP_le_length
  have hrl := hK.len
  refine c_seq fun _ hK1 => ?_
  refine c_region ?_
  refine o_box rfl rfl rfl fun b3 => ?_
  refine o_step rfl (s_assign rfl) ?_
  refine o_nil ?_
  refine x_then (hK1 _ _ ?_)
  refine c_seq fun _ hK2 => ?_
  refine c_region ?_
  refine o_step rfl (s_move rfl) ?_
  refine o_step rfl (s_nil rfl) ?_
  refine o_step rfl (s_field rfl rfl (by decide)) ?_
  refine o_step rfl (s_ld rfl ((RdPK.old hw.p4 hw.n4).cel (j := 0) rfl rfl)) ?_
  refine o_callP (groups_fn K.ra K.rc K.re hK.rng) rfl rfl rfl (fun w st => (RdK.old hw.d1 hw.a1).out w st) (fun v11 hv11 => ?_)
  rw [hsb, if_pos rfl] at hv11
  subst hv11
  refine o_step rfl (s_add rfl rfl (by omega)) ?_
  refine o_make (E := Esp) (zx := ⟨0, 0⟩) (n := (gcn K.re + 1)) rfl rfl rfl (by omega) (by omega) rfl fun b13 S13 hS13 => ?_
  refine o_step rfl (s_assign rfl) ?_
  refine o_nil ?_
  refine x_then (hK2 _ _ ?_)
  refine c_seq fun _ hK3 => ?_
  refine c_seq fun _ hK4 => ?_
  refine c_region ?_
  refine o_step rfl (s_move rfl) ?_
  refine o_step rfl (s_len rfl) ?_
  refine o_step rfl (s_move rfl) ?_
  refine o_nil ?_
  refine x_then (hK4 _ _ ?_)
  refine c_block ?_
  refine c_loop3 (fun (j : Nat) (l : List Sp) (S : Hp) => j ≤ (gcn K.re + 1) ∧ Tab.Fill (fun _ => noS) (gcn K.re + 1) j l ∧ OwnS Esp 2 25 (.slice (some ⟨b13, 0, none⟩) (gcn K.re + 1) (gcn K.re + 1)) l S) (fun (j : Nat) (l : List Sp) (S : Hp) => [(16, .int .i64 j)]) [(0, _), (3, _), (4, _), (5, _), (15, _)] (fun (j : Nat) (l : List Sp) (S : Hp) => S ++ [(b3, .cells (Esp ⟨p, q⟩).toArray 25 (0, 0)), (K.bM, mpO es c)]) (fun (j : Nat) (l : List Sp) (S : Hp) => (gcn K.re + 1) - j) 0 _ _ ⟨by omega, .zero List.length_replicate, hS13⟩ sbA sbA hzB ?_
  rintro j l S ⟨hj, hl, hS⟩
  have hls := hS.sl
  rw [hl.len] at hls
  refine c_seq fun _ hK5 => ?_
  refine c_region ?_
  by_cases hjl : (j : Int) < gcn K.re + 1
  ·
   have hll := hl.len
   refine o_step rfl (step_cast (v' := .bool true) (s_lss rfl rfl) (by rw [decide_eq_true (by omega)])) ?_
   refine o_nil ?_
   refine x_then (hK5 _ _ ?_)
   refine c_seq fun _ hK6 => ?_
   refine c_true rfl ?_
   refine c_skip ?_
   refine x_then (hK6 _ _ ?_)
   refine c_seq fun _ hK7 => ?_
   refine c_block ?_
   refine c_seq fun _ hK8 => ?_
   refine c_region ?_
   refine o_step rfl (s_move rfl) ?_
   refine o_step rfl (s_assign rfl) ?_
   refine o_nil ?_
   refine x_then (hK8 _ _ ?_)
   refine c_region ?_
   refine o_step rfl (s_move rfl) ?_
   refine o_step rfl (s_move rfl) ?_
   refine o_step rfl (step_cast (v' := .agg (Esp noS).toArray) (s_build (cs := [_, _]) (vs := [_, _]) rfl rfl (.cons rfl rfl rfl rfl rfl (.cons rfl rfl rfl rfl rfl (.nil)))) rfl) ?_
   refine o_step rfl (s_idx rfl rfl hls (by omega)) ?_
   refine o_stSE j noS hS pkA rfl rfl (by omega) (by rw [Int.toNat_natCast]) fun S' hS' => ?_
   refine o_nil ?_
   refine x_block ?_
   refine x_then (hK7 _ _ ?_)
   refine c_region ?_
   refine o_step rfl (s_add rfl rfl (by omega)) ?_
   refine o_step rfl (s_move rfl) ?_
   refine o_nil ?_
   exact x_then (x_inv (j + 1, _, _) ⟨by omega, hl.step (by omega) rfl, hS'⟩ (by first | omega | (dsimp only; omega)) sbA hzB)
  ·
   have hd2 := fill_rep hl (by omega)
   subst hd2
   refine o_step rfl (step_cast (v' := .bool false) (s_lss rfl rfl) (by rw [decide_eq_false (by omega)])) ?_
   refine o_nil ?_
   refine x_then (hK5 _ _ ?_)
   refine c_seq fun _ hK9 => ?_
   refine c_false rfl ?_
   refine c_exit ?_
   refine x_then_exit ?_
   refine x_then_exit ?_
   refine x_block_exit ?_
   refine x_then (hK3 _ _ ?_)
   refine c_seq fun _ hK10 => ?_
   refine c_region ?_
   refine o_step rfl (s_move rfl) ?_
   refine o_step rfl (s_field rfl rfl (by decide)) ?_
   refine o_step rfl (s_ld rfl ((.own meA rfl : Cel _ _ _ (.int .i64 (p : Int))))) ?_
   refine o_step rfl (s_field rfl rfl (by decide)) ?_
   refine o_step rfl (s_ld rfl ((.own meA rfl : Cel _ _ _ (.int .i64 (q : Int))))) ?_
   refine o_step rfl (s_move rfl) ?_
   refine o_call (take_all hK hn hr _ x ks (Nat.lt_succ_self _) 0 _ p q es c (some ⟨b13, 0, none⟩) _ _ (List.replicate (gcn K.re + 1) noS) S hs.part hpq hq hd hes List.length_replicate (slots_of hsb) hS) rfl rfl rfl ((Pick.takeC pkA pkA)) (fun w st => hw.sub (S := (K.bM, mpO es c) :: S) st (hin_cons meA hiA)) (fun v30 S30 ⟨es30, c30, Sc30, hS30, hm30, hO30⟩ => ?_)
   subst hS30
   have hl30 : (bst1 K.tx x ks p q (List.replicate (gcn K.re + 1) noS)).length = (gcn K.re + 1) := by rw [bst1_len, List.length_replicate]
   have hs30 := hO30.sl
   rw [hl30] at hs30
   refine o_nil ?_
   refine x_then (hK10 _ _ ?_)
   refine c_seq fun _ hK11 => ?_
   refine c_region ?_
   refine o_step rfl (s_move rfl) ?_
   refine o_step rfl (s_ldB rfl (RdPK.cels (.own meA)) lnA) ?_
   refine o_step rfl (s_idx rfl rfl hs30 (by omega)) ?_
   refine o_stSE 0 ⟨p, q⟩ hO30 pkA rfl rfl (by rw [hl30]; omega) (by rfl) fun S' hS' => ?_
   refine o_nil ?_
   refine x_then (hK11 _ _ ?_)
   refine c_seq fun _ hK12 => ?_
   refine c_region ?_
   refine o_step rfl (s_move rfl) ?_
   refine o_step rfl (s_assign rfl) ?_
   refine o_nil ?_
   refine x_then (hK12 _ _ ?_)
   refine c_ret ?_
   refine ?_
   refine x_sub (Sub.refl _) (H' := (K.bM, mpO es30 c30) :: S') hzB ?_
   exact x_ret rfl (.tmp rfl (.nil)) (⟨es30, c30, some ⟨b13, 0, none⟩, (gcn K.re + 1), S', by rw [capsV_len]; rfl, rfl, by rw [capsV_len]; exact hS'⟩)

set_option maxHeartbeats 1000000 in
theorem best_fn (ra : Option Addr) (rc : Nat) (re : List Nd) (hre : ∀ x ∈ re, -128 ≤ x.op ∧ x.op < 128) (ta : Option Addr) (tc : Nat) (w : List UInt8) (hwl : w.length ≤ 1000000) (fr to : Int) : HL.Fn Try.prog 10 [.slice ra re.length rc, .slice ta w.length tc, .agg (Esp ⟨fr, to⟩).toArray] (fun W => Rd En W (.slice ra re.length rc) re ∧ Rd Eb W (.slice ta w.length tc) w) [] (BestP 25 re w fr to) := by
  refine fn_of Try.func10 rfl rfl rfl fun w0 hw => ?_
  refine c_seq fun _ hK1 => ?_
  refine c_region ?_
  refine o_box rfl rfl rfl fun b5 => ?_
  refine o_step rfl (s_assign rfl) ?_
  refine o_step rfl (s_assign rfl) ?_
  refine o_nil ?_
  refine x_then (hK1 _ _ ?_)
  refine c_seq fun _ hK2 => ?_
  refine c_seq fun _ hK3 => ?_
  refine c_region ?_
  refine o_step rfl (s_move rfl) ?_
  refine o_callP (shaped_fn ra rc re hre) rfl rfl rfl (fun w st => (RdK.old0 hw.1).out w st) (fun v10 hv10 => ?_)
  subst hv10
  cases hsb : shapedB re
  ·
   refine o_step rfl (s_not rfl) ?_
   refine o_step rfl (s_move rfl) ?_
   refine o_no rfl rfl rfl rfl ?_
   refine o_no rfl rfl rfl rfl ?_
   refine o_step rfl (s_pick_t rfl rfl) ?_
   refine o_step rfl (s_move rfl) ?_
   refine o_no rfl rfl rfl rfl ?_
   refine o_no rfl rfl rfl rfl ?_
   refine o_no rfl rfl rfl rfl ?_
   refine o_step rfl (s_pick_t rfl rfl) ?_
   refine o_step rfl (s_move rfl) ?_
   refine o_no rfl rfl rfl rfl ?_
   refine o_no rfl rfl rfl rfl ?_
   refine o_no rfl rfl rfl rfl ?_
   refine o_no rfl rfl rfl rfl ?_
   refine o_no rfl rfl rfl rfl ?_
   refine o_step rfl (s_pick_t rfl rfl) ?_
   refine o_step rfl (s_move rfl) ?_
   refine o_no rfl rfl rfl rfl ?_
   refine o_no rfl rfl rfl rfl ?_
   refine o_no rfl rfl rfl rfl ?_
   refine o_no rfl rfl rfl rfl ?_
   refine o_no rfl rfl rfl rfl ?_
   refine o_step rfl (s_pick_t rfl rfl) ?_
   refine o_nil ?_
   refine x_then (hK3 _ _ ?_)
   refine c_true rfl ?_
   refine c_seq fun _ hK4 => ?_
   refine c_region ?_
   refine o_step rfl (s_assign rfl) ?_
   refine o_step rfl (s_assign rfl) ?_
   refine o_nil ?_
   refine x_then (hK4 _ _ ?_)
   refine c_ret ?_
   refine x_then_ret (?_)
   refine x_sub (Sub.refl _) (H' := []) HSub.nil ?_
   exact x_ret rfl (.tmp rfl (.tmp rfl (.nil))) (.inr ⟨fun ⟨x2, ks2, p2, q2, hm, h1, h2, h3, h4, h5⟩ => (by have := hm.sh; rw [hsb] at this; cases this), rfl, rfl⟩)
  ·
   obtain ⟨_, x, ks, hs⟩ := shapedB_iff.1 hsb
   refine o_step rfl (s_not rfl) ?_
   refine o_step rfl (s_move rfl) ?_
   refine o_yes rfl rfl ?_
   refine o_step rfl (s_move rfl) ?_
   refine o_yes rfl rfl ?_
   refine o_callP (refs_fn ra rc re hre) rfl rfl rfl (fun w st => (RdK.old0 hw.1).out w st) (fun v14 hv14 => ?_)
   subst hv14
   cases hrb : refsB re
   ·
    have hr8 := no_refs hsb hrb
    refine o_step rfl (s_pick_f rfl rfl) ?_
    refine o_step rfl (s_move rfl) ?_
    refine o_yes rfl rfl ?_
    refine o_step rfl (s_field rfl rfl (by decide)) ?_
    refine o_yes rfl rfl ?_
    refine o_step rfl (s_ld rfl ((.own meA rfl : Cel _ _ _ (.int .i64 fr)))) ?_
    refine o_yes rfl rfl ?_
    by_cases hf0 : fr < 0
    ·
     refine o_step rfl (step_cast (v' := .bool true) (s_lss rfl rfl) (by rw [decide_eq_true (by omega)])) ?_
     refine o_step rfl (s_pick_f rfl rfl) ?_
     refine o_step rfl (s_move rfl) ?_
     refine o_no rfl rfl rfl rfl ?_
     refine o_no rfl rfl rfl rfl ?_
     refine o_no rfl rfl rfl rfl ?_
     refine o_no rfl rfl rfl rfl ?_
     refine o_no rfl rfl rfl rfl ?_
     refine o_step rfl (s_pick_t rfl rfl) ?_
     refine o_step rfl (s_move rfl) ?_
     refine o_no rfl rfl rfl rfl ?_
     refine o_no rfl rfl rfl rfl ?_
     refine o_no rfl rfl rfl rfl ?_
     refine o_no rfl rfl rfl rfl ?_
     refine o_no rfl rfl rfl rfl ?_
     refine o_step rfl (s_pick_t rfl rfl) ?_
     refine o_nil ?_
     refine x_then (hK3 _ _ ?_)
     refine c_true rfl ?_
     refine c_seq fun _ hK5 => ?_
     refine c_region ?_
     refine o_step rfl (s_assign rfl) ?_
     refine o_step rfl (s_assign rfl) ?_
     refine o_nil ?_
     refine x_then (hK5 _ _ ?_)
     refine c_ret ?_
     refine x_then_ret (?_)
     refine x_sub (Sub.refl _) (H' := []) HSub.nil ?_
     exact x_ret rfl (.tmp rfl (.tmp rfl (.nil))) (.inr ⟨fun ⟨x2, ks2, p2, q2, hm, h1, h2, h3, h4, h5⟩ => (by omega), rfl, rfl⟩)
    ·
     refine o_step rfl (step_cast (v' := .bool false) (s_lss rfl rfl) (by rw [decide_eq_false (by omega)])) ?_
     refine o_step rfl (s_pick_f rfl rfl) ?_
     refine o_step rfl (s_move rfl) ?_
     refine o_yes rfl rfl ?_
     refine o_step rfl (s_field rfl rfl (by decide)) ?_
     refine o_yes rfl rfl ?_
     refine o_step rfl (s_ld rfl ((.own meA rfl : Cel _ _ _ (.int .i64 fr)))) ?_
     refine o_yes rfl rfl ?_
     refine o_step rfl (s_field rfl rfl (by decide)) ?_
     refine o_yes rfl rfl ?_
     refine o_step rfl (s_ld rfl ((.own meA rfl : Cel _ _ _ (.int .i64 to)))) ?_
     refine o_yes rfl rfl ?_
     by_cases hft : fr > to
     ·
      refine o_step rfl (step_cast (v' := .bool true) (s_gtr rfl rfl) (by rw [decide_eq_true (by omega)])) ?_
      refine o_step rfl (s_pick_f rfl rfl) ?_
      refine o_step rfl (s_move rfl) ?_
      refine o_no rfl rfl rfl rfl ?_
      refine o_no rfl rfl rfl rfl ?_
      refine o_no rfl rfl rfl rfl ?_
      refine o_no rfl rfl rfl rfl ?_
      refine o_no rfl rfl rfl rfl ?_
      refine o_step rfl (s_pick_t rfl rfl) ?_
      refine o_nil ?_
      refine x_then (hK3 _ _ ?_)
      refine c_true rfl ?_
      refine c_seq fun _ hK6 => ?_
      refine c_region ?_
      refine o_step rfl (s_assign rfl) ?_
      refine o_step rfl (s_assign rfl) ?_
      refine o_nil ?_
      refine x_then (hK6 _ _ ?_)
      refine c_ret ?_
      refine x_then_ret (?_)
      refine x_sub (Sub.refl _) (H' := []) HSub.nil ?_
      exact x_ret rfl (.tmp rfl (.tmp rfl (.nil))) (.inr ⟨fun ⟨x2, ks2, p2, q2, hm, h1, h2, h3, h4, h5⟩ => (by omega), rfl, rfl⟩)
     ·
      refine o_step rfl (step_cast (v' := .bool false) (s_gtr rfl rfl) (by rw [decide_eq_false (by omega)])) ?_
      refine o_step rfl (s_pick_f rfl rfl) ?_
      refine o_step rfl (s_move rfl) ?_
      refine o_yes rfl rfl ?_
      refine o_step rfl (s_field rfl rfl (by decide)) ?_
      refine o_yes rfl rfl ?_
      refine o_step rfl (s_ld rfl ((.own meA rfl : Cel _ _ _ (.int .i64 to)))) ?_
      refine o_yes rfl rfl ?_
      refine o_step rfl (s_move rfl) ?_
      refine o_yes rfl rfl ?_
      refine o_step rfl (s_len rfl) ?_
      refine o_yes rfl rfl ?_
      by_cases htl : to > w.length
      ·
       refine o_step rfl (step_cast (v' := .bool true) (s_gtr rfl rfl) (by rw [decide_eq_true (by omega)])) ?_
       refine o_step rfl (s_pick_f rfl rfl) ?_
       refine o_nil ?_
       refine x_then (hK3 _ _ ?_)
       refine c_true rfl ?_
       refine c_seq fun _ hK7 => ?_
       refine c_region ?_
       refine o_step rfl (s_assign rfl) ?_
       refine o_step rfl (s_assign rfl) ?_
       refine o_nil ?_
       refine x_then (hK7 _ _ ?_)
       refine c_ret ?_
       refine x_then_ret (?_)
       refine x_sub (Sub.refl _) (H' := []) HSub.nil ?_
       exact x_ret rfl (.tmp rfl (.tmp rfl (.nil))) (.inr ⟨fun ⟨x2, ks2, p2, q2, hm, h1, h2, h3, h4, h5⟩ => (by omega), rfl, rfl⟩)
      ·
       refine o_step rfl (step_cast (v' := .bool false) (s_gtr rfl rfl) (by rw [decide_eq_false (by omega)])) ?_
       refine o_step rfl (s_pick_f rfl rfl) ?_
       refine o_nil ?_
       refine x_then (hK3 _ _ ?_)
       refine c_false rfl ?_
       refine c_skip ?_
       refine x_then (hK2 _ _ ?_)
       refine c_seq fun _ hK8 => ?_
       refine c_region ?_
       refine o_step rfl (s_move rfl) ?_
       refine o_step rfl (s_move rfl) ?_
       obtain ⟨p, rfl⟩ : ∃ p : Nat, fr = p := ⟨fr.toNat, by omega⟩
       obtain ⟨q, rfl⟩ : ∃ q : Nat, to = q := ⟨to.toNat, by omega⟩
       refine o_call (ask_fn ra rc re ta tc w hre hr8 (by have := hs.len; omega) hwl x ks hs.part) rfl rfl rfl (by exact .nil) (fun w st => ⟨(RdK.old0 hw.1).out w st, (RdK.old0 hw.2).out w st⟩) (fun v37 S37 ⟨K, Se, hn, hr, e1, e2, e3, e4, hK, hv37, hE, hS37⟩ => ?_)
       subst e1
       subst e2
       subst hv37
       subst hS37
       simp only [vre, vtx, Value.slice.injEq] at e3 e4
       obtain ⟨rfl, _, rfl⟩ := e3
       obtain ⟨rfl, _, rfl⟩ := e4
       refine o_step rfl (s_assign rfl) ?_
       refine o_nil ?_
       refine x_then (hK8 _ _ ?_)
       refine c_seq fun _ hK9 => ?_
       refine c_seq fun _ hK10 => ?_
       refine c_drawE ([(b5, .cells (Esp ⟨p, q⟩).toArray 25 (0, 0)), (K.bS, .cells K.cells.toArray 65 (0, 0))]) (fun i => false) ?_
       refine e_take 0 rfl (by kernel_rfl) (by kernel_rfl) (by kernel_rfl) (by kernel_rfl) (fun _ _ => rfl) rfl hzB (s_move rfl) ?_
       refine e_take 1 rfl (by kernel_rfl) (by kernel_rfl) (by kernel_rfl) (by kernel_rfl) (fun _ _ => rfl) rfl hzB (s_nil rfl) ?_
       refine e_take 2 rfl (by kernel_rfl) (by kernel_rfl) (by kernel_rfl) (by kernel_rfl) (fun _ _ => rfl) rfl hzB (s_field rfl rfl (by decide)) ?_
       refine e_take 3 rfl (by kernel_rfl) (by kernel_rfl) (by kernel_rfl) (by kernel_rfl) (fun _ _ => rfl) rfl hzB (s_ld rfl (.own meA rfl)) ?_
       refine e_take 4 rfl (by kernel_rfl) (by kernel_rfl) (by kernel_rfl) (by kernel_rfl) (fun _ _ => rfl) rfl hzB (s_field rfl rfl (by decide)) ?_
       refine e_take 5 rfl (by kernel_rfl) (by kernel_rfl) (by kernel_rfl) (by kernel_rfl) (fun _ _ => rfl) rfl hzB (s_ld rfl ((.own meA rfl : Cel _ _ _ (.int .i64 (p : Int))))) ?_
       refine e_take 6 rfl (by kernel_rfl) (by kernel_rfl) (by kernel_rfl) (by kernel_rfl) (fun _ _ => rfl) rfl hzB (s_field rfl rfl (by decide)) ?_
       refine e_take 7 rfl (by kernel_rfl) (by kernel_rfl) (by kernel_rfl) (by kernel_rfl) (fun _ _ => rfl) rfl hzB (s_ld rfl ((.own meA rfl : Cel _ _ _ (.int .i64 (q : Int))))) ?_
       refine e_one 8 rfl (by kernel_rfl) ?_
       refine o_callC (us := []) (vs := [_, _, _]) (cs := [pt K.bRe, pt K.bTx, pt K.bA]) (node_all hK hn hr _ x ks (Nat.lt_succ_self _) 0 _ p q [] 0 hs.part (by omega) (by omega) .nil) rfl rfl rfl pkA (fun w st => Env.make (K := K) (S := [(K.bM, mpO [] 0)]) st pkA hw.1 hw.2 hE hiA meA meA meA meA) (fun v46 S46 ⟨es46, c46, hv46, hS46, hm46⟩ => ?_)
       subst hv46
       subst hS46
       cases hb46 : dQ (der1 K.tx x ks p q)
       ·
        refine o_nil ?_
        refine x_oneS hzB ?_
        refine e_take 9 rfl (by kernel_rfl) (by kernel_rfl) (by kernel_rfl) (by kernel_rfl) (fun _ _ => rfl) rfl hzB (s_not rfl) ?_
        refine e_done (by kernel_rfl) ?_
        refine x_then (hK10 _ _ ?_)
        refine c_true rfl ?_
        refine c_seq fun _ hK11 => ?_
        refine c_region ?_
        refine o_step rfl (s_assign rfl) ?_
        refine o_step rfl (s_assign rfl) ?_
        refine o_nil ?_
        refine x_then (hK11 _ _ ?_)
        refine c_ret ?_
        refine x_then_ret (?_)
        refine x_sub (Sub.refl _) (H' := []) HSub.nil ?_
        exact x_ret rfl (.tmp rfl (.tmp rfl (.nil))) (.inr ⟨fun ⟨x2, ks2, p2, q2, hm, h1, h2, h3, h4, h5⟩ => (by obtain ⟨rfl, rfl⟩ := hs.uniq hm.hs; obtain rfl : p = p2 := (by omega); obtain rfl : q = q2 := (by omega); rw [dQ_t h5] at hb46; cases hb46), rfl, rfl⟩)
       ·
        refine o_nil ?_
        refine x_oneS hzB ?_
        refine e_take 9 rfl (by kernel_rfl) (by kernel_rfl) (by kernel_rfl) (by kernel_rfl) (fun _ _ => rfl) rfl hzB (s_not rfl) ?_
        refine e_done (by kernel_rfl) ?_
        refine x_then (hK10 _ _ ?_)
        refine c_false rfl ?_
        refine c_skip ?_
        refine x_then (hK9 _ _ ?_)
        refine c_seq fun _ hK12 => ?_
        refine c_region ?_
        refine o_step rfl (s_move rfl) ?_
        refine o_step rfl (s_ldB rfl (RdPK.cels (.own meA)) lnA) ?_
        refine o_call (captures_fn K hK hn hr hsb x ks hs p q (by omega) (by omega) (dQ_iff.1 hb46) es46 c46 hm46) rfl rfl rfl pkA (fun w st => Env.make (K := K) (S := [(K.bM, mpO es46 c46)]) st pkA hw.1 hw.2 hE hiA meA meA meA meA) (fun v50 S50 ⟨es50, c50, a50, cc50, Sc50, hv50, hS50, hO50⟩ => ?_)
        subst hv50
        subst hS50
        refine o_step rfl (s_assign rfl) ?_
        refine o_step rfl (s_assign rfl) ?_
        refine o_nil ?_
        refine x_then (hK12 _ _ ?_)
        refine c_ret ?_
        refine ?_
        refine x_sub (Sub.refl _) (H' := Sc50) hzB ?_
        exact x_ret rfl (.tmp rfl (.tmp rfl (.nil))) (.inl ⟨x, ks, p, q, ⟨hsb, hrb, hs⟩, rfl, rfl, by omega, by omega, dQ_iff.1 hb46, a50, cc50, rfl, hO50⟩)
   ·
    refine o_step rfl (s_pick_f rfl rfl) ?_
    refine o_step rfl (s_move rfl) ?_
    refine o_no rfl rfl rfl rfl ?_
    refine o_no rfl rfl rfl rfl ?_
    refine o_no rfl rfl rfl rfl ?_
    refine o_step rfl (s_pick_t rfl rfl) ?_
    refine o_step rfl (s_move rfl) ?_
    refine o_no rfl rfl rfl rfl ?_
    refine o_no rfl rfl rfl rfl ?_
    refine o_no rfl rfl rfl rfl ?_
    refine o_no rfl rfl rfl rfl ?_
    refine o_no rfl rfl rfl rfl ?_
    refine o_step rfl (s_pick_t rfl rfl) ?_
    refine o_step rfl (s_move rfl) ?_
    refine o_no rfl rfl rfl rfl ?_
    refine o_no rfl rfl rfl rfl ?_
    refine o_no rfl rfl rfl rfl ?_
    refine o_no rfl rfl rfl rfl ?_
    refine o_no rfl rfl rfl rfl ?_
    refine o_step rfl (s_pick_t rfl rfl) ?_
    refine o_nil ?_
    refine x_then (hK3 _ _ ?_)
    refine c_true rfl ?_
    refine c_seq fun _ hK13 => ?_
    refine c_region ?_
    refine o_step rfl (s_assign rfl) ?_
    refine o_step rfl (s_assign rfl) ?_
    refine o_nil ?_
    refine x_then (hK13 _ _ ?_)
    refine c_ret ?_
    refine x_then_ret (?_)
    refine x_sub (Sub.refl _) (H' := []) HSub.nil ?_
    exact x_ret rfl (.tmp rfl (.tmp rfl (.nil))) (.inr ⟨fun ⟨x2, ks2, p2, q2, hm, h1, h2, h3, h4, h5⟩ => (by have := hm.rf; rw [hrb] at this; cases this), rfl, rfl⟩)

set_option maxHeartbeats 1000000 in
theorem find_fn (ra : Option Addr) (rc : Nat) (re : List Nd) (hre : ∀ x ∈ re, -128 ≤ x.op ∧ x.op < 128) (ta : Option Addr) (tc : Nat) (w : List UInt8) (hwl : w.length ≤ 1000000) (fi : Int) : HL.Fn Try.prog 15 [.slice ra re.length rc, .slice ta w.length tc, .int .i64 fi] (fun W => Rd En W (.slice ra re.length rc) re ∧ Rd Eb W (.slice ta w.length tc) w) [] (FindP 25 re w fi) := by
  refine fn_of Try.func15 rfl rfl rfl fun w0 hw => ?_
  have hst := hw.2.sl
  refine c_seq fun _ hK1 => ?_
  refine c_region ?_
  refine o_step rfl (s_assign rfl) ?_
  refine o_step rfl (s_assign rfl) ?_
  refine o_nil ?_
  refine x_then (hK1 _ _ ?_)
  refine c_seq fun _ hK2 => ?_
  refine c_seq fun _ hK3 => ?_
  refine c_region ?_
  refine o_step rfl (s_move rfl) ?_
  refine o_callP (shaped_fn ra rc re hre) rfl rfl rfl (fun w st => (RdK.old0 hw.1).out w st) (fun v12 hv12 => ?_)
  subst hv12
  cases hsb : shapedB re
  ·
   refine o_step rfl (s_not rfl) ?_
   refine o_step rfl (s_move rfl) ?_
   refine o_no rfl rfl rfl rfl ?_
   refine o_no rfl rfl rfl rfl ?_
   refine o_step rfl (s_pick_t rfl rfl) ?_
   refine o_step rfl (s_move rfl) ?_
   refine o_no rfl rfl rfl rfl ?_
   refine o_no rfl rfl rfl rfl ?_
   refine o_step rfl (s_pick_t rfl rfl) ?_
   refine o_step rfl (s_move rfl) ?_
   refine o_no rfl rfl rfl rfl ?_
   refine o_no rfl rfl rfl rfl ?_
   refine o_no rfl rfl rfl rfl ?_
   refine o_no rfl rfl rfl rfl ?_
   refine o_step rfl (s_pick_t rfl rfl) ?_
   refine o_nil ?_
   refine x_then (hK3 _ _ ?_)
   refine c_true rfl ?_
   refine c_seq fun _ hK4 => ?_
   refine c_region ?_
   refine o_step rfl (s_assign rfl) ?_
   refine o_step rfl (s_assign rfl) ?_
   refine o_nil ?_
   refine x_then (hK4 _ _ ?_)
   refine c_ret ?_
   refine x_then_ret (?_)
   refine x_sub (Sub.refl _) (H' := []) HSub.nil ?_
   exact x_ret rfl (.tmp rfl (.tmp rfl (.nil))) (.inr ⟨fun ⟨x2, ks2, g2, p2, q2, hm, h1, h2, h3, h4⟩ => (by have := hm.sh; rw [hsb] at this; cases this), rfl, rfl⟩)
  ·
   obtain ⟨_, x, ks, hs⟩ := shapedB_iff.1 hsb
   refine o_step rfl (s_not rfl) ?_
   refine o_step rfl (s_move rfl) ?_
   refine o_yes rfl rfl ?_
   refine o_step rfl (s_move rfl) ?_
   refine o_yes rfl rfl ?_
   refine o_callP (refs_fn ra rc re hre) rfl rfl rfl (fun w st => (RdK.old0 hw.1).out w st) (fun v16 hv16 => ?_)
   subst hv16
   cases hrb : refsB re
   ·
    have hr8 := no_refs hsb hrb
    refine o_step rfl (s_pick_f rfl rfl) ?_
    refine o_step rfl (s_move rfl) ?_
    refine o_yes rfl rfl ?_
    refine o_step rfl (s_move rfl) ?_
    refine o_yes rfl rfl ?_
    by_cases hf0 : fi < 0
    ·
     refine o_step rfl (step_cast (v' := .bool true) (s_lss rfl rfl) (by rw [decide_eq_true (by omega)])) ?_
     refine o_step rfl (s_pick_f rfl rfl) ?_
     refine o_step rfl (s_move rfl) ?_
     refine o_no rfl rfl rfl rfl ?_
     refine o_no rfl rfl rfl rfl ?_
     refine o_no rfl rfl rfl rfl ?_
     refine o_no rfl rfl rfl rfl ?_
     refine o_step rfl (s_pick_t rfl rfl) ?_
     refine o_nil ?_
     refine x_then (hK3 _ _ ?_)
     refine c_true rfl ?_
     refine c_seq fun _ hK5 => ?_
     refine c_region ?_
     refine o_step rfl (s_assign rfl) ?_
     refine o_step rfl (s_assign rfl) ?_
     refine o_nil ?_
     refine x_then (hK5 _ _ ?_)
     refine c_ret ?_
     refine x_then_ret (?_)
     refine x_sub (Sub.refl _) (H' := []) HSub.nil ?_
     exact x_ret rfl (.tmp rfl (.tmp rfl (.nil))) (.inr ⟨fun ⟨x2, ks2, g2, p2, q2, hm, h1, h2, h3, h4⟩ => (by omega), rfl, rfl⟩)
    ·
     refine o_step rfl (step_cast (v' := .bool false) (s_lss rfl rfl) (by rw [decide_eq_false (by omega)])) ?_
     refine o_step rfl (s_pick_f rfl rfl) ?_
     refine o_step rfl (s_move rfl) ?_
     refine o_yes rfl rfl ?_
     refine o_step rfl (s_move rfl) ?_
     refine o_yes rfl rfl ?_
     refine o_step rfl (s_move rfl) ?_
     refine o_yes rfl rfl ?_
     refine o_step rfl (s_len rfl) ?_
     refine o_yes rfl rfl ?_
     by_cases hfl : fi > w.length
     ·
      refine o_step rfl (step_cast (v' := .bool true) (s_gtr rfl rfl) (by rw [decide_eq_true (by omega)])) ?_
      refine o_step rfl (s_pick_f rfl rfl) ?_
      refine o_nil ?_
      refine x_then (hK3 _ _ ?_)
      refine c_true rfl ?_
      refine c_seq fun _ hK6 => ?_
      refine c_region ?_
      refine o_step rfl (s_assign rfl) ?_
      refine o_step rfl (s_assign rfl) ?_
      refine o_nil ?_
      refine x_then (hK6 _ _ ?_)
      refine c_ret ?_
      refine x_then_ret (?_)
      refine x_sub (Sub.refl _) (H' := []) HSub.nil ?_
      exact x_ret rfl (.tmp rfl (.tmp rfl (.nil))) (.inr ⟨fun ⟨x2, ks2, g2, p2, q2, hm, h1, h2, h3, h4⟩ => (by have := der1_up _ _ h4; omega), rfl, rfl⟩)
     ·
      refine o_step rfl (step_cast (v' := .bool false) (s_gtr rfl rfl) (by rw [decide_eq_false (by omega)])) ?_
      refine o_step rfl (s_pick_f rfl rfl) ?_
      refine o_nil ?_
      refine x_then (hK3 _ _ ?_)
      refine c_false rfl ?_
      refine c_skip ?_
      refine x_then (hK2 _ _ ?_)
      refine c_seq fun _ hK7 => ?_
      refine c_region ?_
      refine o_step rfl (s_move rfl) ?_
      refine o_step rfl (s_move rfl) ?_
      obtain ⟨f, rfl⟩ : ∃ f : Nat, fi = f := ⟨fi.toNat, by omega⟩
      refine o_call (ask_fn ra rc re ta tc w hre hr8 (by have := hs.len; omega) hwl x ks hs.part) rfl rfl rfl (by exact .nil) (fun w st => ⟨(RdK.old0 hw.1).out w st, (RdK.old0 hw.2).out w st⟩) (fun v30 S30 ⟨K, Se, hn, hr, e1, e2, e3, e4, hK, hv30, hE, hS30⟩ => ?_)
      subst e1
      subst e2
      subst hv30
      subst hS30
      simp only [vre, vtx, Value.slice.injEq] at e3 e4
      obtain ⟨rfl, _, rfl⟩ := e3
      obtain ⟨rfl, _, rfl⟩ := e4
      refine o_step rfl (s_assign rfl) ?_
      refine o_nil ?_
      refine x_then (hK7 _ _ ?_)
      refine c_seq fun _ hK8 => ?_
      refine c_seq fun _ hK9 => ?_
      refine c_region ?_
      refine o_step rfl (s_move rfl) ?_
      refine o_step rfl (s_assign rfl) ?_
      refine o_nil ?_
      refine x_then (hK9 _ _ ?_)
      refine c_block ?_
      -- not carried: 6 7
      refine c_loop3 (fun (i : Nat) (es2 : List Me) (c2 : Nat) => f ≤ i ∧ i ≤ K.tx.length + 1 ∧ (∀ p2 q2, f ≤ p2 → p2 < i → q2 ≤ K.tx.length → ¬ der1 K.tx x ks p2 q2) ∧ MapOk K.tx K.re es2) (fun (i : Nat) (es2 : List Me) (c2 : Nat) => [(9, .int .i64 i)]) [(1, _), (8, _)] (fun (i : Nat) (es2 : List Me) (c2 : Nat) => (K.bM, mpO es2 c2) :: (K.bRe, .cells [K.vre].toArray 22 (0, 0)) :: (K.bTx, .cells [K.vtx].toArray 23 (0, 0)) :: (K.bA, .cells [pt K.bS].toArray 59 (0, 0)) :: (K.bS, .cells K.cells.toArray 65 (0, 0)) :: Se) (fun (i : Nat) (es2 : List Me) (c2 : Nat) => K.tx.length + 1 - i) f [] 0 ⟨by omega, by omega, fun p2 q2 h1 h2 => by omega, .nil⟩ sbA sbA hzB ?_
      rintro i es2 c2 ⟨hi1, hi2, hno, hes2⟩
      refine c_seq fun _ hK10 => ?_
      refine c_seq fun _ hK11 => ?_
      refine c_region ?_
      refine o_step rfl (s_move rfl) ?_
      refine o_step rfl (s_move rfl) ?_
      refine o_step rfl (s_len rfl) ?_
      by_cases hil : (i : Int) ≤ K.tx.length
      ·
       refine o_step rfl (step_cast (v' := .bool true) (s_leq rfl rfl) (by rw [decide_eq_true (by omega)])) ?_
       refine o_nil ?_
       refine x_then (hK11 _ _ ?_)
       refine c_true rfl ?_
       refine c_skip ?_
       refine x_then (hK10 _ _ ?_)
       refine c_seq fun _ hK12 => ?_
       refine c_block ?_
       refine c_seq fun _ hK13 => ?_
       refine c_region ?_
       refine o_step rfl (s_move rfl) ?_
       refine o_step rfl (s_len rfl) ?_
       refine o_step rfl (s_assign rfl) ?_
       refine o_nil ?_
       refine x_then (hK13 _ _ ?_)
       refine c_block ?_
       refine c_loop3 (fun (n : Nat) (es3 : List Me) (c3 : Nat) => i ≤ n ∧ n ≤ K.tx.length + 1 ∧ (∀ q2, n ≤ q2 → q2 ≤ K.tx.length → ¬ der1 K.tx x ks i q2) ∧ MapOk K.tx K.re es3) (fun (n : Nat) (es3 : List Me) (c3 : Nat) => [(10, .int .i64 ((n : Int) - 1))]) [(1, _), (8, _), (9, _), (32, _), (33, _), (34, _), (35, _), (38, _), (39, _)] (fun (n : Nat) (es3 : List Me) (c3 : Nat) => (K.bM, mpO es3 c3) :: (K.bRe, .cells [K.vre].toArray 22 (0, 0)) :: (K.bTx, .cells [K.vtx].toArray 23 (0, 0)) :: (K.bA, .cells [pt K.bS].toArray 59 (0, 0)) :: (K.bS, .cells K.cells.toArray 65 (0, 0)) :: Se) (fun (n : Nat) (es3 : List Me) (c3 : Nat) => n) (K.tx.length + 1) es2 c2 ⟨by omega, by omega, fun q2 h1 h2 => by omega, hes2⟩ (by exact Sub.cons' rfl (by congr 1; omega) sbA) sbA hzB ?_
       rintro n es3 c3 ⟨hn1, hn2, hno3, hes3⟩
       refine c_seq fun _ hK14 => ?_
       refine c_seq fun _ hK15 => ?_
       refine c_region ?_
       refine o_step rfl (s_move rfl) ?_
       refine o_step rfl (s_move rfl) ?_
       by_cases hni : (n : Int) - 1 ≥ i
       ·
        obtain ⟨a, rfl⟩ : ∃ a, n = a + 1 := ⟨n - 1, by omega⟩
        refine o_step rfl (step_cast (v' := .bool true) (s_geq rfl rfl) (by rw [decide_eq_true (by omega)])) ?_
        refine o_nil ?_
        refine x_then (hK15 _ _ ?_)
        refine c_true rfl ?_
        refine c_skip ?_
        refine x_then (hK14 _ _ ?_)
        refine c_seq fun _ hK16 => ?_
        refine c_block ?_
        refine c_seq fun _ hK17 => ?_
        refine c_region ?_
        refine o_step rfl (s_move rfl) ?_
        refine o_step rfl (s_nil rfl) ?_
        refine o_step rfl (s_field rfl rfl (by decide)) ?_
        refine o_step rfl (s_ld rfl (.own meA rfl)) ?_
        refine o_step rfl (s_move rfl) ?_
        refine o_step rfl (step_cast (v' := .int .i64 (a : Int)) (s_move rfl) (congrArg (Value.int .i64) (by omega))) ?_
        refine o_callC (us := []) (vs := [_, _, _]) (cs := [pt K.bRe, pt K.bTx, pt K.bA]) (node_all hK hn hr _ x ks (Nat.lt_succ_self _) 0 _ i a es3 c3 hs.part (by omega) (by omega) hes3) rfl rfl rfl pkA (fun w st => Env.make (K := K) (S := [(K.bM, mpO es3 c3)]) st pkA hw.1 hw.2 hE hiA meA meA meA meA) (fun v51 S51 ⟨es51, c51, hv51, hS51, hm51⟩ => ?_)
        subst hv51
        subst hS51
        cases hb51 : dQ (der1 K.tx x ks i a)
        ·
         have hn51 : ¬ der1 K.tx x ks i a := fun h => by rw [dQ_t h] at hb51; cases hb51
         refine o_nil ?_
         refine x_then (hK17 _ _ ?_)
         refine c_false rfl ?_
         refine c_skip ?_
         refine x_block ?_
         refine x_then (hK16 _ _ ?_)
         refine c_region ?_
         refine o_step rfl (s_move rfl) ?_
         refine o_step rfl (s_sub rfl rfl (by omega)) ?_
         refine o_step rfl (s_assign rfl) ?_
         refine o_nil ?_
         exact x_then (x_inv (a, es51, c51) ⟨by omega, by omega, fun q2 h1 h2 => if e : q2 = a then by subst e; exact hn51 else hno3 q2 (by omega) h2, hm51⟩ (by first | omega | (dsimp only; omega)) (by exact Sub.cons' rfl (by congr 1; omega) sbA) hzB)
        ·
         refine o_nil ?_
         refine x_then (hK17 _ _ ?_)
         refine c_true rfl ?_
         refine c_seq fun _ hK18 => ?_
         refine c_region ?_
         refine o_step rfl (s_move rfl) ?_
         refine o_step rfl (s_move rfl) ?_
         refine o_step rfl (step_cast (v' := .int .i64 (a : Int)) (s_move rfl) (congrArg (Value.int .i64) (by omega))) ?_
         refine o_step rfl (s_build (cs := [_, _]) (vs := [_, _]) rfl rfl (.cons rfl rfl rfl rfl rfl (.cons rfl rfl rfl rfl rfl (.nil)))) ?_
         refine o_call (captures_fn K hK hn hr hsb x ks hs i a (by omega) (by omega) (dQ_iff.1 hb51) es51 c51 hm51) rfl rfl rfl pkA (fun w st => Env.make (K := K) (S := [(K.bM, mpO es51 c51)]) st pkA hw.1 hw.2 hE hiA meA meA meA meA) (fun v56 S56 ⟨es56, c56, a56, cc56, Sc56, hv56, hS56, hO56⟩ => ?_)
         subst hv56
         subst hS56
         refine o_step rfl (s_assign rfl) ?_
         refine o_step rfl (s_assign rfl) ?_
         refine o_nil ?_
         refine x_then (hK18 _ _ ?_)
         refine c_ret ?_
         refine x_block_ret (x_then_ret (x_then_ret (x_block_ret (x_block_ret (x_then_ret (x_then_ret (x_block_ret (x_then_ret (?_)))))))))
         refine x_sub (Sub.refl _) (H' := Sc56) hzB ?_
         exact x_ret rfl (.tmp rfl (.tmp rfl (.nil))) (.inl ⟨x, ks, f, i, a, ⟨hsb, hrb, hs⟩, rfl, ⟨hi1, by omega, by omega, dQ_iff.1 hb51, hno, fun q2 h1 h2 => hno3 q2 (by omega) h2⟩, a56, cc56, rfl, hO56⟩)
       ·
        obtain rfl : i = n := by omega
        refine o_step rfl (step_cast (v' := .bool false) (s_geq rfl rfl) (by rw [decide_eq_false (by omega)])) ?_
        refine o_nil ?_
        refine x_then (hK15 _ _ ?_)
        refine c_false rfl ?_
        refine c_exit ?_
        refine x_then_exit ?_
        refine x_then_exit ?_
        refine x_block_exit ?_
        refine x_block ?_
        refine x_then (hK12 _ _ ?_)
        refine c_region ?_
        refine o_step rfl (s_move rfl) ?_
        refine o_step rfl (s_add rfl rfl (by omega)) ?_
        refine o_step rfl (s_assign rfl) ?_
        refine o_nil ?_
        exact x_then (x_inv ((i + 1), es3, c3) ⟨by omega, by omega, fun p2 q2 h1 h2 h3 h4 => if e : p2 = i then by subst e; exact hno3 q2 (der1_up _ _ h4) h3 h4 else hno p2 q2 h1 (by omega) h3 h4, hes3⟩ (by first | omega | (dsimp only; omega)) sbA hzB)
      ·
       refine o_step rfl (step_cast (v' := .bool false) (s_leq rfl rfl) (by rw [decide_eq_false (by omega)])) ?_
       refine o_nil ?_
       refine x_then (hK11 _ _ ?_)
       refine c_false rfl ?_
       refine c_exit ?_
       refine x_then_exit ?_
       refine x_then_exit ?_
       refine x_block_exit ?_
       refine x_then (hK8 _ _ ?_)
       refine c_seq fun _ hK19 => ?_
       refine c_region ?_
       refine o_step rfl (s_assign rfl) ?_
       refine o_step rfl (s_assign rfl) ?_
       refine o_nil ?_
       refine x_then (hK19 _ _ ?_)
       refine c_ret ?_
       refine ?_
       refine x_sub (Sub.refl _) (H' := []) HSub.nil ?_
       exact x_ret rfl (.tmp rfl (.tmp rfl (.nil))) (.inr ⟨fun ⟨x2, ks2, g2, p2, q2, hm, h1, h2, h3, h4⟩ => (by obtain ⟨rfl, rfl⟩ := hs.uniq hm.hs; have := der1_up _ _ h4; exact hno p2 q2 (by omega) (by omega) h3 h4), rfl, rfl⟩)
   ·
    refine o_step rfl (s_pick_f rfl rfl) ?_
    refine o_step rfl (s_move rfl) ?_
    refine o_no rfl rfl rfl rfl ?_
    refine o_no rfl rfl rfl rfl ?_
    refine o_step rfl (s_pick_t rfl rfl) ?_
    refine o_step rfl (s_move rfl) ?_
    refine o_no rfl rfl rfl rfl ?_
    refine o_no rfl rfl rfl rfl ?_
    refine o_no rfl rfl rfl rfl ?_
    refine o_no rfl rfl rfl rfl ?_
    refine o_step rfl (s_pick_t rfl rfl) ?_
    refine o_nil ?_
    refine x_then (hK3 _ _ ?_)
    refine c_true rfl ?_
    refine c_seq fun _ hK20 => ?_
    refine c_region ?_
    refine o_step rfl (s_assign rfl) ?_
    refine o_step rfl (s_assign rfl) ?_
    refine o_nil ?_
    refine x_then (hK20 _ _ ?_)
    refine c_ret ?_
    refine x_then_ret (?_)
    refine x_sub (Sub.refl _) (H' := []) HSub.nil ?_
    exact x_ret rfl (.tmp rfl (.tmp rfl (.nil))) (.inr ⟨fun ⟨x2, ks2, g2, p2, q2, hm, h1, h2, h3, h4⟩ => (by have := hm.rf; rw [hrb] at this; cases this), rfl, rfl⟩)
end Go.Proofs.Ytiggliigookieaa
