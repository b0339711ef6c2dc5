/- Answers are told by the regex, the text, the place. Conditions: none. -/
import Derived.Test.YtloepfcndglmmaaDoorVZV6Z
import Derived.Test.YtloepfcndglmmaaDoorMT25Z
import Derived.Test.YtloepfcndglmmaaDoorBT2Z
import Derived.Test.YtloepfcndglmmaaDoorHTZ
import Derived.Test.YtloepfcndglmmaaDoorMK3Z
import Derived.Test.YtloepfcndglmmaaDoorHM2Z
import Derived.Test.YtloepfcndglmmaaDoorVZN1Z
import Derived.Test.YtloepfcndglmmaaDoorVZN4Z
import Derived.Test.YtloepfcndglmmaaDoorVZW4Z
namespace Go.HL
open Go
end Go.HL
namespace Go.HL.Kl.Mc
open Go Go.HL Go.HL.Kl
theorem Lft.uniq {w : List UInt8} {x : Nd} {ks : F} {f p q p' q' : Nat} (h : Lft w x ks f p q) (h' : Lft w x ks f p' q') : p = p' ∧ q = q' := by
  have hp : p = p' := by
    rcases Nat.lt_trichotomy p p' with e | e | e
    · exact absurd h.der (h'.left p q h.ge e h.len)
    · exact e
    · exact absurd h'.der (h.left p' q' h'.ge e h'.len)
  subst hp; refine ⟨rfl, ?_⟩
  rcases Nat.lt_trichotomy q q' with e | e | e
  · exact absurd h'.der (h.long q' e h'.len)
  · exact e
  · exact absurd h.der (h'.long q e h.len)
def FRes (re : List Nd) (w : List UInt8) (f : Int) (b : Bool) (L : List Sp) : Prop :=
  (∃ x ks, ∃ g p q : Nat, May re w x ks ∧ f = g ∧ Lft w x ks g p q ∧ b = true ∧ L = capsV w re x ks p q) ∨
  ((¬ ∃ x ks, ∃ g p q : Nat, May re w x ks ∧ f = g ∧ g ≤ p ∧ q ≤ w.length ∧ der1 w x ks p q) ∧ b = false ∧ L = [])
theorem FRes.uniq {re : List Nd} {w : List UInt8} {f : Int} {b b' : Bool} {L L' : List Sp} (h : FRes re w f b L) (h' : FRes re w f b' L') : b = b' ∧ L = L' := by
  rcases h with ⟨x, ks, g, p, q, hm, hg, hl, rfl, rfl⟩ | ⟨hn, rfl, rfl⟩ <;> rcases h' with ⟨x', ks', g', p', q', hm', hg', hl', rfl, rfl⟩ | ⟨hn', rfl, rfl⟩
  · obtain ⟨rfl, rfl⟩ := hm.hs.uniq hm'.hs
    obtain rfl : g = g' := by omega
    obtain ⟨rfl, rfl⟩ := hl.uniq hl'
    exact ⟨rfl, rfl⟩
  · exact absurd ⟨x, ks, g, p, q, hm, hg, hl.ge, hl.len, hl.der⟩ hn'
  · exact absurd ⟨x', ks', g', p', q', hm', hg', hl'.ge, hl'.len, hl'.der⟩ hn
  · exact ⟨rfl, rfl⟩
theorem FindP.res {T : Nat} {re : List Nd} {w : List UInt8} {f : Int} {v : Value} {S' : Hp} (h : FindP T re w f v S') : ∃ b L a c, FRes re w f b L ∧ v = .tuple #[.slice a L.length c, .bool b] ∧ OwnS Esp 2 T (.slice a L.length c) L S' := by
  rcases h with ⟨x, ks, g, p, q, hm, hg, hl, a, cc, hv, hO⟩ | ⟨hn, hv, rfl⟩
  · exact ⟨true, _, a, cc, .inl ⟨x, ks, g, p, q, hm, hg, hl, rfl, rfl⟩, hv, hO⟩
  · exact ⟨false, [], none, 0, .inr ⟨hn, rfl, rfl⟩, hv, .nil⟩
def BRes (re : List Nd) (w : List UInt8) (fr to : Int) (b : Bool) (L : List Sp) : Prop :=
  (∃ x ks, ∃ p q : Nat, May re w x ks ∧ fr = p ∧ to = q ∧ p ≤ q ∧ q ≤ w.length ∧ der1 w x ks p q ∧ b = true ∧ L = capsV w re x ks p q) ∨
  ((¬ ∃ x ks, ∃ p q : Nat, May re w x ks ∧ fr = p ∧ to = q ∧ p ≤ q ∧ q ≤ w.length ∧ der1 w x ks p q) ∧ b = false ∧ L = [])
def spB (j : Nat) : UInt8 := UInt8.ofNat (279 + 7 * j + 3)
def xor3 (x : UInt8) : UInt8 := UInt8.ofNat (BitVec.ofInt 8 (x.toNat : Int) ^^^ BitVec.ofInt 8 3).toNat
end Go.HL.Kl.Mc
namespace Go.HL.Kl.Mc
open Go Go.HL Go.HL.Kl AskE
structure GoodL (n at_ : Nat) (L : List Sp) (p q : Nat) : Prop where
  hd : L[0]? = some ⟨p, q⟩
  ge : at_ ≤ p
  le : p ≤ q
  ln : q ≤ n
  all : ∀ s ∈ L, s = noS ∨ (0 ≤ s.fr ∧ s.fr ≤ s.to ∧ s.to ≤ n)
  len : L.length ≤ 4294967296
inductive MtS {σ : Type} (stp : σ → Nat → Bool → List Sp → σ → Prop) (n : Nat) : σ → Nat → Int → List (List Sp) → Prop
  | out {s : σ} {a : Nat} {last : Int} (h : n < a) : MtS stp n s a last []
  | none {s s' : σ} {a : Nat} {last : Int} (h : a ≤ n) (hs : stp s a false [] s') : MtS stp n s a last []
  | skip {s s' : σ} {a p : Nat} {last : Int} {L : List Sp} {xs : List (List Sp)} (h : a ≤ n) (hs : stp s a true L s') (hg : GoodL n a L p p) (hl : last = p) (hr : MtS stp n s' (a + 1) last xs) : MtS stp n s a last xs
  | take {s s' : σ} {a p q : Nat} {last : Int} {L : List Sp} {xs : List (List Sp)} (h : a ≤ n) (hs : stp s a true L s') (hg : GoodL n a L p q) (hl : ¬ (p = q ∧ last = p)) (hr : MtS stp n s' q q xs) : MtS stp n s a last (L :: xs)
inductive ChL (n : Nat) : Nat → Int → List (List Sp) → Prop
  | nil {a : Nat} {last : Int} : ChL n a last []
  | cons {a p q : Nat} {last : Int} {L : List Sp} {xs : List (List Sp)} (hg : GoodL n a L p q) (hl : ¬ (p = q ∧ last = p)) (hr : ChL n q q xs) : ChL n a last (L :: xs)
def stpR (re : List Nd) (w : List UInt8) (_ : Unit) (a : Nat) (b : Bool) (L : List Sp) (_ : Unit) : Prop := FRes re w (a : Int) b L
def Det {σ : Type} (stp : σ → Nat → Bool → List Sp → σ → Prop) : Prop := ∀ s a b L s' b2 L2 s2, stp s a b L s' → stp s a b2 L2 s2 → b = b2 ∧ L = L2 ∧ s' = s2
end Go.HL.Kl.Mc
namespace Go.Proofs.YtloepfcndglmmaaDoor
open Go Go.HL Go.Proofs Go.HL.Kl Go.HL.Kl.Mc Go.HL.Kl.Mc.AskE
theorem BSome.uniq {w : List UInt8} {x : Nd} {ks : F} {c0 : Caps} {p i j i' j' : Nat} {c c' : Caps} (h : BSome w x ks c0 p i j c) (h' : BSome w x ks c0 p i' j' c') : i = i' ∧ j = j' ∧ c = c' := by
  have ne : ∀ {l : List Caps} {d : Caps}, l.head? = some d → l ≠ [] := fun h e => by rw [e] at h; cases h
  have h1 : i = i' := by
    rcases Nat.lt_trichotomy i i' with hlt | he | hlt
    · exact absurd (h'.fst i j h.lo hlt h.ij h.hi) (ne h.hd)
    · exact he
    · exact absurd (h.fst i' j' h'.lo hlt h'.ij h'.hi) (ne h'.hd)
  subst h1
  have h2 : j = j' := by
    rcases Nat.lt_trichotomy j j' with hlt | he | hlt
    · exact absurd (h.lng j' hlt h'.hi) (ne h'.hd)
    · exact he
    · exact absurd (h'.lng j hlt h.hi) (ne h.hd)
  subst h2
  exact ⟨rfl, rfl, Option.some.inj (h.hd.symm.trans h'.hd)⟩
theorem BSome.not_none {w : List UInt8} {x : Nd} {ks : F} {c0 : Caps} {p i j : Nat} {c : Caps} (h : BSome w x ks c0 p i j c) : ¬ BNone w x ks c0 p := fun hn => by
  have h1 := h.hd
  rw [hn i j h.lo h.ij h.hi] at h1; cases h1
def BkRes (re : List Nd) (w : List UInt8) (f : Int) (b : Bool) (L : List Sp) : Prop :=
  (¬ (0 ≤ f ∧ f ≤ w.length) ∧ b = false ∧ L = []) ∨ ∃ (m : Nat) (x : Nd) (ks : F), f = m ∧ m ≤ w.length ∧ Shp re x ks ∧ ((BNone w x ks (C0 re) m ∧ b = false ∧ L = []) ∨ ∃ (i j : Nat) (c : Caps), BSome w x ks (C0 re) m i j c ∧ b = true ∧ L = ⟨(i : Nat), (j : Nat)⟩ :: c)
end Go.Proofs.YtloepfcndglmmaaDoor
namespace Go.HL.Kl.Mc
open Go Go.HL Go.HL.Kl
instance {n : Nat} {x : Nd} {c : Caps} {i j : Nat} : Decidable (goodT n x c i j) := by unfold goodT; infer_instance
abbrev CtR := Bool × List Caps × Nat
def gat1 (A : Nat → CtR) (B : Nat → Caps → CtR) (e : Nat) : CtR :=
  let a := A e
  let bs := a.2.1.map (B e)
  (a.1 && bs.all (fun b => b.1), bs.flatMap (fun b => b.2.1), a.2.2 + (bs.map (fun b => b.2.2 + 1)).sum)
def gath (es : List Nat) (A : Nat → CtR) (B : Nat → Caps → CtR) : CtR :=
  let l := es.map (gat1 A B)
  (l.all (fun r => r.1), l.flatMap (fun r => r.2.1), (l.map (fun r => r.2.2)).sum)
theorem gath_ok {es : List Nat} {A : Nat → CtR} {B : Nat → Caps → CtR} (h : (gath es A B).1 = true) {e : Nat} (he : e ∈ es) : (A e).1 = true ∧ ∀ c1 ∈ (A e).2.1, (B e c1).1 = true := by
  have h1 : (es.map (gat1 A B)).all (fun r => r.1) = true := h
  rw [List.all_map, List.all_eq_true] at h1
  have h2 : ((A e).1 && ((A e).2.1.map (B e)).all (fun b => b.1)) = true := h1 e he
  rw [Bool.and_eq_true, List.all_map, List.all_eq_true] at h2
  exact ⟨h2.1, fun c hc => h2.2 c hc⟩
theorem gath_mem {es : List Nat} {A : Nat → CtR} {B : Nat → Caps → CtR} {e : Nat} (he : e ∈ es) {c1 : Caps} (hc : c1 ∈ (A e).2.1) {d : Caps} (hd : d ∈ (B e c1).2.1) : d ∈ (gath es A B).2.1 := by
  show d ∈ (es.map (gat1 A B)).flatMap (fun r => r.2.1)
  rw [List.mem_flatMap]
  refine ⟨gat1 A B e, List.mem_map_of_mem he, ?_⟩
  show d ∈ ((A e).2.1.map (B e)).flatMap (fun b => b.2.1)
  rw [List.mem_flatMap]
  exact ⟨_, List.mem_map_of_mem hc, hd⟩
theorem gath_sum {es : List Nat} {A : Nat → CtR} {B : Nat → Caps → CtR} : sumW es (fun e => (A e).2.1) (fun e => (A e).2.2) (fun e c1 => (B e c1).2.2) = (gath es A B).2.2 := by
  show _ = ((es.map (gat1 A B)).map (fun r => r.2.2)).sum
  rw [List.map_map]
  unfold sumW
  congr 1
  refine List.map_congr_left fun e _ => ?_
  show _ = (A e).2.2 + (((A e).2.1.map (B e)).map (fun b => b.2.2 + 1)).sum
  rw [List.map_map]; rfl
def ctF (n : Nat) : Nat → TQ → CtR
  | 0, _ => (false, [], 0)
  | f + 1, .node x ks i j c =>
    if x.op = 1 ∨ x.op = 2 ∨ x.op = 3 ∨ x.op = 8 then (true, if goodT n x c i j then [c] else [], 1)
    else if x.op = 4 then (let r := ctF n f (.row ks i j c); (r.1, r.2.1, r.2.2 + 2))
    else if x.op = 6 then (match ks with
      | .nd y js .nil => let r := ctF n f (.rnd x y js 0 i j c); (r.1, r.2.1, r.2.2 + 2)
      | _ => (false, [], 0))
    else if x.op = 7 then (match ks with
      | .nd y js .nil => let r := ctF n f (.node y js i j (emp (F.nd y js .nil).flat c)); (r.1, r.2.1.map (fun d => d.set (x.n.toNat - 1) ⟨i, j⟩), r.2.2 + r.2.1.length + 1)
      | _ => (false, [], 0))
    else if x.op = 5 then (let r := ctF n f (.alt ks i j c); (r.1, r.2.1, r.2.2 + 1))
    else (false, [], 0)
  | _ + 1, .alt .nil _ _ _ => (true, [], 0)
  | f + 1, .alt (.nd y js r) i j c => let a := ctF n f (.node y js i j c); let b := ctF n f (.alt r i j c); (a.1 && b.1, a.2.1 ++ b.2.1, a.2.2 + b.2.2)
  | _ + 1, .row .nil i j c => (true, if i = j then [c] else [], 0)
  | f + 1, .row (.nd y js r) i j c => gath (if r.num = 0 then [j] else ends i j) (fun e => ctF n f (.node y js i e c)) (fun e c1 => ctF n f (.row r e j c1))
  | f + 1, .rnd x y js had i j c => let g := gath (rEs x had i j) (fun e => ctF n f (.node y js i e (emp (F.nd y js .nil).flat c))) (fun e c1 => ctF n f (.rnd x y js (had + 1) e j c1)); (g.1, g.2.1 ++ (if i = j ∧ x.mn ≤ (had : Int) then [c] else []), g.2.2)
theorem ctF_ok {n : Nat} : ∀ (f : Nat) (q : TQ), (ctF n f q).1 = true → Ct n q (ctF n f q).2.1 (ctF n f q).2.2
  | 0, _, h => by cases h
  | f + 1, .node x ks i j c, h => by
    unfold ctF at h ⊢
    by_cases h1 : x.op = 1 ∨ x.op = 2 ∨ x.op = 3 ∨ x.op = 8
    · rw [if_pos h1]
      exact .leaf h1 (fun hg => by rw [if_pos hg]; exact List.mem_cons_self) (Nat.le_refl _)
    rw [if_neg h1] at h ⊢
    by_cases h4 : x.op = 4
    · rw [if_pos h4] at h ⊢
      exact .cat h4 (ctF_ok f _ h) (Nat.le_refl _)
    rw [if_neg h4] at h ⊢
    by_cases h6 : x.op = 6
    · rw [if_pos h6] at h ⊢
      match ks, h with
      | .nd y js .nil, h => exact .rep h6 (ctF_ok f _ h) (Nat.le_refl _)
      | .nil, h => cases h
      | .nd _ _ (.nd _ _ _), h => cases h
    rw [if_neg h6] at h ⊢
    by_cases h7 : x.op = 7
    · rw [if_pos h7] at h ⊢
      match ks, h with
      | .nd y js .nil, h => exact .grp h7 (ctF_ok f _ h) (fun d hd => List.mem_map_of_mem hd) (Nat.le_refl _)
      | .nil, h => cases h
      | .nd _ _ (.nd _ _ _), h => cases h
    rw [if_neg h7] at h ⊢
    by_cases h5 : x.op = 5
    · rw [if_pos h5] at h ⊢
      exact .altC h5 (ctF_ok f _ h) (Nat.le_refl _)
    rw [if_neg h5] at h
    cases h
  | _ + 1, .alt .nil _ _ _, _ => .altNil
  | f + 1, .alt (.nd y js r) i j c, h => by
    have h' : ((ctF n f (.node y js i j c)).1 && (ctF n f (.alt r i j c)).1) = true := h
    rw [Bool.and_eq_true] at h'
    exact .altCons (ctF_ok f _ h'.1) (ctF_ok f _ h'.2) (fun d hd => List.mem_append_left _ hd) (fun d hd => List.mem_append_right _ hd) (Nat.le_refl _)
  | _ + 1, .row .nil i j c, _ => .rowNil fun e => by unfold ctF; rw [if_pos e]; exact List.mem_cons_self
  | f + 1, .row (.nd y js r) i j c, h => by
    unfold ctF at h ⊢
    exact .rowCons (es := if r.num = 0 then [j] else ends i j) rfl (fun e he => ctF_ok f _ (gath_ok h he).1) (fun e he c1 hc => ctF_ok f _ ((gath_ok h he).2 c1 hc)) (fun e he c1 hc d hd => gath_mem he hc hd) (Nat.le_of_eq gath_sum)
  | f + 1, .rnd x y js had i j c, h => by
    unfold ctF at h ⊢
    exact .rnd (es := rEs x had i j) rfl (fun e he => ctF_ok f _ (gath_ok h he).1) (fun e he c1 hc => ctF_ok f _ ((gath_ok h he).2 c1 hc)) (fun e he c1 hc d hd => List.mem_append_left _ (gath_mem he hc hd)) (fun e1 e2 => List.mem_append_right _ (by rw [if_pos ⟨e1, e2⟩]; exact List.mem_cons_self)) (Nat.le_of_eq gath_sum)
def accB (n f : Nat) (x : Nd) (ks : F) (c : Caps) (T : Nat) : Bool :=
  let l := (prs n (n + 1)).map fun p => ctF n f (.node x ks p.1 p.2 c)
  l.all (fun r => r.1) && decide ((l.map fun r => r.2.2).sum ≤ 3 * T)
theorem accB_ok {n f : Nat} {x : Nd} {ks : F} {c : Caps} {T : Nat} (h : accB n f x ks c T = true) : LAcc n x ks c (prs n (n + 1)) T := by
  have h' : ((((prs n (n + 1)).map fun p => ctF n f (.node x ks p.1 p.2 c)).all fun r => r.1) && decide ((((prs n (n + 1)).map fun p => ctF n f (.node x ks p.1 p.2 c)).map fun r => r.2.2).sum ≤ 3 * T)) = true := h
  rw [Bool.and_eq_true, List.all_map, List.all_eq_true, List.map_map, decide_eq_true_eq] at h'
  refine ⟨fun i j => (ctF n f (.node x ks i j c)).2.2, fun p hp => ⟨_, ctF_ok f _ (h'.1 p hp)⟩, ?_⟩
  have h2 := h'.2
  have e : ((prs n (n + 1)).map fun p => (ctF n f (.node x ks p.1 p.2 c)).2.2).sum = (((prs n (n + 1)).map ((fun r => r.2.2) ∘ fun p => ctF n f (.node x ks p.1 p.2 c)))).sum := rfl
  rw [e]
  omega
def catV : Nd := ⟨4, 0, 0, 0, 0, 3⟩
def refV : Nd := ⟨8, 0, 1, 0, 0, 0⟩
def reV : List Nd := [catV, grpC, starN, letN 97, letN 98, refV]
def ksV : F := .nd grpC (.nd starN (.nd (letN 97) .nil .nil) .nil) (.nd (letN 98) .nil (.nd refV .nil .nil))
def w6 : List UInt8 := [99, 97, 97, 98, 97, 99]
def w3 : List UInt8 := [97, 97, 97]
theorem shpV : Shp reV catV ksV := ⟨⟨by decide +kernel, rfl, ⟨by decide +kernel, rfl, wfW, let_ok' 98, rfl, trivial, by decide +kernel, rfl, trivial, trivial⟩, trivial⟩, rfl, by decide, by decide +kernel⟩
theorem shapedV : shapedB reV = true := shapedB_iff.2 ⟨⟨[true], by decide +kernel⟩, _, _, shpV⟩
theorem rngV : ∀ x ∈ reV, -128 ≤ x.op ∧ x.op < 128 := by simp [reV, catV, grpC, starN, letN, refV]
theorem gcnV : gcn reV = 1 := by decide +kernel
theorem accV6 : accB 6 40 catV ksV [noS] 262144 = true := by decide +kernel
theorem accV3 : accB 3 40 catV ksV [noS] 262144 = true := by decide +kernel
theorem lfV : LF1 w6 catV ksV 2 5 [noS] = [[⟨2, 3⟩]] := by decide +kernel
theorem lfV6 : ((List.range 7).all fun i => (List.range 7).all fun j => decide (2 ≤ i ∧ (i ≠ 2 ∨ j ≤ 5) ∨ LF1 w6 catV ksV i j [noS] = [])) = true := by decide +kernel
theorem lfV3 : ((List.range 4).all fun i => (List.range 4).all fun j => decide (LF1 w3 catV ksV i j [noS] = [])) = true := by decide +kernel
theorem lfV6n {i j : Nat} (hi : i ≤ 6) (hj : j ≤ 6) (h : ¬ (2 ≤ i ∧ (i ≠ 2 ∨ j ≤ 5))) : LF1 w6 catV ksV i j [noS] = [] := by
  have h1 := List.all_eq_true.1 (List.all_eq_true.1 lfV6 i (List.mem_range.2 (by omega))) j (List.mem_range.2 (by omega))
  exact (of_decide_eq_true h1).resolve_left h
theorem lfV3n {i j : Nat} (hi : i ≤ 3) (hj : j ≤ 3) : LF1 w3 catV ksV i j [noS] = [] := by
  have h1 := List.all_eq_true.1 (List.all_eq_true.1 lfV3 i (List.mem_range.2 (by omega))) j (List.mem_range.2 (by omega))
  exact of_decide_eq_true h1
def reE : List Nd := [letN 97]
theorem shpE : Shp reE (letN 97) .nil := ⟨⟨let_ok' 97, rfl, trivial, trivial⟩, rfl, by decide, by decide +kernel⟩
theorem shapedE : shapedB reE = true := shapedB_iff.2 ⟨⟨[], by decide +kernel⟩, _, _, shpE⟩
theorem rngE : ∀ x ∈ reE, -128 ≤ x.op ∧ x.op < 128 := by simp [reE, letN]
end Go.HL.Kl.Mc
namespace Go.Proofs.YtloepfcndglmmaaDoor
open Go Go.HL Go.Proofs Go.HL.Kl Go.HL.Kl.Mc Go.HL.Kl.Mc.AskE
theorem En_catV : En catV = [.int .i8 4, .int .u64 0, .int .u64 0, .int .u64 0, .int .u64 0, .int .i64 0, .int .i64 0, .int .i64 0, .int .i64 3] := by
  show _ :: (Ec 0#256 ++ _) = _
  rw [Ec_zero]; rfl
theorem En_refV : En refV = [.int .i8 8, .int .u64 0, .int .u64 0, .int .u64 0, .int .u64 0, .int .i64 1, .int .i64 0, .int .i64 0, .int .i64 0] := by
  show _ :: (Ec 0#256 ++ _) = _
  rw [Ec_zero]; rfl
theorem letterO_fn (b : UInt8) : HL.Fn Tryd.prog 45 [.int .u8 b.toNat] (fun _ => True) [] (fun v S' => ∃ S2, HSub S' S2 ∧ v = .agg (En (letN b)).toArray ∧ S2 = []) := by
  refine fn_of Tryd.func45 rfl rfl rfl fun w0 hw => ?_
  have hx := b.toNat_lt
  refine cR fun _ hK1 => ?_; refine o_alloc (l := En zN) (by rw [En_zero]; rfl) rfl fun b2 => ?_; refine oZ hK1 (cR fun _ hK2 => ?_); refine oS (step_cast (v' := .agg (En (⟨1, 0, 0, 0, 0, 0⟩ : Nd)).toArray) (s_build (cs := [_, _, _, _, _, _, _, _, _]) (vs := [_]) rfl rfl (.cons rfl rfl rfl rfl rfl .nil)) (by rw [En_one])) ?_; refine o_alloc (l := En zN) (by rw [En_zero]; rfl) rfl fun b3 => ?_; refine o_stW rfl rfl upA lnA lnA onA ?_; refine oZ hK2 (cR fun _ hK3 => ?_); refine oM ?_; refine oS (step_cast (v' := .int .u8 ((b.toNat / 64 : Nat) : Int)) (s_quo rfl rfl (by decide)) (congrArg _ (quo64 hx))) ?_; refine oM ?_; refine oS (step_cast (v' := .int .u8 ((b.toNat % 64 : Nat) : Int)) (s_rem rfl rfl (by decide)) (congrArg _ (rem64 hx))) ?_; refine oS (step_cast (v' := Ew (1#64 <<< (b.toNat % 64))) (s_shl rfl rfl (by omega)) (v_shl1 (by omega))) ?_; refine oS sF ?_; refine oS (s_indexA rfl rfl (by omega)) ?_; refine o_store rfl rfl rfl upA (by show _ < 9; omega) rfl ?_
  rw [letN_set b]
  refine oZ hK3 (cR fun _ hK4 => ?_); refine oS (s_ldB rfl (RdPK.cels (.own meA)) lnA) ?_; refine o_stW rfl rfl upA lnA lnA onA ?_; refine oZ hK4 (c_ret ?_); refine ?_; exact x_ret rfl (.agg inferInstance inferInstance rfl (RdPK.cels (.own meA)) lnA (.nil)) (⟨[], HSub.nil, rfl, rfl⟩)
theorem letter_fn (b : UInt8) : HL.Fn Tryd.prog 45 [.int .u8 b.toNat] (fun _ => True) [] (fun v _ => v = .agg (En (letN b)).toArray) :=
  Fn.sub (letterO_fn b) fun v S' ⟨S2, h1, h2, h3⟩ => ⟨S2, h1, h2⟩
theorem longN_fn (n : Int) : HL.Fn Tryd.prog 22 [.int .i64 n] (fun _ => True) [] (fun v _ => v = .bool (decide (n > 2147483647))) := by
  refine fn_of Tryd.func22 rfl rfl rfl fun w0 hw => ?_; refine cR fun _ hK1 => ?_; refine oA (oZ hK1 (cR fun _ hK2 => ?_)); refine oM ?_; refine oS (s_gtr rfl rfl) ?_; refine oA (oZ hK2 (c_ret ?_)); refine ?_; exact xR rfl rfl (rfl)
theorem bFindU_fn (ra : Option Addr) (rc : Nat) (re : List Nd) (hre : ∀ x ∈ re, -128 ≤ x.op ∧ x.op < 128) (ta : Option Addr) (tc : Nat) (w : List UInt8) (p f : Int) (hsb : shapedB re = false) : HL.Fn Tryd.prog 16 [.slice ra re.length rc, .slice ta w.length tc, .int .i64 p, .int .i64 f] (fun W => Rd En W (.slice ra re.length rc) re ∧ Rd Eb W (.slice ta w.length tc) w ∧ RdP W 0 0 (Esp noS)) [] (fun v S' => v = .tuple #[.slice none 0 0, .bool false, .int .i64 49] ∧ S' = []) := by
  refine fn_of Tryd.func16 rfl rfl rfl fun w0 hw => ?_; refine cR fun _ hK1 => ?_; refine oA (oA (oA (oZ hK1 (c_seq fun _ hK2 => ?_)))); refine cR fun _ hK3 => ?_; refine oM ?_; refine o_callP (shaped_fn ra rc re hre) rfl rfl rfl (fun _ st => (RdK.old0 hw.1).out _ st) (fun v16 hv16 => ?_)
  rw [hsb] at hv16
  subst hv16; refine oS (s_not rfl) ?_; refine oZ hK3 ?_; refine cT (cR fun _ hK4 => ?_); refine oA (oA (oA (oZ hK4 (c_ret ?_)))); refine x_then_ret (?_); exact x_ret rfl (.tmp rfl (.tmp rfl (.tmp rfl (.nil)))) (⟨rfl, rfl⟩)
theorem bFindA_fn (ra : Option Addr) (rc : Nat) (re : List Nd) (hre : ∀ x ∈ re, -128 ≤ x.op ∧ x.op < 128) (ta : Option Addr) (tc : Nat) (w : List UInt8) (p : Int) (hfit : shapedB re = true → Fits re w.length) : HL.Fn Tryd.prog 16 [.slice ra re.length rc, .slice ta w.length tc, .int .i64 p, .int .i64 4611686018427387904] (fun W => Rd En W (.slice ra re.length rc) re ∧ Rd Eb W (.slice ta w.length tc) w ∧ RdP W 0 0 (Esp noS)) [] (BkP re w p) := by
  cases hsb : shapedB re with
  | false => exact (bFindU_fn ra rc re hre ta tc w p 4611686018427387904 hsb).weaken (fun _ h => h) fun v S' h => .inl ⟨hsb, h.1, h.2⟩
  | true =>
    have hl : re.length ≤ 16384 := by obtain ⟨_, x, ks, hs⟩ := shapedB_iff.1 hsb; exact hs.len
    have hw := (hfit hsb w.length rfl).1
    exact bFind_fn ra rc re hre ta tc w (by omega) (by omega) p 4611686018427387904 (by decide) (by decide) hfit
theorem fitsV6 : Fits reV (w6.length : Nat) := fun m hm => by
  have : m = 6 := by simp [w6] at hm; omega
  subst this
  exact ⟨by decide, catV, ksV, shpV, by rw [gcnV]; exact accB_ok accV6⟩
theorem fitsV3 : Fits reV (w3.length : Nat) := fun m hm => by
  have : m = 3 := by simp [w3] at hm; omega
  subst this
  exact ⟨by decide, catV, ksV, shpV, by rw [gcnV]; exact accB_ok accV3⟩
theorem c0V : C0 reV = [noS] := by rw [C0, gcnV]; rfl
theorem bkV6 {v : Value} {S' : Hp} (h : BkP reV w6 0 v S') : ∃ a c, v = .tuple #[.slice a 2 c, .bool true, .int .i64 0] ∧ OwnS Esp 2 45 (.slice a 2 c) [⟨2, 5⟩, ⟨2, 3⟩] S' := by
  have hl : w6.length = 6 := rfl
  have good : BSome w6 catV ksV (C0 reV) 0 2 5 [⟨2, 3⟩] := by
    rw [c0V]
    exact ⟨Nat.zero_le _, by decide, by decide, by rw [lfV]; rfl, fun i' j' _ h2 _ h4 => lfV6n (by omega) (by omega) (by omega), fun j' h1 h2 => lfV6n (by omega) (by omega) (by omega), rfl, fun s hs => by
      rw [List.mem_singleton.1 hs]; exact .inr ⟨by decide, by decide, by decide⟩⟩
  rcases h with ⟨h, _⟩ | ⟨_, h, _⟩ | ⟨_, m, hm, _, x, ks, hS, h⟩
  · rw [shapedV] at h; cases h
  · exact absurd ⟨by decide, by decide⟩ h
  · obtain ⟨rfl, rfl⟩ := hS.uniq shpV
    obtain rfl : m = 0 := by omega
    rcases h with ⟨hn, _⟩ | ⟨i, j, c, a, cc, hB, hv, hO⟩
    · exact absurd hn good.not_none
    · obtain ⟨rfl, rfl, rfl⟩ := hB.uniq good
      rw [gcnV] at hv hO
      exact ⟨a, cc, hv, hO⟩
theorem bkV3 {v : Value} {S' : Hp} (h : BkP reV w3 0 v S') : v = .tuple #[.slice none 0 0, .bool false, .int .i64 0] := by
  have hl : w3.length = 3 := rfl
  rcases h with ⟨h, _⟩ | ⟨_, h, _⟩ | ⟨_, m, hm, _, x, ks, hS, h⟩
  · rw [shapedV] at h; cases h
  · exact absurd ⟨by decide, by decide⟩ h
  · obtain ⟨rfl, rfl⟩ := hS.uniq shpV
    rcases h with ⟨_, hv, _⟩ | ⟨i, j, c, a, cc, hB, _, _⟩
    · exact hv
    · have h1 := hB.hd
      have h2 := hB.ij
      have h3 := hB.hi
      rw [c0V, lfV3n (by omega) (by omega)] at h1; cases h1
theorem enE : enN .nil (F.nd (letN 97) .nil .nil).weight reE 0 = 64 := by decide +kernel
theorem BkP.trip {re : List Nd} {w : List UInt8} {p : Int} {v : Value} {S' : Hp} (h : BkP re w p v S') : ∃ a b c, v = .tuple #[a, b, c] := by
  rcases h with ⟨_, h, _⟩ | ⟨_, _, h, _⟩ | ⟨_, _, _, _, _, _, _, ⟨_, h, _⟩ | ⟨_, _, _, _, _, _, h, _⟩⟩ <;> exact ⟨_, _, _, h⟩
set_option maxHeartbeats 1000000 in
theorem found_fn (ra : Option Addr) (rc : Nat) (re : List Nd) (hre : ∀ x ∈ re, -128 ≤ x.op ∧ x.op < 128) (ta : Option Addr) (tc : Nat) (w : List UInt8) (hrl : re.length ≤ 2147483647) (hwl : w.length ≤ 2147483647) (p : Int) (hfit : shapedB re = true → Fits re w.length) : HL.Fn Tryd.prog 24 [.slice ra re.length rc, .slice ta w.length tc, .int .i64 p] (fun W => Rd En W (.slice ra re.length rc) re ∧ Rd Eb W (.slice ta w.length tc) w ∧ RdP W 0 0 (Esp noS)) [] (BkP re w p) := by
  refine fn_of Tryd.func24 rfl rfl rfl fun w0 hw => ?_; refine cR fun _ hK1 => ?_; refine oA (oA (oA (oZ hK1 (cR fun _ hK2 => ?_)))); refine oM ?_; refine o_call (copyNodes_fn ra rc re (by omega)) rfl rfl rfl (by exact .nil) (fun _ st => (RdK.old0 hw.1).out _ st) (fun v14 S14 ⟨a14, c14, hv14, hS14⟩ => ?_); subst hv14
  refine oM ?_; refine o_call (copyBytes_fn ta tc w (by omega)) rfl rfl rfl (by exact .nil) (fun _ st => (RdK.old0 hw.2.1).out _ st) (fun v16 S16 ⟨a16, c16, hv16, hS16⟩ => ?_); subst hv16
  refine oM ?_; refine o_call (bFindA_fn a14 c14 re hre a16 c16 w p hfit) rfl rfl rfl (by exact .nil) (fun _ st => ⟨(hS14.rdk hiA).out _ st, (hS16.rdk hiA).out _ st, (RdPK.old0 hw.2.2).out _ st⟩) (fun v18 S18 hv18 => ?_)
  obtain ⟨q1, q2, q3, rfl⟩ := hv18.trip
  refine oM ?_; refine oS sE ?_; refine oS sE ?_; refine oS sE (oA (oA (oA (oZ hK2 (cR fun _ hK3 => ?_))))); refine oM (oM (oM (oA (oA (oA (oZ hK3 (c_ret ?_))))))); refine ?_; refine x_sub (Sub.refl _) (H' := S18) hzB ?_; exact x_ret rfl (.tmp rfl (.tmp rfl (.tmp rfl (.nil)))) (hv18)
set_option maxHeartbeats 2000000 in
theorem works_fn  : HL.Fn Tryd.prog 15 [] (fun W => RdP W 0 0 (Esp noS)) [] (fun v _ => v = .bool true) := by
  refine fn_of Tryd.func15 rfl rfl rfl fun w0 hw => ?_; refine cR fun _ hK1 => ?_; refine oA (oZ hK1 (cR fun _ hK2 => ?_)); refine oS (step_cast (v' := .agg (En catV).toArray) (s_build (cs := [_, _, _, _, _, _, _, _, _]) (vs := [_, _]) rfl rfl (.cons rfl rfl rfl rfl rfl (.cons rfl rfl rfl rfl rfl (.nil)))) (by rw [En_catV])) ?_; refine oS (step_cast (v' := .agg (En grpC).toArray) (s_build (cs := [_, _, _, _, _, _, _, _, _]) (vs := [_, _, _]) rfl rfl (.cons rfl rfl rfl rfl rfl (.cons rfl rfl rfl rfl rfl (.cons rfl rfl rfl rfl rfl (.nil))))) (by rw [En_grpC])) ?_; refine oS (step_cast (v' := .agg (En starN).toArray) (s_build (cs := [_, _, _, _, _, _, _, _, _]) (vs := [_, _, _]) rfl rfl (.cons rfl rfl rfl rfl rfl (.cons rfl rfl rfl rfl rfl (.cons rfl rfl rfl rfl rfl (.nil))))) (by rw [En_star])) ?_; refine o_callP (letter_fn 97) rfl rfl rfl (fun _ _ => trivial) (fun v11 hv11 => ?_); subst hv11
  refine o_callP (letter_fn 98) rfl rfl rfl (fun _ _ => trivial) (fun v12 hv12 => ?_); subst hv12
  refine oS (step_cast (v' := .agg (En refV).toArray) (s_build (cs := [_, _, _, _, _, _, _, _, _]) (vs := [_, _]) rfl rfl (.cons rfl rfl rfl rfl rfl (.cons rfl rfl rfl rfl rfl (.nil)))) (by rw [En_refV])) ?_; refine o_bs (E := En) (xs := [catV, grpC, starN, letN 97, letN 98, refV]) (vs := [_, _, _, _, _, _]) rfl rfl rfl rfl rfl (by decide) (by decide) fun b14 S14 hS14 => ?_; refine oA (oZ hK2 (cR fun _ hK3 => ?_)); refine oM ?_; refine o_bs (E := Eb) (xs := [99, 97, 97, 98, 97, 99]) (vs := [_, _, _, _, _, _]) rfl rfl rfl rfl rfl (by decide) (by decide) fun b17 S17 hS17 => ?_; refine o_conv_same rfl hS17 pkA rfl fun S18 hS18 => ?_; refine o_call (bFindA_fn (some ⟨b14, 0, none⟩) 6 reV rngV (some ⟨b17, 0, none⟩) 6 w6 0 (fun _ => fitsV6)) rfl rfl rfl (by exact .nil) (fun w st => ⟨(hS14.rdk hiA).out w st, (hS18.rdk hiA).out w st, (RdPK.old0 hw).out w st⟩) (fun v19 S19 hv19 => ?_)
  obtain ⟨a19, c19, rfl, hO19⟩ := bkV6 hv19
  refine oM ?_; refine oS sE ?_; refine oS sE ?_; refine oS sE (oA (oA (oA (oZ hK3 (cR fun _ hK4 => ?_))))); refine oM ?_; refine o_bs (E := Eb) (xs := [97, 97, 97]) (vs := [_, _, _]) rfl rfl rfl rfl rfl (by decide) (by decide) fun b25 S25 hS25 => ?_; refine o_conv_same rfl hS25 pkA rfl fun S26 hS26 => ?_; refine o_call (bFindA_fn (some ⟨b14, 0, none⟩) 6 reV rngV (some ⟨b25, 0, none⟩) 3 w3 0 (fun _ => fitsV3)) rfl rfl rfl (by exact .nil) (fun w st => ⟨(hS14.rdk hiA).out w st, (hS26.rdk hiA).out w st, (RdPK.old0 hw).out w st⟩) (fun v27 S27 hv27 => ?_)
  obtain rfl := bkV3 hv27
  refine oM ?_; refine oS sE ?_; refine oS sE ?_; refine oS sE (oA (oA (oA (oZ hK4 (c_seq fun _ hK5 => ?_))))); refine cR fun _ hK6 => ?_; refine oM ?_; refine oS (s_not rfl) ?_; refine oM ?_; refine oY (oM ?_); refine oY ?_; refine oS (step_cast (v' := .bool false) (s_neq rfl rfl) rfl) ?_; refine oS sP (oM ?_); refine oY (oM ?_); refine oY ?_; refine oS sC ?_; refine oY ?_; refine oS (step_cast (v' := .bool false) (s_neq rfl rfl) rfl) ?_; refine oS sP (oM ?_); refine oY (oM ?_); refine oY ?_; refine oS (s_idx rfl rfl hO19.sl (by omega)) ?_; refine oY ?_; refine oS (s_ldB rfl ((hO19.rdk hiA).lds 0 rfl rfl) (by rfl)) ?_; refine oY ?_; refine oS (step_cast (v' := .agg (Esp ⟨2, 5⟩).toArray) (s_build (cs := [_, _]) (vs := [_, _]) rfl rfl (.cons rfl rfl rfl rfl rfl (.cons rfl rfl rfl rfl rfl (.nil)))) rfl) ?_; refine oY ?_; refine oS (step_cast (v' := .bool false) (s_neq_sp rfl rfl) rfl) ?_; refine oS sP (oM ?_); refine oY (oM ?_); refine oY ?_; refine oS (s_idx rfl rfl hO19.sl (by omega)) ?_; refine oY ?_; refine oS (s_ldB rfl ((hO19.rdk hiA).lds 1 rfl rfl) (by rfl)) ?_
  refine oY ?_; refine oS (step_cast (v' := .agg (Esp ⟨2, 3⟩).toArray) (s_build (cs := [_, _]) (vs := [_, _]) rfl rfl (.cons rfl rfl rfl rfl rfl (.cons rfl rfl rfl rfl rfl (.nil)))) rfl) ?_; refine oY ?_; refine oS (step_cast (v' := .bool false) (s_neq_sp rfl rfl) rfl) ?_; refine oS sP (oZ hK6 ?_); refine cFZ hK5 (cR fun _ hK7 => ?_); refine oM ?_; refine oS (s_not rfl) ?_; refine oM ?_; refine oY (oM ?_); refine oY ?_; refine oS (step_cast (v' := .bool true) (s_eql rfl rfl) rfl) ?_; refine oS sT (oM ?_); refine oY (oM ?_); refine oY ?_; refine oS sC ?_; refine oY ?_; refine oS (step_cast (v' := .bool true) (s_eql rfl rfl) rfl) ?_; refine oS sT (oM ?_); refine oY ?_; refine o_callP (letter_fn 97) rfl rfl rfl (fun _ _ => trivial) (fun v68 hv68 => ?_); subst hv68
  refine oY ?_; refine o_bs (E := En) (xs := [letN 97]) (vs := [_]) rfl rfl rfl rfl rfl (by decide) (by decide) fun b69 S69 hS69 => ?_; refine oY ?_; refine o_callP (enough_fn (some ⟨b69, 0, none⟩) 1 reE rngE 0 (by decide)) rfl rfl rfl (fun w st => (hS69.rdk hiA).out w st) (fun v70 hv70 => ?_)
  obtain rfl : v70 = .int .i64 64 := by
    rcases hv70 with ⟨h, _⟩ | ⟨x, ks, hS, _, _, h⟩
    · exact absurd ⟨shapedE, by decide⟩ h
    · obtain ⟨rfl, rfl⟩ := hS.uniq shpE
      rw [h]; exact congrArg (fun n : Nat => Value.int .i64 n) enE
  refine oY ?_; refine oS (step_cast (v' := .bool true) (s_eql rfl rfl) rfl) ?_; refine oS sT (oA (oZ hK7 (c_ret ?_))); refine ?_; exact xR rfl rfl (rfl)
end Go.Proofs.YtloepfcndglmmaaDoor
namespace Go.HL.Kl.Mc
open Go Go.HL Go.HL.Kl
abbrev ddp (m : List Caps) : List Caps := addC [] m
def semQ (w : List UInt8) : TQ → List Caps
  | .node x ks i j c => LF1 w x ks i j c
  | .alt g i j c => LF w g true i j c
  | .row g i j c => LF w g false i j c
  | .rnd x y js had i j c => RLf x (fun p e c => LF w (.nd y js .nil) false p e (emp (F.nd y js .nil).flat c)) j had i c
def ordQ : TQ → Prop
  | .node _ _ i j _ => i ≤ j
  | .alt _ i j _ => i ≤ j
  | .row _ i j _ => i ≤ j
  | .rnd _ _ _ _ i j _ => i ≤ j
def lenQ (k : Nat) : TQ → Nat
  | .node _ _ _ _ _ => k
  | .alt _ _ _ _ => k
  | .row _ _ _ _ => k + 1
  | .rnd _ _ _ _ _ _ _ => k + 1
def gatS (es : List Nat) (A : Nat → List Caps) (B : Nat → Caps → List Caps) : List Caps := es.flatMap fun e => (A e).flatMap (B e)
variable {n : Nat} {x : Nd} {ks : F} {i j : Nat} {c : Caps} {Z : List Caps} {k : Nat}
end Go.HL.Kl.Mc
namespace Go.HL.Kl.Mc
open Go Go.HL Go.HL.Kl
def OkC (n : Nat) (c : Caps) : Prop := ∀ s ∈ c, s = noS ∨ (0 ≤ s.fr ∧ s.fr ≤ s.to ∧ s.to ≤ n)
def InC (i j : Nat) (c d : Caps) : Prop := ∀ s ∈ d, s ∈ c ∨ s = noS ∨ ((i : Int) ≤ s.fr ∧ s.fr ≤ s.to ∧ s.to ≤ (j : Int))
end Go.HL.Kl.Mc
namespace Go.Proofs.YtloepfcndglmmaaDoor
open Go Go.HL Go.Proofs Go.HL.Kl Go.HL.Kl.Mc
set_option maxHeartbeats 1000000 in
theorem beyond_fn (ra : Option Addr) (rc : Nat) (re : List Nd) (hre : ∀ x ∈ re, -128 ≤ x.op ∧ x.op < 128) : HL.Fn Tryd.prog 21 [.slice ra re.length rc] (fun w => Rd En w (.slice ra re.length rc) re) [] (fun v _ => ∃ b, v = .bool b) := by
  refine fn_of Tryd.func21 rfl rfl rfl fun w0 hw => ?_
  have hsl := hw.sl
  have hbl := hsl.le
  refine cR fun _ hK1 => ?_; refine oA (oZ hK1 (cR fun _ hK2 => ?_)); refine oA (oZ hK2 (c_seq fun _ hK3 => ?_)); refine cR fun _ hK4 => ?_; refine oA (oZ hK4 (c_block ?_))
  -- not carried: 2
  refine c_loop3 (fun (j : Nat) (q : Sl Int) (S : Hp) => j ≤ re.length ∧ q.xs.length ≤ 65536 ∧ OwnS Ei 1 3 (.slice q.a q.xs.length q.c) q.xs S) (fun (j : Nat) (q : Sl Int) (S : Hp) => [(4, .int .i64 j), (3, .slice q.a q.xs.length q.c)]) [(0, _)] (fun (j : Nat) (q : Sl Int) (S : Hp) => S) (fun (j : Nat) (q : Sl Int) (S : Hp) => re.length - j) 0 ⟨none, 0, []⟩ [] ⟨by omega, by simp, .nil⟩ sbA sbA hzB ?_
  rintro j q0 S0 ⟨hj, hq0, hO0⟩
  refine c_seq fun _ hK5 => ?_; refine cR fun _ hK6 => ?_; refine oM (oM ?_); refine oS sC ?_
  by_cases hjl : j < re.length
  ·obtain ⟨x, hx⟩ : ∃ x, re[j]? = some x := ⟨_, List.getElem?_eq_getElem hjl⟩
   refine oS lsT (oZ hK6 ?_); refine cTZ hK5 (c_seq fun _ hK7 => ?_); refine c_block (c_seq fun _ hK8 => ?_); refine c_block ?_; refine c_loop2 (fun (q : Sl Int) (S : Hp) => q.xs.length ≤ 65536 ∧ OwnS Ei 1 3 (.slice q.a q.xs.length q.c) q.xs S) (fun (q : Sl Int) (S : Hp) => [(3, .slice q.a q.xs.length q.c)]) [(0, _), (4, _), (5, _), (6, _), (7, _), (8, _)] (fun (q : Sl Int) (S : Hp) => S) (fun (q : Sl Int) (S : Hp) => q.xs.length) q0 S0 ⟨hq0, hO0⟩ sbA sbA hzB ?_
   rintro q S ⟨hq, hO⟩
   have hOs := hO.sl
   have hOc := hOs.cap
   refine c_seq fun _ hK9 => ?_; refine cR fun _ hK10 => ?_; refine oM ?_; refine oS sC ?_
   by_cases hp0 : (q.xs.length : Int) > 0
   ·obtain ⟨u, hu⟩ : ∃ u, q.xs[q.xs.length - 1]? = some u := gE
    have hO1 := hO.pre (q.xs.length - 1) (by omega)
    have hql1 : (q.xs.take (q.xs.length - 1)).length = q.xs.length - 1 := by rw [List.length_take]; omega
    refine oS gtT (oM ?_); refine oY (oM ?_); refine oY (oM ?_); refine oY ?_; refine oS sC ?_; refine oY ?_; refine oS sU ?_; refine oY ?_; refine oS (s_idx rfl rfl hOs (by omega)) ?_; refine oY ?_; refine oS (s_ld rfl ((hO.rdk hiA).ld (q.xs.length - 1) 0 hu rfl (by decide) (by omega))) ?_; refine oY ?_
    by_cases hle : u ≤ 0
    ·refine oS leT ?_; refine oS sT (oZ hK10 ?_); refine cTZ hK9 (c_block (c_region (oM (oM ?_)))); refine oS sC ?_; refine oS sU ?_; refine oS (step_cast (v' := .slice q.a (q.xs.take (q.xs.length - 1)).length q.c) (s_slice_hi rfl rfl (by omega)) (by rw [hql1]; congr 1; omega)) ?_; refine oA (o_nil (x_block ?_)); exact x_then (x_inv (⟨q.a, q.c, q.xs.take (q.xs.length - 1)⟩, S) ⟨by rw [hql1]; omega, by dsimp only; rw [hql1]; exact hO1⟩ (by dsimp only; rw [hql1]; omega) sbA hzB)
    ·refine oS leF ?_; refine oS sT (oZ hK10 ?_); refine cF ?_; refine c_exit ?_; refine x_then_exit (x_then_exit (x_block_exit (xZ hK8 (c_seq fun _ hK11 => ?_)))); refine cR fun _ hK12 => ?_; refine oM ?_; refine oS sC ?_
     by_cases hp1 : (q.xs.length : Int) > 0
     ·obtain ⟨u2, hu2⟩ : ∃ u, q.xs[q.xs.length - 1]? = some u := gE
      refine oS gtT (oZ hK12 ?_); refine cT (c_region (oM (oM ?_))); refine oS sC ?_; refine oS sU (oM (oM ?_)); refine oS sC ?_; refine oS sU ?_; refine oS (s_idx rfl rfl hOs (by omega)) ?_; refine oS (s_ld rfl ((hO.rdk hiA).ld (q.xs.length - 1) 0 hu2 rfl (by decide) (by omega))) ?_; refine oS (s_subw rfl rfl) ?_; refine oS (s_idx rfl rfl hOs (by omega)) ?_; refine o_stS1 (q.xs.length - 1) _ hO pkA rfl rfl rfl (by omega) (by omega) fun S' hS' => ?_
      have hO := hS'
      refine oZ hK11 (cR fun _ hK13 => ?_); refine oM (oM (oM ?_)); refine oS (s_idx rfl rfl hsl (by omega)) ?_; refine oS sF ?_; refine oS (s_ld rfl ((RdK.old0 hw).ld j 8 hx rfl (by decide) (by omega))) ?_; refine o_bs (E := Ei) (xs := [x.kids]) (vs := [_]) rfl rfl rfl rfl rfl (by decide) (by decide) fun b49 S49 hS49 => ?_; refine o_app hO (hS49.rdk hiA) rfl rfl rfl rfl (by simp; omega) (by simp; omega) rfl pkA fun a50 c50 S50 hS50 => ?_; refine oA (oZ hK13 (cR fun _ hK14 => ?_)); refine oM ?_; refine oS sC ?_; refine oS (s_gtr rfl rfl) ?_; refine oZ hK14 ?_
      refine c_if rfl (fun hbig => ?_) (fun hbig => ?_)
      ·refine cR fun _ hK15 => ?_; refine oA (oZ hK15 (c_ret ?_)); refine x_block_ret (x_then_ret (x_then_ret (x_block_ret (x_then_ret (?_)))))
       exact xR rfl rfl (⟨_, rfl⟩)
      ·refine c_skip (x_block (xZ hK7 (c_region (oM ?_)))); refine oS sD (oA (o_nil ?_)); exact xI (j + 1, ⟨a50, c50, _⟩, S50) ⟨by omega, by dsimp only; omega, hS50⟩
     ·refine oS gtF (oZ hK12 ?_); refine cFZ hK11 (cR fun _ hK16 => ?_); refine oM (oM (oM ?_)); refine oS (s_idx rfl rfl hsl (by omega)) ?_; refine oS sF ?_; refine oS (s_ld rfl ((RdK.old0 hw).ld j 8 hx rfl (by decide) (by omega))) ?_; refine o_bs (E := Ei) (xs := [x.kids]) (vs := [_]) rfl rfl rfl rfl rfl (by decide) (by decide) fun b49 S49 hS49 => ?_; refine o_app hO (hS49.rdk hiA) rfl rfl rfl rfl (by simp; omega) (by simp; omega) rfl pkA fun a50 c50 S50 hS50 => ?_; refine oA (oZ hK16 (cR fun _ hK17 => ?_)); refine oM ?_; refine oS sC ?_; refine oS (s_gtr rfl rfl) ?_; refine oZ hK17 ?_; refine c_if rfl (fun hbig => ?_) (fun hbig => ?_)
      ·refine cR fun _ hK18 => ?_; refine oA (oZ hK18 (c_ret ?_)); refine x_block_ret (x_then_ret (x_then_ret (x_block_ret (x_then_ret (?_)))))
       exact xR rfl rfl (⟨_, rfl⟩)
      ·refine c_skip (x_block (xZ hK7 (c_region (oM ?_)))); refine oS sD (oA (o_nil ?_)); exact xI (j + 1, ⟨a50, c50, _⟩, S50) ⟨by omega, by dsimp only; omega, hS50⟩
   ·refine oS gtF (oM ?_); refine oN ?_; refine oN ?_; refine oN ?_; refine oN ?_; refine oN ?_; refine oN ?_; refine oN ?_; refine oS sP (oZ hK10 ?_); refine cF ?_; refine c_exit ?_; refine x_then_exit (x_then_exit (x_block_exit (xZ hK8 (c_seq fun _ hK19 => ?_)))); refine cR fun _ hK20 => ?_; refine oM ?_; refine oS sC ?_
    by_cases hp1 : (q.xs.length : Int) > 0
    ·obtain ⟨u2, hu2⟩ : ∃ u, q.xs[q.xs.length - 1]? = some u := gE
     refine oS gtT (oZ hK20 ?_); refine cT (c_region (oM (oM ?_))); refine oS sC ?_; refine oS sU (oM (oM ?_)); refine oS sC ?_; refine oS sU ?_; refine oS (s_idx rfl rfl hOs (by omega)) ?_; refine oS (s_ld rfl ((hO.rdk hiA).ld (q.xs.length - 1) 0 hu2 rfl (by decide) (by omega))) ?_; refine oS (s_subw rfl rfl) ?_; refine oS (s_idx rfl rfl hOs (by omega)) ?_; refine o_stS1 (q.xs.length - 1) _ hO pkA rfl rfl rfl (by omega) (by omega) fun S' hS' => ?_
     have hO := hS'
     refine oZ hK19 (cR fun _ hK21 => ?_); refine oM (oM (oM ?_)); refine oS (s_idx rfl rfl hsl (by omega)) ?_; refine oS sF ?_; refine oS (s_ld rfl ((RdK.old0 hw).ld j 8 hx rfl (by decide) (by omega))) ?_; refine o_bs (E := Ei) (xs := [x.kids]) (vs := [_]) rfl rfl rfl rfl rfl (by decide) (by decide) fun b49 S49 hS49 => ?_; refine o_app hO (hS49.rdk hiA) rfl rfl rfl rfl (by simp; omega) (by simp; omega) rfl pkA fun a50 c50 S50 hS50 => ?_; refine oA (oZ hK21 (cR fun _ hK22 => ?_)); refine oM ?_; refine oS sC ?_; refine oS (s_gtr rfl rfl) ?_; refine oZ hK22 ?_
     refine c_if rfl (fun hbig => ?_) (fun hbig => ?_)
     ·refine cR fun _ hK23 => ?_; refine oA (oZ hK23 (c_ret ?_)); refine x_block_ret (x_then_ret (x_then_ret (x_block_ret (x_then_ret (?_)))))
      exact xR rfl rfl (⟨_, rfl⟩)
     ·refine c_skip (x_block (xZ hK7 (c_region (oM ?_)))); refine oS sD (oA (o_nil ?_)); exact xI (j + 1, ⟨a50, c50, _⟩, S50) ⟨by omega, by dsimp only; omega, hS50⟩
    ·refine oS gtF (oZ hK20 ?_); refine cFZ hK19 (cR fun _ hK24 => ?_); refine oM (oM (oM ?_)); refine oS (s_idx rfl rfl hsl (by omega)) ?_; refine oS sF ?_; refine oS (s_ld rfl ((RdK.old0 hw).ld j 8 hx rfl (by decide) (by omega))) ?_; refine o_bs (E := Ei) (xs := [x.kids]) (vs := [_]) rfl rfl rfl rfl rfl (by decide) (by decide) fun b49 S49 hS49 => ?_; refine o_app hO (hS49.rdk hiA) rfl rfl rfl rfl (by simp; omega) (by simp; omega) rfl pkA fun a50 c50 S50 hS50 => ?_; refine oA (oZ hK24 (cR fun _ hK25 => ?_)); refine oM ?_; refine oS sC ?_; refine oS (s_gtr rfl rfl) ?_; refine oZ hK25 ?_; refine c_if rfl (fun hbig => ?_) (fun hbig => ?_)
     ·refine cR fun _ hK26 => ?_; refine oA (oZ hK26 (c_ret ?_)); refine x_block_ret (x_then_ret (x_then_ret (x_block_ret (x_then_ret (?_)))))
      exact xR rfl rfl (⟨_, rfl⟩)
     ·refine c_skip (x_block (xZ hK7 (c_region (oM ?_)))); refine oS sD (oA (o_nil ?_)); exact xI (j + 1, ⟨a50, c50, _⟩, S50) ⟨by omega, by dsimp only; omega, hS50⟩
  ·refine oS lsF (oZ hK6 ?_); refine cF ?_; refine c_exit ?_; refine x_then_exit (x_then_exit (x_block_exit (xZ hK3 (cR fun _ hK27 => ?_)))); refine oA (oZ hK27 (c_ret ?_)); refine ?_; exact xR rfl rfl (⟨_, rfl⟩)
end Go.Proofs.YtloepfcndglmmaaDoor
namespace Go.Proofs.YtloepfcndglmmaaDoor
open Go Go.HL Go.Proofs Go.HL.Kl Go.HL.Kl.Mc Go.HL.Kl.Mc.AskE
theorem BkP.two {re : List Nd} {w : List UInt8} {p : Int} {v : Value} {S' : Hp} (h : BkP re w p v S') : (∃ e : Int, v = .tuple #[.slice none 0 0, .bool false, .int .i64 e] ∧ S' = [] ∧ (e = 0 → shapedB re = true ∧ (0 ≤ p ∧ p ≤ w.length) ∧ BkRes re w p false []) ∧ (e = 49 ↔ shapedB re = false)) ∨
    (shapedB re = true ∧ ∃ (m : Nat) (x : Nd) (ks : F) (i j : Nat) (c : Caps) (a : Option Addr) (cc : Nat), p = m ∧ m ≤ w.length ∧ Shp re x ks ∧ BSome w x ks (C0 re) m i j c ∧ v = .tuple #[.slice a (gcn re + 1) cc, .bool true, .int .i64 0] ∧ OwnS Esp 2 45 (.slice a (gcn re + 1) cc) (⟨(i : Nat), (j : Nat)⟩ :: c) S') := by
  rcases h with ⟨h, hv, hS⟩ | ⟨h0, h, hv, hS⟩ | ⟨h, m, hm, hmw, x, ks, hS, ⟨h1, hv, hS'⟩ | ⟨i, j, c, a, cc, hB, hv, hO⟩⟩
  · exact .inl ⟨_, hv, hS, fun h => by omega, fun _ => h, fun _ => rfl⟩
  · exact .inl ⟨_, hv, hS, fun h => by omega, fun h => by omega, fun h => by rw [h0] at h; cases h⟩
  · exact .inl ⟨_, hv, hS', fun _ => ⟨h, ⟨by omega, by omega⟩, .inr ⟨m, x, ks, hm, hmw, hS, .inl ⟨h1, rfl, rfl⟩⟩⟩, fun h => by omega, fun h' => by rw [h] at h'; cases h'⟩
  · exact .inr ⟨h, m, x, ks, i, j, c, a, cc, hm, hmw, hS, hB, hv, hO⟩
end Go.Proofs.YtloepfcndglmmaaDoor
namespace Go.HL.Kl.Mc
open Go Go.HL Go.HL.Kl
def comeL (l : List Nat) (k : Nat) : List Nat := if k ∈ l then l else l ++ [k]
structure MetOk (mt : List Int) (st : Int) (l : List Nat) (N : Nat) : Prop where
  len : mt.length = N
  get : ∀ (k : Nat) v, mt[k]? = some v → (v = st ↔ k ∈ l)
  le : ∀ v ∈ mt, 0 ≤ v ∧ v ≤ st
  lt : ∀ k ∈ l, k < N
  nd : l.Nodup
variable {m : List In} {w : List UInt8}
structure Lst (m : List In) (n p : Nat) (B : Nat → Prop) (l : List Nat) (i : Nat) : Prop where
  lt : ∀ k ∈ l, k < m.length
  base : ∀ k, B k → k ∈ l
  src : ∀ k ∈ l, ∃ b, B b ∧ EpsS m n p b k
  cl : ∀ (j k k' : Nat), j < i → l[j]? = some k → Eps m n p k k' → k' ∈ l
structure LstS (m : List In) (n p : Nat) (B : Nat → Prop) (l : List Nat) (i : Nat) (D : List Nat) : Prop where
  lst : Lst m n p B l i
  pl : i < l.length
  dn : ∀ k ∈ D, k ∈ l
def wayB (m : List In) (w : List UInt8) (p : Nat) (l : List Nat) (j : Nat) (k : Nat) : Prop := ∃ i x, i < j ∧ l[i]? = some x ∧ Eat m w x p ∧ k = x + 1
def Base (m : List In) (w : List UInt8) (f p : Nat) (k : Nat) : Prop := (p = f ∧ k = 0) ∨ ∃ q x, p = q + 1 ∧ f ≤ q ∧ Run m w (0, f) (x, q) ∧ Eat m w x q ∧ k = x + 1
structure EndsTo (m : List In) (w : List UInt8) (f p : Nat) (es : List Bool) (last : Int) : Prop where
  len : es.length = w.length + 1
  get : ∀ q, q ≤ w.length → (es[q]? = some true ↔ f ≤ q ∧ q < p ∧ Hit m w f q)
  last : (last = -1 ∧ ∀ q, q ≤ w.length → ¬ (f ≤ q ∧ q < p ∧ Hit m w f q)) ∨ ∃ q : Nat, last = q ∧ f ≤ q ∧ q < p ∧ q ≤ w.length ∧ Hit m w f q ∧ ∀ q', q < q' → q' < p → q' ≤ w.length → ¬ Hit m w f q'
structure Done6 (m : List In) (l : List Nat) (i p : Nat) (es0 : List Bool) (last0 : Int) (es : List Bool) (last : Int) : Prop where
  y : (∃ j k t, j < i ∧ l[j]? = some k ∧ m[k]? = some t ∧ t.op = 6) → es = es0.set p true ∧ last = p
  n : ¬ (∃ (j k : Nat) (t : In), j < i ∧ l[j]? = some k ∧ m[k]? = some t ∧ t.op = 6) → es = es0 ∧ last = last0
def Es16 (x : Int) : List Value := [.int .i16 x]
instance : Enc Es16 1 := ⟨fun _ => rfl, fun x v hv => by
  simp only [Es16, List.mem_cons, List.not_mem_nil, or_false] at hv
  subst hv; rfl⟩
structure FrG where
  (st steps last : Int) (mt : List Int) (ha : Option Addr) (hc : Nat) (l : List Nat) (wa : Option Addr) (wc : Nat) (wl : List Nat) (es : List Bool) (St Sh Sw Se : Hp)
end Go.HL.Kl.Mc
namespace Go.HL.Kl.Mc
structure LFound (m : List In) (w : List UInt8) (f p q : Nat) : Prop where
  fp : f ≤ p
  pq : p ≤ q
  qn : q ≤ w.length
  hit : Hit m w p q
  far : ∀ q', q < q' → q' ≤ w.length → ¬ Hit m w p q'
  near : ∀ p' q', f ≤ p' → p' < p → p' ≤ q' → q' ≤ w.length → ¬ Hit m w p' q'
def LNone (m : List In) (w : List UInt8) (f : Nat) : Prop := ∀ p q, f ≤ p → p ≤ q → q ≤ w.length → ¬ Hit m w p q
end Go.HL.Kl.Mc
namespace Go.HL.Kl.Mc
open Go Go.HL Go.HL.Kl
def Rel (l : List Caps) (D : Prop) (b : Sp → List Sp) : Prop := (D ∧ ∃ c', l.head? = some c' ∧ ∀ z, b z = z :: c') ∨ (¬ D ∧ l = [])
theorem down_none {g : Nat → List Caps} {p : Nat} : ∀ {k : Nat}, (∀ e, p ≤ e → e < p + k → g e = []) → (down p k).flatMap g = []
  | 0, _ => rfl
  | k + 1, h => by rw [down, List.flatMap_cons, h (p + k) (by omega) (by omega), List.nil_append, down_none fun e a b => h e a (by omega)]
theorem ends_emp {g : Nat → List Caps} {p q : Nat} (h : ∀ e, p ≤ e → e ≤ q → g e = []) : (ends p q).flatMap g = [] := down_none fun e a b => h e a (by omega)
theorem down_head {g : Nat → List Caps} {p m : Nat} {c : Caps} : ∀ {k : Nat}, p ≤ m → m < p + k → (g m).head? = some c → (∀ e, m < e → e < p + k → g e = []) → ((down p k).flatMap g).head? = some c
  | 0, h1, h2, _, _ => by omega
  | k + 1, h1, h2, h3, h4 => by
    rw [down, List.flatMap_cons]
    by_cases e : m = p + k
    · subst e; rw [List.head?_append, h3]; rfl
    · rw [h4 (p + k) (by omega) (by omega), List.nil_append]
      exact down_head h1 (by omega) h3 fun e a b => h4 e a (by omega)
theorem ends_head {g : Nat → List Caps} {p q m : Nat} {c : Caps} (h1 : p ≤ m) (h2 : m ≤ q) (h3 : (g m).head? = some c) (h4 : ∀ e, m < e → e ≤ q → g e = []) : ((ends p q).flatMap g).head? = some c :=
  down_head h1 (by omega) h3 fun e a b => h4 e a (by omega)
theorem flat_head {l : List Caps} {f : Caps → List Caps} {c c' : Caps} (h : l.head? = some c) (h' : (f c).head? = some c') : (l.flatMap f).head? = some c' := by
  cases l with
  | nil => cases h
  | cons a l =>
    obtain rfl : a = c := Option.some.inj h
    rw [List.flatMap_cons, List.head?_append, h']; rfl
theorem flat_none {l : List Caps} {f : Caps → List Caps} (h : ∀ c, f c = []) : l.flatMap f = [] := by
  rw [show f = fun _ => [] from funext h]; simp
theorem Rel.no {l : List Caps} {D : Prop} {b : Sp → List Sp} (h : Rel l D b) (hD : ¬ D) : l = [] := h.elim (fun x => absurd x.1 hD) (fun x => x.2)
theorem Rel.yes {l : List Caps} {D : Prop} {b : Sp → List Sp} (h : Rel l D b) (hD : D) : ∃ c', l.head? = some c' ∧ ∀ z, b z = z :: c' := h.elim (fun x => x.2) (fun x => absurd hD x.1)
theorem RLf_bst {x : Nd} {D : Nat → Nat → Prop} {B : Nat → Nat → Caps → List Caps} {B' : Nat → Nat → List Sp → List Sp} {q : Nat} (hu : Up D) (hx : x.mx = -1 ∨ 0 ≤ x.mx) (hB : ∀ p e c, Rel (B p e c) (D p e) (fun z => B' p e (z :: c))) :
    ∀ (f r p : Nat) (c : Caps), fuelR x q r p ≤ f → (x.mx = -1 ∨ (r : Int) ≤ x.mx) → Rel (RLf x B q r p c) (RR x D r p q) (fun z => reps x D B' q f r p (z :: c))
  | 0, r, p, c, hf, _ => by unfold fuelR at hf; omega
  | f + 1, r, p, c, hf, hr => by
    have hnx : ∀ m c1, RLf x B q (r + 1) m c1 = RLf x B q (nxtR x r) m c1 := by
      intro m c1
      unfold nxtR
      split
      · by_cases h : r + 1 ≤ max x.mn.toNat 1
        · rw [Nat.min_eq_left h]
        · rw [Nat.min_eq_right (by omega)]
          exact RLf_cap (by omega) (q + 1 - m) _ _ _ _ (by omega) (by omega) (by omega)
      · rfl
    have hrr : ∀ m, RR x D (nxtR x r) m q ↔ RR x D (r + 1) m q := fun m => RR_nxt hx
    have hfu : ∀ e, p ≤ e → e ≤ q → ¬ (e = p ∧ x.mn ≤ (r : Int) ∧ 0 < r) → fuelR x q (nxtR x r) e ≤ f := by
      intro e h1 h2 h3
      unfold fuelR at hf ⊢
      unfold nxtR
      split <;> omega
    have hnr : (x.mx = -1 ∨ (r : Int) < x.mx) → (x.mx = -1 ∨ ((nxtR x r : Nat) : Int) ≤ x.mx) := by
      intro h
      rcases h with h | h
      · exact .inl h
      · right; unfold nxtR; rw [if_neg (by omega)]; omega
    have hno : ∀ e, p ≤ e → e ≤ q → (x.mx = -1 ∨ (r : Int) < x.mx) → ¬ RQ x D r p q e → (if e = p ∧ x.mn ≤ (r : Int) ∧ 0 < r then [] else (B p e c).flatMap (fun c1 => RLf x B q (r + 1) e c1)) = [] := by
      intro e h1 h2 h3 h4
      split
      · rfl
      · rename_i h5
        by_cases hD : D p e
        · refine flat_none fun c1 => ?_
          rw [hnx]
          exact (RLf_bst hu hx hB f (nxtR x r) e c1 (hfu e h1 h2 h5) (hnr h3)).no fun h => h4 ⟨h3, by omega, hD, (hrr e).1 h⟩
        · rw [(hB p e c).no hD]; rfl
    by_cases hR : RR x D r p q
    · refine .inl ⟨hR, ?_⟩
      by_cases hq : ∃ m, RQ x D r p q m
      · obtain ⟨m0, h0⟩ := hq
        obtain ⟨m, hm⟩ := grt_ex (Q := RQ x D r p q) (hu _ _ h0.2.2.1) (RR_up hu _ _ h0.2.2.2) h0
        have hm' := hm
        obtain ⟨g1, g2, ⟨hmx, hne, hD, hRR⟩, g4⟩ := hm'
        obtain ⟨c1, a1, b1⟩ := (hB p m c).yes hD
        obtain ⟨c2, a2, b2⟩ := (RLf_bst hu hx hB f (nxtR x r) m c1 (hfu m g1 g2 (by omega)) (hnr hmx)).yes ((hrr m).2 hRR)
        refine ⟨c2, ?_, fun z => by
          show reps x D B' q (f + 1) r p (z :: c) = _
          rw [reps_go hm]
          have e1 : B' p m (z :: c) = z :: c1 := b1 z
          rw [e1]
          exact b2 z⟩
        rw [RLf_eq, if_pos hmx, List.head?_append, ends_head (c := c2) g1 g2 (by
          rw [if_neg (by omega)]
          exact flat_head a1 (by rw [hnx]; exact a2)) fun e h1 h2 => hno e (by omega) h2 hmx (g4 e h1 h2)]
        rfl
      · rcases RR_step.1 hR with ⟨rfl, h1, h2⟩ | h
        · refine ⟨c, ?_, fun z => reps_end fun m a b h => hq ⟨m, h⟩⟩
          rw [RLf_eq]
          have e0 : (if x.mx = -1 ∨ (r : Int) < x.mx then (ends p p).flatMap (fun e => if e = p ∧ x.mn ≤ (r : Int) ∧ 0 < r then [] else (B p e c).flatMap (fun c1 => RLf x B p (r + 1) e c1)) else []) = [] := by
            split
            · rename_i h3
              exact ends_emp fun e a b => hno e a b h3 fun h => hq ⟨e, h⟩
            · rfl
          rw [e0, if_pos ⟨rfl, h1⟩]; rfl
        · exact absurd h hq
    · refine .inr ⟨hR, ?_⟩
      rw [RLf_eq]
      have e0 : (if x.mx = -1 ∨ (r : Int) < x.mx then (ends p q).flatMap (fun e => if e = p ∧ x.mn ≤ (r : Int) ∧ 0 < r then [] else (B p e c).flatMap (fun c1 => RLf x B q (r + 1) e c1)) else []) = [] := by
        split
        · rename_i h3
          exact ends_emp fun e a b => hno e a b h3 fun h => hR (RR_step.2 (.inr ⟨e, h⟩))
        · rfl
      rw [e0, if_neg fun h => hR (RR_step.2 (.inl ⟨h.1, h.2, hr⟩))]; rfl
def OkN (x : Nd) : Prop := (1 ≤ x.op ∧ x.op ≤ 7) ∧ (x.op = 7 → 1 ≤ x.n) ∧ (x.op = 6 → x.mx = -1 ∨ 0 ≤ x.mx)
theorem fgt_emp : ∀ (l : List Nd) (z : Sp) (c : Caps), (∀ x ∈ l, OkN x) → fgt l (z :: c) = z :: emp l c
  | [], z, c, _ => rfl
  | x :: l, z, c, h => by
    have e1 : fg1 (z :: c) x = z :: em1 c x := by
      unfold fg1 em1
      split
      · rename_i h7
        have := (h x List.mem_cons_self).2.1 h7
        rw [show x.n.toNat = (x.n.toNat - 1) + 1 by omega, List.set_cons_succ]
        rfl
      · rfl
    show fgt l (fg1 (z :: c) x) = z :: emp l (em1 c x)
    rw [e1]
    exact fgt_emp l z _ fun y hy => h y (List.mem_cons_of_mem _ hy)
theorem Rel.ite {P : Prop} [Decidable P] {D : Prop} {c : Caps} {b : Sp → List Sp} (h : D ↔ P) (hb : ∀ z, b z = z :: c) : Rel (if P then [c] else []) D b := by
  by_cases p : P
  · exact .inl ⟨h.2 p, c, by rw [if_pos p]; rfl, hb⟩
  · exact .inr ⟨fun d => p (h.1 d), by rw [if_neg p]⟩
theorem one_bst {w : List UInt8} {x : Nd} {ks : F} (hk : ∀ md i j c, Rel (LF w ks md i j c) (der w ks md i j) (fun z => bst w ks md i j (z :: c))) (hx : OkN x) (hg : ∀ y ∈ ks.flat, OkN y) (i j : Nat) (c : Caps) :
    Rel (LF1 w x ks i j c) (der1 w x ks i j) (fun z => bst1 w x ks i j (z :: c)) := by
  obtain ⟨⟨h1, h2⟩, h7, h6⟩ := hx
  by_cases e1 : x.op = 1
  · rw [LF1_1 e1]
    exact Rel.ite (der1_1 e1) fun z => bst1_0 (by omega)
  by_cases e2 : x.op = 2
  · rw [LF1_2 e2]
    exact Rel.ite (der1_2 e2) fun z => bst1_0 (by omega)
  by_cases e3 : x.op = 3
  · rw [LF1_3 e3]
    exact Rel.ite ((der1_3 e3).trans ⟨fun h => ⟨h.1, by omega⟩, fun h => ⟨h.1, by omega⟩⟩) fun z => bst1_0 (by omega)
  by_cases e4 : x.op = 4
  · rw [LF1_4 e4, show der1 w x ks i j = der w ks false i j from propext (der1_4 (.inl e4)), show (fun z => bst1 w x ks i j (z :: c)) = fun z => bst w ks false i j (z :: c) from funext fun z => bst1_4 e4]
    exact hk _ _ _ _
  by_cases e5 : x.op = 5
  · rw [LF1_5 e5, show der1 w x ks i j = der w ks true i j from propext (der1_5 e5), show (fun z => bst1 w x ks i j (z :: c)) = fun z => bst w ks true i j (z :: c) from funext fun z => bst1_5 e5]
    exact hk _ _ _ _
  by_cases e6 : x.op = 6
  · rw [LF1_6 e6, show der1 w x ks i j = RR x (der w ks false) 0 i j from propext (der1_6 e6), show (fun z => bst1 w x ks i j (z :: c)) = _ from funext fun z => bst1_6 e6]
    refine RLf_bst (der_up ks false) (h6 e6) (fun p e c => ?_) _ _ _ _ (by unfold fuelR; omega) (by have := h6 e6; omega)
    have := hk false p e (emp ks.flat c)
    rw [show (fun z => bst w ks false p e (fgt ks.flat (z :: c))) = fun z => bst w ks false p e (z :: emp ks.flat c) from funext fun z => by rw [fgt_emp _ _ _ hg]]
    exact this
  · have e7 : x.op = 7 := by omega
    rw [LF1_7 e7, show der1 w x ks i j = der w ks false i j from propext (der1_4 (.inr e7))]
    rcases hk false i j (emp ks.flat c) with ⟨hd, c', a, b⟩ | ⟨hd, h⟩
    · refine .inl ⟨hd, c'.set (x.n.toNat - 1) ⟨i, j⟩, by rw [List.head?_map, a]; rfl, fun z => ?_⟩
      show bst1 w x ks i j (z :: c) = _
      rw [bst1_7 e7, fgt_emp _ _ _ hg]
      have e8 : bst w ks false i j (z :: emp ks.flat c) = z :: c' := b z
      have := h7 e7
      rw [e8, show x.n.toNat = (x.n.toNat - 1) + 1 by omega, List.set_cons_succ]
      rfl
    · exact .inr ⟨hd, by rw [h]; rfl⟩
theorem LF_bst {w : List UInt8} : ∀ (f : F) (md : Bool) (i j : Nat) (c : Caps), (∀ x ∈ f.flat, OkN x) → Rel (LF w f md i j c) (der w f md i j) (fun z => bst w f md i j (z :: c))
  | .nil, true, i, j, c, _ => .inr ⟨fun h => der_nil'.1 h, LF_nilT⟩
  | .nil, false, i, j, c, _ => by rw [LF_nilF]; exact Rel.ite der_nil fun z => bst_nil
  | .nd x ks r, md, i, j, c, h => by
    have hk := fun md i j c => LF_bst (w := w) ks md i j c fun y hy => h y (List.mem_cons_of_mem _ (List.mem_append_left _ hy))
    have hr := fun md i j c => LF_bst (w := w) r md i j c fun y hy => h y (List.mem_cons_of_mem _ (List.mem_append_right _ hy))
    have h1 := one_bst hk (h x List.mem_cons_self) fun y hy => h y (List.mem_cons_of_mem _ (List.mem_append_left _ hy))
    cases md with
    | true =>
      rw [LF_alt]
      by_cases hd : der1 w x ks i j
      · obtain ⟨c', a, b⟩ := (h1 i j c).yes hd
        exact .inl ⟨der_alt.2 (.inl hd), c', by rw [List.head?_append, a]; rfl, fun z => by
          show bst w (.nd x ks r) true i j (z :: c) = _
          rw [bst_alt, if_pos (dQ_t hd)]; exact b z⟩
      · rw [(h1 i j c).no hd, List.nil_append]
        rcases hr true i j c with ⟨hd', c', a, b⟩ | ⟨hd', e⟩
        · exact .inl ⟨der_alt.2 (.inr hd'), c', a, fun z => by
            show bst w (.nd x ks r) true i j (z :: c) = _
            rw [bst_alt, dQ_f hd, if_neg (by simp)]; exact b z⟩
        · exact .inr ⟨fun h => (der_alt.1 h).elim hd hd', e⟩
    | false =>
      rw [LF_cat]
      have hno : ∀ e, ¬ (der1 w x ks i e ∧ der w r false e j) → ((LF1 w x ks i e c).flatMap fun c1 => LF w r false e j c1) = [] := fun e hn => by
        by_cases hd : der1 w x ks i e
        · exact flat_none fun c1 => (hr false e j c1).no fun h => hn ⟨hd, h⟩
        · rw [(h1 i e c).no hd]; rfl
      by_cases hd : der w (.nd x ks r) false i j
      · obtain ⟨t, a, b⟩ := der_cat.1 hd
        obtain ⟨m, hm⟩ := grt_ex (Q := fun n => der1 w x ks i n ∧ der w r false n j) (der1_up _ _ a) (der_up r false _ _ b) ⟨a, b⟩
        have hm' := hm
        obtain ⟨g1, g2, ⟨d1, d2⟩, g4⟩ := hm'
        obtain ⟨c1, a1, b1⟩ := (h1 i m c).yes d1
        obtain ⟨c2, a2, b2⟩ := (hr false m j c1).yes d2
        refine .inl ⟨hd, c2, ends_head g1 g2 (flat_head a1 a2) fun e x y => hno e (g4 e x y), fun z => ?_⟩
        show bst w (.nd x ks r) false i j (z :: c) = _
        rw [bst_cat hm]
        have e1 : bst1 w x ks i m (z :: c) = z :: c1 := b1 z
        rw [e1]; exact b2 z
      · exact .inr ⟨hd, ends_emp fun e _ _ => hno e fun h => hd (der_cat.2 ⟨e, h.1, h.2⟩)⟩
theorem LF1_bst {w : List UInt8} {x : Nd} {ks : F} (h : ∀ y ∈ (F.nd x ks .nil).flat, OkN y) (i j : Nat) (c : Caps) : Rel (LF1 w x ks i j c) (der1 w x ks i j) (fun z => bst1 w x ks i j (z :: c)) :=
  one_bst (fun md i j c => LF_bst ks md i j c fun y hy => h y (List.mem_cons_of_mem _ (List.mem_append_left _ hy))) (h x List.mem_cons_self) (fun y hy => h y (List.mem_cons_of_mem _ (List.mem_append_left _ hy))) i j c
end Go.HL.Kl.Mc
