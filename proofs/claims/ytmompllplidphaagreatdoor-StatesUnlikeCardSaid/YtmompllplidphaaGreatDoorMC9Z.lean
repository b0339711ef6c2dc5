/- Part of the proofs over this seat: see the text that holds the theorem. Conditions: each theorem bears its own. -/
import Derived.Test.YtmompllplidphaaGreatDoorMT3Z
import Derived.Test.YtmompllplidphaaGreatDoorHlB
import Derived.Test.YtmompllplidphaaGreatDoorProg
import Derived.KernelRfl
namespace Go.HL.Kl
open Go Go.HL
/-! atoms -/
def ref1 (c a : Cl) : List Cl := if a &&& c = 0#256 ∨ a &&& ~~~c = 0#256 then [a] else [a &&& c, a &&& ~~~c]
def refine (out : List Cl) (c : Cl) : List Cl := out.flatMap (ref1 c)
def parts (l : List Cl) : List Cl := l.foldl refine [rng 0 255]
theorem parts_snoc (l : List Cl) (c : Cl) : parts (l ++ [c]) = refine (parts l) c := by simp [parts]
theorem ne_bit {a : Cl} (h : a ≠ 0#256) : ∃ x, x < 256 ∧ a.getLsbD x = true := by
  refine Classical.byContradiction fun hn => h (cl_ext fun j hj => ?_)
  have : ¬ a.getLsbD j = true := fun e => hn ⟨j, hj, e⟩
  simpa using this
theorem bit_ne {a : Cl} {x : Nat} (h : a.getLsbD x = true) : a ≠ 0#256 := fun e => by rw [e] at h; simp at h
theorem lt_of_bit {a : Cl} {x : Nat} (h : a.getLsbD x = true) : x < 256 := by
  refine Classical.byContradiction fun hn => ?_
  rw [BitVec.getLsbD_of_ge a x (by omega)] at h; cases h
theorem mem_mems {c : Cl} {x : Nat} : x ∈ mems c ↔ c.getLsbD x = true := by
  constructor
  · intro h; exact (memsTo_lt h).2
  · intro h
    have := lt_of_bit h
    simp [mems, memsTo, this, h]
theorem mems_sorted (c : Cl) : (mems c).Pairwise (· < ·) := List.Pairwise.sublist List.filter_sublist List.pairwise_lt_range
theorem least_spec {a : Cl} (h : a ≠ 0#256) : a.getLsbD (least a) = true ∧ ∀ y, a.getLsbD y = true → least a ≤ y := by
  obtain ⟨x, hx, hax⟩ := ne_bit h
  have hm := mem_mems.2 hax
  have hs := mems_sorted a
  unfold least
  cases hml : mems a with
  | nil => rw [hml] at hm; simp at hm
  | cons b r =>
    rw [hml] at hs
    refine ⟨mem_mems.1 (by rw [hml]; simp), fun y hy => ?_⟩
    have hy' := mem_mems.2 hy
    rw [hml] at hy'
    rcases List.mem_cons.1 hy' with rfl | hy'
    · exact Nat.le_refl _
    · exact Nat.le_of_lt ((List.pairwise_cons.1 hs).1 y hy')
theorem least_lt {a : Cl} (h : a ≠ 0#256) : least a < 256 := lt_of_bit (least_spec h).1
structure Dj (l : List Cl) : Prop where
  ne : ∀ a ∈ l, a ≠ 0#256
  ap : l.Pairwise (fun a b => a &&& b = 0#256)
theorem nodup_lt : ∀ (n : Nat) (l : List Nat), l.Nodup → (∀ x ∈ l, x < n) → l.length ≤ n
  | 0, l, _, h => by
    cases l with
    | nil => simp
    | cons x r => have := h x List.mem_cons_self; omega
  | n + 1, l, hd, h => by
    by_cases hm : n ∈ l
    · have h1 := nodup_lt n (l.erase n) (hd.erase n) fun x hx => by
        have h2 := (List.Nodup.mem_erase_iff hd).1 hx
        have := h x h2.2
        have := h2.1
        omega
      rw [List.length_erase_of_mem hm] at h1; omega
    · have h1 := nodup_lt n l hd fun x hx => by
        have := h x hx
        have : x ≠ n := fun e => hm (e ▸ hx)
        omega
      omega
theorem Dj.len {l : List Cl} (h : Dj l) : l.length ≤ 256 := by
  have h1 := nodup_lt 256 (l.map least) ?_ ?_
  · simpa using h1
  · rw [List.Nodup, List.pairwise_map]
    refine h.ap.imp_of_mem fun {a b} ha hb hab e => ?_
    have h2 := (least_spec (h.ne a ha)).1
    have h3 := (least_spec (h.ne b hb)).1
    rw [← e] at h3
    have : (a &&& b).getLsbD (least a) = true := by rw [BitVec.getLsbD_and, h2, h3]; rfl
    rw [hab] at this; simp at this
  · intro x hx
    obtain ⟨a, ha, rfl⟩ := List.mem_map.1 hx
    exact least_lt (h.ne a ha)
theorem ref1_sub {c a b : Cl} (h : b ∈ ref1 c a) {x : Nat} (hx : b.getLsbD x = true) : a.getLsbD x = true := by
  unfold ref1 at h
  split at h
  · simp at h; subst h; exact hx
  · simp at h
    rcases h with rfl | rfl
    · rw [BitVec.getLsbD_and] at hx; simp at hx; exact hx.1
    · rw [BitVec.getLsbD_and] at hx; simp at hx; exact hx.1
theorem Dj.refine {l : List Cl} (h : Dj l) (c : Cl) : Dj (refine l c) := by
  refine ⟨fun b hb => ?_, ?_⟩
  · obtain ⟨a, ha, hb⟩ := List.mem_flatMap.1 hb
    unfold ref1 at hb
    split at hb
    · simp at hb; subst hb; exact h.ne _ ha
    · rename_i hn
      simp at hb
      rcases hb with rfl | rfl
      · exact fun e => hn (.inl e)
      · exact fun e => hn (.inr e)
  · unfold Kl.refine
    rw [List.pairwise_flatMap]
    constructor
    · intro a _
      unfold ref1
      split
      · simp
      · simp only [List.pairwise_cons, List.mem_singleton, forall_eq, List.not_mem_nil, false_imp_iff, implies_true, List.Pairwise.nil, and_true]
        apply cl_ext
        intro j hj
        simp only [BitVec.getLsbD_and, BitVec.getLsbD_not]
        cases a.getLsbD j <;> cases c.getLsbD j <;> simp
    · refine h.ap.imp fun {a b} hab x hx y hy => ?_
      apply cl_ext
      intro j hj
      rw [BitVec.getLsbD_and]
      cases hxj : x.getLsbD j with
      | false => simp
      | true =>
        cases hyj : y.getLsbD j with
        | false => simp
        | true =>
          have h1 := ref1_sub hx hxj
          have h2 := ref1_sub hy hyj
          have h3 : (a &&& b).getLsbD j = true := by rw [BitVec.getLsbD_and, h1, h2]; rfl
          rw [hab] at h3; simp at h3
theorem Dj.sub {l m : List Cl} (h : Dj l) (hs : m.Sublist l) : Dj m := ⟨fun a ha => h.ne a (hs.subset ha), h.ap.sublist hs⟩
theorem rng_all {x : Nat} (hx : x < 256) : (rng 0 255).getLsbD x = true := by rw [rng_get hx]; simp; omega
def clsTo (l : List Cl) (x : Nat) : Nat → Cl
  | 0 => 0
  | i + 1 => if alike l x i then clsTo l x i ||| bit i else clsTo l x i
def cls (l : List Cl) (x : Nat) : Cl := clsTo l x 256
theorem clsTo_part (l : List Cl) (x : Nat) : ∀ i, Part (fun y => alike l x y) i (clsTo l x i)
  | 0 => Part.zero
  | i + 1 => by
    unfold clsTo
    split
    · rename_i h; exact (clsTo_part l x i).yes h
    · rename_i h; exact (clsTo_part l x i).no (by simpa using h)
theorem cls_get (l : List Cl) (x : Nat) {y : Nat} (hy : y < 256) : (cls l x).getLsbD y = alike l x y := by
  have := clsTo_part l x 256 y hy
  rw [decide_eq_true hy, Bool.true_and] at this
  exact this
theorem alike_snoc (l : List Cl) (c : Cl) (x y : Nat) : alike (l ++ [c]) x y = (alike l x y && (c.getLsbD x == c.getLsbD y)) := by simp [alike]
structure PI (l ps : List Cl) : Prop where
  dj : Dj ps
  eq : ∀ a ∈ ps, ∀ x, a.getLsbD x = true → a = cls l x
  all : ∀ x, x < 256 → ∃ a ∈ ps, a.getLsbD x = true
theorem PI.zero : PI [] [rng 0 255] := by
  refine ⟨⟨fun a ha => ?_, by simp⟩, fun a ha x hx => ?_, fun x hx => ⟨_, List.mem_singleton.2 rfl, rng_all hx⟩⟩
  · simp at ha; subst ha; exact bit_ne (rng_all (by decide : 0 < 256))
  · simp at ha; subst ha
    apply cl_ext
    intro j hj
    rw [rng_all hj, cls_get _ _ hj]; rfl
theorem PI.step {l ps : List Cl} (h : PI l ps) (c : Cl) : PI (l ++ [c]) (refine ps c) := by
  refine ⟨h.dj.refine c, fun b hb x hx => ?_, fun x hx => ?_⟩
  · obtain ⟨a, ha, hb⟩ := List.mem_flatMap.1 hb
    have hax := ref1_sub hb hx
    have hae := h.eq a ha x hax
    apply cl_ext
    intro j hj
    rw [cls_get _ _ hj, alike_snoc, ← cls_get l x hj, ← hae]
    unfold ref1 at hb
    split at hb
    · rename_i hz
      simp at hb; subst hb
      have e : c.getLsbD x = c.getLsbD j ∨ b.getLsbD j = false := by
        cases hbj : b.getLsbD j with
        | false => exact .inr rfl
        | true =>
          left
          have hjx := lt_of_bit hx
          rcases hz with hz | hz
          · have h1 : (b &&& c).getLsbD x = false := by rw [hz]; simp
            have h2 : (b &&& c).getLsbD j = false := by rw [hz]; simp
            rw [BitVec.getLsbD_and, hx] at h1
            rw [BitVec.getLsbD_and, hbj] at h2
            simp at h1 h2; rw [h1, h2]
          · have h1 : (b &&& ~~~c).getLsbD x = false := by rw [hz]; simp
            have h2 : (b &&& ~~~c).getLsbD j = false := by rw [hz]; simp
            rw [BitVec.getLsbD_and, hx, BitVec.getLsbD_not] at h1
            rw [BitVec.getLsbD_and, hbj, BitVec.getLsbD_not] at h2
            simp only [decide_eq_true hjx, decide_eq_true hj, Bool.true_and, Bool.not_eq_false'] at h1 h2
            rw [h1, h2]
      rcases e with e | e
      · rw [e]; simp
      · rw [e]; simp
    · simp at hb
      have hjx := lt_of_bit hx
      rcases hb with rfl | rfl
      · rw [BitVec.getLsbD_and] at hx ⊢
        simp at hx
        rw [hx.2]
        cases a.getLsbD j <;> cases c.getLsbD j <;> rfl
      · rw [BitVec.getLsbD_and, BitVec.getLsbD_not] at hx ⊢
        rw [hax, decide_eq_true hjx, Bool.true_and, Bool.true_and, Bool.not_eq_true'] at hx
        rw [hx, decide_eq_true hj]
        cases a.getLsbD j <;> cases c.getLsbD j <;> rfl
  · obtain ⟨a, ha, hax⟩ := h.all x hx
    have : ∃ b ∈ ref1 c a, b.getLsbD x = true := by
      unfold ref1
      split
      · exact ⟨a, by simp, hax⟩
      · cases hc : c.getLsbD x with
        | true => exact ⟨a &&& c, by simp, by rw [BitVec.getLsbD_and, hax, hc]; rfl⟩
        | false => exact ⟨a &&& ~~~c, by simp, by rw [BitVec.getLsbD_and, hax, BitVec.getLsbD_not, hc]; simp [hx]⟩
    obtain ⟨b, hb, hbx⟩ := this
    exact ⟨b, List.mem_flatMap.2 ⟨a, ha, hb⟩, hbx⟩
theorem parts_pi (l : List Cl) : PI l (parts l) := by
  have key : ∀ (m l ps : List Cl), PI l ps → PI (l ++ m) (m.foldl refine ps) := by
    intro m
    induction m with
    | nil => intro l ps h; simpa using h
    | cons c m ih =>
      intro l ps h
      have := ih (l ++ [c]) _ (h.step c)
      simpa using this
  have := key l [] _ PI.zero
  simpa [parts] using this
theorem parts_len (l : List Cl) : (parts l).length ≤ 256 := (parts_pi l).dj.len
theorem next_len (l : List Cl) (c : Cl) (j : Nat) : (refine ((parts l).take j) c).length ≤ 256 := (((parts_pi l).dj.sub (List.take_sublist _ _)).refine c).len
theorem refine_step (l : List Cl) (c : Cl) {j : Nat} (h : j < l.length) : refine (l.take (j + 1)) c = refine (l.take j) c ++ ref1 c l[j] := by
  unfold refine
  rw [List.take_add_one, List.getElem?_eq_getElem h, Option.toList_some, List.flatMap_append]
  simp
theorem parts_step (l : List Cl) {i : Nat} (h : i < l.length) : parts (l.take (i + 1)) = refine (parts (l.take i)) l[i] := by
  rw [List.take_add_one, List.getElem?_eq_getElem h, Option.toList_some, parts_snoc]
/-! the order -/
def swap (l : List Cl) (k : Nat) : List Cl := (l.set (k + 1) (l.getD k 0)).set k (l.getD (k + 1) 0)
theorem swap_len (l : List Cl) (k : Nat) : (swap l k).length = l.length := by simp [swap]
def sink (l : List Cl) : Nat → List Cl
  | 0 => l
  | k + 1 => if least (l.getD (k + 1) 0) < least (l.getD k 0) then sink (swap l k) k else l
def sortTo (l : List Cl) : Nat → List Cl
  | 0 => l
  | i + 1 => sink (sortTo l i) i
def atoms (l : List Cl) : List Cl := sortTo (parts l) (parts l).length
theorem sink_len : ∀ (k : Nat) (l : List Cl), (sink l k).length = l.length
  | 0, _ => rfl
  | k + 1, l => by
    unfold sink
    split
    · rw [sink_len k, swap_len]
    · rfl
theorem sortTo_len (l : List Cl) : ∀ i, (sortTo l i).length = l.length
  | 0 => rfl
  | i + 1 => by unfold sortTo; rw [sink_len, sortTo_len l i]
theorem swap_app (A : List Cl) (x y : Cl) (B : List Cl) : swap (A ++ y :: x :: B) A.length = A ++ x :: y :: B := by
  unfold swap
  have e1 : (A ++ y :: x :: B).getD A.length 0 = y := by simp [List.getD_eq_getElem?_getD]
  have e2 : (A ++ y :: x :: B).getD (A.length + 1) 0 = x := by simp [List.getD_eq_getElem?_getD]
  rw [e1, e2]
  rw [List.set_append_right _ _ (by omega), List.set_append_right _ _ (by omega)]
  have e3 : A.length + 1 - A.length = 1 := by omega
  rw [e3, Nat.sub_self]; rfl
theorem sink_ins : ∀ (k : Nat) (A : List Cl) (x : Cl) (B : List Cl), A.length = k → A.Pairwise (fun a b => least a ≤ least b) → ∃ A', A'.Perm (x :: A) ∧ A'.Pairwise (fun a b => least a ≤ least b) ∧ sink (A ++ x :: B) k = A' ++ B
  | 0, A, x, B, hk, _ => by
    have : A = [] := List.eq_nil_of_length_eq_zero hk
    subst this
    exact ⟨[x], .refl _, by simp, rfl⟩
  | k + 1, A, x, B, hk, hs => by
    rcases snoc_cases A with rfl | ⟨A0, y, rfl⟩
    · simp at hk
    · have hk0 : A0.length = k := by simpa using hk
      obtain ⟨hs0, _, hsy⟩ := List.pairwise_append.1 hs
      have e0 : A0 ++ [y] ++ x :: B = A0 ++ y :: x :: B := by simp
      have e1 : (A0 ++ y :: x :: B).getD (k + 1) 0 = x := by subst hk0; simp [List.getD_eq_getElem?_getD]
      have e2 : (A0 ++ y :: x :: B).getD k 0 = y := by subst hk0; simp [List.getD_eq_getElem?_getD]
      rw [e0]
      unfold sink
      rw [e1, e2]
      split
      · rename_i hlt
        have e3 := swap_app A0 x y B
        rw [hk0] at e3
        rw [e3]
        obtain ⟨A', hp, hs', he⟩ := sink_ins k A0 x (y :: B) hk0 hs0
        refine ⟨A' ++ [y], ?_, ?_, by rw [he]; simp⟩
        · have := hp.append_right [y]
          simpa using this
        · refine List.pairwise_append.2 ⟨hs', by simp, fun a ha b hb => ?_⟩
          simp at hb; subst hb
          rcases List.mem_cons.1 (hp.mem_iff.1 ha) with rfl | ha
          · omega
          · exact hsy a ha _ (by simp)
      · rename_i hlt
        refine ⟨A0 ++ [y] ++ [x], ?_, ?_, by simp⟩
        · exact List.perm_append_comm
        · refine List.pairwise_append.2 ⟨hs, by simp, fun a ha b hb => ?_⟩
          simp at hb; subst hb
          rcases List.mem_append.1 ha with ha | ha
          · have := hsy a ha y (by simp); omega
          · simp at ha; subst ha; omega
theorem sortTo_ins (l : List Cl) : ∀ i, i ≤ l.length → ∃ A, A.Perm (l.take i) ∧ A.Pairwise (fun a b => least a ≤ least b) ∧ sortTo l i = A ++ l.drop i
  | 0, _ => ⟨[], by simp, by simp, by simp [sortTo]⟩
  | i + 1, hi => by
    obtain ⟨A, hp, hs, he⟩ := sortTo_ins l i (by omega)
    have hd : l.drop i = l[i] :: l.drop (i + 1) := List.drop_eq_getElem_cons (by omega)
    have hA : A.length = i := by have := hp.length_eq; rw [List.length_take] at this; omega
    obtain ⟨A', hp', hs', he'⟩ := sink_ins i A l[i] (l.drop (i + 1)) hA hs
    refine ⟨A', ?_, hs', by unfold sortTo; rw [he, hd, he']⟩
    rw [List.take_add_one, List.getElem?_eq_getElem (by omega), Option.toList_some]
    exact hp'.trans ((hp.cons _).trans (List.perm_append_comm (l₁ := [l[i]])))
theorem atoms_perm (l : List Cl) : (atoms l).Perm (parts l) ∧ (atoms l).Pairwise (fun a b => least a ≤ least b) := by
  obtain ⟨A, hp, hs, he⟩ := sortTo_ins (parts l) _ (Nat.le_refl _)
  unfold atoms
  rw [he, List.drop_length, List.append_nil]
  rw [List.take_length] at hp
  exact ⟨hp, hs⟩
theorem Dj.perm {l m : List Cl} (h : Dj l) (hp : m.Perm l) : Dj m :=
  ⟨fun a ha => h.ne a (hp.mem_iff.1 ha), hp.symm.pairwise h.ap (fun {a b} hab => by rw [BitVec.and_comm]; exact hab)⟩
theorem atoms_pi (l : List Cl) : PI l (atoms l) := by
  have hp := (atoms_perm l).1
  have h := parts_pi l
  refine ⟨h.dj.perm hp, fun a ha => h.eq a (hp.mem_iff.1 ha), fun x hx => ?_⟩
  obtain ⟨a, ha, hax⟩ := h.all x hx
  exact ⟨a, hp.mem_iff.2 ha, hax⟩
def isFirst (l : List Cl) (x : Nat) (i : Nat) : Bool := (List.range i).all fun y => !alike l x y || decide (x ≤ y)
def rAtomsTo (l : List Cl) (i : Nat) : List Cl := ((List.range i).filter (isFirst l · 256)).map (cls l)
def rAtoms (l : List Cl) : List Cl := rAtomsTo l 256
theorem getD_get {l : List Cl} {k : Nat} (h : k < l.length) : l[k]? = some (l.getD k 0) := by
  rw [List.getD_eq_getElem?_getD, List.getElem?_eq_getElem h]; rfl
theorem sink_yes {l : List Cl} {q : Nat} (h : least (l.getD (q + 1) 0) < least (l.getD q 0)) : sink l (q + 1) = sink (swap l q) q := by
  rw [sink, if_pos h]
theorem sink_no {l : List Cl} {q : Nat} (h : ¬ least (l.getD (q + 1) 0) < least (l.getD q 0)) : sink l (q + 1) = l := by
  rw [sink, if_neg h]
theorem atoms_length (l : List Cl) : (atoms l).length = (parts l).length := sortTo_len _ _
def wK : Cl := ofL [97, 99]
end Go.HL.Kl
namespace Go.HL.Kl
open Go Go.HL Go.RowKit Go.ChangeShapes Go.WideShapes Go.ChangeAt
/-! classes that came in -/
def Ew1 (w : BitVec 64) : List Value := [Ew w]
instance : Enc Ew1 1 := ⟨fun _ => rfl, fun _ v hv => by simp [Ew1, Ew] at hv; subst hv; rfl⟩
def mk4 (a b c d : BitVec 64) : Cl := setw (setw (setw (setw 0 0 a) 1 b) 2 c) 3 d
end Go.HL.Kl
namespace Go.HL.Kl
open Go Go.HL
theorem mems_size (c : Cl) : (mems c).length = size c := by
  unfold mems memsTo size sizeTo; rw [List.countP_eq_length_filter]
def bitsN (p : List Nat) : Cl := p.foldl (fun c b => c ||| bit b) 0
def orR (l : List (Nat × Nat)) : Cl := l.foldl (fun c r => c ||| rng r.1 r.2) 0
def sumR (l : List (Nat × Nat)) : Nat := (l.map fun r => r.2 + 1 - r.1).sum
def Rise (l : List (Nat × Nat)) : Prop := ∀ i g, l[i]? = some g → g.1 ≤ g.2 ∧ g.2 < 256 ∧ ∀ q, 0 < i → l[i - 1]? = some q → q.2 + 1 < g.1
end Go.HL.Kl
namespace Go.HL.Sts
open Go Go.HL Go.HL.Kl Go.HL.Kl.Mc
def fullC : Kl.Cl := ~~~(0#256)
def firstI (a : Kl.Cl) : Int := if mems a = [] then -1 else (least a : Nat)
def shA : List Kl.Cl → Kl.Cl → Int → Bool
  | [], all, _ => decide (all = fullC)
  | a :: l, all, last => if firstI a ≤ last ∨ all &&& a ≠ 0 then false else shA l (all ||| a) (firstI a)
def rowOk (n K : Nat) (row : List Int) : Prop := row.length = K ∧ ∀ x ∈ row, -1 ≤ x ∧ x < n
instance (n K : Nat) (row : List Int) : Decidable (rowOk n K row) := by unfold rowOk; infer_instance
def sizeOk (d : Df) : Prop := 1 ≤ d.ends.length ∧ d.ends.length ≤ 256 ∧ d.next.length = d.ends.length ∧ 1 ≤ d.atoms.length ∧ d.atoms.length ≤ 256
instance (d : Df) : Decidable (sizeOk d) := by unfold sizeOk; infer_instance
def shP (d : Df) : Bool := decide (sizeOk d) && (shA d.atoms 0 (-1) && decide (∀ r ∈ d.next, rowOk d.ends.length d.atoms.length r))
def hasN (l : List Kl.Cl) (b : Nat) : Nat := l.countP fun a => a.getLsbD b
def hasAll (l : List Kl.Cl) : Bool := (List.range 256).all fun b => decide (hasN l b = 1)
theorem hasAll_iff {l : List Kl.Cl} : hasAll l = true ↔ ∀ b, b < 256 → hasN l b = 1 := by simp [hasAll]
def leastR (a : Kl.Cl) : Nat := if mems a = [] then 0 else least a
def riseAt (l : List Kl.Cl) (k : Nat) : Bool := match l[k]? with
  | some a => decide (size a ≠ 0) && (decide (k = 0) || decide (leastR ((l[k - 1]?).getD 0) ≤ leastR a))
  | none => true
def shR (d : Df) : Bool := decide (sizeOk d) && (hasAll d.atoms && (decide (∀ k, k < d.atoms.length → riseAt d.atoms k = true) && decide (∀ r ∈ d.next, rowOk d.ends.length d.atoms.length r)))
theorem mems_nil {a : Kl.Cl} : mems a = [] ↔ a = 0#256 := by
  constructor
  · intro h
    apply cl_ext
    intro j hj
    have : j ∉ mems a := by rw [h]; simp
    rw [mem_mems] at this
    simp [this]
  · rintro rfl
    rw [List.eq_nil_iff_forall_not_mem]
    intro x hx
    rw [mem_mems] at hx
    simp at hx
theorem and_zero_iff {a b : Kl.Cl} : a &&& b = 0 ↔ ∀ j, j < 256 → ¬ (a.getLsbD j = true ∧ b.getLsbD j = true) := by
  constructor
  · rintro h j hj ⟨h1, h2⟩
    have := congrArg (fun c => BitVec.getLsbD c j) h
    simp [BitVec.getLsbD_and, h1, h2] at this
  · intro h
    apply cl_ext
    intro j hj
    rw [BitVec.getLsbD_and]
    have := h j hj
    cases e1 : a.getLsbD j <;> cases e2 : b.getLsbD j <;> simp_all
structure Atm (l : List Kl.Cl) : Prop where
  ne : ∀ a ∈ l, a ≠ 0
  dj : l.Pairwise fun a b => a &&& b = 0
  up : l.Pairwise fun a b => least a < least b
  all : ∀ b, b < 256 → ∃ a ∈ l, a.getLsbD b = true
theorem firstI_le {a : Kl.Cl} {last : Int} (h : -1 ≤ last) : ¬ firstI a ≤ last ↔ a ≠ 0 ∧ last < (least a : Nat) := by
  unfold firstI
  by_cases e : mems a = []
  · rw [if_pos e]
    have := mems_nil.1 e
    constructor
    · intro h'; omega
    · rintro ⟨h1, _⟩; exact absurd this h1
  · rw [if_neg e]
    constructor
    · intro h'
      exact ⟨fun h0 => e (mems_nil.2 h0), by omega⟩
    · rintro ⟨_, h'⟩; omega
def orAll (l : List Kl.Cl) (c : Kl.Cl) : Kl.Cl := l.foldl (· ||| ·) c
theorem orAll_get : ∀ (l : List Kl.Cl) (c : Kl.Cl) (j : Nat), (orAll l c).getLsbD j = true ↔ c.getLsbD j = true ∨ ∃ a ∈ l, a.getLsbD j = true
  | [], c, j => by simp [orAll]
  | a :: l, c, j => by
    have := orAll_get l (c ||| a) j
    simp only [orAll, List.foldl_cons] at this ⊢
    rw [this, BitVec.getLsbD_or]
    simp only [Bool.or_eq_true, List.mem_cons]
    constructor
    · rintro ((h | h) | ⟨x, hx, h⟩)
      · exact .inl h
      · exact .inr ⟨a, .inl rfl, h⟩
      · exact .inr ⟨x, .inr hx, h⟩
    · rintro (h | ⟨x, rfl | hx, h⟩)
      · exact .inl (.inl h)
      · exact .inl (.inr h)
      · exact .inr ⟨x, hx, h⟩
theorem full_get {j : Nat} (hj : j < 256) : fullC.getLsbD j = true := by
  unfold fullC
  rw [BitVec.getLsbD_not]; simp [hj]
theorem shA_iff : ∀ (l : List Kl.Cl) (all : Kl.Cl) (last : Int), -1 ≤ last → (shA l all last = true ↔ (∀ a ∈ l, a ≠ 0 ∧ last < (least a : Nat) ∧ all &&& a = 0) ∧ l.Pairwise (fun a b => a &&& b = 0) ∧ l.Pairwise (fun a b => least a < least b) ∧ orAll l all = fullC)
  | [], all, last, _ => by simp [shA, orAll]
  | a :: l, all, last, hl => by
    unfold shA
    by_cases h : firstI a ≤ last ∨ all &&& a ≠ 0
    · rw [if_pos h]
      simp only [Bool.false_eq_true, false_iff]
      rintro ⟨h1, _⟩
      obtain ⟨ha, hb, hc⟩ := h1 a List.mem_cons_self
      rcases h with h | h
      · exact (firstI_le hl).2 ⟨ha, hb⟩ h
      · exact h hc
    · rw [if_neg h]
      have h1 : ¬ firstI a ≤ last := fun h' => h (.inl h')
      have h2 : all &&& a = 0 := by
        by_cases e : all &&& a = 0
        · exact e
        · exact absurd (.inr e) h
      obtain ⟨ha, hb⟩ := (firstI_le hl).1 h1
      have hf : firstI a = (least a : Nat) := by
        unfold firstI
        rw [if_neg (fun e => ha (mems_nil.1 e))]
      rw [hf, shA_iff l (all ||| a) (least a : Nat) (by omega)]
      have hor : orAll (a :: l) all = orAll l (all ||| a) := rfl
      rw [hor, List.pairwise_cons, List.pairwise_cons]
      constructor
      · rintro ⟨p, q, r, s⟩
        refine ⟨fun x hx => ?_, ⟨fun x hx => ?_, q⟩, ⟨fun x hx => ?_, r⟩, s⟩
        · rcases List.mem_cons.1 hx with rfl | hx
          · exact ⟨ha, hb, h2⟩
          · obtain ⟨p1, p2, p3⟩ := p x hx
            refine ⟨p1, by omega, and_zero_iff.2 fun j hj hh => and_zero_iff.1 p3 j hj ⟨by rw [BitVec.getLsbD_or, hh.1]; rfl, hh.2⟩⟩
        · exact and_zero_iff.2 fun j hj hh => and_zero_iff.1 (p x hx).2.2 j hj ⟨by rw [BitVec.getLsbD_or, hh.1, Bool.or_true], hh.2⟩
        · have := (p x hx).2.1
          omega
      · rintro ⟨p, ⟨q0, q⟩, ⟨r0, r⟩, s⟩
        refine ⟨fun x hx => ?_, q, r, s⟩
        obtain ⟨p1, p2, p3⟩ := p x (List.mem_cons_of_mem _ hx)
        refine ⟨p1, by have := r0 x hx; omega, and_zero_iff.2 fun j hj hh => ?_⟩
        obtain ⟨h3, h4⟩ := hh
        rw [BitVec.getLsbD_or, Bool.or_eq_true] at h3
        rcases h3 with h3 | h3
        · exact and_zero_iff.1 p3 j hj ⟨h3, h4⟩
        · exact and_zero_iff.1 (q0 x hx) j hj ⟨h3, h4⟩
theorem shA_atm {l : List Kl.Cl} : shA l 0 (-1) = true ↔ Atm l := by
  rw [shA_iff l 0 (-1) (by omega)]
  constructor
  · rintro ⟨a, b, c, d⟩
    refine ⟨fun x hx => (a x hx).1, b, c, fun j hj => ?_⟩
    have := (orAll_get l 0 j).1 (by rw [d]; exact full_get hj)
    rcases this with h | h
    · simp at h
    · exact h
  · rintro ⟨a, b, c, d⟩
    refine ⟨fun x hx => ⟨a x hx, by omega, by simp⟩, b, c, ?_⟩
    apply cl_ext
    intro j hj
    rw [full_get hj, (orAll_get l 0 j).2 (.inr (d j hj))]
theorem has_pos {l : List Kl.Cl} {b : Nat} : 0 < hasN l b ↔ ∃ a ∈ l, a.getLsbD b = true := List.countP_pos_iff
theorem has_two {b : Nat} : ∀ {l : List Kl.Cl}, hasN l b ≤ 1 ↔ l.Pairwise fun x y => ¬ (x.getLsbD b = true ∧ y.getLsbD b = true)
  | [] => by simp [hasN]
  | a :: l => by
    have ih := @has_two b l
    have e : hasN (a :: l) b = hasN l b + if a.getLsbD b = true then 1 else 0 := by simp only [hasN, List.countP_cons]
    rw [List.pairwise_cons, e, ← ih]
    by_cases h : a.getLsbD b = true
    · rw [if_pos h]
      constructor
      · intro h1
        refine ⟨fun y hy hh => ?_, by omega⟩
        have := has_pos.2 ⟨y, hy, hh.2⟩
        omega
      · rintro ⟨h1, _⟩
        rcases Nat.eq_zero_or_pos (hasN l b) with h0 | h0
        · omega
        · obtain ⟨y, hy, hh⟩ := has_pos.1 h0
          exact absurd ⟨h, hh⟩ (h1 y hy)
    · rw [if_neg h]
      constructor
      · intro h1; exact ⟨fun y hy hh => h hh.1, by omega⟩
      · rintro ⟨_, h1⟩; omega
theorem size_zero {a : Kl.Cl} : size a ≠ 0 ↔ a ≠ 0 := by
  rw [← mems_size]
  constructor
  · intro h h0
    exact h (by rw [mems_nil.2 h0]; rfl)
  · intro h h0
    exact h (mems_nil.1 (List.eq_nil_of_length_eq_zero h0))
theorem leastR_eq {a : Kl.Cl} (h : a ≠ 0) : leastR a = least a := by
  unfold leastR
  rw [if_neg (fun e => h (mems_nil.1 e))]
theorem pair_adj {α : Type} {l : List α} {f : α → Nat} (h : ∀ k a b, l[k]? = some a → l[k + 1]? = some b → f a < f b) : l.Pairwise fun a b => f a < f b := by
  induction l with
  | nil => exact .nil
  | cons x l ih =>
    have hp := ih fun k a b ha hb => h (k + 1) a b (by simpa using ha) (by simpa using hb)
    rw [List.pairwise_cons]
    refine ⟨fun y hy => ?_, hp⟩
    cases l with
    | nil => cases hy
    | cons z l =>
      have h0 := h 0 x z rfl rfl
      rcases List.mem_cons.1 hy with rfl | hy
      · exact h0
      · have := (List.pairwise_cons.1 hp).1 y hy
        omega
theorem rise_atm {l : List Kl.Cl} : ((∀ b, b < 256 → hasN l b = 1) ∧ ∀ k, k < l.length → riseAt l k = true) ↔ Atm l := by
  constructor
  · rintro ⟨h1, h2⟩
    have hne : ∀ a ∈ l, a ≠ 0 := by
      intro a ha
      obtain ⟨k, hk, rfl⟩ := List.getElem_of_mem ha
      have := h2 k hk
      simp only [riseAt, List.getElem?_eq_getElem hk, Bool.and_eq_true, decide_eq_true_eq] at this
      exact size_zero.1 this.1
    have hdj : ∀ b, b < 256 → l.Pairwise fun x y => ¬ (x.getLsbD b = true ∧ y.getLsbD b = true) := fun b hb => has_two.1 (by have := h1 b hb; omega)
    have hdj2 : l.Pairwise fun a b => a &&& b = 0 := by
      rw [List.pairwise_iff_getElem]
      intro i j hi hj hij
      exact and_zero_iff.2 fun b hb => List.pairwise_iff_getElem.1 (hdj b hb) i j hi hj hij
    refine ⟨hne, hdj2, pair_adj fun k a b ha hb => ?_, fun b hb => has_pos.1 (by have := h1 b hb; omega)⟩
    have hk : k + 1 < l.length := (List.getElem?_eq_some_iff.1 hb).1
    have := h2 (k + 1) hk
    simp only [riseAt, hb, Nat.add_sub_cancel, ha, Option.getD_some, Bool.and_eq_true, Bool.or_eq_true, decide_eq_true_eq] at this
    rw [leastR_eq (hne a (List.mem_of_getElem? ha)), leastR_eq (hne b (List.mem_of_getElem? hb))] at this
    have hle : least a ≤ least b := by omega
    rcases Nat.lt_or_ge (least a) (least b) with h | h
    · exact h
    · exfalso
      have e : least a = least b := by omega
      have s1 := (least_spec (hne a (List.mem_of_getElem? ha))).1
      have s2 := (least_spec (hne b (List.mem_of_getElem? hb))).1
      rw [← e] at s2
      obtain ⟨i1, e1⟩ := List.getElem?_eq_some_iff.1 ha
      obtain ⟨i2, e2⟩ := List.getElem?_eq_some_iff.1 hb
      have := List.pairwise_iff_getElem.1 hdj2 k (k + 1) i1 i2 (by omega)
      rw [e1, e2] at this
      exact and_zero_iff.1 this _ (least_lt (hne a (List.mem_of_getElem? ha))) ⟨s1, s2⟩
  · rintro ⟨hne, hdj, hup, hall⟩
    refine ⟨fun b hb => ?_, fun k hk => ?_⟩
    · have h1 := has_pos.2 (hall b hb)
      have h2 : hasN l b ≤ 1 := has_two.2 (hdj.imp fun h hh => and_zero_iff.1 h b hb hh)
      omega
    · simp only [riseAt, List.getElem?_eq_getElem hk, Bool.and_eq_true, Bool.or_eq_true, decide_eq_true_eq]
      refine ⟨size_zero.2 (hne _ (List.getElem_mem hk)), ?_⟩
      cases k with
      | zero => exact .inl rfl
      | succ k =>
        right
        have hk' : k < l.length := by omega
        rw [Nat.add_sub_cancel, List.getElem?_eq_getElem hk', Option.getD_some, leastR_eq (hne _ (List.getElem_mem hk')), leastR_eq (hne _ (List.getElem_mem hk))]
        have := List.pairwise_iff_getElem.1 hup k (k + 1) hk' hk (by omega)
        omega
theorem sh_eq (d : Df) : shP d = shR d := by
  have h : (shA d.atoms 0 (-1) = true) ↔ ((∀ b, b < 256 → hasN d.atoms b = 1) ∧ ∀ k, k < d.atoms.length → riseAt d.atoms k = true) := shA_atm.trans rise_atm.symm
  unfold shP shR
  rw [← Bool.and_assoc (hasAll d.atoms)]
  congr 2
  rw [Bool.eq_iff_iff, h, Bool.and_eq_true, hasAll_iff, decide_eq_true_eq]
structure Shp (d : Df) : Prop where
  sz : sizeOk d
  atm : Atm d.atoms
  rows : ∀ r ∈ d.next, rowOk d.ends.length d.atoms.length r
theorem shP_iff {d : Df} : shP d = true ↔ Shp d := by
  simp only [shP, Bool.and_eq_true, decide_eq_true_eq, shA_atm]
  exact ⟨fun h => ⟨h.1, h.2.1, h.2.2⟩, fun h => ⟨h.sz, h.atm, h.rows⟩⟩
/-! the atom of a byte -/
def lst (l : List Kl.Cl) (b : Nat) : Nat → Nat
  | 0 => 0
  | i + 1 => if (l[i]?.getD 0).getLsbD b then i else lst l b i
def fstK (l : List Kl.Cl) (b : Nat) : Nat := l.findIdx fun a => a.getLsbD b
theorem Atm.fst {l : List Kl.Cl} (h : Atm l) {b : Nat} (hb : b < 256) : ∃ hk : fstK l b < l.length, (l[fstK l b]).getLsbD b = true := by
  obtain ⟨a, ha, hh⟩ := h.all b hb
  have := List.findIdx_lt_length_of_exists (xs := l) (p := fun a => a.getLsbD b) ⟨a, ha, hh⟩
  exact ⟨this, List.findIdx_getElem (w := this)⟩
theorem Atm.uniq {l : List Kl.Cl} (h : Atm l) {b i j : Nat} (hb : b < 256) (hi : i < l.length) (hj : j < l.length) (h1 : (l[i]).getLsbD b = true) (h2 : (l[j]).getLsbD b = true) : i = j := by
  rcases Nat.lt_trichotomy i j with hij | hij | hij
  · exact absurd ⟨h1, h2⟩ (and_zero_iff.1 (List.pairwise_iff_getElem.1 h.dj i j hi hj hij) b hb)
  · exact hij
  · exact absurd ⟨h2, h1⟩ (and_zero_iff.1 (List.pairwise_iff_getElem.1 h.dj j i hj hi hij) b hb)
theorem lst_spec (l : List Kl.Cl) (b : Nat) : ∀ n, n ≤ l.length → (lst l b n < n ∧ (l[lst l b n]?.getD 0).getLsbD b = true) ∨ ∀ i, i < n → (l[i]?.getD 0).getLsbD b = false
  | 0, _ => .inr fun i h => by omega
  | n + 1, hn => by
    unfold lst
    by_cases h : (l[n]?.getD 0).getLsbD b = true
    · rw [if_pos h]; exact .inl ⟨by omega, h⟩
    · rw [if_neg h]
      rcases lst_spec l b n (by omega) with h1 | h1
      · exact .inl ⟨by omega, h1.2⟩
      · refine .inr fun i hi => ?_
        rcases Nat.lt_or_ge i n with h2 | h2
        · exact h1 i h2
        · have : i = n := by omega
          subst this
          simpa using h
theorem Atm.lst {l : List Kl.Cl} (h : Atm l) {b : Nat} (hb : b < 256) : Sts.lst l b l.length = fstK l b := by
  obtain ⟨hk, hh⟩ := h.fst hb
  rcases lst_spec l b l.length (Nat.le_refl _) with ⟨h1, h2⟩ | h1
  · rw [List.getElem?_eq_getElem h1, Option.getD_some] at h2
    exact h.uniq hb h1 hk h2 hh
  · have := h1 _ hk
    rw [List.getElem?_eq_getElem hk, Option.getD_some, hh] at this
    cases this
/-! what it takes -/
def nxt (d : Df) (q : Int) (k : Nat) : Int := ((d.next[q.toNat]?.getD [])[k]?).getD 0
def tkP (d : Df) : List UInt8 → Int → Bool
  | [], q => d.ends[q.toNat]?.getD false
  | b :: t, q => if nxt d q (lst d.atoms b.toNat d.atoms.length) < 0 then false else tkP d t (nxt d q (lst d.atoms b.toNat d.atoms.length))
def takesP (d : Df) (t : List UInt8) : Bool := shP d && tkP d t 0
def goesR (d : Df) (q : Int) (b : Nat) : Int := if q < 0 then -1 else if fstK d.atoms b < d.atoms.length then nxt d q (fstK d.atoms b) else -1
def endsR (d : Df) (q : Int) : Bool := decide (0 ≤ q) && d.ends[q.toNat]?.getD false
def tkR (d : Df) (t : List UInt8) (q : Int) : Int := t.foldl (fun q b => goesR d q b.toNat) q
def takesR (d : Df) (t : List UInt8) : Bool := shR d && endsR d (tkR d t 0)
theorem tkR_neg (d : Df) : ∀ (t : List UInt8) {q : Int}, q < 0 → tkR d t q < 0
  | [], _, h => h
  | b :: t, q, h => by
    simp only [tkR, List.foldl_cons]
    exact tkR_neg d t (by unfold goesR; rw [if_pos h]; decide)
theorem Shp.goes {d : Df} (h : Shp d) {q : Int} (hq : 0 ≤ q) {b : Nat} (hb : b < 256) : goesR d q b = nxt d q (Sts.lst d.atoms b d.atoms.length) := by
  unfold goesR
  rw [if_neg (by omega), if_pos (h.atm.fst hb).1, h.atm.lst hb]
theorem Shp.tk {d : Df} (h : Shp d) : ∀ (t : List UInt8) (q : Int), 0 ≤ q → tkP d t q = endsR d (tkR d t q)
  | [], q, hq => by simp [tkP, tkR, endsR, hq]
  | b :: t, q, hq => by
    simp only [tkP, tkR, List.foldl_cons]
    have hb : b.toNat < 256 := b.toNat_lt
    rw [h.goes hq hb]
    by_cases hn : nxt d q (Sts.lst d.atoms b.toNat d.atoms.length) < 0
    · rw [if_pos hn]
      have := tkR_neg d t hn
      simp only [tkR] at this
      unfold endsR
      rw [decide_eq_false (by omega)]; rfl
    · rw [if_neg hn]
      exact h.tk t _ (by omega)
theorem Shp.nxt_ok {d : Df} (h : Shp d) {q : Int} (h0 : 0 ≤ q) (h1 : q < d.ends.length) {k : Nat} (hk : k < d.atoms.length) : -1 ≤ nxt d q k ∧ nxt d q k < d.ends.length := by
  have hq : q.toNat < d.next.length := by have := h.sz.2.2.1; omega
  obtain ⟨h2, h3⟩ := h.rows _ (List.getElem_mem hq)
  unfold nxt
  rw [List.getElem?_eq_getElem hq, Option.getD_some, List.getElem?_eq_getElem (by omega), Option.getD_some]
  exact h3 _ (List.getElem_mem _)
theorem lst_lt (l : List Kl.Cl) (b : Nat) (h : 1 ≤ l.length) : lst l b l.length < l.length := by
  have : ∀ n, lst l b n ≤ n - 1 := by
    intro n
    induction n with
    | zero => simp [lst]
    | succ n ih => unfold lst; split <;> omega
  have := this l.length
  omega
def getF (p : Pt) (i : Nat) : Sp := if i = 0 then p.f0 else p.f1
def getL (p : Pt) (i : Nat) : Sp := if i = 0 then p.l0 else p.l1
def getN (p : Pt) (i k : Nat) : Bool := if i = 0 then (if k = 0 then p.n00 else p.n01) else (if k = 0 then p.n10 else p.n11)
def setF (p : Pt) (i : Nat) (s : Sp) : Pt := if i = 0 then { p with f0 := s } else { p with f1 := s }
def setL (p : Pt) (i : Nat) (s : Sp) : Pt := if i = 0 then { p with l0 := s } else { p with l1 := s }
def setN (p : Pt) (i k : Nat) (b : Bool) : Pt := if i = 0 then (if k = 0 then { p with n00 := b } else { p with n01 := b }) else (if k = 0 then { p with n10 := b } else { p with n11 := b })
theorem two {i : Nat} (h : i < 2) : i = 0 ∨ i = 1 := by omega
theorem three {i : Nat} (h : i < 3) : i = 0 ∨ i = 1 ∨ i = 2 := by omega
theorem Ep4_len (p : Pt) : (Ep4 p).length = 16 := rfl
theorem Es_sub {s : Sp} {j : Nat} {u : Value} (h : (E3 s)[j]? = some u) : j < 3 := by
  have := (List.getElem?_eq_some_iff.1 h).1
  simpa [E3] using this
theorem Ep4_F {p : Pt} {i off : Nat} (hi : i < 2) (ho : off = 4 + i * 3) : ∀ j u, (E3 (getF p i))[j]? = some u → (Ep4 p)[off + j]? = some u := by
  intro j u h
  subst ho
  have hj := Es_sub h
  rcases two hi with rfl | rfl <;> rcases three hj with rfl | rfl | rfl <;> exact h
theorem Ep4_L {p : Pt} {i off : Nat} (hi : i < 2) (ho : off = 10 + i * 3) : ∀ j u, (E3 (getL p i))[j]? = some u → (Ep4 p)[off + j]? = some u := by
  intro j u h
  subst ho
  have hj := Es_sub h
  rcases two hi with rfl | rfl <;> rcases three hj with rfl | rfl | rfl <;> exact h
theorem Ep4_N {p : Pt} {i k off : Nat} (hi : i < 2) (hk : k < 2) (ho : off = i * 2 + k) : (Ep4 p)[off]? = some (.bool (getN p i k)) := by
  subst ho
  rcases two hi with rfl | rfl <;> rcases two hk with rfl | rfl <;> rfl
theorem Ep4_setF {p : Pt} {i off : Nat} {s : Sp} (hi : i < 2) (ho : off = 4 + i * 3) : splice (Ep4 p) off (E3 s) = Ep4 (setF p i s) := by
  subst ho
  rcases two hi with rfl | rfl <;> rfl
theorem Ep4_setL {p : Pt} {i off : Nat} {s : Sp} (hi : i < 2) (ho : off = 10 + i * 3) : splice (Ep4 p) off (E3 s) = Ep4 (setL p i s) := by
  subst ho
  rcases two hi with rfl | rfl <;> rfl
theorem Ep4_setN {p : Pt} {i k off : Nat} {b : Bool} (hi : i < 2) (hk : k < 2) (ho : off = i * 2 + k) : (Ep4 p).set off (.bool b) = Ep4 (setN p i k b) := by
  subst ho
  rcases two hi with rfl | rfl <;> rcases two hk with rfl | rfl <;> rfl
/-! one or the other -/
def alt1 (p b : Pt) (i : Nat) : Pt := setL (setF p i (getF p i ||| getF b i)) i (getL p i ||| getL b i)
def altN (p b : Pt) (i : Nat) : Nat → Pt
  | 0 => p
  | k + 1 => setN (altN p b i k) i k (getN (altN p b i k) i k || getN b i k)
def altTo (a b : Pt) : Nat → Pt
  | 0 => a
  | i + 1 => altN (alt1 (altTo a b i) b i) b i 2
theorem altTo_end (a b : Pt) : altTo a b 2 = altP a b := by cases a; cases b; rfl
theorem altN_t {p b : Pt} {i k : Nat} (h : getN (altN p b i k) i k = true) : setN (altN p b i k) i k true = altN p b i (k + 1) := by simp [altN, h]
theorem altN_f {p b : Pt} {i k : Nat} (h : getN (altN p b i k) i k = false) : setN (altN p b i k) i k (getN b i k) = altN p b i (k + 1) := by simp [altN, h]
/-! one behind the other -/
def cat1 (c a b : Pt) (i : Nat) : Pt := setL (setF c i (getF a i)) i (getL b i)
def cat2 (c a b : Pt) (i : Nat) : Pt := if getN a i 0 then setF c i (getF c i ||| getF b i) else c
def cat3 (c a b : Pt) (i : Nat) : Pt := if getN b 0 i then setL c i (getL c i ||| getL a i) else c
def catN (c a b : Pt) (i : Nat) : Nat → Pt
  | 0 => c
  | k + 1 => setN (catN c a b i k) i k (getN a i k && getN b i k)
def catTo (a b : Pt) : Nat → Pt
  | 0 => zeroP
  | i + 1 => catN (cat3 (cat2 (cat1 (catTo a b i) a b i) a b i) a b i) a b i 2
theorem catTo_end (a b : Pt) : catTo a b 2 = catP a b := by
  obtain ⟨a0, a1, a2, a3, a4, a5, a6, a7⟩ := a
  obtain ⟨b0, b1, b2, b3, b4, b5, b6, b7⟩ := b
  cases a0 <;> cases a2 <;> cases b0 <;> cases b1 <;> rfl
theorem catN_t {c a b : Pt} {i k : Nat} (h : getN a i k = true) : setN (catN c a b i k) i k (getN b i k) = catN c a b i (k + 1) := by simp [catN, h]
theorem catN_f {c a b : Pt} {i k : Nat} (h : getN a i k = false) : setN (catN c a b i k) i k false = catN c a b i (k + 1) := by simp [catN, h]
theorem cat2_t {c a b : Pt} {i : Nat} (h : getN a i 0 = true) : setF c i (getF c i ||| getF b i) = cat2 c a b i := by simp [cat2, h]
theorem cat2_f {c a b : Pt} {i : Nat} (h : ¬ getN a i 0 = true) : cat2 c a b i = c := by simp [cat2, h]
theorem cat3_t {c a b : Pt} {i : Nat} (h : getN b 0 i = true) : setL c i (getL c i ||| getL a i) = cat3 c a b i := by simp [cat3, h]
theorem cat3_f {c a b : Pt} {i : Nat} (h : ¬ getN b 0 i = true) : cat3 c a b i = c := by simp [cat3, h]
theorem cat1_eq {c a b : Pt} {i : Nat} : setL (setF c i (getF a i)) i (getL b i) = cat1 c a b i := rfl
/-! the places that can follow: row by row -/
theorem joinF_get {l : List Sp} {a b : Sp} {p : Nat} {s : Sp} (h : l[p]? = some s) : (joinF l a b)[p]? = some (if a.getLsbD p then s ||| b else s) := by
  simp [joinF, h]
def joinTo (l : List Sp) (a b : Sp) (n : Nat) : List Sp := (joinF l a b).take n ++ l.drop n
theorem joinTo_len (l : List Sp) (a b : Sp) (n : Nat) : (joinTo l a b n).length = l.length := by
  simp [joinTo, joinF_len]; omega
theorem joinTo_get {l : List Sp} {a b : Sp} {n : Nat} {s : Sp} (h : l[n]? = some s) : (joinTo l a b n)[n]? = some s := by
  have hn := (List.getElem?_eq_some_iff.1 h).1
  unfold joinTo
  rw [List.getElem?_append_right (by rw [List.length_take]; exact Nat.min_le_left _ _), List.getElem?_drop]
  simp only [List.length_take, joinF_len]
  rw [show n + (n - min n l.length) = n by omega]
  exact h
theorem joinTo_yes {l : List Sp} {a b : Sp} {n : Nat} {s : Sp} (h : l[n]? = some s) (ha : a.getLsbD n = true) : (joinTo l a b n).set n (s ||| b) = joinTo l a b (n + 1) := by
  have hn := (List.getElem?_eq_some_iff.1 h).1
  have hg := joinF_get (a := a) (b := b) h
  rw [if_pos ha] at hg
  unfold joinTo
  have h1 : ((joinF l a b).take n).length = n := by simp [joinF_len]; omega
  rw [List.set_append_right _ _ (by omega), h1, Nat.sub_self, List.drop_eq_getElem_cons hn, List.set_cons_zero, List.take_add_one, hg]
  simp
theorem joinTo_no {l : List Sp} {a b : Sp} {n : Nat} {s : Sp} (h : l[n]? = some s) (ha : a.getLsbD n = false) : joinTo l a b n = joinTo l a b (n + 1) := by
  have hn := (List.getElem?_eq_some_iff.1 h).1
  have hg := joinF_get (a := a) (b := b) h
  simp only [ha, Bool.false_eq_true, if_false] at hg
  unfold joinTo
  rw [List.take_add_one, hg, List.drop_eq_getElem_cons hn]
  rw [List.getElem?_eq_getElem hn] at h
  simp at h
  simp [h]
theorem joinTo_end (l : List Sp) (a b : Sp) : joinTo l a b l.length = joinF l a b := by
  unfold joinTo
  rw [List.take_of_length_le (by simp [joinF_len]), List.drop_length, List.append_nil]
end Go.HL.Sts
namespace Go.HL.Sts
open Go Go.HL
theorem quoS {p : Nat} (h : p < 24) : IntKind.i64.wrap ((p : Int).tdiv 8) = ((p / 8 : Nat) : Int) := by
  have : ∀ p : Fin 24, IntKind.i64.wrap ((p.val : Int).tdiv 8) = ((p.val / 8 : Nat) : Int) := by decide +kernel
  exact this ⟨p, h⟩
theorem remS {p : Nat} (h : p < 24) : (p : Int).tmod 8 = ((p % 8 : Nat) : Int) := by
  have : ∀ p : Fin 24, (p.val : Int).tmod 8 = ((p.val % 8 : Nat) : Int) := by decide +kernel
  exact this ⟨p, h⟩
theorem Ep_zero {w : BitVec 8} : ((w.toNat : Int) = 0) ↔ w = 0#8 := by
  constructor
  · intro h; exact BitVec.eq_of_toNat_eq (by simp; omega)
  · rintro rfl; rfl
theorem meet_yes {s t : Sp} {i : Nat} (h : wp s i &&& wp t i ≠ 0#8) : s &&& t ≠ 0 := by
  intro e
  apply h
  rw [← wp_and, e]
  simp [wp]
theorem meet_no {s t : Sp} (h : ∀ i, i < 3 → wp s i &&& wp t i = 0#8) : s &&& t = 0 := by
  apply ext_wp
  intro i hi
  rw [wp_and, h i hi]
  simp [wp]
theorem meet_next {s t : Sp} {n : Nat} (h : ∀ i, i < n → wp s i &&& wp t i = 0#8) (hn : wp s n &&& wp t n = 0#8) : ∀ i, i < n + 1 → wp s i &&& wp t i = 0#8 := fun i hi => by
  rcases Nat.lt_or_ge i n with h' | h'
  · exact h i h'
  · have : i = n := by omega
    subst this; exact hn
end Go.HL.Sts
namespace Go.Proofs.YtmompllplidphaaGreatDoor
open Go.HL Go.Proofs
instance : Mixed Tryz.prog := ⟨by kernel_rfl⟩
instance g3 : TG Tryz.prog 3 true := ⟨by kernel_rfl⟩
instance u3 : TU Tryz.prog 3 ((Go.TypeDesc.int Go.IntKind.i64)) := ⟨Tryz.underlying3⟩
instance g4 : TG Tryz.prog 4 true := ⟨by kernel_rfl⟩
instance u4 : TU Tryz.prog 4 (Go.TypeDesc.bool) := ⟨Tryz.underlying4⟩
instance g5 : TG Tryz.prog 5 true := ⟨by kernel_rfl⟩
instance u5 : TU Tryz.prog 5 ((Go.TypeDesc.int Go.IntKind.u8)) := ⟨Tryz.underlying5⟩
instance u9 : TU Tryz.prog 9 (Go.TypeDesc.string) := ⟨Tryz.underlying9⟩
instance g22 : TG Tryz.prog 22 true := ⟨by kernel_rfl⟩
instance u22 : TU Tryz.prog 22 ((Go.TypeDesc.slice 42)) := ⟨Tryz.underlying22⟩
instance g26 : TG Tryz.prog 26 true := ⟨by kernel_rfl⟩
instance u26 : TU Tryz.prog 26 ((Go.TypeDesc.slice 39)) := ⟨Tryz.underlying26⟩
instance g27 : TG Tryz.prog 27 true := ⟨by kernel_rfl⟩
instance u27 : TU Tryz.prog 27 ((Go.TypeDesc.slice 36)) := ⟨Tryz.underlying27⟩
instance g28 : TG Tryz.prog 28 true := ⟨by kernel_rfl⟩
instance u28 : TU Tryz.prog 28 ((Go.TypeDesc.slice 4)) := ⟨Tryz.underlying28⟩
instance g30 : TG Tryz.prog 30 false := ⟨by kernel_rfl⟩
instance b30 : TB Tryz.prog 30 [(0, 1), (1, 1), (2, 1)] := ⟨by kernel_rfl⟩
instance s30 : TS Tryz.prog 30 [(26, 0), (27, 1), (28, 2)] := ts_of (by kernel_rfl)
instance g36 : TG Tryz.prog 36 true := ⟨by kernel_rfl⟩
instance u36 : TU Tryz.prog 36 ((Go.TypeDesc.slice 3)) := ⟨Tryz.underlying36⟩
instance g37 : TG Tryz.prog 37 true := ⟨by kernel_rfl⟩
instance u37 : TU Tryz.prog 37 ((Go.TypeDesc.int Go.IntKind.u64)) := ⟨Tryz.underlying37⟩
instance g39 : TG Tryz.prog 39 false := ⟨by kernel_rfl⟩
instance e39 : EG Tryz.prog 39 := ⟨by kernel_rfl⟩
instance u39 : TU Tryz.prog 39 ((Go.TypeDesc.array 4 37)) := ⟨Tryz.underlying39⟩
instance g40 : TG Tryz.prog 40 true := ⟨by kernel_rfl⟩
instance u40 : TU Tryz.prog 40 ((Go.TypeDesc.int Go.IntKind.i8)) := ⟨Tryz.underlying40⟩
instance g42 : TG Tryz.prog 42 false := ⟨by kernel_rfl⟩
instance e42 : EG Tryz.prog 42 := ⟨by kernel_rfl⟩
instance b42 : TB Tryz.prog 42 [(0, 1), (1, 4), (5, 1), (6, 1), (7, 1), (8, 1)] := ⟨by kernel_rfl⟩
instance tq42 : TQ Tryz.prog 42 [(40, 0), (39, 1), (3, 5), (3, 6), (3, 7), (3, 8)] := ⟨by kernel_rfl⟩
instance s42 : TS Tryz.prog 42 [(40, 0), (39, 1), (3, 5), (3, 6), (3, 7), (3, 8)] := ts_of (by kernel_rfl)
instance g44 : TG Tryz.prog 44 true := ⟨by kernel_rfl⟩
instance u44 : TU Tryz.prog 44 ((Go.TypeDesc.slice 68)) := ⟨Tryz.underlying44⟩
instance g45 : TG Tryz.prog 45 true := ⟨by kernel_rfl⟩
instance u45 : TU Tryz.prog 45 ((Go.TypeDesc.slice 28)) := ⟨Tryz.underlying45⟩
instance g46 : TG Tryz.prog 46 true := ⟨by kernel_rfl⟩
instance u46 : TU Tryz.prog 46 ((Go.TypeDesc.slice 168)) := ⟨Tryz.underlying46⟩
instance g47 : TG Tryz.prog 47 true := ⟨by kernel_rfl⟩
instance u47 : TU Tryz.prog 47 ((Go.TypeDesc.slice 170)) := ⟨Tryz.underlying47⟩
instance g48 : TG Tryz.prog 48 true := ⟨by kernel_rfl⟩
instance u48 : TU Tryz.prog 48 ((Go.TypeDesc.slice 173)) := ⟨Tryz.underlying48⟩
instance g49 : TG Tryz.prog 49 true := ⟨by kernel_rfl⟩
instance u49 : TU Tryz.prog 49 ((Go.TypeDesc.slice 176)) := ⟨Tryz.underlying49⟩
instance g50 : TG Tryz.prog 50 true := ⟨by kernel_rfl⟩
instance u50 : TU Tryz.prog 50 ((Go.TypeDesc.slice 26)) := ⟨Tryz.underlying50⟩
instance g51 : TG Tryz.prog 51 true := ⟨by kernel_rfl⟩
instance u51 : TU Tryz.prog 51 ((Go.TypeDesc.slice 22)) := ⟨Tryz.underlying51⟩
instance g52 : TG Tryz.prog 52 true := ⟨by kernel_rfl⟩
instance u52 : TU Tryz.prog 52 ((Go.TypeDesc.slice 179)) := ⟨Tryz.underlying52⟩
instance g53 : TG Tryz.prog 53 true := ⟨by kernel_rfl⟩
instance u53 : TU Tryz.prog 53 ((Go.TypeDesc.slice 182)) := ⟨Tryz.underlying53⟩
instance g54 : TG Tryz.prog 54 true := ⟨by kernel_rfl⟩
instance u54 : TU Tryz.prog 54 ((Go.TypeDesc.slice 185)) := ⟨Tryz.underlying54⟩
instance g55 : TG Tryz.prog 55 true := ⟨by kernel_rfl⟩
instance u55 : TU Tryz.prog 55 ((Go.TypeDesc.slice 188)) := ⟨Tryz.underlying55⟩
instance g56 : TG Tryz.prog 56 true := ⟨by kernel_rfl⟩
instance u56 : TU Tryz.prog 56 ((Go.TypeDesc.slice 44)) := ⟨Tryz.underlying56⟩
instance g57 : TG Tryz.prog 57 true := ⟨by kernel_rfl⟩
instance u57 : TU Tryz.prog 57 ((Go.TypeDesc.slice 27)) := ⟨Tryz.underlying57⟩
instance g58 : TG Tryz.prog 58 true := ⟨by kernel_rfl⟩
instance u58 : TU Tryz.prog 58 ((Go.TypeDesc.slice 48)) := ⟨Tryz.underlying58⟩
instance g59 : TG Tryz.prog 59 true := ⟨by kernel_rfl⟩
instance u59 : TU Tryz.prog 59 ((Go.TypeDesc.slice 192)) := ⟨Tryz.underlying59⟩
instance g60 : TG Tryz.prog 60 true := ⟨by kernel_rfl⟩
instance u60 : TU Tryz.prog 60 ((Go.TypeDesc.slice 195)) := ⟨Tryz.underlying60⟩
instance g61 : TG Tryz.prog 61 true := ⟨by kernel_rfl⟩
instance u61 : TU Tryz.prog 61 ((Go.TypeDesc.slice 198)) := ⟨Tryz.underlying61⟩
instance b63 : TB Tryz.prog 63 [(0, 1), (1, 1), (2, 1), (3, 1), (4, 1), (5, 1), (6, 1), (7, 1), (8, 1), (9, 1), (10, 1), (11, 1), (12, 1), (13, 1), (14, 1), (15, 1), (16, 1), (17, 1), (18, 1)] := ⟨by kernel_rfl⟩
instance s63 : TS Tryz.prog 63 [(44, 0), (27, 1), (45, 2), (46, 3), (47, 4), (48, 5), (49, 6), (50, 7), (51, 8), (52, 9), (53, 10), (54, 11), (55, 12), (56, 13), (57, 14), (58, 15), (59, 16), (60, 17), (61, 18)] := ts_of (by kernel_rfl)
instance g68 : TG Tryz.prog 68 true := ⟨by kernel_rfl⟩
instance u68 : TU Tryz.prog 68 ((Go.TypeDesc.slice 5)) := ⟨Tryz.underlying68⟩
instance g84 : TG Tryz.prog 84 true := ⟨by kernel_rfl⟩
instance u84 : TU Tryz.prog 84 ((Go.TypeDesc.slice 90)) := ⟨Tryz.underlying84⟩
instance b86 : TB Tryz.prog 86 [(0, 1), (1, 1), (2, 1)] := ⟨by kernel_rfl⟩
instance s86 : TS Tryz.prog 86 [(22, 0), (26, 1), (84, 2)] := ts_of (by kernel_rfl)
instance u87 : TU Tryz.prog 87 ((Go.TypeDesc.array 2 4)) := ⟨Tryz.underlying87⟩
instance u88 : TU Tryz.prog 88 ((Go.TypeDesc.array 2 87)) := ⟨Tryz.underlying88⟩
instance g90 : TG Tryz.prog 90 false := ⟨by kernel_rfl⟩
instance u90 : TU Tryz.prog 90 ((Go.TypeDesc.array 3 5)) := ⟨Tryz.underlying90⟩
instance u91 : TU Tryz.prog 91 ((Go.TypeDesc.array 2 90)) := ⟨Tryz.underlying91⟩
instance g93 : TG Tryz.prog 93 false := ⟨by kernel_rfl⟩
instance b93 : TB Tryz.prog 93 [(0, 4), (4, 6), (10, 6)] := ⟨by kernel_rfl⟩
instance s93 : TS Tryz.prog 93 [(88, 0), (91, 4), (91, 10)] := ts_of (by kernel_rfl)
instance g96 : TG Tryz.prog 96 false := ⟨by kernel_rfl⟩
instance s96 : TS Tryz.prog 96 [(27, 0), (28, 1)] := ts_of (by kernel_rfl)
instance u100 : TU Tryz.prog 100 ((Go.TypeDesc.map 3 3)) := ⟨Tryz.underlying100⟩
instance g112 : TG Tryz.prog 112 false := ⟨by kernel_rfl⟩
instance b112 : TB Tryz.prog 112 [(0, 1), (1, 1), (2, 1)] := ⟨by kernel_rfl⟩
instance s112 : TS Tryz.prog 112 [(3, 0), (3, 1), (68, 2)] := ts_of (by kernel_rfl)
instance u113 : TU Tryz.prog 113 ((Go.TypeDesc.slice 112)) := ⟨Tryz.underlying113⟩
instance g116 : TG Tryz.prog 116 false := ⟨by kernel_rfl⟩
instance u116 : TU Tryz.prog 116 ((Go.TypeDesc.array 256 3)) := ⟨Tryz.underlying116⟩
instance g118 : TG Tryz.prog 118 false := ⟨by kernel_rfl⟩
instance u118 : TU Tryz.prog 118 ((Go.TypeDesc.array 2 3)) := ⟨Tryz.underlying118⟩
instance g120 : TG Tryz.prog 120 false := ⟨by kernel_rfl⟩
instance b120 : TB Tryz.prog 120 [(0, 2), (2, 1), (3, 1)] := ⟨by kernel_rfl⟩
instance s120 : TS Tryz.prog 120 [(118, 0), (3, 2), (5, 3)] := ts_of (by kernel_rfl)
instance u121 : TU Tryz.prog 121 ((Go.TypeDesc.slice 120)) := ⟨Tryz.underlying121⟩
instance g122 : TG Tryz.prog 122 true := ⟨by kernel_rfl⟩
instance u122 : TU Tryz.prog 122 ((Go.TypeDesc.map 118 3)) := ⟨Tryz.underlying122⟩
instance b149 : TB Tryz.prog 149 [(0, 1), (1, 1), (2, 1)] := ⟨by kernel_rfl⟩
instance s149 : TS Tryz.prog 149 [(22, 0), (3, 1), (28, 2)] := ts_of (by kernel_rfl)
instance g159 : TG Tryz.prog 159 true := ⟨by kernel_rfl⟩
instance u159 : TU Tryz.prog 159 ((Go.TypeDesc.map 90 3)) := ⟨Tryz.underlying159⟩
instance g160 : TG Tryz.prog 160 true := ⟨by kernel_rfl⟩
instance u167 : TU Tryz.prog 167 ((Go.TypeDesc.int Go.IntKind.u64)) := ⟨Tryz.underlying167⟩
instance u226 : TU Tryz.prog 226 ((Go.TypeDesc.array 64 5)) := ⟨Tryz.underlying226⟩
instance i3 : TI Tryz.prog 3 1 8 := ti_of (by kernel_rfl)
instance i4 : TI Tryz.prog 4 1 1 := ti_of (by kernel_rfl)
instance i5 : TI Tryz.prog 5 1 1 := ti_of (by kernel_rfl)
instance i22 : TI Tryz.prog 22 1 24 := ti_of (by kernel_rfl)
instance i26 : TI Tryz.prog 26 1 24 := ti_of (by kernel_rfl)
instance i27 : TI Tryz.prog 27 1 24 := ti_of (by kernel_rfl)
instance i28 : TI Tryz.prog 28 1 24 := ti_of (by kernel_rfl)
instance i30 : TI Tryz.prog 30 3 72 := ti_of (by kernel_rfl)
instance i36 : TI Tryz.prog 36 1 24 := ti_of (by kernel_rfl)
instance i37 : TI Tryz.prog 37 1 8 := ti_of (by kernel_rfl)
instance i39 : TI Tryz.prog 39 4 32 := ti_of (by kernel_rfl)
instance i40 : TI Tryz.prog 40 1 1 := ti_of (by kernel_rfl)
instance i42 : TI Tryz.prog 42 9 72 := ti_of (by kernel_rfl)
instance i44 : TI Tryz.prog 44 1 24 := ti_of (by kernel_rfl)
instance i45 : TI Tryz.prog 45 1 24 := ti_of (by kernel_rfl)
instance i46 : TI Tryz.prog 46 1 24 := ti_of (by kernel_rfl)
instance i47 : TI Tryz.prog 47 1 24 := ti_of (by kernel_rfl)
instance i48 : TI Tryz.prog 48 1 24 := ti_of (by kernel_rfl)
instance i49 : TI Tryz.prog 49 1 24 := ti_of (by kernel_rfl)
instance i50 : TI Tryz.prog 50 1 24 := ti_of (by kernel_rfl)
instance i51 : TI Tryz.prog 51 1 24 := ti_of (by kernel_rfl)
instance i52 : TI Tryz.prog 52 1 24 := ti_of (by kernel_rfl)
instance i53 : TI Tryz.prog 53 1 24 := ti_of (by kernel_rfl)
instance i54 : TI Tryz.prog 54 1 24 := ti_of (by kernel_rfl)
instance i55 : TI Tryz.prog 55 1 24 := ti_of (by kernel_rfl)
instance i56 : TI Tryz.prog 56 1 24 := ti_of (by kernel_rfl)
instance i57 : TI Tryz.prog 57 1 24 := ti_of (by kernel_rfl)
instance i58 : TI Tryz.prog 58 1 24 := ti_of (by kernel_rfl)
instance i59 : TI Tryz.prog 59 1 24 := ti_of (by kernel_rfl)
instance i60 : TI Tryz.prog 60 1 24 := ti_of (by kernel_rfl)
instance i61 : TI Tryz.prog 61 1 24 := ti_of (by kernel_rfl)
instance i68 : TI Tryz.prog 68 1 24 := ti_of (by kernel_rfl)
instance i84 : TI Tryz.prog 84 1 24 := ti_of (by kernel_rfl)
instance i87 : TI Tryz.prog 87 2 2 := ti_of (by kernel_rfl)
instance i88 : TI Tryz.prog 88 4 4 := ti_of (by kernel_rfl)
instance i90 : TI Tryz.prog 90 3 3 := ti_of (by kernel_rfl)
instance i91 : TI Tryz.prog 91 6 6 := ti_of (by kernel_rfl)
instance i93 : TI Tryz.prog 93 16 16 := ti_of (by kernel_rfl)
instance i96 : TI Tryz.prog 96 2 48 := ti_of (by kernel_rfl)
instance i112 : TI Tryz.prog 112 3 40 := ti_of (by kernel_rfl)
instance i116 : TI Tryz.prog 116 256 2048 := ti_of (by kernel_rfl)
instance i118 : TI Tryz.prog 118 2 16 := ti_of (by kernel_rfl)
instance i120 : TI Tryz.prog 120 4 32 := ti_of (by kernel_rfl)
instance i122 : TI Tryz.prog 122 1 8 := ti_of (by kernel_rfl)
instance i159 : TI Tryz.prog 159 1 8 := ti_of (by kernel_rfl)
instance i160 : TI Tryz.prog 160 1 8 := ti_of (by kernel_rfl)
instance z3 : TZ Tryz.prog 3 (.int .i64 0) := tz_of (by kernel_rfl)
instance z4 : TZ Tryz.prog 4 (.bool false) := tz_of (by kernel_rfl)
instance z5 : TZ Tryz.prog 5 (.int .u8 0) := tz_of (by kernel_rfl)
instance z28 : TZ Tryz.prog 28 (.slice none 0 0) := tz_of (by kernel_rfl)
instance z30 : TZ Tryz.prog 30 (.agg [.slice none 0 0, .slice none 0 0, .slice none 0 0].toArray) := tz_of (by kernel_rfl)
instance z36 : TZ Tryz.prog 36 (.slice none 0 0) := tz_of (by kernel_rfl)
instance z39 : TZ Tryz.prog 39 (.agg [.int .u64 0, .int .u64 0, .int .u64 0, .int .u64 0].toArray) := tz_of (by kernel_rfl)
instance z42 : TZ Tryz.prog 42 (.agg [.int .i8 0, .int .u64 0, .int .u64 0, .int .u64 0, .int .u64 0, .int .i64 0, .int .i64 0, .int .i64 0, .int .i64 0].toArray) := tz_of (by kernel_rfl)
instance z63 : TZ Tryz.prog 63 (.agg (List.replicate 19 (.slice none 0 0)).toArray) := tz_of (by kernel_rfl)
instance z68 : TZ Tryz.prog 68 (.slice none 0 0) := tz_of (by kernel_rfl)
instance z84 : TZ Tryz.prog 84 (.slice none 0 0) := tz_of (by kernel_rfl)
instance z86 : TZ Tryz.prog 86 (.agg [.slice none 0 0, .slice none 0 0, .slice none 0 0].toArray) := tz_of (by kernel_rfl)
instance z87 : TZ Tryz.prog 87 (.agg [.bool false, .bool false].toArray) := tz_of (by kernel_rfl)
instance z88 : TZ Tryz.prog 88 (.agg [.bool false, .bool false, .bool false, .bool false].toArray) := tz_of (by kernel_rfl)
instance z90 : TZ Tryz.prog 90 (.agg [.int .u8 0, .int .u8 0, .int .u8 0].toArray) := tz_of (by kernel_rfl)
instance z91 : TZ Tryz.prog 91 (.agg [.int .u8 0, .int .u8 0, .int .u8 0, .int .u8 0, .int .u8 0, .int .u8 0].toArray) := tz_of (by kernel_rfl)
instance z93 : TZ Tryz.prog 93 (.agg [.bool false, .bool false, .bool false, .bool false, .int .u8 0, .int .u8 0, .int .u8 0, .int .u8 0, .int .u8 0, .int .u8 0, .int .u8 0, .int .u8 0, .int .u8 0, .int .u8 0, .int .u8 0, .int .u8 0].toArray) := tz_of (by kernel_rfl)
instance z96 : TZ Tryz.prog 96 (.agg [.slice none 0 0, .slice none 0 0].toArray) := tz_of (by kernel_rfl)
instance z112 : TZ Tryz.prog 112 (.agg [.int .i64 0, .int .i64 0, .slice none 0 0].toArray) := tz_of (by kernel_rfl)
instance z116 : TZ Tryz.prog 116 (.agg (List.replicate 256 (.int .i64 0)).toArray) := tz_of (by kernel_rfl)
instance z118 : TZ Tryz.prog 118 (.agg [.int .i64 0, .int .i64 0].toArray) := tz_of (by kernel_rfl)
instance z120 : TZ Tryz.prog 120 (.agg [.int .i64 0, .int .i64 0, .int .i64 0, .int .u8 0].toArray) := tz_of (by kernel_rfl)
instance z122 : TZ Tryz.prog 122 (.map none) := tz_of (by kernel_rfl)
instance z149 : TZ Tryz.prog 149 (.agg [.slice none 0 0, .int .i64 0, .slice none 0 0].toArray) := tz_of (by kernel_rfl)
instance z159 : TZ Tryz.prog 159 (.map none) := tz_of (by kernel_rfl)
instance z160 : TZ Tryz.prog 160 (.nilFunc) := tz_of (by kernel_rfl)
end Go.Proofs.YtmompllplidphaaGreatDoor
