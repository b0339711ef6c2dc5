/- Part of the proofs over this seat: see the text that holds the theorem. Conditions: each theorem bears its own. -/
import Derived.Test.YtafbigmneipkiaaDoorMC8
namespace Go.HL.Kl
open Go Go.HL

/-! atoms -/
def ref1 (c a : Cl) : List Cl := if a &&& c = 0#256 ∨ a &&& ~~~c = 0#256 then [a] else [a &&& c, a &&& ~~~c]
def refine (out : List Cl) (c : Cl) : List Cl := out.flatMap (ref1 c)
def parts (l : List Cl) : List Cl := l.foldl refine [rng 0 255]
theorem parts_snoc (l : List Cl) (c : Cl) : parts (l ++ [c]) = refine (parts l) c := by simp [parts]
theorem ne_bit {a : Cl} (h : a ≠ 0#256) : ∃ x, x < 256 ∧ a.getLsbD x = true := by
  refine Classical.byContradiction fun hn => h (cl_ext fun j hj => ?_)
  have : ¬ a.getLsbD j = true := fun e => hn ⟨j, hj, e⟩
  simpa using this
theorem bit_ne {a : Cl} {x : Nat} (h : a.getLsbD x = true) : a ≠ 0#256 := fun e => by rw [e] at h; simp at h
theorem lt_of_bit {a : Cl} {x : Nat} (h : a.getLsbD x = true) : x < 256 := by
  refine Classical.byContradiction fun hn => ?_
  rw [BitVec.getLsbD_of_ge a x (by omega)] at h; cases h
theorem mem_mems {c : Cl} {x : Nat} : x ∈ mems c ↔ c.getLsbD x = true := by
  constructor
  · intro h; exact (memsTo_lt h).2
  · intro h
    have := lt_of_bit h
    simp [mems, memsTo, this, h]
theorem mems_sorted (c : Cl) : (mems c).Pairwise (· < ·) := List.Pairwise.sublist List.filter_sublist List.pairwise_lt_range
theorem least_spec {a : Cl} (h : a ≠ 0#256) : a.getLsbD (least a) = true ∧ ∀ y, a.getLsbD y = true → least a ≤ y := by
  obtain ⟨x, hx, hax⟩ := ne_bit h
  have hm := mem_mems.2 hax
  have hs := mems_sorted a
  unfold least
  cases hml : mems a with
  | nil => rw [hml] at hm; simp at hm
  | cons b r =>
    rw [hml] at hs
    refine ⟨mem_mems.1 (by rw [hml]; simp), fun y hy => ?_⟩
    have hy' := mem_mems.2 hy
    rw [hml] at hy'
    rcases List.mem_cons.1 hy' with rfl | hy'
    · exact Nat.le_refl _
    · exact Nat.le_of_lt ((List.pairwise_cons.1 hs).1 y hy')
theorem least_lt {a : Cl} (h : a ≠ 0#256) : least a < 256 := lt_of_bit (least_spec h).1
/-- apart from one another, none empty -/
structure Dj (l : List Cl) : Prop where
  ne : ∀ a ∈ l, a ≠ 0#256
  ap : l.Pairwise (fun a b => a &&& b = 0#256)
theorem nodup_lt : ∀ (n : Nat) (l : List Nat), l.Nodup → (∀ x ∈ l, x < n) → l.length ≤ n
  | 0, l, _, h => by
    cases l with
    | nil => simp
    | cons x r => have := h x List.mem_cons_self; omega
  | n + 1, l, hd, h => by
    by_cases hm : n ∈ l
    · have h1 := nodup_lt n (l.erase n) (hd.erase n) fun x hx => by
        have h2 := (List.Nodup.mem_erase_iff hd).1 hx
        have := h x h2.2
        have := h2.1
        omega
      rw [List.length_erase_of_mem hm] at h1; omega
    · have h1 := nodup_lt n l hd fun x hx => by
        have := h x hx
        have : x ≠ n := fun e => hm (e ▸ hx)
        omega
      omega
theorem Dj.len {l : List Cl} (h : Dj l) : l.length ≤ 256 := by
  have h1 := nodup_lt 256 (l.map least) ?_ ?_
  · simpa using h1
  · rw [List.Nodup, List.pairwise_map]
    refine h.ap.imp_of_mem fun {a b} ha hb hab e => ?_
    have h2 := (least_spec (h.ne a ha)).1
    have h3 := (least_spec (h.ne b hb)).1
    rw [← e] at h3
    have : (a &&& b).getLsbD (least a) = true := by rw [BitVec.getLsbD_and, h2, h3]; rfl
    rw [hab] at this; simp at this
  · intro x hx
    obtain ⟨a, ha, rfl⟩ := List.mem_map.1 hx
    exact least_lt (h.ne a ha)
theorem ref1_sub {c a b : Cl} (h : b ∈ ref1 c a) {x : Nat} (hx : b.getLsbD x = true) : a.getLsbD x = true := by
  unfold ref1 at h
  split at h
  · simp at h; subst h; exact hx
  · simp at h
    rcases h with rfl | rfl
    · rw [BitVec.getLsbD_and] at hx; simp at hx; exact hx.1
    · rw [BitVec.getLsbD_and] at hx; simp at hx; exact hx.1
theorem Dj.refine {l : List Cl} (h : Dj l) (c : Cl) : Dj (refine l c) := by
  refine ⟨fun b hb => ?_, ?_⟩
  · obtain ⟨a, ha, hb⟩ := List.mem_flatMap.1 hb
    unfold ref1 at hb
    split at hb
    · simp at hb; subst hb; exact h.ne _ ha
    · rename_i hn
      simp at hb
      rcases hb with rfl | rfl
      · exact fun e => hn (.inl e)
      · exact fun e => hn (.inr e)
  · unfold Kl.refine
    rw [List.pairwise_flatMap]
    constructor
    · intro a _
      unfold ref1
      split
      · simp
      · simp only [List.pairwise_cons, List.mem_singleton, forall_eq, List.not_mem_nil, false_imp_iff, implies_true, List.Pairwise.nil, and_true]
        apply cl_ext
        intro j hj
        simp only [BitVec.getLsbD_and, BitVec.getLsbD_not]
        cases a.getLsbD j <;> cases c.getLsbD j <;> simp
    · refine h.ap.imp fun {a b} hab x hx y hy => ?_
      apply cl_ext
      intro j hj
      rw [BitVec.getLsbD_and]
      cases hxj : x.getLsbD j with
      | false => simp
      | true =>
        cases hyj : y.getLsbD j with
        | false => simp
        | true =>
          have h1 := ref1_sub hx hxj
          have h2 := ref1_sub hy hyj
          have h3 : (a &&& b).getLsbD j = true := by rw [BitVec.getLsbD_and, h1, h2]; rfl
          rw [hab] at h3; simp at h3
theorem Dj.sub {l m : List Cl} (h : Dj l) (hs : m.Sublist l) : Dj m := ⟨fun a ha => h.ne a (hs.subset ha), h.ap.sublist hs⟩
theorem rng_all {x : Nat} (hx : x < 256) : (rng 0 255).getLsbD x = true := by rw [rng_get hx]; simp; omega
/-- the bytes that l does not tell from x -/
def clsTo (l : List Cl) (x : Nat) : Nat → Cl
  | 0 => 0
  | i + 1 => if alike l x i then clsTo l x i ||| bit i else clsTo l x i
def cls (l : List Cl) (x : Nat) : Cl := clsTo l x 256
theorem clsTo_part (l : List Cl) (x : Nat) : ∀ i, Part (fun y => alike l x y) i (clsTo l x i)
  | 0 => Part.zero
  | i + 1 => by
    unfold clsTo
    split
    · rename_i h; exact (clsTo_part l x i).yes h
    · rename_i h; exact (clsTo_part l x i).no (by simpa using h)
theorem cls_get (l : List Cl) (x : Nat) {y : Nat} (hy : y < 256) : (cls l x).getLsbD y = alike l x y := by
  have := clsTo_part l x 256 y hy
  rw [decide_eq_true hy, Bool.true_and] at this
  exact this
theorem alike_snoc (l : List Cl) (c : Cl) (x y : Nat) : alike (l ++ [c]) x y = (alike l x y && (c.getLsbD x == c.getLsbD y)) := by simp [alike]
theorem alike_refl (l : List Cl) (x : Nat) : alike l x x = true := by simp [alike]
structure PI (l ps : List Cl) : Prop where
  dj : Dj ps
  eq : ∀ a ∈ ps, ∀ x, a.getLsbD x = true → a = cls l x
  all : ∀ x, x < 256 → ∃ a ∈ ps, a.getLsbD x = true
theorem PI.zero : PI [] [rng 0 255] := by
  refine ⟨⟨fun a ha => ?_, by simp⟩, fun a ha x hx => ?_, fun x hx => ⟨_, List.mem_singleton.2 rfl, rng_all hx⟩⟩
  · simp at ha; subst ha; exact bit_ne (rng_all (by decide : 0 < 256))
  · simp at ha; subst ha
    apply cl_ext
    intro j hj
    rw [rng_all hj, cls_get _ _ hj]; rfl
theorem PI.step {l ps : List Cl} (h : PI l ps) (c : Cl) : PI (l ++ [c]) (refine ps c) := by
  refine ⟨h.dj.refine c, fun b hb x hx => ?_, fun x hx => ?_⟩
  · obtain ⟨a, ha, hb⟩ := List.mem_flatMap.1 hb
    have hax := ref1_sub hb hx
    have hae := h.eq a ha x hax
    apply cl_ext
    intro j hj
    rw [cls_get _ _ hj, alike_snoc, ← cls_get l x hj, ← hae]
    unfold ref1 at hb
    split at hb
    · rename_i hz
      simp at hb; subst hb
      have e : c.getLsbD x = c.getLsbD j ∨ b.getLsbD j = false := by
        cases hbj : b.getLsbD j with
        | false => exact .inr rfl
        | true =>
          left
          have hjx := lt_of_bit hx
          rcases hz with hz | hz
          · have h1 : (b &&& c).getLsbD x = false := by rw [hz]; simp
            have h2 : (b &&& c).getLsbD j = false := by rw [hz]; simp
            rw [BitVec.getLsbD_and, hx] at h1
            rw [BitVec.getLsbD_and, hbj] at h2
            simp at h1 h2; rw [h1, h2]
          · have h1 : (b &&& ~~~c).getLsbD x = false := by rw [hz]; simp
            have h2 : (b &&& ~~~c).getLsbD j = false := by rw [hz]; simp
            rw [BitVec.getLsbD_and, hx, BitVec.getLsbD_not] at h1
            rw [BitVec.getLsbD_and, hbj, BitVec.getLsbD_not] at h2
            simp only [decide_eq_true hjx, decide_eq_true hj, Bool.true_and, Bool.not_eq_false'] at h1 h2
            rw [h1, h2]
      rcases e with e | e
      · rw [e]; simp
      · rw [e]; simp
    · simp at hb
      have hjx := lt_of_bit hx
      rcases hb with rfl | rfl
      · rw [BitVec.getLsbD_and] at hx ⊢
        simp at hx
        rw [hx.2]
        cases a.getLsbD j <;> cases c.getLsbD j <;> rfl
      · rw [BitVec.getLsbD_and, BitVec.getLsbD_not] at hx ⊢
        rw [hax, decide_eq_true hjx, Bool.true_and, Bool.true_and, Bool.not_eq_true'] at hx
        rw [hx, decide_eq_true hj]
        cases a.getLsbD j <;> cases c.getLsbD j <;> rfl
  · obtain ⟨a, ha, hax⟩ := h.all x hx
    have : ∃ b ∈ ref1 c a, b.getLsbD x = true := by
      unfold ref1
      split
      · exact ⟨a, by simp, hax⟩
      · cases hc : c.getLsbD x with
        | true => exact ⟨a &&& c, by simp, by rw [BitVec.getLsbD_and, hax, hc]; rfl⟩
        | false => exact ⟨a &&& ~~~c, by simp, by rw [BitVec.getLsbD_and, hax, BitVec.getLsbD_not, hc]; simp [hx]⟩
    obtain ⟨b, hb, hbx⟩ := this
    exact ⟨b, List.mem_flatMap.2 ⟨a, ha, hb⟩, hbx⟩
theorem parts_pi (l : List Cl) : PI l (parts l) := by
  have key : ∀ (m l ps : List Cl), PI l ps → PI (l ++ m) (m.foldl refine ps) := by
    intro m
    induction m with
    | nil => intro l ps h; simpa using h
    | cons c m ih =>
      intro l ps h
      have := ih (l ++ [c]) _ (h.step c)
      simpa using this
  have := key l [] _ PI.zero
  simpa [parts] using this
theorem parts_len (l : List Cl) : (parts l).length ≤ 256 := (parts_pi l).dj.len
theorem next_len (l : List Cl) (c : Cl) (j : Nat) : (refine ((parts l).take j) c).length ≤ 256 := (((parts_pi l).dj.sub (List.take_sublist _ _)).refine c).len
theorem refine_step (l : List Cl) (c : Cl) {j : Nat} (h : j < l.length) : refine (l.take (j + 1)) c = refine (l.take j) c ++ ref1 c l[j] := by
  unfold refine
  rw [List.take_add_one, List.getElem?_eq_getElem h, Option.toList_some, List.flatMap_append]
  simp
theorem parts_step (l : List Cl) {i : Nat} (h : i < l.length) : parts (l.take (i + 1)) = refine (parts (l.take i)) l[i] := by
  rw [List.take_add_one, List.getElem?_eq_getElem h, Option.toList_some, parts_snoc]

/-! the order -/
def swap (l : List Cl) (k : Nat) : List Cl := (l.set (k + 1) (l.getD k 0)).set k (l.getD (k + 1) 0)
theorem swap_len (l : List Cl) (k : Nat) : (swap l k).length = l.length := by simp [swap]
def sink (l : List Cl) : Nat → List Cl
  | 0 => l
  | k + 1 => if least (l.getD (k + 1) 0) < least (l.getD k 0) then sink (swap l k) k else l
def sortTo (l : List Cl) : Nat → List Cl
  | 0 => l
  | i + 1 => sink (sortTo l i) i
def atoms (l : List Cl) : List Cl := sortTo (parts l) (parts l).length
theorem sink_len : ∀ (k : Nat) (l : List Cl), (sink l k).length = l.length
  | 0, _ => rfl
  | k + 1, l => by
    unfold sink
    split
    · rw [sink_len k, swap_len]
    · rfl
theorem sortTo_len (l : List Cl) : ∀ i, (sortTo l i).length = l.length
  | 0 => rfl
  | i + 1 => by unfold sortTo; rw [sink_len, sortTo_len l i]
theorem swap_app (A : List Cl) (x y : Cl) (B : List Cl) : swap (A ++ y :: x :: B) A.length = A ++ x :: y :: B := by
  unfold swap
  have e1 : (A ++ y :: x :: B).getD A.length 0 = y := by simp [List.getD_eq_getElem?_getD]
  have e2 : (A ++ y :: x :: B).getD (A.length + 1) 0 = x := by simp [List.getD_eq_getElem?_getD]
  rw [e1, e2]
  rw [List.set_append_right _ _ (by omega), List.set_append_right _ _ (by omega)]
  have e3 : A.length + 1 - A.length = 1 := by omega
  rw [e3, Nat.sub_self]; rfl
theorem sink_ins : ∀ (k : Nat) (A : List Cl) (x : Cl) (B : List Cl), A.length = k → A.Pairwise (fun a b => least a ≤ least b) → ∃ A', A'.Perm (x :: A) ∧ A'.Pairwise (fun a b => least a ≤ least b) ∧ sink (A ++ x :: B) k = A' ++ B
  | 0, A, x, B, hk, _ => by
    have : A = [] := List.eq_nil_of_length_eq_zero hk
    subst this
    exact ⟨[x], .refl _, by simp, rfl⟩
  | k + 1, A, x, B, hk, hs => by
    rcases snoc_cases A with rfl | ⟨A0, y, rfl⟩
    · simp at hk
    · have hk0 : A0.length = k := by simpa using hk
      obtain ⟨hs0, _, hsy⟩ := List.pairwise_append.1 hs
      have e0 : A0 ++ [y] ++ x :: B = A0 ++ y :: x :: B := by simp
      have e1 : (A0 ++ y :: x :: B).getD (k + 1) 0 = x := by subst hk0; simp [List.getD_eq_getElem?_getD]
      have e2 : (A0 ++ y :: x :: B).getD k 0 = y := by subst hk0; simp [List.getD_eq_getElem?_getD]
      rw [e0]
      unfold sink
      rw [e1, e2]
      split
      · rename_i hlt
        have e3 := swap_app A0 x y B
        rw [hk0] at e3
        rw [e3]
        obtain ⟨A', hp, hs', he⟩ := sink_ins k A0 x (y :: B) hk0 hs0
        refine ⟨A' ++ [y], ?_, ?_, by rw [he]; simp⟩
        · have := hp.append_right [y]
          simpa using this
        · refine List.pairwise_append.2 ⟨hs', by simp, fun a ha b hb => ?_⟩
          simp at hb; subst hb
          rcases List.mem_cons.1 (hp.mem_iff.1 ha) with rfl | ha
          · omega
          · exact hsy a ha _ (by simp)
      · rename_i hlt
        refine ⟨A0 ++ [y] ++ [x], ?_, ?_, by simp⟩
        · exact List.perm_append_comm
        · refine List.pairwise_append.2 ⟨hs, by simp, fun a ha b hb => ?_⟩
          simp at hb; subst hb
          rcases List.mem_append.1 ha with ha | ha
          · have := hsy a ha y (by simp); omega
          · simp at ha; subst ha; omega
theorem sortTo_ins (l : List Cl) : ∀ i, i ≤ l.length → ∃ A, A.Perm (l.take i) ∧ A.Pairwise (fun a b => least a ≤ least b) ∧ sortTo l i = A ++ l.drop i
  | 0, _ => ⟨[], by simp, by simp, by simp [sortTo]⟩
  | i + 1, hi => by
    obtain ⟨A, hp, hs, he⟩ := sortTo_ins l i (by omega)
    have hd : l.drop i = l[i] :: l.drop (i + 1) := List.drop_eq_getElem_cons (by omega)
    have hA : A.length = i := by have := hp.length_eq; rw [List.length_take] at this; omega
    obtain ⟨A', hp', hs', he'⟩ := sink_ins i A l[i] (l.drop (i + 1)) hA hs
    refine ⟨A', ?_, hs', by unfold sortTo; rw [he, hd, he']⟩
    rw [List.take_add_one, List.getElem?_eq_getElem (by omega), Option.toList_some]
    exact hp'.trans ((hp.cons _).trans (List.perm_append_comm (l₁ := [l[i]])))
theorem atoms_perm (l : List Cl) : (atoms l).Perm (parts l) ∧ (atoms l).Pairwise (fun a b => least a ≤ least b) := by
  obtain ⟨A, hp, hs, he⟩ := sortTo_ins (parts l) _ (Nat.le_refl _)
  unfold atoms
  rw [he, List.drop_length, List.append_nil]
  rw [List.take_length] at hp
  exact ⟨hp, hs⟩
theorem Dj.perm {l m : List Cl} (h : Dj l) (hp : m.Perm l) : Dj m :=
  ⟨fun a ha => h.ne a (hp.mem_iff.1 ha), hp.symm.pairwise h.ap (fun {a b} hab => by rw [BitVec.and_comm]; exact hab)⟩
theorem atoms_pi (l : List Cl) : PI l (atoms l) := by
  have hp := (atoms_perm l).1
  have h := parts_pi l
  refine ⟨h.dj.perm hp, fun a ha => h.eq a (hp.mem_iff.1 ha), fun x hx => ?_⟩
  obtain ⟨a, ha, hax⟩ := h.all x hx
  exact ⟨a, hp.mem_iff.2 ha, hax⟩
theorem atoms_len (l : List Cl) : (atoms l).length ≤ 256 := (atoms_pi l).dj.len
theorem atoms_sorted (l : List Cl) : (atoms l).Pairwise (fun a b => least a < least b) := by
  have h := atoms_pi l
  have h2 := (atoms_perm l).2
  refine (h2.and h.dj.ap).imp_of_mem fun {a b} ha hb hab => ?_
  have h3 := (least_spec (h.dj.ne a ha)).1
  have h4 := (least_spec (h.dj.ne b hb)).1
  rcases Nat.lt_or_eq_of_le hab.1 with hl | he
  · exact hl
  · rw [← he] at h4
    have h5 : (a &&& b).getLsbD (least a) = true := by rw [BitVec.getLsbD_and, h3, h4]; rfl
    rw [hab.2] at h5; simp at h5

/-! the document's -/
def isFirst (l : List Cl) (x : Nat) (i : Nat) : Bool := (List.range i).all fun y => !alike l x y || decide (x ≤ y)
theorem isFirst_step (l : List Cl) (x i : Nat) : isFirst l x (i + 1) = (isFirst l x i && (!alike l x i || decide (x ≤ i))) := by
  unfold isFirst; rw [List.range_succ, List.all_append]; simp
def rAtomsTo (l : List Cl) (i : Nat) : List Cl := ((List.range i).filter (isFirst l · 256)).map (cls l)
def rAtoms (l : List Cl) : List Cl := rAtomsTo l 256
theorem rAtomsTo_yes {l : List Cl} {i : Nat} (h : isFirst l i 256 = true) : rAtomsTo l (i + 1) = rAtomsTo l i ++ [cls l i] := by
  unfold rAtomsTo; rw [List.range_succ, List.filter_append]; simp [h]
theorem rAtomsTo_no {l : List Cl} {i : Nat} (h : isFirst l i 256 = false) : rAtomsTo l (i + 1) = rAtomsTo l i := by
  unfold rAtomsTo; rw [List.range_succ, List.filter_append]; simp [h]
theorem rAtomsTo_len (l : List Cl) (i : Nat) : (rAtomsTo l i).length ≤ i := by
  have := List.length_filter_le (isFirst l · 256) (List.range i)
  simpa [rAtomsTo] using this
theorem isFirst_spec {l : List Cl} {x : Nat} (h : isFirst l x 256 = true) {y : Nat} (hy : y < 256) (ha : alike l x y = true) : x ≤ y := by
  have := List.all_eq_true.1 h y (by simpa using hy)
  simpa [ha] using this
theorem cls_ne (l : List Cl) {x : Nat} (hx : x < 256) : cls l x ≠ 0#256 := bit_ne (x := x) (by rw [cls_get l x hx]; exact alike_refl l x)
theorem least_cls {l : List Cl} {x : Nat} (hx : x < 256) (h : isFirst l x 256 = true) : least (cls l x) = x := by
  obtain ⟨h1, h2⟩ := least_spec (cls_ne l hx)
  have h3 := h2 x (by rw [cls_get l x hx]; exact alike_refl l x)
  have h4 := lt_of_bit h1
  rw [cls_get l x h4] at h1
  have := isFirst_spec h h4 h1
  omega
theorem sorted_eq : ∀ (l m : List Cl), l.Pairwise (fun a b => least a < least b) → m.Pairwise (fun a b => least a < least b) → (∀ a, a ∈ l ↔ a ∈ m) → l = m
  | [], [], _, _, _ => rfl
  | [], b :: m, _, _, h => by have := (h b).2 List.mem_cons_self; simp at this
  | a :: l, [], _, _, h => by have := (h a).1 List.mem_cons_self; simp at this
  | a :: l, b :: m, hl, hm, h => by
    obtain ⟨ha, hl'⟩ := List.pairwise_cons.1 hl
    obtain ⟨hb, hm'⟩ := List.pairwise_cons.1 hm
    have e : a = b := by
      rcases List.mem_cons.1 ((h a).1 List.mem_cons_self) with e | h1
      · exact e
      · rcases List.mem_cons.1 ((h b).2 List.mem_cons_self) with e | h2
        · exact e.symm
        · have := hb a h1; have := ha b h2; omega
    subst e
    rw [sorted_eq l m hl' hm' fun x => ?_]
    constructor
    · intro hx
      rcases List.mem_cons.1 ((h x).1 (List.mem_cons_of_mem _ hx)) with rfl | hx'
      · have := ha x hx; omega
      · exact hx'
    · intro hx
      rcases List.mem_cons.1 ((h x).2 (List.mem_cons_of_mem _ hx)) with rfl | hx'
      · have := hb x hx; omega
      · exact hx'
theorem atoms_eq (l : List Cl) : atoms l = rAtoms l := by
  have hp := atoms_pi l
  refine sorted_eq _ _ (atoms_sorted l) ?_ fun a => ?_
  · unfold rAtoms rAtomsTo
    rw [List.pairwise_map]
    refine (List.Pairwise.sublist List.filter_sublist (List.pairwise_lt_range (n := 256))).imp_of_mem fun {x y} hx hy hxy => ?_
    have hx' := List.mem_filter.1 hx
    have hy' := List.mem_filter.1 hy
    rw [least_cls (by simpa using hx'.1) hx'.2, least_cls (by simpa using hy'.1) hy'.2]
    exact hxy
  · unfold rAtoms rAtomsTo
    rw [List.mem_map]
    constructor
    · intro ha
      obtain ⟨h1, h2⟩ := least_spec (hp.dj.ne a ha)
      have he := hp.eq a ha _ h1
      have hlt := lt_of_bit h1
      refine ⟨least a, List.mem_filter.2 ⟨by simpa using hlt, ?_⟩, he.symm⟩
      refine List.all_eq_true.2 fun y hy => ?_
      have hy' : y < 256 := by simpa using hy
      cases hay : alike l (least a) y with
      | false => rfl
      | true =>
        have := h2 y (by rw [he, cls_get _ _ hy']; exact hay)
        simpa using this
    · rintro ⟨x, hx, rfl⟩
      have hx' := List.mem_filter.1 hx
      have hlt : x < 256 := by simpa using hx'.1
      obtain ⟨a, ha, hax⟩ := hp.all x hlt
      rw [← hp.eq a ha x hax]; exact ha
end Go.HL.Kl
