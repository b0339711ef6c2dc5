/- What Compile answers, as a pair; nodes written out. Conditions: none. -/
import Derived.Test.YtloepfcndglmmaaDoorVA1Z
import Derived.Test.YtloepfcndglmmaaDoorMT6Z
import Derived.Test.YtloepfcndglmmaaDoorHM2Z
namespace Go.HL.Kl.Mc
open Go Go.HL Go.HL.Kl
def CompOk (re : List Nd) (sv : Value) (S : Hp) (x : Nd) (ks : F) : Prop := ∃ a, shapedB re = true ∧ refsB re = false ∧ Shp re x ks ∧ sv = .slice a (mach (.nd x ks .nil)).length (mach (.nd x ks .nil)).length ∧ RdS Ein (.slice a (mach (.nd x ks .nil)).length (mach (.nd x ks .nil)).length) (mach (.nd x ks .nil)) S
/-! well shaped: forests without groups and references -/
def F.plain : F → Prop
  | .nil => True
  | .nd x ks r => (¬ x.op = 7 ∧ ¬ x.op = 8) ∧ ks.plain ∧ r.plain
def endN : Nd := ⟨4, 0, 0, 0, 0, 0⟩
def rowN (n : Nat) : Nd := ⟨4, 0, 0, 0, 0, (n : Int) + 1⟩
def timN (l m : Nat) : Nd := ⟨6, 0, 0, l, (l : Int) + m, 1⟩
def rowF : List UInt8 → F
  | [] => .nd endN .nil .nil
  | b :: bs => .nd (letN b) .nil (rowF bs)
def rowR (row : List UInt8) (l m : Nat) : List Nd := timN l m :: rowN row.length :: (row.map letN ++ [endN])
theorem let_ok' (b : UInt8) : ndOk (letN b) = true := by
  have : flds (letN b) = true := flds_iff.2 ⟨by simp [letN], .inl rfl, .inr (.inr rfl), (fun h => by cases h), fun _ => ⟨rfl, rfl⟩⟩
  rw [ndOk, this]; rfl
def Mt (row w : List UInt8) (p : Nat) : Prop := (w.drop p).take row.length = row
def Most (row w : List UInt8) (n k : Nat) : Prop := k ≤ n ∧ (∀ j, j < k → Mt row w (j * row.length)) ∧ (k = n ∨ ¬ Mt row w (k * row.length))
theorem u8_ne {x y : UInt8} : decide ((x.toNat : Int) ≠ (y.toNat : Int)) = !decide (x = y) := by
  by_cases h : x = y
  · subst h; simp
  · have : ¬ x.toNat = y.toNat := fun e => h (UInt8.toNat_inj.1 e)
    simp [h]; omega
end Go.HL.Kl.Mc
namespace Go.HL.Kl.Mc
open Go Go.HL Go.HL.Kl AskE
def gl (l : List Nd) : List Nat := (l.filter fun y => decide (y.op = 7)).map fun y => y.n.toNat
def gn (f : F) : List Nat := gl f.flat
theorem gl_cons (x : Nd) (l : List Nd) : gl (x :: l) = (if x.op = 7 then [x.n.toNat] else []) ++ gl l := by
  unfold gl
  by_cases h : x.op = 7 <;> simp [List.filter_cons, h]
theorem gl_app (l m : List Nd) : gl (l ++ m) = gl l ++ gl m := by simp [gl]
def Non (f : F) (cs : List Sp) : Prop := ∀ i ∈ gn f, cs[i]? = some noS
def Nst : F → Int → Int → List Sp → Prop
  | .nil, _, _, _ => True
  | .nd x ks r, lo, hi, cs => (if x.op = 7 then ∃ s, cs[x.n.toNat]? = some s ∧ ((s = noS ∧ Non ks cs) ∨ (lo ≤ s.fr ∧ s.fr ≤ s.to ∧ s.to ≤ hi ∧ Nst ks s.fr s.to cs)) else Nst ks lo hi cs) ∧ Nst r lo hi cs
theorem gl_take {re : List Nd} (h : shapedB re = true) : ∀ j, j ≤ re.length → (gl (re.take j)).Nodup ∧ ∀ i ∈ gl (re.take j), 1 ≤ i ∧ i ≤ gcn (re.take j)
  | 0, _ => by simp [gl]
  | j + 1, hj => by
    obtain ⟨h1, h2⟩ := gl_take h j (by omega)
    have hx : re[j]? = some re[j] := List.getElem?_eq_getElem (by omega)
    have ht := gcn_take hx
    have e : gl (re.take (j + 1)) = gl (re.take j) ++ gl [re[j]] := by rw [List.take_add_one, hx, gl_app]; rfl
    rw [e, gl_cons]
    by_cases h7 : re[j].op = 7
    · have hn := (grp_n h hx h7).1
      rw [if_pos h7] at ht ⊢
      rw [show gl ([] : List Nd) = [] from rfl, List.append_nil]
      refine ⟨List.nodup_append.2 ⟨h1, by simp, fun a ha b hb => ?_⟩, fun i hi => ?_⟩
      · obtain rfl := List.mem_singleton.1 hb
        have := (h2 a ha).2; omega
      · rcases List.mem_append.1 hi with hi | hi
        · have := h2 i hi; omega
        · obtain rfl := List.mem_singleton.1 hi; omega
    · rw [if_neg h7] at ht ⊢
      rw [show gl ([] : List Nd) = [] from rfl, List.append_nil, List.append_nil]
      exact ⟨h1, fun i hi => by have := h2 i hi; omega⟩
def catC : Nd := ⟨4, 0, 0, 0, 0, 2⟩
def grpC : Nd := ⟨7, 0, 1, 0, 0, 1⟩
def reC : List Nd := [catC, grpC, starN, letN 97, letN 98]
def ksG : F := .nd starN ksW .nil
def ksB : F := .nd (letN 98) .nil .nil
def ksC : F := .nd grpC ksG ksB
def wC : List UInt8 := [99, 97, 97, 98]
theorem En_grpC : En grpC = [.int .i8 7, .int .u64 0, .int .u64 0, .int .u64 0, .int .u64 0, .int .i64 1, .int .i64 0, .int .i64 0, .int .i64 1] := by
  show _ :: (Ec 0#256 ++ _) = _
  rw [Ec_zero]; rfl
def Refd (re : List Nd) (b i i' b' : Nat) : Prop := b ≤ b' ∧ ∀ j x, i ≤ j → j < i' → re[j]? = some x → x.op = 8 → 1 ≤ x.n ∧ x.n ≤ (b' : Int)
theorem kidsN_ref {re : List Nd} {step : Nat → List Bool → Option (Nat × List Bool)} (hs : ∀ i en i' en', step i en = some (i', en') → i ≤ i' ∧ Refd re en.length i i' en'.length) :
    ∀ k i en i' en', kidsN step k i en = some (i', en') → i ≤ i' ∧ Refd re en.length i i' en'.length := by
  intro k
  induction k with
  | zero =>
    intro i en i' en' h
    simp only [kidsN, Option.some.injEq, Prod.mk.injEq] at h
    obtain ⟨rfl, rfl⟩ := h
    exact ⟨Nat.le_refl _, Nat.le_refl _, fun j x h1 h2 => by omega⟩
  | succ k ih =>
    intro i en i' en' h
    simp only [kidsN] at h
    split at h
    · cases h
    · rename_i j en1 hst
      obtain ⟨h1, h2, h3⟩ := hs _ _ _ _ hst
      obtain ⟨h4, h5, h6⟩ := ih _ _ _ _ h
      refine ⟨by omega, by omega, fun t x ht1 ht2 hx h8 => ?_⟩
      rcases Nat.lt_or_ge t j with e | e
      · have := h3 t x ht1 e hx h8; omega
      · exact h6 t x e ht2 hx h8
theorem shN_ref {re : List Nd} : ∀ f i en g i' en', shN re f i en g = some (i', en') → i ≤ i' ∧ Refd re en.length i i' en'.length := by
  intro f
  induction f with
  | zero => intro i en g i' en' h; cases h
  | succ f ih =>
    intro i en g i' en' h
    simp only [shN] at h
    split at h
    · cases h
    · rename_i x hx
      split at h
      · split at h
        · cases h
        · rename_i en1 g1 hg
          split at h
          · cases h
          · rename_i i2 en2 hk
            simp only [Option.some.injEq, Prod.mk.injEq] at h
            obtain ⟨rfl, rfl⟩ := h
            obtain ⟨h1, h2, h3⟩ := kidsN_ref (fun i en i' en' h => ih i en g1 i' en' h) _ _ _ _ _ hk
            have he : en.length ≤ en1.length ∧ (x.op = 8 → 1 ≤ x.n ∧ x.n ≤ en.length) := by
              unfold gate at hg
              split at hg
              · split at hg
                · cases hg; rename_i _ hc; exact ⟨Nat.le_refl _, fun _ => ⟨hc.1, hc.2.1⟩⟩
                · cases hg
              split at hg
              · split at hg
                · cases hg; rename_i h8 _ _; exact ⟨by simp, fun h => absurd h h8⟩
                · cases hg
              · cases hg; rename_i h8 _; exact ⟨Nat.le_refl _, fun h => absurd h h8⟩
            have hl : (if x.op = 7 then en2.set (x.n.toNat - 1) true else en2).length = en2.length := by split <;> simp
            refine ⟨by omega, by rw [hl]; omega, fun j y hj1 hj2 hy h8 => ?_⟩
            rw [hl]
            by_cases e : j = i
            · subst e
              rw [hx] at hy; cases hy
              have := he.2 h8; omega
            · exact h3 j y (by omega) hj2 hy h8
      · cases h
theorem ref_n {re : List Nd} (h : shapedB re = true) {y : Nd} (hy : y ∈ re) (h8 : y.op = 8) : 1 ≤ y.n ∧ y.n ≤ (gcn re : Nat) := by
  obtain ⟨⟨en, hsh⟩, _⟩ := shapedB_iff.1 h
  obtain ⟨_, h1, _⟩ := shN_num _ _ _ _ _ _ hsh
  obtain ⟨_, _, h3⟩ := shN_ref _ _ _ _ _ _ hsh
  obtain ⟨j, hj⟩ := List.getElem?_of_mem hy
  have h4 := h3 j y (Nat.zero_le _) (List.getElem?_eq_some_iff.1 hj).1 hj h8
  rw [List.take_length] at h1
  simp [gcn] at h1
  simp only [gcn]
  omega
theorem grp_le {re : List Nd} (h : shapedB re = true) {y : Nd} (hy : y ∈ re) (h7 : y.op = 7) : 1 ≤ y.n ∧ y.n ≤ (gcn re : Nat) := by
  obtain ⟨j, hj⟩ := List.getElem?_of_mem hy
  have h1 := grp_n h hj h7
  omega
theorem Part.app {re : List Nd} {f g : F} {a b c : Nat} (h : Part re f a b) (h' : Part re g b c) : Part re (f.app g) a c :=
  ⟨F.wf_app h.wf h'.wf, by rw [h.flat, h'.flat, F.flat_app, List.append_assoc], by rw [h'.len, h.len, F.size_app]; omega, h'.le⟩
theorem part_at {re : List Nd} : ∀ (f : F) (a b : Nat), Part re f a b → ∀ k, a ≤ k → k < b → ∃ y js r e, Part re (.nd y js r) k e
  | .nil, a, b, h, k, h1, h2 => by have := h.len; simp only [F.size] at this; omega
  | .nd x ks r, a, b, h, k, h1, h2 => by
    obtain ⟨_, h3, h4⟩ := h.head
    by_cases e : k = a
    · subst e; exact ⟨x, ks, r, b, h⟩
    · rcases Nat.lt_or_ge k (a + 1 + ks.size) with h5 | h5
      · exact part_at ks _ _ h3 k (by omega) h5
      · exact part_at r _ _ h4 k h5 h2
def BehI (re : List Nd) (hl : List Nat) (i : Nat) : Prop := hl.length = i ∧ ∀ k y js r e, k < i → Part re (.nd y js r) k e → hl[k]? = some (k + 1 + js.size)
theorem BehI.nil {re : List Nd} : BehI re [] 0 := ⟨rfl, fun _ _ _ _ _ h => absurd h (Nat.not_lt_zero _)⟩
theorem BehI.snoc {re : List Nd} {hl : List Nat} {i : Nat} (h : BehI re hl i) {y : Nd} {js r : F} {e : Nat} (hp : Part re (.nd y js r) i e) : BehI re (hl ++ [i + 1 + js.size]) (i + 1) :=
  ⟨by rw [List.length_append, h.1]; rfl, fun k y' js' r' e' hk hp' => by
    by_cases e : k = i
    · subst e
      have hu : js' = js := by
        obtain ⟨h1, _, _⟩ := hp.head
        obtain ⟨h2, _, _⟩ := hp'.head
        rw [h1] at h2
        cases h2
        exact hp'.uniq hp
      subst hu
      rw [List.getElem?_append_right (by rw [h.1]; exact Nat.le_refl _), h.1, Nat.sub_self]; rfl
    · rw [List.getElem?_append_left (by rw [h.1]; omega)]
      exact h.2 k y' js' r' e' (by omega) hp'⟩
theorem Part.one_end {re : List Nd} {y : Nd} {js r : F} {k e : Nat} (hp : Part re (.nd y js r) k e) : Part re (.nd y js .nil) k (k + 1 + js.size) := hp.one
/-! all ends of one node -/
def LF1 (w : List UInt8) (x : Nd) (ks : F) (i j : Nat) (c : Caps) : List Caps := LF w (.nd x ks .nil) true i j c
theorem LF_nilT {w : List UInt8} {i j : Nat} {c : Caps} : LF w .nil true i j c = [] := by rw [LF]; simp
theorem LF_nilF {w : List UInt8} {i j : Nat} {c : Caps} : LF w .nil false i j c = if i = j then [c] else [] := by rw [LF]; simp
theorem LF_alt {w : List UInt8} {y : Nd} {js r : F} {i j : Nat} {c : Caps} : LF w (.nd y js r) true i j c = LF1 w y js i j c ++ LF w r true i j c := by
  rw [LF1, LF, LF, LF_nilT]
  simp only [if_true, List.append_nil]
theorem LF_cat {w : List UInt8} {y : Nd} {js r : F} {i j : Nat} {c : Caps} : LF w (.nd y js r) false i j c = (ends i j).flatMap (fun e => (LF1 w y js i e c).flatMap (fun c1 => LF w r false e j c1)) := by
  rw [LF]
  simp only [Bool.false_eq_true, if_false]
  refine flatMap_congr' fun e _ => ?_
  rw [LF1, LF, LF_nilT]
  simp only [if_true, List.append_nil]
section
variable {w : List UInt8} {x : Nd} {ks : F} {i j : Nat} {c : Caps}
theorem LF1_def : LF1 w x ks i j c = (if x.op = 1 then (if j = i + 1 ∧ (∃ b, w[i]? = some b ∧ x.set.getLsbD b.toNat = true) then [c] else [])
      else if x.op = 2 then (if i = 0 ∧ j = 0 then [c] else [])
      else if x.op = 3 then (if i = w.length ∧ j = w.length then [c] else [])
      else if x.op = 8 then (if sameAt w (c.getD (x.n.toNat - 1) noS) i j = true then [c] else [])
      else if x.op = 5 then LF w ks true i j c
      else if x.op = 6 then RLf x (fun p e c => LF w ks false p e (emp ks.flat c)) j 0 i c
      else if x.op = 7 then (LF w ks false i j (emp ks.flat c)).map (fun d => d.set (x.n.toNat - 1) ⟨i, j⟩)
      else LF w ks false i j c) := by
  rw [LF1, LF, LF_nilT]
  simp only [if_true, List.append_nil]
theorem LF1_1 (h : x.op = 1) : LF1 w x ks i j c = if j = i + 1 ∧ (∃ b, w[i]? = some b ∧ x.set.getLsbD b.toNat = true) then [c] else [] := by rw [LF1_def, if_pos h]
theorem LF1_2 (h : x.op = 2) : LF1 w x ks i j c = if i = 0 ∧ j = 0 then [c] else [] := by rw [LF1_def, if_neg (by omega), if_pos h]
theorem LF1_3 (h : x.op = 3) : LF1 w x ks i j c = if i = w.length ∧ j = w.length then [c] else [] := by rw [LF1_def, if_neg (by omega), if_neg (by omega), if_pos h]
theorem LF1_8 (h : x.op = 8) : LF1 w x ks i j c = if sameAt w (c.getD (x.n.toNat - 1) noS) i j = true then [c] else [] := by rw [LF1_def, if_neg (by omega), if_neg (by omega), if_neg (by omega), if_pos h]
theorem LF1_5 (h : x.op = 5) : LF1 w x ks i j c = LF w ks true i j c := by rw [LF1_def, if_neg (by omega), if_neg (by omega), if_neg (by omega), if_neg (by omega), if_pos h]
theorem LF1_6 (h : x.op = 6) : LF1 w x ks i j c = RLf x (fun p e c => LF w ks false p e (emp ks.flat c)) j 0 i c := by rw [LF1_def, if_neg (by omega), if_neg (by omega), if_neg (by omega), if_neg (by omega), if_neg (by omega), if_pos h]
theorem LF1_7 (h : x.op = 7) : LF1 w x ks i j c = (LF w ks false i j (emp ks.flat c)).map (fun d => d.set (x.n.toNat - 1) ⟨i, j⟩) := by rw [LF1_def, if_neg (by omega), if_neg (by omega), if_neg (by omega), if_neg (by omega), if_neg (by omega), if_neg (by omega), if_pos h]
theorem LF1_4 (h : x.op = 4) : LF1 w x ks i j c = LF w ks false i j c := by rw [LF1_def, if_neg (by omega), if_neg (by omega), if_neg (by omega), if_neg (by omega), if_neg (by omega), if_neg (by omega), if_neg (by omega)]
theorem LF_one : LF w (.nd x ks .nil) false i j c = if i ≤ j then LF1 w x ks i j c else [] := by
  rw [LF_cat]
  have e1 : ∀ e, (LF1 w x ks i e c).flatMap (fun c1 => LF w .nil false e j c1) = if e = j then LF1 w x ks i e c else [] := fun e => by
    by_cases h : e = j
    · rw [if_pos h]
      have : (fun c1 => LF w .nil false e j c1) = fun c1 => [c1] := by funext c1; rw [LF_nilF, if_pos h]
      rw [this, List.flatMap_singleton']
    · rw [if_neg h]
      have : (fun c1 : Caps => LF w .nil false e j c1) = fun _ => [] := by funext c1; rw [LF_nilF, if_neg h]
      rw [this]; simp
  have e2 : ∀ (k : Nat), (down i k).flatMap (fun e => if e = j then LF1 w x ks i e c else []) = if i ≤ j ∧ j < i + k then LF1 w x ks i j c else [] := by
    intro k
    induction k with
    | zero => rw [if_neg (by omega)]; rfl
    | succ k ih =>
      rw [down, List.flatMap_cons, ih]
      by_cases h : i + k = j
      · subst h
        rw [if_pos rfl, if_neg (by omega), if_pos (by omega), List.append_nil]
      · rw [if_neg h, List.nil_append]
        by_cases h2 : i ≤ j ∧ j < i + k
        · rw [if_pos h2, if_pos (by omega)]
        · rw [if_neg h2, if_neg (by omega)]
  rw [flatMap_congr' (fun e _ => e1 e), ends, e2]
  by_cases h : i ≤ j
  · rw [if_pos (by omega), if_pos h]
  · rw [if_neg (by omega), if_neg h]
end
/-! forests by their place and their number of trees -/
theorem Part.uniqN {re : List Nd} : ∀ (f g : F) (i e e' : Nat), Part re f i e → Part re g i e' → f.num = g.num → f = g
  | .nil, .nil, _, _, _, _, _, _ => rfl
  | .nil, .nd y js s, i, e, e', _, _, h => by simp only [F.num] at h; omega
  | .nd x ks r, .nil, i, e, e', _, _, h => by simp only [F.num] at h; omega
  | .nd x ks r, .nd y js s, i, e, e', h1, h2, h => by
    have hk := h1.uniq h2
    subst hk
    obtain ⟨a1, a2, a3⟩ := h1.head
    obtain ⟨b1, b2, b3⟩ := h2.head
    rw [a1] at b1
    cases b1
    rw [Part.uniqN r s _ _ _ a3 b3 (by simp only [F.num] at h; omega)]
open Classical in
noncomputable def foAt (re : List Nd) (k m : Nat) : F := if h : ∃ g, (∃ e, Part re g k e) ∧ g.num = m then h.choose else .nil
theorem foAt_eq {re : List Nd} {g : F} {k e : Nat} (h : Part re g k e) : foAt re k g.num = g := by
  have hx : ∃ g', (∃ e, Part re g' k e) ∧ g'.num = g.num := ⟨g, ⟨e, h⟩, rfl⟩
  unfold foAt
  rw [dif_pos hx]
  obtain ⟨⟨e', h1⟩, h2⟩ := hx.choose_spec
  exact Part.uniqN _ _ _ _ _ h1 h h2
theorem Part.mem {re : List Nd} {g : F} {k e : Nat} (h : Part re g k e) {y : Nd} (hy : y ∈ g.flat) : y ∈ re := List.mem_of_mem_drop (by rw [h.flat]; exact List.mem_append_left _ hy)
theorem foAt_mem {re : List Nd} {k m : Nat} {y : Nd} (h : y ∈ (foAt re k m).flat) : y ∈ re := by
  unfold foAt at h
  split at h
  · rename_i hx
    obtain ⟨⟨e', h1⟩, h2⟩ := hx.choose_spec
    exact h1.mem h
  · simp [F.flat] at h
/-! frames -/
structure Frm where
  up : Nat
  node : Nat
  kid : Nat
  left : Nat
  fr : Nat
  to : Nat
  deriving DecidableEq
structure SrE where
  re : List Nd
  w : List UInt8
  R : List Nat
namespace SrE
variable (K : SrE)
noncomputable def kidsB (node : Nat) : Nat → Nat → Caps → List Caps := fun p e c => LF K.w (foAt K.re (node + 1) 1) false p e (emp (foAt K.re (node + 1) 1).flat c)
noncomputable def kontF (fs : List Frm) : Nat → Nat → Nat → Caps → Option Caps
  | 0, _, _, c => some c
  | n + 1, u, at_, c => if u = 0 then some c else match fs[u - 1]? with
    | none => none
    | some f => match K.re[f.node]? with
      | none => none
      | some x =>
        if x.op = 4 then (LF K.w (foAt K.re f.kid f.left) false at_ f.to c).findSome? (fun c' => kontF fs n f.up f.to c')
        else if x.op = 6 then (RLf x (K.kidsB f.node) f.to f.kid at_ c).findSome? (fun c' => kontF fs n f.up f.to c')
        else kontF fs n f.up at_ (c.set (x.n.toNat - 1) ⟨f.fr, f.to⟩)
noncomputable def kont (fs : List Frm) (u at_ : Nat) (c : Caps) : Option Caps := K.kontF fs u u at_ c
end SrE
def Chn (fs : List Frm) : Prop := ∀ (k : Nat) f, fs[k]? = some f → f.up ≤ k
theorem Chn.snoc {fs : List Frm} (h : Chn fs) {f : Frm} (hf : f.up ≤ fs.length) : Chn (fs ++ [f]) := fun k g hg => by
  rcases Nat.lt_or_ge k fs.length with h' | h'
  · rw [List.getElem?_append_left h'] at hg; exact h k g hg
  · rw [List.getElem?_append_right h'] at hg
    have hk : k - fs.length = 0 := by
      rcases Nat.lt_or_ge (k - fs.length) 1 with a | a
      · omega
      · rw [List.getElem?_eq_none (by simpa using a)] at hg; cases hg
    rw [hk] at hg
    have : f = g := by simpa using hg
    subst this; omega
namespace SrE
variable {K : SrE}
theorem kontF_up {fs : List Frm} (hc : Chn fs) : ∀ (u n : Nat), u ≤ n → ∀ (at_ : Nat) (c : Caps), K.kontF fs n u at_ c = K.kontF fs u u at_ c := by
  intro u
  induction u using Nat.strongRecOn with
  | ind u ih =>
    intro n hn at_ c
    cases u with
    | zero => cases n <;> simp [kontF]
    | succ k =>
      obtain ⟨m, rfl⟩ : ∃ m, n = m + 1 := ⟨n - 1, by omega⟩
      rw [kontF, kontF]
      simp only [Nat.add_one_ne_zero, if_false, Nat.add_sub_cancel]
      cases hf : fs[k]? with
      | none => rfl
      | some f =>
        have hu := hc k f hf
        have e : ∀ at_ c, K.kontF fs m f.up at_ c = K.kontF fs k f.up at_ c := fun at_ c => by
          rw [ih f.up (by omega) m (by omega), ih f.up (by omega) k hu]
        have e2 : K.kontF fs m f.up = K.kontF fs k f.up := by funext a b; exact e a b
        simp only [e2]
theorem kont_zero {fs : List Frm} {at_ : Nat} {c : Caps} : K.kont fs 0 at_ c = some c := rfl
theorem kont_succ {fs : List Frm} (hc : Chn fs) {k : Nat} {f : Frm} {x : Nd} (hf : fs[k]? = some f) (hx : K.re[f.node]? = some x) {at_ : Nat} {c : Caps} : K.kont fs (k + 1) at_ c =
    (if x.op = 4 then (LF K.w (foAt K.re f.kid f.left) false at_ f.to c).findSome? (fun c' => K.kont fs f.up f.to c')
    else if x.op = 6 then (RLf x (K.kidsB f.node) f.to f.kid at_ c).findSome? (fun c' => K.kont fs f.up f.to c')
    else K.kont fs f.up at_ (c.set (x.n.toNat - 1) ⟨f.fr, f.to⟩)) := by
  have e : K.kontF fs k f.up = K.kont fs f.up := by funext a b; exact kontF_up hc f.up k (hc k f hf) a b
  unfold kont at e ⊢
  rw [kontF]
  simp only [Nat.add_one_ne_zero, if_false, Nat.add_sub_cancel, hf, hx, e]
theorem kont_ext {fs gs : List Frm} (hc : Chn fs) (hc' : Chn (fs ++ gs)) : ∀ (u : Nat), u ≤ fs.length → ∀ (at_ : Nat) (c : Caps), K.kont (fs ++ gs) u at_ c = K.kont fs u at_ c := by
  intro u
  induction u using Nat.strongRecOn with
  | ind u ih =>
    intro hu at_ c
    cases u with
    | zero => rfl
    | succ k =>
      have hk : fs[k]? = some fs[k] := List.getElem?_eq_getElem (by omega)
      have hk' : (fs ++ gs)[k]? = some fs[k] := by rw [List.getElem?_append_left (by omega)]; exact hk
      have hup := hc k _ hk
      cases hx : K.re[(fs[k]).node]? with
      | none =>
        unfold kont
        rw [kontF, kontF]
        simp only [Nat.add_one_ne_zero, if_false, Nat.add_sub_cancel, hk, hk', hx]
      | some x =>
        have e : K.kont (fs ++ gs) (fs[k]).up = K.kont fs (fs[k]).up := by funext a b; exact ih _ (by omega) (by omega) a b
        rw [kont_succ hc' hk' hx, kont_succ hc hk hx, e]
end SrE
theorem SimL.find {R : Nat → Prop} {k k' : Caps → Option Caps} (hk : ∀ c c', Sim R c c' → (k c = none ↔ k' c' = none)) {l l' : List Caps} (h : SimL R l l') : l.findSome? k = none ↔ l'.findSome? k' = none := by
  induction h with
  | nil => simp
  | cons a t ih =>
    rw [List.findSome?_cons, List.findSome?_cons]
    have h1 := hk _ _ a
    split
    · rename_i h2
      split
      · simp
      · rename_i h3; rw [h1.2 h3] at h2; cases h2
    · rename_i h2
      rw [h1.1 h2]
      exact ih
namespace SrE
variable {K : SrE}
abbrev Sm (K : SrE) (c c' : Caps) : Prop := Sim (fun n => n + 1 ∈ K.R) c c'
theorem kont_sim (hR : ∀ x ∈ K.re, x.op = 8 → 1 ≤ x.n ∧ x.n.toNat ∈ K.R) {fs : List Frm} (hc : Chn fs) : ∀ (u at_ : Nat) (c c' : Caps), K.Sm c c' → (K.kont fs u at_ c = none ↔ K.kont fs u at_ c' = none) := by
  have hfo : ∀ k m n, refd (foAt K.re k m).flat n → n + 1 ∈ K.R := fun k m n ⟨y, hy, h8, hn⟩ => by
    obtain ⟨h1, h2⟩ := hR y (foAt_mem hy) h8
    rw [← hn, show y.n.toNat - 1 + 1 = y.n.toNat by omega]; exact h2
  intro u
  induction u using Nat.strongRecOn with
  | ind u ih =>
    intro at_ c c' hs
    cases u with
    | zero => simp [kont_zero]
    | succ k =>
      cases hf : fs[k]? with
      | none => unfold kont; rw [kontF, kontF]; simp only [Nat.add_one_ne_zero, if_false, Nat.add_sub_cancel, hf]
      | some f =>
        cases hx : K.re[f.node]? with
        | none => unfold kont; rw [kontF, kontF]; simp only [Nat.add_one_ne_zero, if_false, Nat.add_sub_cancel, hf, hx]
        | some x =>
          have hup := hc k f hf
          rw [kont_succ hc hf hx, kont_succ hc hf hx]
          split
          · exact SimL.find (fun c c' h => ih f.up (by omega) _ c c' h) (LF_sim _ _ _ _ _ _ (hfo _ _) hs)
          split
          · have hB : ∀ p e c c', K.Sm c c' → SimL (fun n => n + 1 ∈ K.R) (K.kidsB f.node p e c) (K.kidsB f.node p e c') := fun p e c c' h => LF_sim _ _ _ _ _ _ (hfo _ _) (h.emp _)
            exact SimL.find (fun c c' h => ih f.up (by omega) _ c c' h) (RLf_sim hB _ _ _ _ _ hs)
          · exact ih f.up (by omega) _ _ _ (hs.set _ _)
end SrE
end Go.HL.Kl.Mc
namespace Go.HL.Kl.Mc
open Go Go.HL Go.HL.Kl AskE
/-! where something stands first in a list -/
section
variable {α : Type} [DecidableEq α]
def fnd (a : α) : List α → Option Nat
  | [] => none
  | b :: l => if b = a then some 0 else (fnd a l).map (· + 1)
theorem fnd_some {a : α} : ∀ {l : List α} {k : Nat}, fnd a l = some k → l[k]? = some a
  | [], _, h => by simp [fnd] at h
  | b :: l, k, h => by
    unfold fnd at h
    split at h
    · cases h; simpa
    · rw [Option.map_eq_some_iff] at h
      obtain ⟨m, h1, rfl⟩ := h
      simpa using fnd_some h1
theorem fnd_none {a : α} : ∀ {l : List α}, fnd a l = none → a ∉ l
  | [], _ => by simp
  | b :: l, h => by
    unfold fnd at h
    split at h
    · cases h
    · rename_i hb
      rw [Option.map_eq_none_iff] at h
      simp [fnd_none h, Ne.symm hb]
end
/-! what the groups have taken that are referred to, as a number -/
structure Tk where
  ahead : Nat
  h : List Sp
  deriving DecidableEq
def zSp : Sp := ⟨0, 0⟩
def chunk (l : List Sp) (q : Nat) : List Sp := (List.range 4).map fun k => l.getD (4 * q + k) zSp
def chunks (l : List Sp) : List (List Sp) := (List.range ((l.length + 3) / 4)).map (chunk l)
theorem chunks_inj {l l' : List Sp} (hl : l.length = l'.length) (h : chunks l = chunks l') : l = l' := by
  apply List.ext_getElem?
  intro m
  rcases Nat.lt_or_ge m l.length with hm | hm
  · have hq : m / 4 < (l.length + 3) / 4 := by omega
    have h1 : (chunks l)[m / 4]? = (chunks l')[m / 4]? := by rw [h]
    unfold chunks at h1
    rw [List.getElem?_map, List.getElem?_map, List.getElem?_range hq, List.getElem?_range (by omega)] at h1
    have h2 : chunk l (m / 4) = chunk l' (m / 4) := by simpa using h1
    have h3 : (chunk l (m / 4))[m % 4]? = (chunk l' (m / 4))[m % 4]? := by rw [h2]
    unfold chunk at h3
    rw [List.getElem?_map, List.getElem?_map, List.getElem?_range (by omega)] at h3
    have h4 : l.getD (4 * (m / 4) + m % 4) zSp = l'.getD (4 * (m / 4) + m % 4) zSp := by simpa using h3
    rw [show 4 * (m / 4) + m % 4 = m by omega] at h4
    rw [List.getD_eq_getElem?_getD, List.getD_eq_getElem?_getD, List.getElem?_eq_getElem hm, List.getElem?_eq_getElem (by omega)] at h4
    rw [List.getElem?_eq_getElem hm, List.getElem?_eq_getElem (by omega)]
    exact congrArg some h4
  · rw [List.getElem?_eq_none hm, List.getElem?_eq_none (by omega)]
theorem chunks_len {l : List Sp} : (chunks l).length = (l.length + 3) / 4 := by simp [chunks]
def stG (ts : List Tk) (n : Nat) : List (List Sp) → Nat × List Tk
  | [] => (n, ts)
  | h :: r => match fnd ⟨n, h⟩ ts with
    | some k => stG ts (k + 1) r
    | none => stG (ts ++ [⟨n, h⟩]) (ts.length + 1) r
def Dec (ts : List Tk) : Nat → List (List Sp) → Nat → Prop
  | n, [], m => n = m
  | n, h :: r, m => ∃ k : Nat, ts[k]? = some ⟨n, h⟩ ∧ Dec ts (k + 1) r m
theorem Dec.mono {ts e : List Tk} : ∀ {hs : List (List Sp)} {n m : Nat}, Dec ts n hs m → Dec (ts ++ e) n hs m
  | [], _, _, h => h
  | h :: r, n, m, ⟨k, h1, h2⟩ => ⟨k, by rw [List.getElem?_append_left (List.getElem?_eq_some_iff.1 h1).1]; exact h1, h2.mono⟩
theorem Dec.snoc {ts : List Tk} : ∀ {hs : List (List Sp)} {h : List Sp} {n m : Nat}, Dec ts n (hs ++ [h]) m ↔ ∃ a k : Nat, Dec ts n hs a ∧ ts[k]? = some ⟨a, h⟩ ∧ m = k + 1
  | [], h, n, m => by
    constructor
    · rintro ⟨k, h1, h2⟩; exact ⟨n, k, rfl, h1, h2.symm⟩
    · rintro ⟨a, k, h1, h2, rfl⟩
      have h1 : n = a := h1
      subst h1
      exact ⟨k, h2, rfl⟩
  | g :: r, h, n, m => by
    constructor
    · rintro ⟨k, h1, h2⟩
      obtain ⟨a, k2, h3, h4, h5⟩ := Dec.snoc.1 h2
      exact ⟨a, k2, ⟨k, h1, h3⟩, h4, h5⟩
    · rintro ⟨a, k2, ⟨k, h1, h3⟩, h4, h5⟩
      exact ⟨k, h1, Dec.snoc.2 ⟨a, k2, h3, h4, h5⟩⟩
theorem Dec.inj {ts : List Tk} {n : Nat} : ∀ (len : Nat) {hs hs' : List (List Sp)} {m : Nat}, hs.length = len → hs'.length = len → Dec ts n hs m → Dec ts n hs' m → hs = hs' := by
  intro len
  induction len with
  | zero => intro hs hs' m h1 h2 _ _; rw [List.eq_nil_of_length_eq_zero h1, List.eq_nil_of_length_eq_zero h2]
  | succ len ih =>
    intro hs hs' m h1 h2 d1 d2
    have e1 := List.dropLast_concat_getLast (l := hs) (by intro e; subst e; simp at h1)
    have e2 := List.dropLast_concat_getLast (l := hs') (by intro e; subst e; simp at h2)
    rw [← e1] at d1
    rw [← e2] at d2
    obtain ⟨a, k, a1, a2, a3⟩ := Dec.snoc.1 d1
    obtain ⟨b, q, b1, b2, b3⟩ := Dec.snoc.1 d2
    obtain rfl : k = q := by omega
    rw [a2] at b2
    have h5 := Option.some.inj b2
    injection h5 with h6 h7
    subst h6
    rw [← e1, ← e2, ih (by simp [h1]) (by simp [h2]) a1 b1, h7]
theorem Dec.fn {ts : List Tk} (hn : ts.Nodup) : ∀ {hs : List (List Sp)} {n m m' : Nat}, Dec ts n hs m → Dec ts n hs m' → m = m'
  | [], _, _, _, h, h' => h.symm.trans h'
  | h :: r, n, m, m', ⟨k, h1, h2⟩, ⟨k', h3, h4⟩ => by
    have : k = k' := by
      have l1 := (List.getElem?_eq_some_iff.1 h1).1
      exact (List.getElem?_inj l1 hn).1 (h1.trans h3.symm)
    subst this
    exact Dec.fn hn h2 h4
theorem stG_spec : ∀ (hs : List (List Sp)) (ts : List Tk) (n : Nat), ts.Nodup → (∃ e, (stG ts n hs).2 = ts ++ e ∧ e.length ≤ hs.length) ∧ (stG ts n hs).2.Nodup ∧ Dec (stG ts n hs).2 n hs (stG ts n hs).1
  | [], ts, n, h => ⟨⟨[], by simp [stG]⟩, by simpa [stG] using h, rfl⟩
  | h :: r, ts, n, hn => by
    unfold stG
    cases hf : fnd ⟨n, h⟩ ts with
    | some k =>
      dsimp only
      obtain ⟨⟨e, h1, hl⟩, h2, h3⟩ := stG_spec r ts (k + 1) hn
      refine ⟨⟨e, h1, by rw [List.length_cons]; omega⟩, h2, k, ?_, h3⟩
      rw [h1, List.getElem?_append_left (List.getElem?_eq_some_iff.1 (fnd_some hf)).1]
      exact fnd_some hf
    | none =>
      dsimp only
      have hnn : (ts ++ [(⟨n, h⟩ : Tk)]).Nodup := List.nodup_append.2 ⟨hn, by simp, fun a ha b hb => by
        obtain rfl := List.mem_singleton.1 hb
        intro e; subst e
        exact fnd_none hf ha⟩
      obtain ⟨⟨e, h1, hl⟩, h2, h3⟩ := stG_spec r (ts ++ [(⟨n, h⟩ : Tk)]) (ts.length + 1) hnn
      refine ⟨⟨([⟨n, h⟩] : List Tk) ++ e, by rw [h1, List.append_assoc], by simp; omega⟩, h2, ts.length, ?_, h3⟩
      rw [h1, List.getElem?_append_left (by simp), List.getElem?_append_right (Nat.le_refl _)]
      simp
/-! the state -/
structure Pt where
  u : Nat
  at_ : Nat
  tk : Nat
  deriving DecidableEq
structure SS where
  fs : List Frm
  ts : List Tk
  F : List Pt
  cs : List Sp
  fuel : Nat
  wk : Nat
def SS.push (S : SS) (f : Frm) : Nat × SS := match fnd f S.fs with
  | some k => (k + 1, S)
  | none => (S.fs.length + 1, { S with fs := S.fs ++ [f] })
def SrE.proj (K : SrE) (cs : List Sp) : List Sp := K.R.map fun n => cs.getD n noS
def SrE.code (K : SrE) (S : SS) : Nat × SS := ((stG S.ts 0 (chunks (K.proj S.cs))).1, { S with ts := (stG S.ts 0 (chunks (K.proj S.cs))).2 })
noncomputable def SrE.bh (K : SrE) (k : Nat) : Nat := k + (foAt K.re k 1).size
def SrE.good (K : SrE) (x : Nd) (cs : List Sp) (i j : Nat) : Prop :=
  (x.op = 1 ∧ j = i + 1 ∧ ∃ b, K.w[i]? = some b ∧ x.set.getLsbD b.toNat = true) ∨ (x.op = 2 ∧ j = 0) ∨ (x.op = 3 ∧ i = K.w.length) ∨
  (x.op = 8 ∧ cs.getD x.n.toNat noS ≠ noS ∧ (K.w.drop (cs.getD x.n.toNat noS).fr.toNat).take ((cs.getD x.n.toNat noS).to - (cs.getD x.n.toNat noS).fr).toNat = (K.w.drop i).take (j - i))
def SrE.inn (K : SrE) (a b : Nat) : List Nd := (K.re.drop a).take (b - a)
def emW : List Nd → List Sp → List Sp
  | [], _ => []
  | x :: l, cs => if x.op = 7 then cs.getD x.n.toNat noS :: emW l (cs.set x.n.toNat noS) else emW l cs
def rst : List Nd → List Sp → List Sp → List Sp
  | [], _, cs => cs
  | x :: l, was, cs => if x.op = 7 then rst l was.tail (cs.set x.n.toNat (was.headD noS)) else rst l was cs
def satK (x : Nd) (k : Nat) : Nat := if x.mx < 0 then min (k + 1) (max x.mn.toNat 1) else k + 1
def SS.fail (S : SS) (b : Bool) (p : Pt) : SS := if b = true then S else { S with F := p :: S.F }
/-! runs -/
inductive SQ
  | take (at_ i j up : Nat)
  | alt (kid left i j up : Nat)
  | next (u at_ : Nat)
  | body (f : Frm) (at_ : Nat)
  | row (f : Frm) (at_ : Nat)
  | rowL (f : Frm) (u at_ : Nat) (es : List Nat)
  | rnd (f : Frm) (at_ : Nat)
  | rndL (f : Frm) (u at_ : Nat) (es : List Nat)
def brk (x : Nd) (f : Frm) (at_ e : Nat) : Prop := e = at_ ∧ x.mn ≤ (f.kid : Int) ∧ 0 < f.kid
def SS.tick (S : SS) : SS := { S with fuel := S.fuel - 1, wk := S.wk + 1 }
inductive Ev (K : SrE) : SS → SQ → Bool → SS → Prop
  | takeNo {S : SS} {at_ i j up : Nat} {x : Nd} (hx : K.re[at_]? = some x) (hf : 0 < S.fuel) (ho : x.op = 1 ∨ x.op = 2 ∨ x.op = 3 ∨ x.op = 8) (hg : ¬ K.good x S.cs i j) : Ev K S (.take at_ i j up) false S.tick
  | takeYes {S S' : SS} {at_ i j up : Nat} {x : Nd} {b : Bool} (hx : K.re[at_]? = some x) (hf : 0 < S.fuel) (ho : x.op = 1 ∨ x.op = 2 ∨ x.op = 3 ∨ x.op = 8) (hg : K.good x S.cs i j) (h : Ev K S.tick (.next up j) b S') : Ev K S (.take at_ i j up) b S'
  | takeAlt {S S' : SS} {at_ i j up : Nat} {x : Nd} {b : Bool} (hx : K.re[at_]? = some x) (hf : 0 < S.fuel) (ho : x.op = 5) (h : Ev K S.tick (.alt (at_ + 1) x.kids.toNat i j up) b S') : Ev K S (.take at_ i j up) b S'
  | takeCat {S S2 S' : SS} {at_ i j up u : Nat} {x : Nd} {b : Bool} (hx : K.re[at_]? = some x) (hf : 0 < S.fuel) (ho : x.op = 4) (hp : S.tick.push ⟨up, at_, at_ + 1, x.kids.toNat, i, j⟩ = (u, S2)) (h : Ev K S2 (.next u i) b S') : Ev K S (.take at_ i j up) b S'
  | takeRep {S S2 S' : SS} {at_ i j up u : Nat} {x : Nd} {b : Bool} (hx : K.re[at_]? = some x) (hf : 0 < S.fuel) (ho : x.op = 6) (hp : S.tick.push ⟨up, at_, 0, 0, 0, j⟩ = (u, S2)) (h : Ev K S2 (.next u i) b S') : Ev K S (.take at_ i j up) b S'
  | takeGrpY {S S2 S' : SS} {at_ i j up u : Nat} {x : Nd} (hx : K.re[at_]? = some x) (hf : 0 < S.fuel) (ho : x.op = 7) (hp : ({ S.tick with cs := fgt (K.inn (at_ + 1) (K.bh at_)) S.cs } : SS).push ⟨up, at_, 0, 0, i, j⟩ = (u, S2)) (h : Ev K S2 (.take (at_ + 1) i j u) true S') : Ev K S (.take at_ i j up) true S'
  | takeGrpN {S S2 S' : SS} {at_ i j up u : Nat} {x : Nd} (hx : K.re[at_]? = some x) (hf : 0 < S.fuel) (ho : x.op = 7) (hp : ({ S.tick with cs := fgt (K.inn (at_ + 1) (K.bh at_)) S.cs } : SS).push ⟨up, at_, 0, 0, i, j⟩ = (u, S2)) (h : Ev K S2 (.take (at_ + 1) i j u) false S') : Ev K S (.take at_ i j up) false { S' with cs := rst (K.inn (at_ + 1) (K.bh at_)) (emW (K.inn (at_ + 1) (K.bh at_)) S.cs) S'.cs }
  | altNil {S : SS} {kid i j up : Nat} : Ev K S (.alt kid 0 i j up) false S
  | altYes {S S' : SS} {kid l i j up : Nat} (h : Ev K S (.take kid i j up) true S') : Ev K S (.alt kid (l + 1) i j up) true S'
  | altNo {S S1 S' : SS} {kid l i j up : Nat} {b : Bool} (h : Ev K S (.take kid i j up) false S1) (h' : Ev K S1 (.alt (K.bh kid) l i j up) b S') : Ev K S (.alt kid (l + 1) i j up) b S'
  | nextZero {S : SS} {at_ : Nat} : Ev K S (.next 0 at_) true S
  | nextMemo {S : SS} {k at_ : Nat} (h : (⟨k + 1, at_, (K.code S).1⟩ : Pt) ∈ S.F) : Ev K S (.next (k + 1) at_) false (K.code S).2
  | nextGo {S S2 : SS} {k at_ : Nat} {f : Frm} {b : Bool} (hn : (⟨k + 1, at_, (K.code S).1⟩ : Pt) ∉ S.F) (hf : S.fs[k]? = some f) (h : Ev K { (K.code S).2 with wk := S.wk + 1 } (.body f at_) b S2) : Ev K S (.next (k + 1) at_) b (S2.fail b ⟨k + 1, at_, (K.code S).1⟩)
  | bodyCat {S S' : SS} {f : Frm} {at_ : Nat} {x : Nd} {b : Bool} (hx : K.re[f.node]? = some x) (ho : x.op = 4) (h : Ev K S (.row f at_) b S') : Ev K S (.body f at_) b S'
  | bodyRep {S S' : SS} {f : Frm} {at_ : Nat} {x : Nd} {b : Bool} (hx : K.re[f.node]? = some x) (ho : x.op = 6) (h : Ev K S (.rnd f at_) b S') : Ev K S (.body f at_) b S'
  | bodyGrpY {S S' : SS} {f : Frm} {at_ : Nat} {x : Nd} (hx : K.re[f.node]? = some x) (h4 : ¬ x.op = 4) (h6 : ¬ x.op = 6) (h : Ev K { S with cs := S.cs.set x.n.toNat ⟨f.fr, f.to⟩ } (.next f.up at_) true S') : Ev K S (.body f at_) true S'
  | bodyGrpN {S S' : SS} {f : Frm} {at_ : Nat} {x : Nd} (hx : K.re[f.node]? = some x) (h4 : ¬ x.op = 4) (h6 : ¬ x.op = 6) (h : Ev K { S with cs := S.cs.set x.n.toNat ⟨f.fr, f.to⟩ } (.next f.up at_) false S') : Ev K S (.body f at_) false { S' with cs := S'.cs.set x.n.toNat (S.cs.getD x.n.toNat noS) }
  | rowZN {S : SS} {f : Frm} {at_ : Nat} (hl : f.left = 0) (he : at_ ≠ f.to) : Ev K S (.row f at_) false S
  | rowZ {S S' : SS} {f : Frm} {at_ : Nat} {b : Bool} (hl : f.left = 0) (he : at_ = f.to) (h : Ev K S (.next f.up at_) b S') : Ev K S (.row f at_) b S'
  | rowS {S S1 S' : SS} {f : Frm} {at_ u l : Nat} {b : Bool} (hl : f.left = l + 1) (hp : S.push { f with kid := K.bh f.kid, left := l, fr := 0 } = (u, S1)) (h : Ev K S1 (.rowL f u at_ (ends at_ f.to)) b S') : Ev K S (.row f at_) b S'
  | rowLNil {S : SS} {f : Frm} {u at_ : Nat} : Ev K S (.rowL f u at_ []) false S
  | rowLYes {S S' : SS} {f : Frm} {u at_ e : Nat} {es : List Nat} (h : Ev K S (.take f.kid at_ e u) true S') : Ev K S (.rowL f u at_ (e :: es)) true S'
  | rowLLast {S S' : SS} {f : Frm} {u at_ e : Nat} {es : List Nat} (hl : f.left = 1) (h : Ev K S (.take f.kid at_ e u) false S') : Ev K S (.rowL f u at_ (e :: es)) false S'
  | rowLNo {S S1 S' : SS} {f : Frm} {u at_ e : Nat} {es : List Nat} {b : Bool} (hl : f.left ≠ 1) (h : Ev K S (.take f.kid at_ e u) false S1) (h' : Ev K S1 (.rowL f u at_ es) b S') : Ev K S (.rowL f u at_ (e :: es)) b S'
  | rndYes {S S1 S' : SS} {f : Frm} {at_ u : Nat} {x : Nd} (hx : K.re[f.node]? = some x) (hm : x.mx < 0 ∨ (f.kid : Int) < x.mx) (hp : S.push { f with kid := satK x f.kid } = (u, S1)) (h : Ev K S1 (.rndL f u at_ (ends at_ f.to)) true S') : Ev K S (.rnd f at_) true S'
  | rndEnd {S S1 S2 S' : SS} {f : Frm} {at_ u : Nat} {x : Nd} {b : Bool} (hx : K.re[f.node]? = some x) (hm : x.mx < 0 ∨ (f.kid : Int) < x.mx) (hp : S.push { f with kid := satK x f.kid } = (u, S1)) (h : Ev K S1 (.rndL f u at_ (ends at_ f.to)) false S2) (he : at_ = f.to ∧ x.mn ≤ (f.kid : Int)) (h' : Ev K S2 (.next f.up at_) b S') : Ev K S (.rnd f at_) b S'
  | rndNo {S S1 S2 : SS} {f : Frm} {at_ u : Nat} {x : Nd} (hx : K.re[f.node]? = some x) (hm : x.mx < 0 ∨ (f.kid : Int) < x.mx) (hp : S.push { f with kid := satK x f.kid } = (u, S1)) (h : Ev K S1 (.rndL f u at_ (ends at_ f.to)) false S2) (he : ¬ (at_ = f.to ∧ x.mn ≤ (f.kid : Int))) : Ev K S (.rnd f at_) false S2
  | rnd0End {S S' : SS} {f : Frm} {at_ : Nat} {x : Nd} {b : Bool} (hx : K.re[f.node]? = some x) (hm : ¬ (x.mx < 0 ∨ (f.kid : Int) < x.mx)) (he : at_ = f.to ∧ x.mn ≤ (f.kid : Int)) (h' : Ev K S (.next f.up at_) b S') : Ev K S (.rnd f at_) b S'
  | rnd0No {S : SS} {f : Frm} {at_ : Nat} {x : Nd} (hx : K.re[f.node]? = some x) (hm : ¬ (x.mx < 0 ∨ (f.kid : Int) < x.mx)) (he : ¬ (at_ = f.to ∧ x.mn ≤ (f.kid : Int))) : Ev K S (.rnd f at_) false S
  | rndLNil {S : SS} {f : Frm} {u at_ : Nat} : Ev K S (.rndL f u at_ []) false S
  | rndLBrk {S : SS} {f : Frm} {u at_ e : Nat} {es : List Nat} {x : Nd} (hx : K.re[f.node]? = some x) (hb : brk x f at_ e) : Ev K S (.rndL f u at_ (e :: es)) false S
  | rndLYes {S S' : SS} {f : Frm} {u at_ e : Nat} {es : List Nat} {x : Nd} (hx : K.re[f.node]? = some x) (hb : ¬ brk x f at_ e) (h : Ev K { S with cs := fgt (K.inn (f.node + 1) (K.bh f.node)) S.cs } (.take (f.node + 1) at_ e u) true S') : Ev K S (.rndL f u at_ (e :: es)) true S'
  | rndLNo {S S1 S' : SS} {f : Frm} {u at_ e : Nat} {es : List Nat} {x : Nd} {b : Bool} (hx : K.re[f.node]? = some x) (hb : ¬ brk x f at_ e) (h : Ev K { S with cs := fgt (K.inn (f.node + 1) (K.bh f.node)) S.cs } (.take (f.node + 1) at_ e u) false S1)
      (h' : Ev K { S1 with cs := rst (K.inn (f.node + 1) (K.bh f.node)) (emW (K.inn (f.node + 1) (K.bh f.node)) S.cs) S1.cs } (.rndL f u at_ es) b S') : Ev K S (.rndL f u at_ (e :: es)) b S'
end Go.HL.Kl.Mc
namespace Go.HL.Kl.Mc
open Go Go.HL Go.HL.Kl AskE
/-! how much a run adds -/
def SS.sz (S : SS) : Nat := S.fs.length + S.ts.length + S.F.length
def SrE.cR (K : SrE) : Nat := (K.R.length + 3) / 4
def SrE.slack (K : SrE) : SQ → Nat
  | .next _ _ => K.cR
  | .body _ _ => 1 + K.cR
  | .row _ _ => 1 + K.cR
  | .rnd _ _ => 1 + K.cR
  | _ => 0
theorem stG_grow : ∀ (hs : List (List Sp)) (ts : List Tk) (n : Nat), (stG ts n hs).2.length ≤ ts.length + hs.length
  | [], ts, n => by simp [stG]
  | h :: r, ts, n => by
    unfold stG
    split
    · have := stG_grow r ts (‹Nat› + 1)
      simp only [List.length_cons]; omega
    · have := stG_grow r (ts ++ [⟨n, h⟩]) (ts.length + 1)
      simp only [List.length_cons, List.length_append, List.length_nil] at this ⊢; omega
theorem SrE.code_sz (K : SrE) (S : SS) : (K.code S).2.sz ≤ S.sz + K.cR := by
  have h := stG_grow (chunks (K.proj S.cs)) S.ts 0
  rw [chunks_len, SrE.proj, List.length_map] at h
  simp only [SS.sz, SrE.code, SrE.cR, SrE.proj]; omega
theorem SS.push_sz {S S1 : SS} {f : Frm} {u : Nat} (h : S.push f = (u, S1)) : S1.sz ≤ S.sz + 1 ∧ S1.wk = S.wk ∧ S1.fuel = S.fuel ∧ S1.cs = S.cs ∧ S1.F = S.F ∧ S1.ts = S.ts := by
  unfold SS.push at h
  split at h
  · cases h; exact ⟨by omega, rfl, rfl, rfl, rfl, rfl⟩
  · cases h; exact ⟨by simp [SS.sz]; omega, rfl, rfl, rfl, rfl, rfl⟩
theorem SS.fail_sz (S : SS) (b : Bool) (p : Pt) : (S.fail b p).sz ≤ S.sz + 1 ∧ (S.fail b p).wk = S.wk ∧ (S.fail b p).fuel = S.fuel := by
  unfold SS.fail
  split
  · exact ⟨by omega, rfl, rfl⟩
  · exact ⟨by simp [SS.sz]; omega, rfl, rfl⟩
theorem Ev.grow {K : SrE} {S S' : SS} {q : SQ} {b : Bool} (h : Ev K S q b S') : S.wk ≤ S'.wk ∧ S.fuel + S.wk ≤ S'.fuel + S'.wk ∧ S'.sz + (K.cR + 2) * S.wk ≤ S.sz + K.slack q + (K.cR + 2) * S'.wk := by
  have tk : ∀ (S : SS), 0 < S.fuel → S.tick.wk = S.wk + 1 ∧ S.tick.fuel + 1 = S.fuel ∧ S.tick.sz = S.sz := fun S h => ⟨rfl, by simp only [SS.tick]; omega, rfl⟩
  have mul1 : ∀ a : Nat, (K.cR + 2) * (a + 1) = (K.cR + 2) * a + (K.cR + 2) := fun a => Nat.mul_succ _ _
  have mono : ∀ a b : Nat, a ≤ b → (K.cR + 2) * a ≤ (K.cR + 2) * b := fun a b h => Nat.mul_le_mul_left _ h
  induction h with
  | takeNo hx hf ho hg => obtain ⟨a, b, c⟩ := tk _ hf; rw [a, c, mul1]; simp only [SrE.slack]; omega
  | takeYes hx hf ho hg h ih => obtain ⟨a, b, c⟩ := tk _ hf; rw [a, c, mul1] at ih; simp only [SrE.slack] at ih ⊢; omega
  | takeAlt hx hf ho h ih => obtain ⟨a, b, c⟩ := tk _ hf; rw [a, c, mul1] at ih; simp only [SrE.slack] at ih ⊢; omega
  | takeCat hx hf ho hp h ih =>
    obtain ⟨a, b, c⟩ := tk _ hf
    obtain ⟨p1, p2, p3, _⟩ := SS.push_sz hp
    rw [p2, a, mul1] at ih; simp only [SrE.slack] at ih ⊢; omega
  | takeRep hx hf ho hp h ih =>
    obtain ⟨a, b, c⟩ := tk _ hf
    obtain ⟨p1, p2, p3, _⟩ := SS.push_sz hp
    rw [p2, a, mul1] at ih; simp only [SrE.slack] at ih ⊢; omega
  | takeGrpY hx hf ho hp h ih =>
    obtain ⟨a, b, c⟩ := tk _ hf
    obtain ⟨p1, p2, p3, _⟩ := SS.push_sz hp
    simp only [SS.sz] at p1 c ih ⊢
    simp only at p2 p3
    rw [p2, a, mul1] at ih; simp only [SrE.slack] at ih ⊢; omega
  | takeGrpN hx hf ho hp h ih =>
    obtain ⟨a, b, c⟩ := tk _ hf
    obtain ⟨p1, p2, p3, _⟩ := SS.push_sz hp
    simp only [SS.sz] at p1 c ih ⊢
    simp only at p2 p3
    rw [p2, a, mul1] at ih; simp only [SrE.slack] at ih ⊢; omega
  | altNil => simp only [SrE.slack]; omega
  | altYes h ih => simpa only [SrE.slack] using ih
  | altNo h h' ih ih' => simp only [SrE.slack] at ih ih' ⊢; omega
  | nextZero => simp only [SrE.slack]; omega
  | @nextMemo S k at_ h =>
    have := K.code_sz S
    have e : (K.code S).2.wk = S.wk := rfl
    have e2 : (K.code S).2.fuel = S.fuel := rfl
    rw [e]
    simp only [SrE.slack]; omega
  | @nextGo S S2 k at_ f b hn hf h ih =>
    have h1 := K.code_sz S
    have e2 : (K.code S).2.fuel = S.fuel := rfl
    obtain ⟨f1, f2, f3⟩ := SS.fail_sz S2 b ⟨k + 1, at_, (K.code S).1⟩
    rw [f2, f3]
    simp only [SrE.slack] at ih ⊢
    rw [mul1] at ih
    have e3 : ({ (K.code S).2 with wk := S.wk + 1 } : SS).sz = (K.code S).2.sz := rfl
    rw [e3] at ih
    omega
  | bodyCat hx ho h ih => simpa only [SrE.slack] using ih
  | bodyRep hx ho h ih => simpa only [SrE.slack] using ih
  | bodyGrpY hx h4 h6 h ih => simp only [SrE.slack, SS.sz] at ih ⊢; omega
  | bodyGrpN hx h4 h6 h ih => simp only [SrE.slack, SS.sz] at ih ⊢; omega
  | rowZN hl he => simp only [SrE.slack]; omega
  | rowZ hl he h ih => simp only [SrE.slack] at ih ⊢; omega
  | rowS hl hp h ih =>
    obtain ⟨p1, p2, p3, _⟩ := SS.push_sz hp
    rw [p2] at ih; simp only [SrE.slack] at ih ⊢; omega
  | rowLNil => simp only [SrE.slack]; omega
  | rowLYes h ih => simpa only [SrE.slack] using ih
  | rowLLast hl h ih => simpa only [SrE.slack] using ih
  | rowLNo hl h h' ih ih' => simp only [SrE.slack] at ih ih' ⊢; omega
  | rndYes hx hm hp h ih =>
    obtain ⟨p1, p2, p3, _⟩ := SS.push_sz hp
    rw [p2] at ih; simp only [SrE.slack] at ih ⊢; omega
  | rndEnd hx hm hp h he h' ih ih' =>
    obtain ⟨p1, p2, p3, _⟩ := SS.push_sz hp
    rw [p2] at ih; simp only [SrE.slack] at ih ih' ⊢; omega
  | rndNo hx hm hp h he ih =>
    obtain ⟨p1, p2, p3, _⟩ := SS.push_sz hp
    rw [p2] at ih; simp only [SrE.slack] at ih ⊢; omega
  | rnd0End hx hm he h' ih' => simp only [SrE.slack] at ih' ⊢; omega
  | rnd0No hx hm he => simp only [SrE.slack]; omega
  | rndLNil => simp only [SrE.slack]; omega
  | rndLBrk hx hb => simp only [SrE.slack]; omega
  | rndLYes hx hb h ih => simp only [SrE.slack, SS.sz] at ih ⊢; omega
  | rndLNo hx hb h h' ih ih' => simp only [SrE.slack, SS.sz] at ih ih' ⊢; omega
/-! what the state keeps -/
structure Inv (K : SrE) (N : Nat) (S : SS) : Prop where
  ch : Chn S.fs
  nd : S.ts.Nodup
  memo : ∀ p ∈ S.F, 1 ≤ p.u ∧ p.u ≤ S.fs.length ∧ ∃ c : Caps, c.length = N ∧ Dec S.ts 0 (chunks (K.proj (noS :: c))) p.tk ∧ K.kont S.fs p.u p.at_ c = none
structure Ext (S S' : SS) : Prop where
  fs : ∃ a, S'.fs = S.fs ++ a
  ts : ∃ a, S'.ts = S.ts ++ a
  F : ∀ p ∈ S.F, p ∈ S'.F
theorem Ext.refl {S : SS} : Ext S S := ⟨⟨[], by simp⟩, ⟨[], by simp⟩, fun _ h => h⟩
theorem Ext.trans {S S1 S2 : SS} (h : Ext S S1) (h' : Ext S1 S2) : Ext S S2 := by
  obtain ⟨⟨a, ha⟩, ⟨b, hb⟩, hF⟩ := h
  obtain ⟨⟨a', ha'⟩, ⟨b', hb'⟩, hF'⟩ := h'
  exact ⟨⟨a ++ a', by rw [ha', ha, List.append_assoc]⟩, ⟨b ++ b', by rw [hb', hb, List.append_assoc]⟩, fun p hp => hF' p (hF p hp)⟩
theorem Ext.le {S S' : SS} (h : Ext S S') : S.fs.length ≤ S'.fs.length := by obtain ⟨a, ha⟩ := h.fs; rw [ha, List.length_append]; omega
theorem Ext.get {S S' : SS} (h : Ext S S') {k : Nat} {f : Frm} (hk : S.fs[k]? = some f) : S'.fs[k]? = some f := by
  obtain ⟨a, ha⟩ := h.fs
  rw [ha, List.getElem?_append_left (List.getElem?_eq_some_iff.1 hk).1]; exact hk
theorem Inv.kont {K : SrE} {N : Nat} {S S' : SS} (h : Inv K N S) (h' : Inv K N S') (he : Ext S S') {u : Nat} (hu : u ≤ S.fs.length) : K.kont S'.fs u = K.kont S.fs u := by
  funext at_ c
  obtain ⟨a, ha⟩ := he.fs
  have hc := h'.ch
  rw [ha] at hc ⊢
  exact SrE.kont_ext h.ch hc u hu at_ c
theorem push_spec {K : SrE} {N : Nat} {S S1 : SS} {f : Frm} {u : Nat} (h : S.push f = (u, S1)) (hI : Inv K N S) (hu : f.up ≤ S.fs.length) : Ext S S1 ∧ Inv K N S1 ∧ ∃ k, u = k + 1 ∧ S1.fs[k]? = some f := by
  unfold SS.push at h
  split at h
  · rename_i k hk
    cases h
    exact ⟨.refl, hI, k, rfl, fnd_some hk⟩
  · cases h
    have hch := hI.ch.snoc hu
    refine ⟨⟨⟨[f], rfl⟩, ⟨[], by simp⟩, fun _ h => h⟩, ⟨hch, hI.nd, fun p hp => ?_⟩, S.fs.length, rfl, by simp⟩
    obtain ⟨h1, h2, c, h3, h4, h5⟩ := hI.memo p hp
    exact ⟨h1, by simp; omega, c, h3, h4, by rw [SrE.kont_ext hI.ch hch p.u h2]; exact h5⟩
theorem SrE.proj_len (K : SrE) (cs : List Sp) : (K.proj cs).length = K.R.length := by simp [SrE.proj]
theorem proj_sm {K : SrE} {N : Nat} {c c' : Caps} (h1 : c.length = N) (h2 : c'.length = N) (h : K.proj (noS :: c) = K.proj (noS :: c')) : K.Sm c c' := by
  refine ⟨h1.trans h2.symm, fun n hn => ?_⟩
  unfold SrE.proj at h
  rw [List.map_inj_left] at h
  have h3 := h (n + 1) hn
  simp only [List.getD_cons_succ] at h3
  rcases Nat.lt_or_ge n N with a | a
  · rw [List.getD_eq_getElem?_getD, List.getD_eq_getElem?_getD, List.getElem?_eq_getElem (by omega), List.getElem?_eq_getElem (by omega)] at h3
    rw [List.getElem?_eq_getElem (by omega), List.getElem?_eq_getElem (by omega)]
    exact congrArg some h3
  · rw [List.getElem?_eq_none (by omega), List.getElem?_eq_none (by omega)]
theorem code_sm {K : SrE} {N : Nat} {ts : List Tk} {t : Nat} {c c' : Caps} (h1 : c.length = N) (h2 : c'.length = N) (d1 : Dec ts 0 (chunks (K.proj (noS :: c))) t) (d2 : Dec ts 0 (chunks (K.proj (noS :: c'))) t) : K.Sm c c' := by
  have e := Dec.inj _ rfl (by rw [chunks_len, chunks_len, SrE.proj_len, SrE.proj_len]) d1 d2
  exact proj_sm h1 h2 (chunks_inj (by rw [SrE.proj_len, SrE.proj_len]) e)
theorem code_spec {K : SrE} {N : Nat} (S : SS) (hI : Inv K N S) : Ext S (K.code S).2 ∧ (Inv K N (K.code S).2) ∧ Dec (K.code S).2.ts 0 (chunks (K.proj S.cs)) (K.code S).1 := by
  obtain ⟨⟨e, h1, _⟩, h2, h3⟩ := stG_spec (chunks (K.proj S.cs)) S.ts 0 hI.nd
  refine ⟨⟨⟨[], by simp [SrE.code]⟩, ⟨e, h1⟩, fun _ h => h⟩, ⟨hI.ch, h2, fun p hp => ?_⟩, h3⟩
  obtain ⟨a1, a2, c, a3, a4, a5⟩ := hI.memo p hp
  exact ⟨a1, a2, c, a3, by
    show Dec (stG S.ts 0 (chunks (K.proj S.cs))).2 0 _ _
    rw [h1]; exact a4.mono, a5⟩
theorem Inv.bad {K : SrE} {N : Nat} {S : SS} (hI : Inv K N S) (hR : ∀ x ∈ K.re, x.op = 8 → 1 ≤ x.n ∧ x.n.toNat ∈ K.R) {u at_ t : Nat} (hp : (⟨u, at_, t⟩ : Pt) ∈ S.F) {c : Caps} (hc : c.length = N) (hd : Dec S.ts 0 (chunks (K.proj (noS :: c))) t) : K.kont S.fs u at_ c = none := by
  obtain ⟨_, _, c0, a3, a4, a5⟩ := hI.memo _ hp
  exact (SrE.kont_sim hR hI.ch u at_ c0 c (code_sm a3 hc a4 hd)).1 a5
theorem Inv.fail {K : SrE} {N : Nat} {S : SS} (hI : Inv K N S) {u at_ t : Nat} (h1 : 1 ≤ u) (h2 : u ≤ S.fs.length) {c : Caps} (hc : c.length = N) (hd : Dec S.ts 0 (chunks (K.proj (noS :: c))) t) (hk : K.kont S.fs u at_ c = none) : Inv K N { S with F := ⟨u, at_, t⟩ :: S.F } :=
  ⟨hI.ch, hI.nd, fun p hp => by
    rcases List.mem_cons.1 hp with rfl | hp
    · exact ⟨h1, h2, c, hc, hd, hk⟩
    · exact hI.memo p hp⟩
end Go.HL.Kl.Mc
