/- Mathematics of back-references: what the account says of all that groups may have taken, without doubles. Conditions: none. -/
import Derived.Test.YtloepfcndglmmaaDoorBT1Z
import Derived.Test.YtloepfcndglmmaaDoorHTZ
import Derived.Test.YtloepfcndglmmaaDoorVZV1Z
import Derived.Test.YtloepfcndglmmaaDoorUB6Z
namespace Go.HL.Kl.Mc
open Go Go.HL Go.HL.Kl
abbrev ddp (m : List Caps) : List Caps := addC [] m
theorem moreC_len {l : List Caps} {c : Caps} : l.length ≤ (moreC l c).length ∧ (moreC l c).length ≤ l.length + 1 := by
  unfold moreC; split <;> simp
theorem addC_ge : ∀ {m l : List Caps}, l.length ≤ (addC l m).length
  | [], l => Nat.le_refl _
  | c :: m, l => Nat.le_trans (moreC_len (c := c)).1 (addC_ge (m := m) (l := moreC l c))
theorem addC_le : ∀ {m l : List Caps}, (addC l m).length ≤ l.length + m.length
  | [], l => Nat.le_refl _
  | c :: m, l => by
    have h1 := addC_le (m := m) (l := moreC l c)
    have h2 := (moreC_len (l := l) (c := c)).2
    show (addC (moreC l c) m).length ≤ _
    rw [List.length_cons]; omega
theorem addC_nodup : ∀ {m l : List Caps}, l.Nodup → (addC l m).Nodup
  | [], _, h => h
  | c :: m, l, h => by
    show (addC (moreC l c) m).Nodup
    refine addC_nodup ?_
    unfold moreC
    split
    · exact h
    · rename_i hn
      rw [List.nodup_append]
      exact ⟨h, by simp, fun a ha b hb => by rw [List.mem_singleton.1 hb]; rintro rfl; exact hn ha⟩
theorem ddp_nodup {m : List Caps} : (ddp m).Nodup := addC_nodup List.nodup_nil
theorem ddp_mem {m : List Caps} {d : Caps} : d ∈ ddp m ↔ d ∈ m := addC_mem.trans (by simp)
theorem addC_len2 {l m : List Caps} : (addC l m).length ≤ l.length + (ddp m).length := by
  rw [← addC_ddp]; exact addC_le
theorem ddp_app_len {l m : List Caps} : (ddp (l ++ m)).length ≤ (ddp l).length + (ddp m).length := by
  show (addC [] (l ++ m)).length ≤ _
  rw [addC_app]; exact addC_len2
theorem ddp_pre_len {l m : List Caps} : (ddp l).length ≤ (ddp (l ++ m)).length := by
  show _ ≤ (addC [] (l ++ m)).length
  rw [addC_app]; exact addC_ge
theorem ddp_flat_len {α : Type} {f : α → List Caps} : ∀ {l : List α}, (ddp (l.flatMap f)).length ≤ (l.map fun a => (ddp (f a)).length).sum
  | [] => Nat.le_refl _
  | a :: l => by
    rw [List.flatMap_cons, List.map_cons, List.sum_cons]
    exact Nat.le_trans ddp_app_len (Nat.add_le_add_left ddp_flat_len _)
theorem ddp_map_len {g : Caps → Caps} {l : List Caps} : (ddp (l.map g)).length ≤ (ddp l).length := by
  have e : ∀ l : List Caps, (l.flatMap fun d => [g d]) = l.map g := fun l => by
    induction l with
    | nil => rfl
    | cons a l ih => rw [List.flatMap_cons, ih]; rfl
  show (addC [] (l.map g)).length ≤ _
  rw [← e, ← addC_flat, e]
  exact Nat.le_trans addC_le (by simp)
theorem sum_le_map {α : Type} {f g : α → Nat} : ∀ {l : List α}, (∀ a ∈ l, f a ≤ g a) → (l.map f).sum ≤ (l.map g).sum
  | [], _ => Nat.le_refl _
  | a :: l, h => by
    rw [List.map_cons, List.map_cons, List.sum_cons, List.sum_cons]
    exact Nat.add_le_add (h a List.mem_cons_self) (sum_le_map fun b hb => h b (List.mem_cons_of_mem _ hb))
theorem nodup_sum {g : Caps → Nat} : ∀ {l L : List Caps}, l.Nodup → (∀ a ∈ l, a ∈ L) → (l.map g).sum ≤ (L.map g).sum
  | [], _, _, _ => Nat.zero_le _
  | a :: l, L, hn, hs => by
    have ha := hs a List.mem_cons_self
    have hp := List.perm_cons_erase ha
    have e : (L.map g).sum = ((a :: L.erase a).map g).sum := (hp.map g).sum_nat
    rw [e, List.map_cons, List.map_cons, List.sum_cons, List.sum_cons]
    have hn' := List.nodup_cons.1 hn
    refine Nat.add_le_add_left (nodup_sum hn'.2 fun b hb => ?_) _
    have hb2 := hs b (List.mem_cons_of_mem _ hb)
    have hne : b ≠ a := fun e => hn'.1 (e ▸ hb)
    exact (List.mem_erase_of_ne hne).2 hb2
def semQ (w : List UInt8) : TQ → List Caps
  | .node x ks i j c => LF1 w x ks i j c
  | .alt g i j c => LF w g true i j c
  | .row g i j c => LF w g false i j c
  | .rnd x y js had i j c => RLf x (fun p e c => LF w (.nd y js .nil) false p e (emp (F.nd y js .nil).flat c)) j had i c
theorem sameAt_len {w : List UInt8} {x : Sp} {i j : Nat} (h : sameAt w x i j = true) : 0 ≤ x.fr ∧ x.to - x.fr = (j : Int) - i := by
  unfold sameAt at h
  rw [Bool.and_eq_true, decide_eq_true_eq] at h
  exact h.1
theorem flat_filter {p : Nat → Bool} {f : Nat → List Caps} : ∀ {l : List Nat}, (l.filter p).flatMap f = l.flatMap fun e => if p e = true then f e else []
  | [] => rfl
  | a :: l => by
    rw [List.flatMap_cons, ← flat_filter (l := l), List.filter_cons]
    split
    · rw [List.flatMap_cons]
    · rfl
theorem rnd_eq {w : List UInt8} {x y : Nd} {js : F} {had i j : Nat} {c : Caps} : semQ w (.rnd x y js had i j c) =
    (rEs x had i j).flatMap (fun e => (LF1 w y js i e (emp (F.nd y js .nil).flat c)).flatMap (fun c1 => semQ w (.rnd x y js (had + 1) e j c1))) ++ (if i = j ∧ x.mn ≤ (had : Int) then [c] else []) := by
  show RLf _ _ _ _ _ _ = _
  rw [RLf_eq]
  congr 1
  unfold rEs
  split
  · rw [flat_filter]
    refine flatMap_congr' fun e he => ?_
    have he := mem_ends.1 he
    by_cases hc : e = i ∧ x.mn ≤ (had : Int) ∧ 0 < had
    · rw [if_pos hc, if_neg (by simp [hc])]
    · rw [if_neg hc, if_pos (by rw [decide_eq_true_eq]; exact hc), LF_one, if_pos he.1]
      rfl
  · rfl
theorem row_eq {w : List UInt8} {y : Nd} {js r : F} {i j : Nat} {c : Caps} (hij : i ≤ j) : semQ w (.row (.nd y js r) i j c) =
    (if r.num = 0 then [j] else ends i j).flatMap (fun e => (LF1 w y js i e c).flatMap (fun c1 => semQ w (.row r e j c1))) := by
  show LF w _ false i j c = _
  rw [LF_cat]
  by_cases h : r.num = 0
  · rw [if_pos h]
    obtain rfl : r = F.nil := by cases r with
      | nil => rfl
      | nd _ _ _ => simp [F.num] at h
    have e1 : ∀ e, (LF1 w y js i e c).flatMap (fun c1 => LF w .nil false e j c1) = if e = j then LF1 w y js i e c else [] := fun e => by
      by_cases h : e = j
      · rw [if_pos h]
        have : (fun c1 => LF w .nil false e j c1) = fun c1 => [c1] := by funext c1; rw [LF_nilF, if_pos h]
        rw [this, List.flatMap_singleton']
      · rw [if_neg h]
        have : (fun c1 : Caps => LF w .nil false e j c1) = fun _ => [] := by funext c1; rw [LF_nilF, if_neg h]
        rw [this]; simp
    have h1 := @LF_one w y js i j c
    rw [LF_cat, if_pos hij] at h1
    rw [h1, List.flatMap_cons, List.flatMap_nil, List.append_nil]
    show _ = (LF1 w y js i j c).flatMap fun c1 => LF w .nil false j j c1
    rw [e1 j, if_pos rfl]
  · rw [if_neg h]; rfl
def ordQ : TQ → Prop
  | .node _ _ i j _ => i ≤ j
  | .alt _ i j _ => i ≤ j
  | .row _ i j _ => i ≤ j
  | .rnd _ _ _ _ i j _ => i ≤ j
def lenQ (k : Nat) : TQ → Nat
  | .node _ _ _ _ _ => k
  | .alt _ _ _ _ => k
  | .row _ _ _ _ => k + 1
  | .rnd _ _ _ _ _ _ _ => k + 1
theorem es_row {r : F} {i j e : Nat} (hij : i ≤ j) (h : e ∈ if r.num = 0 then [j] else ends i j) : i ≤ e ∧ e ≤ j := by
  split at h
  · rw [List.mem_singleton.1 h]; omega
  · exact mem_ends.1 h
theorem es_rnd {x : Nd} {had i j e : Nat} (h : e ∈ rEs x had i j) : i ≤ e ∧ e ≤ j := by
  unfold rEs at h
  split at h
  · exact mem_ends.1 (List.mem_filter.1 h).1
  · cases h
theorem gat_len {es : List Nat} {A : Nat → List Caps} {B : Nat → Caps → List Caps} {L : Nat → List Caps} {kN : Nat → Nat} {kR : Nat → Caps → Nat} (hA : ∀ e ∈ es, ∀ d ∈ A e, d ∈ L e) (hB : ∀ e ∈ es, ∀ c1 ∈ L e, (ddp (B e c1)).length ≤ kR e c1 + 1) :
    (ddp (es.flatMap fun e => (A e).flatMap (B e))).length ≤ sumW es L kN kR := by
  refine Nat.le_trans ddp_flat_len (sum_le_map fun e he => ?_)
  show (addC [] ((A e).flatMap (B e))).length ≤ _
  rw [← addC_flat]
  refine Nat.le_trans ddp_flat_len (Nat.le_trans (sum_le_map (g := fun c1 => kR e c1 + 1) fun c1 h1 => hB e he c1 (hA e he c1 (ddp_mem.1 h1))) (Nat.le_trans (nodup_sum ddp_nodup fun c1 h1 => hA e he c1 (ddp_mem.1 h1)) (Nat.le_add_left _ _)))
theorem Ct.res {w : List UInt8} {q : TQ} {Z : List Caps} {k : Nat} (h : Ct w.length q Z k) : ordQ q → (∀ d ∈ semQ w q, d ∈ Z) ∧ (ddp (semQ w q)).length ≤ lenQ k q := by
  induction h with
  | @leaf x ks i j c Z k ho hz hk =>
    intro _
    have key : LF1 w x ks i j c = [] ∨ (LF1 w x ks i j c = [c] ∧ goodT w.length x c i j) := by
      rcases ho with o | o | o | o
      · rw [LF1_1 o]; split
        · rename_i h; exact .inr ⟨rfl, .inl ⟨o, h.1⟩⟩
        · exact .inl rfl
      · rw [LF1_2 o]; split
        · rename_i h; exact .inr ⟨rfl, .inr (.inl ⟨o, h.1, h.2⟩)⟩
        · exact .inl rfl
      · rw [LF1_3 o]; split
        · rename_i h; exact .inr ⟨rfl, .inr (.inr (.inl ⟨o, h.1, h.2⟩))⟩
        · exact .inl rfl
      · rw [LF1_8 o]; split
        · rename_i h; exact .inr ⟨rfl, .inr (.inr (.inr ⟨o, sameAt_len h⟩))⟩
        · exact .inl rfl
    show (∀ d ∈ LF1 w x ks i j c, d ∈ Z) ∧ (ddp (LF1 w x ks i j c)).length ≤ k
    rcases key with e | ⟨e, hg⟩
    · rw [e]; exact ⟨fun d hd => (by cases hd), Nat.zero_le _⟩
    · rw [e]; exact ⟨fun d hd => (by rw [List.mem_singleton.1 hd]; exact hz hg), hk⟩
  | @cat x ks i j c Z k k0 ho h hk ih =>
    intro hij
    obtain ⟨a, b⟩ := ih hij
    show (∀ d ∈ LF1 w x ks i j c, d ∈ Z) ∧ (ddp (LF1 w x ks i j c)).length ≤ k
    rw [LF1_4 ho]
    exact ⟨a, Nat.le_trans b (by show k0 + 1 ≤ k; omega)⟩
  | @rep x y js i j c Z k k0 ho h hk ih =>
    intro hij
    obtain ⟨a, b⟩ := ih hij
    show (∀ d ∈ LF1 w x (.nd y js .nil) i j c, d ∈ Z) ∧ (ddp (LF1 w x (.nd y js .nil) i j c)).length ≤ k
    rw [LF1_6 ho]
    exact ⟨a, Nat.le_trans b (by show k0 + 1 ≤ k; omega)⟩
  | @grp x y js i j c Z L k k0 ho h hz hk ih =>
    intro hij
    obtain ⟨a, b⟩ := ih hij
    have b : (ddp (LF1 w y js i j (emp (F.nd y js .nil).flat c))).length ≤ k0 := b
    show (∀ d ∈ LF1 w x (.nd y js .nil) i j c, d ∈ Z) ∧ (ddp (LF1 w x (.nd y js .nil) i j c)).length ≤ k
    rw [LF1_7 ho, LF_one, if_pos (show i ≤ j from hij)]
    refine ⟨fun d hd => ?_, Nat.le_trans ddp_map_len (by omega)⟩
    obtain ⟨d', h1, rfl⟩ := List.mem_map.1 hd
    exact hz d' (a d' h1)
  | @altC x ks i j c Z k k0 ho h hk ih =>
    intro hij
    obtain ⟨a, b⟩ := ih hij
    show (∀ d ∈ LF1 w x ks i j c, d ∈ Z) ∧ (ddp (LF1 w x ks i j c)).length ≤ k
    rw [LF1_5 ho]
    exact ⟨a, Nat.le_trans b (by show k0 ≤ k; omega)⟩
  | @altNil i j c Z k =>
    intro _
    show (∀ d ∈ LF w .nil true i j c, d ∈ Z) ∧ (ddp (LF w .nil true i j c)).length ≤ k
    rw [LF_nilT]
    exact ⟨fun d hd => (by cases hd), Nat.zero_le _⟩
  | @altCons y js r i j c Z Z1 Z2 k k1 k2 h1 h2 hz1 hz2 hk ih1 ih2 =>
    intro hij
    obtain ⟨a1, b1⟩ := ih1 hij
    obtain ⟨a2, b2⟩ := ih2 hij
    have b1 : (ddp (LF1 w y js i j c)).length ≤ k1 := b1
    have b2 : (ddp (LF w r true i j c)).length ≤ k2 := b2
    show (∀ d ∈ LF w (.nd y js r) true i j c, d ∈ Z) ∧ (ddp (LF w (.nd y js r) true i j c)).length ≤ k
    rw [LF_alt]
    refine ⟨fun d hd => (List.mem_append.1 hd).elim (fun h => hz1 d (a1 d h)) (fun h => hz2 d (a2 d h)), Nat.le_trans ddp_app_len (by omega)⟩
  | @rowNil i j c Z k hz =>
    intro _
    show (∀ d ∈ LF w .nil false i j c, d ∈ Z) ∧ (ddp (LF w .nil false i j c)).length ≤ k + 1
    rw [LF_nilF]
    split
    · rename_i e; exact ⟨fun d hd => (by rw [List.mem_singleton.1 hd]; exact hz e), Nat.le_add_left 1 k⟩
    · exact ⟨fun d hd => (by cases hd), Nat.zero_le _⟩
  | @rowCons y js r i j c Z k es L kN R kR hes h1 h2 hz hk ih1 ih2 =>
    intro hij
    rw [row_eq hij, ← hes]
    have hA : ∀ e ∈ es, ∀ d ∈ LF1 w y js i e c, d ∈ L e := fun e he => (ih1 e he (es_row hij (hes ▸ he)).1).1
    refine ⟨fun d hd => ?_, Nat.le_trans (gat_len (kN := kN) hA fun e he c1 hc => (ih2 e he c1 hc (es_row hij (hes ▸ he)).2).2) (by show _ ≤ k + 1; omega)⟩
    obtain ⟨e, he, hd⟩ := List.mem_flatMap.1 hd
    obtain ⟨c1, hc1, hd⟩ := List.mem_flatMap.1 hd
    have hc := hA e he c1 hc1
    exact hz e he c1 hc d ((ih2 e he c1 hc (es_row hij (hes ▸ he)).2).1 d hd)
  | @rnd x y js had i j c Z k es L kN R kR hes h1 h2 hz hz2 hk ih1 ih2 =>
    intro hij
    rw [rnd_eq, ← hes]
    have hA : ∀ e ∈ es, ∀ d ∈ LF1 w y js i e (emp (F.nd y js .nil).flat c), d ∈ L e := fun e he => (ih1 e he (es_rnd (hes ▸ he)).1).1
    refine ⟨fun d hd => ?_, ?_⟩
    · rcases List.mem_append.1 hd with hd | hd
      · obtain ⟨e, he, hd⟩ := List.mem_flatMap.1 hd
        obtain ⟨c1, hc1, hd⟩ := List.mem_flatMap.1 hd
        have hc := hA e he c1 hc1
        exact hz e he c1 hc d ((ih2 e he c1 hc (es_rnd (hes ▸ he)).2).1 d hd)
      · split at hd
        · rename_i h; rw [List.mem_singleton.1 hd]; exact hz2 h.1 h.2
        · cases hd
    · refine Nat.le_trans ddp_app_len ?_
      have h3 := gat_len (kN := kN) (B := fun e c1 => semQ w (.rnd x y js (had + 1) e j c1)) hA fun e he c1 hc => (ih2 e he c1 hc (es_rnd (hes ▸ he)).2).2
      have h4 : (ddp (if i = j ∧ x.mn ≤ (had : Int) then [c] else [])).length ≤ 1 := by split <;> simp [addC, moreC]
      show _ ≤ k + 1
      omega
theorem ends_mid {e i j : Nat} (h1 : i ≤ e) (h2 : e ≤ j) : ∃ r, ends i j = ends (e + 1) j ++ e :: r := by
  have key : ∀ k, ∀ i, i + k = e → ∃ r, ends i j = ends (e + 1) j ++ e :: r := by
    intro k
    induction k with
    | zero =>
      intro i hi
      have hi' : i = e := by omega
      subst hi'
      exact ⟨[], ends_snoc h2⟩
    | succ k ih =>
      intro i hi
      obtain ⟨r, hr⟩ := ih (i + 1) (by omega)
      exact ⟨r ++ [i], by rw [ends_snoc (by omega), hr]; simp⟩
  exact key (e - i) i (by omega)
theorem row_mid {r : F} {e i j : Nat} (h1 : i ≤ e) (h2 : e ≤ j) (h3 : r.num = 0 → e = j) : ∃ t, (if r.num = 0 then [j] else ends i j) = ends (e + 1) j ++ e :: t := by
  split
  · rename_i h; rw [h3 h, ends_none]; exact ⟨[], rfl⟩
  · exact ends_mid h1 h2
theorem rnd_mid {x : Nd} {had e i j : Nat} (hm : x.mx = -1 ∨ (had : Int) < x.mx) (h1 : i ≤ e) (h2 : e ≤ j) (h3 : ¬ (e = i ∧ x.mn ≤ (had : Int) ∧ 0 < had)) : ∃ t, rEs x had i j = ends (e + 1) j ++ e :: t := by
  obtain ⟨t, ht⟩ := ends_mid h1 h2
  unfold rEs
  rw [if_pos hm, ht, List.filter_append, List.filter_cons, if_pos (by rw [decide_eq_true_eq]; exact h3), List.filter_eq_self.2]
  · exact ⟨_, rfl⟩
  · intro a ha
    have := mem_ends.1 ha
    simp only [decide_eq_true_eq]
    exact fun h => by omega
def gatS (es : List Nat) (A : Nat → List Caps) (B : Nat → Caps → List Caps) : List Caps := es.flatMap fun e => (A e).flatMap (B e)
theorem gatS_snoc {pre : List Nat} {e : Nat} {A : Nat → List Caps} {B : Nat → Caps → List Caps} : addC (ddp (gatS pre A B)) ((ddp (A e)).flatMap (B e)) = ddp (gatS (pre ++ [e]) A B) := by
  unfold gatS
  rw [List.flatMap_append, List.flatMap_cons, List.flatMap_nil, List.append_nil]
  show _ = addC [] _
  rw [addC_app]
  exact addC_flat
theorem gatS_pre {es pre rest : List Nat} {e : Nat} {A : Nat → List Caps} {B : Nat → Caps → List Caps} (h : es = pre ++ e :: rest) (m : Nat) (T : List Caps) : (addC (ddp (gatS pre A B)) (((ddp (A e)).take m).flatMap (B e))).length ≤ (ddp (gatS es A B ++ T)).length := by
  have e1 : gatS es A B ++ T = gatS (pre ++ [e]) A B ++ (gatS rest A B ++ T) := by
    rw [h]; unfold gatS; simp [List.flatMap_append, List.append_assoc]
  rw [e1]
  refine Nat.le_trans ?_ ddp_pre_len
  rw [← gatS_snoc]
  have e2 : (ddp (A e)).flatMap (B e) = ((ddp (A e)).take m).flatMap (B e) ++ ((ddp (A e)).drop m).flatMap (B e) := by rw [← List.flatMap_append, List.take_append_drop]
  rw [e2, addC_app]
  exact addC_ge
theorem gatS_sub {es pre rest : List Nat} {A : Nat → List Caps} {B : Nat → Caps → List Caps} (h : es = pre ++ rest) (T : List Caps) : (ddp (gatS pre A B)).length ≤ (ddp (gatS es A B ++ T)).length := by
  have e1 : gatS es A B ++ T = gatS pre A B ++ (gatS rest A B ++ T) := by
    rw [h]; unfold gatS; simp [List.flatMap_append, List.append_assoc]
  rw [e1]
  exact ddp_pre_len
theorem take_flat {A : List Caps} {f : Caps → List Caps} {k : Nat} {c : Caps} (h : A[k]? = some c) : (A.take (k + 1)).flatMap f = (A.take k).flatMap f ++ f c := by
  rw [List.take_add_one, h]
  simp [List.flatMap_append]
theorem addC_step {l a b : List Caps} : addC (addC l a) (ddp b) = addC l (a ++ b) := by rw [addC_ddp, ← addC_app]
/-! the account of what is asked on the way -/
variable {n : Nat} {x : Nd} {ks : F} {i j : Nat} {c : Caps} {Z : List Caps} {k : Nat}
theorem Ct.inv4 (h : Ct n (.node x ks i j c) Z k) (ho : x.op = 4) : ∃ k0, Ct n (.row ks i j c) Z k0 ∧ k0 + 2 ≤ k := by
  cases h with
  | leaf h1 _ _ => omega
  | cat _ h hk => exact ⟨_, h, hk⟩
  | rep h1 _ _ => omega
  | grp h1 _ _ _ => omega
  | altC h1 _ _ => omega
theorem Ct.inv5 (h : Ct n (.node x ks i j c) Z k) (ho : x.op = 5) : ∃ k0, Ct n (.alt ks i j c) Z k0 ∧ k0 + 1 ≤ k := by
  cases h with
  | leaf h1 _ _ => omega
  | cat h1 _ _ => omega
  | rep h1 _ _ => omega
  | grp h1 _ _ _ => omega
  | altC _ h hk => exact ⟨_, h, hk⟩
theorem Ct.inv6 {y : Nd} {js : F} (h : Ct n (.node x (.nd y js .nil) i j c) Z k) (ho : x.op = 6) : ∃ k0, Ct n (.rnd x y js 0 i j c) Z k0 ∧ k0 + 2 ≤ k := by
  cases h with
  | leaf h1 _ _ => omega
  | cat h1 _ _ => omega
  | rep _ h hk => exact ⟨_, h, hk⟩
  | grp h1 _ _ _ => omega
  | altC h1 _ _ => omega
theorem Ct.inv7 {y : Nd} {js : F} (h : Ct n (.node x (.nd y js .nil) i j c) Z k) (ho : x.op = 7) : ∃ L k0, Ct n (.node y js i j (emp (F.nd y js .nil).flat c)) L k0 ∧ k0 + 1 ≤ k := by
  cases h with
  | leaf h1 _ _ => omega
  | cat h1 _ _ => omega
  | rep h1 _ _ => omega
  | grp _ h _ hk => exact ⟨_, _, h, by omega⟩
  | altC h1 _ _ => omega
theorem Ct.invA {y : Nd} {js r : F} (h : Ct n (.alt (.nd y js r) i j c) Z k) : ∃ Z1 k1 Z2 k2, Ct n (.node y js i j c) Z1 k1 ∧ Ct n (.alt r i j c) Z2 k2 ∧ k1 + k2 ≤ k := by
  cases h with
  | altCons h1 h2 _ _ hk => exact ⟨_, _, _, _, h1, h2, hk⟩
theorem mem_le_sum {l : List Nat} {a : Nat} (h : a ∈ l) : a ≤ l.sum := by
  induction l with
  | nil => cases h
  | cons b l ih =>
    rw [List.sum_cons]
    rcases List.mem_cons.1 h with rfl | h
    · omega
    · have := ih h; omega
theorem sumW_ge {es : List Nat} {L : Nat → List Caps} {kN : Nat → Nat} {kR : Nat → Caps → Nat} {e : Nat} (he : e ∈ es) : kN e ≤ sumW es L kN kR ∧ ∀ c1 ∈ L e, kR e c1 + 1 ≤ sumW es L kN kR := by
  have h1 : kN e + ((L e).map fun c1 => kR e c1 + 1).sum ≤ sumW es L kN kR := mem_le_sum (List.mem_map_of_mem he)
  refine ⟨by omega, fun c1 hc => ?_⟩
  have h2 : kR e c1 + 1 ≤ ((L e).map fun c1 => kR e c1 + 1).sum := mem_le_sum (List.mem_map_of_mem hc)
  omega
theorem Ct.invR {y : Nd} {js r : F} (h : Ct n (.row (.nd y js r) i j c) Z k) {e : Nat} (he : e ∈ if r.num = 0 then [j] else ends i j) : ∃ L kN, Ct n (.node y js i e c) L kN ∧ kN ≤ k ∧ ∀ c1 ∈ L, ∃ R kR, Ct n (.row r e j c1) R kR ∧ kR + 1 ≤ k := by
  cases h with
  | @rowCons _ _ _ _ _ _ _ _ es L kN R kR hes h1 h2 hz hk =>
    rw [← hes] at he
    obtain ⟨a, b⟩ := sumW_ge (L := L) (kN := kN) (kR := kR) he
    exact ⟨_, _, h1 e he, by omega, fun c1 hc => ⟨_, _, h2 e he c1 hc, by have := b c1 hc; omega⟩⟩
theorem Ct.invN {y : Nd} {js : F} {had : Nat} (h : Ct n (.rnd x y js had i j c) Z k) {e : Nat} (he : e ∈ rEs x had i j) : ∃ L kN, Ct n (.node y js i e (emp (F.nd y js .nil).flat c)) L kN ∧ kN ≤ k ∧ ∀ c1 ∈ L, ∃ R kR, Ct n (.rnd x y js (had + 1) e j c1) R kR ∧ kR + 1 ≤ k := by
  cases h with
  | @rnd _ _ _ _ _ _ _ _ _ es L kN R kR hes h1 h2 hz hz2 hk =>
    rw [← hes] at he
    obtain ⟨a, b⟩ := sumW_ge (L := L) (kN := kN) (kR := kR) he
    exact ⟨_, _, h1 e he, by omega, fun c1 hc => ⟨_, _, h2 e he c1 hc, by have := b c1 hc; omega⟩⟩
theorem LAcc.at_ {n : Nat} {x : Nd} {ks : F} {c : Caps} {ps : List (Nat × Nat)} {T : Int} (h : LAcc n x ks c ps T) {i j : Nat} (hm : (i, j) ∈ ps) : ∃ Z k, Ct n (.node x ks i j c) Z k ∧ (k : Int) ≤ 3 * T := by
  obtain ⟨cost, h1, h2⟩ := h
  obtain ⟨Z, hZ⟩ := h1 _ hm
  refine ⟨Z, _, hZ, ?_⟩
  have := mem_le_sum (List.mem_map_of_mem (f := fun p : Nat × Nat => cost p.1 p.2) hm)
  have h3 : cost i j ≤ (ps.map fun p => cost p.1 p.2).sum := this
  show ((cost i j : Nat) : Int) ≤ _
  omega
end Go.HL.Kl.Mc
namespace Go.HL.Kl.Mc
open Go Go.HL Go.HL.Kl
def OkC (n : Nat) (c : Caps) : Prop := ∀ s ∈ c, s = noS ∨ (0 ≤ s.fr ∧ s.fr ≤ s.to ∧ s.to ≤ n)
theorem OkC.set {n : Nat} {c : Caps} (h : OkC n c) {i j : Nat} (hij : i ≤ j) (hj : j ≤ n) (m : Nat) : OkC n (c.set m ⟨i, j⟩) := fun s hs => by
  rcases List.mem_or_eq_of_mem_set hs with hs | rfl
  · exact h s hs
  · exact .inr ⟨by simp, by simpa using hij, by simpa using hj⟩
theorem OkC.emp {n : Nat} : ∀ (l : List Nd) {c : Caps}, OkC n c → OkC n (emp l c)
  | [], _, h => h
  | x :: l, c, h => by
    show OkC n (Mc.emp l (em1 c x))
    refine OkC.emp l ?_
    unfold em1
    split
    · intro s hs
      rcases List.mem_or_eq_of_mem_set hs with hs | rfl
      · exact h s hs
      · exact .inl rfl
    · exact h
theorem okc_none {n m : Nat} : OkC n (List.replicate m noS) := fun s hs => .inl (List.eq_of_mem_replicate hs)
theorem RL_okc {n : Nat} {x : Nd} {B : Nat → Nat → Caps → List Caps} {q : Nat} (hB : ∀ p e c, OkC n c → p ≤ e → e ≤ q → ∀ d ∈ B p e c, OkC n d) : ∀ (f had p : Nat) (c : Caps), OkC n c → ∀ d ∈ RL x B q f had p c, OkC n d
  | 0, _, _, _, _, d, hd => by cases hd
  | f + 1, had, p, c, h, d, hd => by
    rw [RL] at hd
    rcases List.mem_append.1 hd with hd | hd
    · split at hd
      · obtain ⟨e, he, hd⟩ := List.mem_flatMap.1 hd
        have he := mem_ends.1 he
        split at hd
        · cases hd
        · obtain ⟨c1, h1, hd⟩ := List.mem_flatMap.1 hd
          exact RL_okc hB f _ _ c1 (hB p e c h he.1 he.2 c1 h1) d hd
      · cases hd
    · split at hd
      · rw [List.mem_singleton.1 hd]; exact h
      · cases hd
theorem LF_okc {w : List UInt8} : ∀ (f : F) (md : Bool) (i j : Nat) (c : Caps), OkC w.length c → i ≤ j → j ≤ w.length → ∀ d ∈ LF w f md i j c, OkC w.length d
  | .nil, true, i, j, c, h, _, _, d, hd => by rw [LF_nilT] at hd; cases hd
  | .nil, false, i, j, c, h, _, _, d, hd => by
    rw [LF_nilF] at hd
    split at hd
    · rw [List.mem_singleton.1 hd]; exact h
    · cases hd
  | .nd x ks r, md, i, j, c, h, hij, hj, d, hd => by
    have one : ∀ i j c, OkC w.length c → i ≤ j → j ≤ w.length → ∀ d ∈ LF1 w x ks i j c, OkC w.length d := by
      intro i j c h hij hj d hd
      rw [LF1_def] at hd
      split at hd
      · split at hd
        · rw [List.mem_singleton.1 hd]; exact h
        · cases hd
      split at hd
      · split at hd
        · rw [List.mem_singleton.1 hd]; exact h
        · cases hd
      split at hd
      · split at hd
        · rw [List.mem_singleton.1 hd]; exact h
        · cases hd
      split at hd
      · split at hd
        · rw [List.mem_singleton.1 hd]; exact h
        · cases hd
      split at hd
      · exact LF_okc ks true i j c h hij hj d hd
      split at hd
      · exact RL_okc (fun p e c h1 h2 h3 => LF_okc ks false p e _ (h1.emp _) h2 (Nat.le_trans h3 hj)) _ _ _ _ h d hd
      split at hd
      · obtain ⟨d', h1, rfl⟩ := List.mem_map.1 hd
        exact (LF_okc ks false i j _ (h.emp _) hij hj d' h1).set hij hj _
      · exact LF_okc ks false i j c h hij hj d hd
    cases md with
    | true =>
      rw [LF_alt] at hd
      rcases List.mem_append.1 hd with hd | hd
      · exact one i j c h hij hj d hd
      · exact LF_okc r true i j c h hij hj d hd
    | false =>
      rw [LF_cat] at hd
      obtain ⟨e, he, hd⟩ := List.mem_flatMap.1 hd
      have he := mem_ends.1 he
      obtain ⟨c1, h1, hd⟩ := List.mem_flatMap.1 hd
      exact LF_okc r false e j c1 (one i e c h he.1 (by omega) c1 h1) he.2 hj d hd
theorem LF1_okc {w : List UInt8} {x : Nd} {ks : F} {i j : Nat} {c : Caps} (h : OkC w.length c) (hij : i ≤ j) (hj : j ≤ w.length) : ∀ d ∈ LF1 w x ks i j c, OkC w.length d := LF_okc (.nd x ks .nil) true i j c h hij hj
end Go.HL.Kl.Mc
namespace Go.Proofs.YtloepfcndglmmaaDoor
open Go Go.HL Go.Proofs Go.HL.Kl Go.HL.Kl.Mc Go.HL.Kl.Mc.AskE
structure FinE where
  (bF : Nat) (ra : Option Addr) (rc : Nat) (re : List Nd) (ta : Option Addr) (tc : Nat) (w : List UInt8) (ha : Option Addr) (hc : Nat) (hl : List Nat) (N : Nat)
namespace FinE
structure ok (K : FinE) : Prop where
  rng : ∀ x ∈ K.re, -128 ≤ x.op ∧ x.op < 128
  rl : K.re.length ≤ 1000000
  nl : K.w.length ≤ 1000000
  Nl : K.N ≤ 1000000
  grp : ∀ y ∈ K.re, y.op = 7 → 1 ≤ y.n ∧ y.n ≤ K.N
  ref : ∀ y ∈ K.re, y.op = 8 → 1 ≤ y.n ∧ y.n ≤ K.N
  beh : ∀ k y js r i1, Part K.re (.nd y js r) k i1 → K.hl[k]? = some (k + 1 + js.size)
structure Env (K : FinE) (W : World) (M : List Nat) : Prop where
  d0 : RdP W K.bF 0 [.slice K.ra K.re.length K.rc, .slice K.ta K.w.length K.tc, .slice K.ha K.hl.length K.hc]
  a0 : K.bF ∉ M
  d1 : Rd En W (.slice K.ra K.re.length K.rc) K.re
  a1 : Apart M (.slice K.ra K.re.length K.rc)
  d2 : Rd Eix W (.slice K.ha K.hl.length K.hc) K.hl
  a2 : Apart M (.slice K.ha K.hl.length K.hc)
  d3 : Rd Eb W (.slice K.ta K.w.length K.tc) K.w
  a3 : Apart M (.slice K.ta K.w.length K.tc)
theorem Env.out {K : FinE} {w0 w : World} {M : List Nat} {H S : Hp} (h : K.Env w0 M) (st : St w0 w M H) (hin : HIn S H) : K.Env w (keys S) :=
  ⟨(RdPK.old (κ := ⟨0, [], w0, M⟩) (H := H) h.d0 h.a0).out w st, st.notin hin h.d0 (by simp) h.a0, (RdK.old (κ := ⟨0, [], w0, M⟩) (H := H) h.d1 h.a1).out w st, st.apart_M hin h.d1 h.a1 (by decide), (RdK.old (κ := ⟨0, [], w0, M⟩) (H := H) h.d2 h.a2).out w st, st.apart_M hin h.d2 h.a2 (by decide),
    (RdK.old (κ := ⟨0, [], w0, M⟩) (H := H) h.d3 h.a3).out w st, st.apart_M hin h.d3 h.a3 (by decide)⟩
def PostF (K : FinE) (Pool : Hp) (L : List Caps) (v : Value) (S' : Hp) : Prop := ∃ (a : Option Addr) (c : Nat) (zs : List (Sl Sp)) (Sz New : Hp), v = .slice a zs.length c ∧ S' = Sz ++ (New ++ Pool) ∧ OwnS Esl 1 32 (.slice a zs.length c) zs Sz ∧ PoolR zs K.N (New ++ Pool) ∧ zs.map Sl.xs = ddp L
def NodeF (K : FinE) (x : Nd) (ks : F) : Prop := ∀ (at_ i1 : Nat), Part K.re (.nd x ks .nil) at_ i1 → ∀ (i j : Nat), i ≤ j → j ≤ K.w.length → ∀ (c : Sl Sp) (Pool : Hp), RowP K.N Pool c → OkC K.w.length c.xs → ∀ (Z : List Caps) (k : Nat), Ct K.w.length (.node x ks i j c.xs) Z k → k ≤ 800000 →
  HL.Fn Tryd.prog 106 [pt K.bF, .int .i64 at_, .int .i64 i, .int .i64 j, .slice c.a c.xs.length c.c] (fun W => K.Env W (keys Pool)) Pool (K.PostF Pool (LF1 K.w x ks i j c.xs))
def RowF (K : FinE) (f : F) : Prop := ∀ (at_ i1 : Nat), Part K.re f at_ i1 → ∀ (i j : Nat), i ≤ j → j ≤ K.w.length → ∀ (c : Sl Sp) (Pool : Hp), RowP K.N Pool c → OkC K.w.length c.xs → ∀ (Z : List Caps) (k : Nat), Ct K.w.length (.row f i j c.xs) Z k → k ≤ 800000 →
  HL.Fn Tryd.prog 116 [pt K.bF, .int .i64 at_, .int .i64 (f.num : Nat), .int .i64 i, .int .i64 j, .slice c.a c.xs.length c.c] (fun W => K.Env W (keys Pool)) Pool (K.PostF Pool (LF K.w f false i j c.xs))
def RndF (K : FinE) (x y : Nd) (js : F) (n : Nat) : Prop := ∀ (at_ i1 : Nat), Part K.re (.nd x (.nd y js .nil) .nil) at_ i1 → ∀ (had i j : Nat), i ≤ j → j ≤ K.w.length → ∀ (c : Sl Sp) (Pool : Hp), RowP K.N Pool c → OkC K.w.length c.xs → ∀ (Z : List Caps) (k : Nat), Ct K.w.length (.rnd x y js had i j c.xs) Z k → k < n → had + k ≤ 900000 → k ≤ 800000 →
  HL.Fn Tryd.prog 118 [pt K.bF, .int .i64 at_, .int .i64 had, .int .i64 i, .int .i64 j, .slice c.a c.xs.length c.c] (fun W => K.Env W (keys Pool)) Pool (K.PostF Pool (semQ K.w (.rnd x y js had i j c.xs)))
end FinE
set_option maxHeartbeats 2000000 in
theorem moreF_fn (la : Option Addr) (lc : Nat) (zs : List (Sl Sp)) (SL Pool : Hp) (hS : OwnS Esl 1 32 (.slice la zs.length lc) zs SL) (N : Nat) (hz : PoolR zs N Pool) (x : Sl Sp) (hx : RowP N Pool x) (hzl : zs.length ≤ 1000000) (hN : N ≤ 1000000) : HL.Fn Tryd.prog 120 [.slice la zs.length lc, .slice x.a x.xs.length x.c] (fun _ => True) (SL ++ Pool) (fun v S' => ∃ a c zs' SL', v = .slice a zs'.length c ∧ S' = SL' ++ Pool ∧ OwnS Esl 1 32 (.slice a zs'.length c) zs' SL' ∧ PoolR zs' N Pool ∧ zs'.map Sl.xs = moreC (zs.map Sl.xs) x.xs) := by
  refine fn_of Tryd.func120 rfl rfl rfl fun w0 hw => ?_
  have hsl := hS.sl
  have hx1 := hx.1
  refine cR fun _ hK1 => ?_; refine oA (oZ hK1 (c_seq fun _ hK2 => ?_)); refine cR fun _ hK3 => ?_; refine oA (oZ hK3 (c_block ?_))
  -- not carried: 4
  refine c_loopB (fun (i : Nat) => i ≤ zs.length ∧ ∀ (m : Nat) z, m < i → zs[m]? = some z → z.xs ≠ x.xs) (fun (i : Nat) => [(5, .int .i64 i)]) [(0, _), (1, _)] (fun (i : Nat) => SL ++ Pool) (fun (i : Nat) => zs.length - i) 0 ⟨Nat.zero_le _, fun m z h => absurd h (Nat.not_lt_zero _)⟩ sbA sbA hzB ?_
  rintro i ⟨hi, hno⟩
  refine c_seq fun _ hK4 => ?_; refine cR fun _ hK5 => ?_; refine oM (oM ?_); refine oS sC ?_
  by_cases hil : (i : Int) < zs.length
  ·obtain ⟨z, hzi⟩ : ∃ z, zs[i]? = some z := gE
   have hzm := hz z (List.mem_of_getElem? hzi)
   have hz1 := hzm.1
   refine oS lsT (oZ hK5 ?_); refine cTZ hK4 (c_seq fun _ hK6 => ?_); refine c_block (cR fun _ hK7 => ?_); refine oA (oZ hK7 (c_seq fun _ hK8 => ?_)); refine cR fun _ hK9 => ?_; refine oA (oZ hK9 (c_block ?_)); refine c_loop2 (fun (k : Nat) (b : Bool) => k ≤ x.xs.length ∧ (b = true → ∀ m, m < k → z.xs[m]? = x.xs[m]?) ∧ (b = false → z.xs ≠ x.xs)) (fun (k : Nat) (b : Bool) => [(7, .int .i64 k), (6, .bool b)]) [(0, _), (1, _), (5, _), (8, _), (9, _), (10, _), (11, _)] (fun (k : Nat) (b : Bool) => SL ++ Pool) (fun (k : Nat) (b : Bool) => x.xs.length - k) 0 true ⟨Nat.zero_le _, fun _ m hm => absurd hm (Nat.not_lt_zero _), fun h => (by cases h)⟩ sbA sbA hzB ?_
   rintro k b ⟨hk, hbI, hbF⟩
   refine c_seq fun _ hK10 => ?_; refine cR fun _ hK11 => ?_; refine oM (oM ?_); refine oS sC ?_
   by_cases hkl : (k : Int) < x.xs.length
   ·obtain ⟨p, hp⟩ : ∃ p, z.xs[k]? = some p := ⟨_, List.getElem?_eq_getElem (by have := hzm.1; have := hx.1; omega)⟩
    obtain ⟨q, hq⟩ : ∃ q, x.xs[k]? = some q := gE
    refine oS lsT (oZ hK11 ?_); refine cTZ hK10 (c_seq fun _ hK12 => ?_); refine c_block ?_; refine c_drawE (SL ++ Pool) (fun i => false) ?_
    by_cases hb : b = true
    ·refine eK 0 rfl (step_cast (v' := .bool true) (s_move rfl) (by rw [hb])) ?_; refine eK 1 rfl sM ?_; refine eG 2 rfl sM ?_; refine eG 3 rfl sM ?_; refine eG 4 rfl (s_idx rfl rfl hsl (by omega)) ?_; refine eG 5 rfl (s_ld rfl ((hS.rdk hiA).ld i 0 hzi rfl (by decide) (by omega))) ?_; refine eG 6 rfl sM ?_; refine eG 7 rfl (s_idx rfl rfl hzm.2.1 (by omega)) ?_; refine eG 8 rfl (s_ldB rfl ((hzm.2.2.rdk hiA).cels hp) lnA) ?_; refine eG 9 rfl sM ?_; refine eG 10 rfl sM ?_; refine eG 11 rfl (s_idx rfl rfl hx.2.1 (by omega)) ?_; refine eG 12 rfl (s_ldB rfl ((hx.2.2.rdk hiA).cels hq) lnA) ?_; refine eG 13 rfl (s_eql_sp rfl rfl) ?_; refine eK 14 rfl sT ?_; refine eK 15 rfl sA ?_; refine e_done (by kernel_rfl) ?_; refine x_block (xZ hK12 (c_region (oM ?_))); refine oS sD (oA (o_nil ?_)); exact xI (k + 1, _) ⟨by dsimp only; omega, fun h m hm => if e : m = k then (by subst e; rw [hp, hq]; exact congrArg some (of_decide_eq_true h)) else hbI hb m (by omega), fun h e => (by have h1 := of_decide_eq_false h; rw [e, hq] at hp; exact h1 (Option.some.inj hp).symm)⟩
    ·refine eK 0 rfl (step_cast (v' := .bool false) (s_move rfl) (by rw [Bool.eq_false_iff.2 hb])) ?_; refine eK 1 rfl sM ?_; refine eS 2 rfl (eS 3 rfl (eS 4 rfl (eS 5 rfl (eS 6 rfl (eS 7 rfl (eS 8 rfl (eS 9 rfl (eS 10 rfl (eS 11 rfl (eS 12 rfl (eS 13 rfl ?_))))))))))); refine eK 14 rfl sP ?_; refine eK 15 rfl sA ?_; refine e_done (by kernel_rfl) ?_; refine x_block (xZ hK12 (c_region (oM ?_))); refine oS sD (oA (o_nil ?_)); exact xI (k + 1, false) ⟨by dsimp only; omega, fun h => (by cases h), fun _ => hbF (by simpa using hb)⟩
   ·obtain rfl : k = x.xs.length := by omega
    refine oS lsF (oZ hK11 ?_); refine cF ?_; refine c_exit ?_; refine x_then_exit (x_then_exit (x_block_exit (xZ hK8 (cR fun _ hK13 => ?_))))
    by_cases hb2 : b = true
    ·have hzx : z.xs = x.xs := List.ext_getElem? fun m => by
       rcases Nat.lt_or_ge m x.xs.length with h | h
       · exact hbI hb2 m h
       · rw [List.getElem?_eq_none (by omega), List.getElem?_eq_none h]
     refine oS (step_cast (v' := .bool true) (s_move rfl) (by rw [hb2])) ?_; refine oZ hK13 ?_; refine cT (cR fun _ hK14 => ?_); refine oM (oA (oZ hK14 (c_ret ?_))); refine x_block_ret (x_then_ret (x_then_ret (x_block_ret (x_then_ret (?_)))))
     exact xR rfl rfl (⟨la, lc, zs, SL, rfl, rfl, hS, hz, by unfold moreC; rw [if_pos (List.mem_map.2 ⟨z, List.mem_of_getElem? hzi, hzx⟩)]⟩)
    ·refine oS (step_cast (v' := .bool false) (s_move rfl) (by rw [Bool.eq_false_iff.2 hb2])) ?_; refine oZ hK13 ?_; refine cF (c_skip (x_block (xZ hK6 (c_region (oM ?_))))); refine oS sD (oA (o_nil ?_)); exact xI (i + 1) ⟨by omega, fun m u hm hu => if e : m = i then (by subst e; rw [hzi] at hu; cases hu; exact hbF (by simpa using hb2)) else hno m u (by omega) hu⟩
  ·have hnm : x.xs ∉ zs.map Sl.xs := fun hm => by
     obtain ⟨z, h1, h2⟩ := List.mem_map.1 hm
     obtain ⟨m, h3⟩ := List.mem_iff_getElem?.1 h1
     exact hno m z (by have := (List.getElem?_eq_some_iff.1 h3).1; omega) h3 h2
   refine oS lsF (oZ hK5 ?_); refine cF ?_; refine c_exit ?_; refine x_then_exit (x_then_exit (x_block_exit (xZ hK2 (cR fun _ hK15 => ?_)))); refine oM (oM ?_); refine o_bs (E := Esl) (xs := [x]) (vs := [_]) rfl rfl rfl rfl rfl (by decide) (by decide) fun b39 S39 hS39 => ?_; refine o_app hS (hS39.rdk hiA) rfl rfl rfl rfl (by simp; omega) (by simp; omega) rfl pkA fun a40 c40 S40 hS40 => ?_; refine oA (oZ hK15 (c_ret ?_)); refine ?_; refine x_sub (Sub.refl _) (H' := S40 ++ Pool) hzB ?_; exact xR rfl rfl (⟨a40, c40, zs ++ [x], S40, rfl, rfl, hS40, hz.snoc hx, by unfold moreC; rw [if_neg hnm, List.map_append]; rfl⟩)
set_option maxHeartbeats 2000000 in
theorem allF_fn (la : Option Addr) (lc : Nat) (zs : List (Sl Sp)) (SL : Hp) (hS : OwnS Esl 1 32 (.slice la zs.length lc) zs SL) (ka : Option Addr) (kc : Nat) (ms : List (Sl Sp)) (SM Pool : Hp) (hM : OwnS Esl 1 32 (.slice ka ms.length kc) ms SM) (N : Nat) (hz : PoolR zs N Pool) (hm : PoolR ms N Pool) (hN : N ≤ 1000000) (hB : (addC (zs.map Sl.xs) (ms.map Sl.xs)).length ≤ 1000000) (hml : ms.length ≤ 3000000) : HL.Fn Tryd.prog 117 [.slice la zs.length lc, .slice ka ms.length kc] (fun _ => True) (SL ++ (SM ++ Pool)) (fun v S' => ∃ a c zs' SL', v = .slice a zs'.length c ∧ S' = SL' ++ (SM ++ Pool) ∧ OwnS Esl 1 32 (.slice a zs'.length c) zs' SL' ∧ PoolR zs' N Pool ∧ zs'.map Sl.xs = addC (zs.map Sl.xs) (ms.map Sl.xs)) := by
  refine fn_of Tryd.func117 rfl rfl rfl fun w0 hw => ?_
  have hsl := hM.sl
  have hpre : ∀ i, (addC (zs.map Sl.xs) ((ms.take i).map Sl.xs)).length ≤ 1000000 := fun i => Nat.le_trans (by
    have e : ms.map Sl.xs = (ms.take i).map Sl.xs ++ (ms.drop i).map Sl.xs := by rw [← List.map_append, List.take_append_drop]
    rw [e, addC_app]; exact addC_ge) hB
  refine cR fun _ hK1 => ?_; refine oA (oZ hK1 (c_seq fun _ hK2 => ?_)); refine cR fun _ hK3 => ?_; refine oA (oZ hK3 (c_block ?_)); refine c_loop5 (fun (i : Nat) (a : Option Addr) (c : Nat) (ys : List (Sl Sp)) (S : Hp) => i ≤ ms.length ∧ OwnS Esl 1 32 (.slice a ys.length c) ys S ∧ PoolR ys N Pool ∧ ys.map Sl.xs = addC (zs.map Sl.xs) ((ms.take i).map Sl.xs)) (fun (i : Nat) (a : Option Addr) (c : Nat) (ys : List (Sl Sp)) (S : Hp) => [(5, .int .i64 i), (0, .slice a ys.length c)]) [(1, _), (4, _)] (fun (i : Nat) (a : Option Addr) (c : Nat) (ys : List (Sl Sp)) (S : Hp) => S ++ (SM ++ Pool)) (fun (i : Nat) (a : Option Addr) (c : Nat) (ys : List (Sl Sp)) (S : Hp) => ms.length - i) 0 la lc zs SL ⟨Nat.zero_le _, hS, hz, rfl⟩ sbA sbA hzB ?_
  rintro i a c ys S ⟨hi, hy, hyz, hym⟩
  have hyl : ys.length ≤ 1000000 := by have h := hpre i; rw [← hym, List.length_map] at h; exact h
  refine c_seq fun _ hK4 => ?_; refine cR fun _ hK5 => ?_; refine oM (oM ?_); refine oS sC ?_
  by_cases hil : (i : Int) < ms.length
  ·obtain ⟨z, hzi⟩ : ∃ z, ms[i]? = some z := gE
   have hzm := hm z (List.mem_of_getElem? hzi)
   refine oS lsT (oZ hK5 ?_); refine cTZ hK4 (c_seq fun _ hK6 => ?_); refine c_block (c_region (oM (oM (oM ?_)))); refine oS (s_idx rfl rfl hsl (by omega)) ?_; refine oS (s_ld rfl ((hM.rdk hiA).ld i 0 hzi rfl (by decide) (by omega))) ?_; refine o_call (moreF_fn a c ys S Pool hy N hyz z hzm hyl hN) rfl rfl rfl ((Pick.takeA pkA pkA)) (fun _ _ => trivial) (fun v17 S17 ⟨a17, c17, ys17, SL17, hv17, hS17, hO17, hP17, hm17⟩ => ?_); subst hv17
   subst hS17; refine oA (o_nil (x_block (xZ hK6 (c_region (oM ?_))))); refine oS sD (oA (o_nil ?_)); exact xI (i + 1, a17, c17, ys17, SL17) ⟨by dsimp only; omega, hO17, hP17, by dsimp only; rw [hm17, hym, List.take_add_one, hzi, List.map_append, addC_app]; rfl⟩
  ·obtain rfl : i = ms.length := by omega
   rw [List.take_length] at hym
   refine oS lsF (oZ hK5 ?_); refine cF ?_; refine c_exit ?_; refine x_then_exit (x_then_exit (x_block_exit (xZ hK2 (cR fun _ hK7 => ?_)))); refine oM (oA (oZ hK7 (c_ret ?_))); refine ?_; refine x_sub (Sub.refl _) (H' := S ++ (SM ++ Pool)) hzB ?_; exact xR rfl rfl (⟨a, c, ys, S, rfl, rfl, hy, hyz, hym⟩)
end Go.Proofs.YtloepfcndglmmaaDoor
namespace Go.Proofs.YtloepfcndglmmaaDoor
open Go Go.HL Go.Proofs Go.HL.Kl Go.HL.Kl.Mc Go.HL.Kl.Mc.AskE
open FinE
set_option maxHeartbeats 4000000 in
theorem row_stepF (K : FinE) (hK : K.ok) (f : F) (hN : ∀ x ks, ks.size < f.size → K.NodeF x ks) (ih : ∀ g, g.size < f.size → K.RowF g) (at_ i1 : Nat) (hp : Part K.re f at_ i1) (i j : Nat) (hij : i ≤ j) (hjn : j ≤ K.w.length) (c : Sl Sp) (Pool : Hp) (hc : RowP K.N Pool c) (hoc : OkC K.w.length c.xs) (Z : List Caps) (kk : Nat) (hCt : Ct K.w.length (.row f i j c.xs) Z kk) (hkk : kk ≤ 800000) : HL.Fn Tryd.prog 116 [pt K.bF, .int .i64 at_, .int .i64 (f.num : Nat), .int .i64 i, .int .i64 j, .slice c.a c.xs.length c.c] (fun W => K.Env W (keys Pool)) Pool (K.PostF Pool (LF K.w f false i j c.xs)) := by
  refine fn_of Tryd.func116 rfl rfl rfl fun w0 hw => ?_
  have hnl := hK.nl
  have hNl := hK.Nl
  have hrl := hK.rl
  have hhs := hw.d2.sl
  have hple := hp.le
  have hnum := F.num_le f
  have hpl := hp.len
  refine cR fun _ hK1 => ?_; refine oA (oZ hK1 (c_seq fun _ hK2 => ?_)); refine cR fun _ hK3 => ?_; refine oM ?_
  by_cases hf0 : (f.num : Int) = 0
  ·obtain rfl : f = F.nil := F.num_nil (by omega)
   refine oS eqT (oZ hK3 ?_); refine cT (c_seq fun _ hK4 => ?_); refine cR fun _ hK5 => ?_; refine oM (oM ?_)
   by_cases hne : (i : Int) ≠ j
   ·refine oS nqT (oZ hK5 ?_); refine cT (cR fun _ hK6 => ?_); refine oA (oZ hK6 (c_ret ?_)); refine x_then_ret (x_then_ret (?_))
    exact xR rfl rfl (⟨none, 0, [], [], [], rfl, rfl, .nil, fun s hs => (by cases hs), by rw [LF_nilF, if_neg (by omega)]; rfl⟩)
   ·refine oS nqF (oZ hK5 ?_); refine cFZ hK4 (cR fun _ hK7 => ?_); refine oM ?_; refine o_bs (E := Esl) (xs := [c]) (vs := [_]) rfl rfl rfl rfl rfl (by decide) (by decide) fun b23 S23 hS23 => ?_; refine oA (oZ hK7 (c_ret ?_)); refine x_then_ret (?_); refine x_sub (Sub.refl _) (H' := S23 ++ ([] ++ Pool)) (by simpa using hzB) ?_; exact xR rfl rfl (⟨_, _, [c], S23, [], rfl, rfl, hS23, fun s hs => (by rw [List.mem_singleton.1 hs]; exact hc), by rw [LF_nilF, if_pos (by omega)]; simp [addC, moreC]⟩)
  ·obtain ⟨y, js, r, rfl⟩ : ∃ y js r, f = F.nd y js r := by cases f with | nil => exact absurd rfl hf0 | nd y a b => exact ⟨y, a, b, rfl⟩
   obtain ⟨hy, hpk, hpr⟩ := hp.head
   have hby := hK.beh _ _ _ _ _ hp
   have hp1 := hp.one
   have hbl := (List.getElem?_eq_some_iff.1 hby).1
   have hnm : (F.nd y js r).num = r.num + 1 := by simp [F.num]; try omega
   have hsz : (F.nd y js r).size = js.size + r.size + 1 := rfl
   have hlen : (ddp (LF K.w (.nd y js r) false i j c.xs)).length ≤ 1000000 := Nat.le_trans (hCt.res hij).2 (by show kk + 1 ≤ _; omega)
   have hsem : LF K.w (.nd y js r) false i j c.xs = (gatS (if r.num = 0 then [j] else ends i j) (fun e => LF1 K.w y js i e c.xs) (fun e c1 => LF K.w r false e j c1)) := row_eq hij
   rw [hsem] at hlen
   refine oS eqF (oZ hK3 ?_); refine cFZ hK2 (cR fun _ hK8 => ?_); refine oA (oZ hK8 (c_seq fun _ hK9 => ?_)); refine cR fun _ hK10 => ?_; refine oM (oA (oZ hK10 (c_block ?_))); refine c_loop6 (fun (e : Int) (ao : Option Addr) (co : Nat) (os : List (Sl Sp)) (So : Hp) (New : Hp) => (i : Int) - 1 ≤ e ∧ e ≤ j ∧ OwnS Esl 1 32 (.slice ao os.length co) os So ∧ PoolR os K.N (New ++ Pool) ∧ (r.num = 0 → (j : Int) - 1 ≤ e) ∧ os.map Sl.xs = ddp (gatS (ends (e + 1).toNat j) (fun e => LF1 K.w y js i e c.xs) (fun e c1 => LF K.w r false e j c1))) (fun (e : Int) (ao : Option Addr) (co : Nat) (os : List (Sl Sp)) (So : Hp) (New : Hp) => [(14, .int .i64 e), (13, .slice ao os.length co)]) [(0, _), (1, _), (2, _), (3, _), (4, _), (5, _), (12, _)] (fun (e : Int) (ao : Option Addr) (co : Nat) (os : List (Sl Sp)) (So : Hp) (New : Hp) => So ++ (New ++ Pool)) (fun (e : Int) (ao : Option Addr) (co : Nat) (os : List (Sl Sp)) (So : Hp) (New : Hp) => (e + 1 - i).toNat) (j : Int) none 0 [] [] [] ⟨by omega, Int.le_refl _, .nil, fun s hs => (by cases hs), fun _ => by omega, by rw [show ((j : Int) + 1).toNat = j + 1 by omega, ends_none]; rfl⟩ sbA sbA hzB ?_
   rintro e ao co os So New ⟨he1, he2, hO, hPo, he3, hG⟩
   refine c_seq fun _ hK11 => ?_; refine cR fun _ hK12 => ?_; refine oM (oM ?_)
   by_cases hei : e ≥ (i : Int)
   ·obtain ⟨e, rfl⟩ : ∃ n : Nat, e = n := ⟨e.toNat, by omega⟩
    have hen : ((e : Int) + 1).toNat = e + 1 := by omega
    refine oS geT (oZ hK12 ?_); refine cTZ hK11 (c_seq fun _ hK13 => ?_); refine c_block (c_seq fun _ hK14 => ?_); refine cR fun _ hK15 => ?_; refine oM ?_
    by_cases hn1 : ((F.nd y js r).num : Int) = 1
    ·refine oS eqT (oM ?_); refine oY (oM ?_); refine oY (oM ?_); refine oY ?_
     by_cases hejl : (e : Int) < j
     ·refine oS lsT ?_; refine oS sT (oZ hK15 ?_); refine cT ?_; refine c_exit ?_; refine x_then_exit ?_; refine x_block_pass rfl ?_; refine x_then_exit (x_then_exit (x_block_exit (xZ hK9 (cR fun _ hK16 => ?_)))); refine oM (oA (oZ hK16 (c_ret ?_))); refine ?_; refine x_sub (Sub.refl _) (H' := So ++ (New ++ Pool)) hzB ?_; exact xR rfl rfl (⟨ao, co, os, So, New, rfl, rfl, hO, hPo, by rw [hsem, hG, ends_fin (i := i) (p := r.num = 0) (fun h => by have := he3 h; omega) (fun h => by omega)]⟩)
     ·have hrj : r.num = 0 → e = j := by omega
      have hmid := row_mid (r := r) (i := i) (show i ≤ e by omega) (show e ≤ j by omega) hrj
      obtain ⟨tt, htt⟩ := hmid
      have hees : e ∈ (if r.num = 0 then [j] else ends i j) := by rw [htt]; simp
      obtain ⟨L42, k42, hC42, hk42, hsub⟩ := hCt.invR hees
      refine oS lsF ?_; refine oS sT (oZ hK15 ?_); refine cFZ hK14 (cR fun _ hK17 => ?_); refine oM (oM (oM (oM (oM ?_)))); refine o_call (hN y js (by omega) at_ _ hp1 i e (by omega) (by omega) c (New ++ Pool) (hc.mono hiA) hoc L42 k42 hC42 (by omega)) rfl rfl rfl (pkA) (fun w st => hw.out st hiA) (fun v42 S42 ⟨a42, c42, zs42, Sz42, New42, hv42, hS42, hO42, hP42, hm42⟩ => ?_); subst hv42
      subst hS42
      have hz42 : zs42.length ≤ 1000000 := by
        have h : zs42.length = (ddp (LF1 K.w y js i e c.xs)).length := by rw [← hm42, List.length_map]
        rw [h]; exact Nat.le_trans (hC42.res (show i ≤ e by omega)).2 (by show k42 ≤ _; omega)
      refine oA (oZ hK17 (cR fun _ hK18 => ?_)); refine oA (oZ hK18 (c_block ?_)); refine c_loop6 (fun (k : Nat) (a2 : Option Addr) (c2 : Nat) (ws : List (Sl Sp)) (Sw : Hp) (New2 : Hp) => k ≤ zs42.length ∧ OwnS Esl 1 32 (.slice a2 ws.length c2) ws Sw ∧ PoolR ws K.N (New2 ++ Pool) ∧ PoolR zs42 K.N (New2 ++ Pool) ∧ ws.map Sl.xs = (addC (ddp (gatS (ends (e + 1) j) (fun e => LF1 K.w y js i e c.xs) (fun e c1 => LF K.w r false e j c1))) (((ddp (LF1 K.w y js i e c.xs)).take k).flatMap (fun c1 => LF K.w r false e j c1)))) (fun (k : Nat) (a2 : Option Addr) (c2 : Nat) (ws : List (Sl Sp)) (Sw : Hp) (New2 : Hp) => [(16, .int .i64 k), (13, .slice a2 ws.length c2)]) [(0, _), (1, _), (2, _), (3, _), (4, _), (5, _), (12, _), (14, _), (15, _), (25, _), (26, _), (27, _), (30, _), (31, _), (32, _), (33, _), (34, _), (35, _), (36, _), (37, _), (38, _), (39, _), (40, _), (41, _), (42, _)] (fun (k : Nat) (a2 : Option Addr) (c2 : Nat) (ws : List (Sl Sp)) (Sw : Hp) (New2 : Hp) => Sw ++ (Sz42 ++ (New2 ++ Pool))) (fun (k : Nat) (a2 : Option Addr) (c2 : Nat) (ws : List (Sl Sp)) (Sw : Hp) (New2 : Hp) => zs42.length - k) 0 ao co os So (New42 ++ New) ⟨Nat.zero_le _, hO, by rw [List.append_assoc]; exact hPo.mono (HIn.app HIn.all), by rw [List.append_assoc]; exact hP42, by rw [hG, hen]; rfl⟩ sbA sbA (by simp only [List.append_assoc]; exact hzB) ?_
      rintro k a2 c2 ws Sw New2 ⟨hk, hOw, hPw, hPz, hmw⟩
      refine c_seq fun _ hK19 => ?_; refine cR fun _ hK20 => ?_; refine oM (oM ?_); refine oS sC ?_
      by_cases hkl : (k : Int) < zs42.length
      ·obtain ⟨z, hzk⟩ : ∃ z, zs42[k]? = some z := gE
       have hzx : (ddp (LF1 K.w y js i e c.xs))[k]? = some z.xs := by rw [← hm42, List.getElem?_map, hzk]; rfl
       have hzL : z.xs ∈ L42 := (hC42.res (show i ≤ e by omega)).1 _ (ddp_mem.1 (List.mem_of_getElem? hzx))
       obtain ⟨R66, k66, hC66, hk66⟩ := hsub z.xs hzL
       refine oS lsT (oZ hK20 ?_); refine cTZ hK19 (c_seq fun _ hK21 => ?_); refine c_block ?_; refine c_drawE (Sz42) (fun i => false) ?_; refine eP 0 rfl sM ?_; refine eP 1 rfl sM ?_; refine eP 2 rfl sM ?_; refine eP 3 rfl sN ?_; refine eP 4 rfl sF ?_; refine eP 6 rfl sM ?_; refine eP 9 rfl sM ?_; refine eP 10 rfl (step_cast (v' := .int .i64 (r.num : Nat)) (s_sub rfl rfl (by omega)) (congrArg _ (by omega))) ?_; refine eP 11 rfl sM ?_; refine eP 12 rfl sM ?_; refine eP 13 rfl sM ?_; refine eP 14 rfl sM ?_; refine eP 15 rfl (s_idx rfl rfl hO42.sl (by omega)) ?_; refine eK 16 rfl (s_ld rfl ((hO42.rdk hiA).ld k 0 hzk rfl (by decide) (by omega))) ?_; refine eO 5 rfl ?_; refine oS (s_ld rfl ((RdPK.old hw.d0 hw.a0).cel (j := 2) rfl rfl)) ?_; refine oX (eO 7 rfl ?_); refine oS (s_idx rfl rfl hhs (by omega)) ?_; refine oX (eO 8 rfl ?_); refine oS (s_ld rfl ((RdK.old hw.d2 hw.a2).ld at_ 0 hby rfl (by decide) (by omega))) ?_; refine oX (eO 17 rfl ?_); refine o_call (ih r (by omega) _ _ hpr e j (by omega) hjn z (New2 ++ Pool) (hPz z (List.mem_of_getElem? hzk)) (LF1_okc hoc (by omega) (by omega) _ (ddp_mem.1 (List.mem_of_getElem? hzx))) R66 k66 hC66 (by omega)) rfl rfl rfl (pkA) (fun w st => hw.out st hiA) (fun v66 S66 ⟨a66, c66, zs66, Sz66, New66, hv66, hS66, hO66, hP66, hm66⟩ => ?_); subst hv66
       subst hS66
       have hB67 : (addC (ws.map Sl.xs) (zs66.map Sl.xs)).length ≤ 1000000 := by
         rw [hmw, hm66, addC_step, ← take_flat hzx]
         exact Nat.le_trans (gatS_pre (A := (fun e => LF1 K.w y js i e c.xs)) (B := (fun e c1 => LF K.w r false e j c1)) htt (k + 1) []) (by rw [List.append_nil]; exact hlen)
       have hz66 : zs66.length ≤ 1000000 := by
         have h : zs66.length = (ddp (LF K.w r false e j z.xs)).length := by rw [← hm66, List.length_map]
         rw [h]; exact Nat.le_trans (hC66.res (show e ≤ j by omega)).2 (by show k66 + 1 ≤ _; omega)
       refine oX (eO 18 rfl ?_); refine o_call (allF_fn a2 c2 ws Sw hOw a66 c66 zs66 Sz66 (New66 ++ (New2 ++ Pool)) hO66 K.N (hPw.mono hiB) hP66 hNl hB67 (by omega)) rfl rfl rfl ((Pick.takeA pkA pkA)) (fun _ _ => trivial) (fun v67 S67 ⟨a67, c67, zs67, SL67, hv67, hS67, hO67, hP67, hm67⟩ => ?_); subst hv67
       subst hS67; refine oX (eO 19 rfl (oA (oX ?_))); refine e_done (by kernel_rfl) ?_; refine x_block (xZ hK21 (c_region (oM ?_))); refine oS sD (oA (o_nil ?_)); exact x_then (x_inv (k + 1, a67, c67, zs67, SL67, New66 ++ New2) ⟨by dsimp only; omega, hO67, by rw [List.append_assoc]; exact hP67, by rw [List.append_assoc]; exact hPz.mono hiB, by dsimp only; rw [hm67, hmw, hm66, addC_step, take_flat hzx]⟩ (by first | omega | (dsimp only; omega)) sbA (by simp only [List.append_assoc]; exact hzB))
      ·have hkz : k = zs42.length := by omega
       have htk : (ddp (LF1 K.w y js i e c.xs)).take k = ddp (LF1 K.w y js i e c.xs) := by rw [← hm42]; exact List.take_of_length_le (by rw [List.length_map]; omega)
       rw [htk] at hmw
       refine oS lsF (oZ hK20 ?_); refine cF ?_; refine c_exit ?_; refine x_then_exit (x_then_exit (x_block_exit (x_block (xZ hK13 (c_region (oM ?_)))))); refine oS sU (oA (o_nil ?_)); exact x_then (x_inv ((e : Int) - 1, a2, c2, ws, Sw, New2) ⟨by dsimp only; omega, by dsimp only; omega, hOw, hPw, fun h => by have := hrj h; dsimp only; omega, by dsimp only; rw [hmw, show ((e : Int) - 1 + 1).toNat = e by omega, ends_snoc (e := e) (j := j) (by omega)]; exact gatS_snoc (A := (fun e => LF1 K.w y js i e c.xs)) (B := (fun e c1 => LF K.w r false e j c1))⟩ (by dsimp only; omega) sbA hzB)
    ·have hrj : r.num = 0 → e = j := by omega
     have hmid := row_mid (r := r) (i := i) (show i ≤ e by omega) (show e ≤ j by omega) hrj
     obtain ⟨tt, htt⟩ := hmid
     have hees : e ∈ (if r.num = 0 then [j] else ends i j) := by rw [htt]; simp
     obtain ⟨L42, k42, hC42, hk42, hsub⟩ := hCt.invR hees
     refine oS eqF (oM ?_); refine oN ?_; refine oN ?_; refine oN ?_; refine oS sP (oZ hK15 ?_); refine cFZ hK14 (cR fun _ hK22 => ?_); refine oM (oM (oM (oM (oM ?_)))); refine o_call (hN y js (by omega) at_ _ hp1 i e (by omega) (by omega) c (New ++ Pool) (hc.mono hiA) hoc L42 k42 hC42 (by omega)) rfl rfl rfl (pkA) (fun w st => hw.out st hiA) (fun v42 S42 ⟨a42, c42, zs42, Sz42, New42, hv42, hS42, hO42, hP42, hm42⟩ => ?_); subst hv42
     subst hS42
     have hz42 : zs42.length ≤ 1000000 := by
       have h : zs42.length = (ddp (LF1 K.w y js i e c.xs)).length := by rw [← hm42, List.length_map]
       rw [h]; exact Nat.le_trans (hC42.res (show i ≤ e by omega)).2 (by show k42 ≤ _; omega)
     refine oA (oZ hK22 (cR fun _ hK23 => ?_)); refine oA (oZ hK23 (c_block ?_)); refine c_loop6 (fun (k : Nat) (a2 : Option Addr) (c2 : Nat) (ws : List (Sl Sp)) (Sw : Hp) (New2 : Hp) => k ≤ zs42.length ∧ OwnS Esl 1 32 (.slice a2 ws.length c2) ws Sw ∧ PoolR ws K.N (New2 ++ Pool) ∧ PoolR zs42 K.N (New2 ++ Pool) ∧ ws.map Sl.xs = (addC (ddp (gatS (ends (e + 1) j) (fun e => LF1 K.w y js i e c.xs) (fun e c1 => LF K.w r false e j c1))) (((ddp (LF1 K.w y js i e c.xs)).take k).flatMap (fun c1 => LF K.w r false e j c1)))) (fun (k : Nat) (a2 : Option Addr) (c2 : Nat) (ws : List (Sl Sp)) (Sw : Hp) (New2 : Hp) => [(16, .int .i64 k), (13, .slice a2 ws.length c2)]) [(0, _), (1, _), (2, _), (3, _), (4, _), (5, _), (12, _), (14, _), (15, _), (25, _), (26, _), (27, _), (30, _), (31, _), (32, _), (33, _), (34, _), (35, _), (36, _), (37, _), (38, _), (39, _), (40, _), (41, _), (42, _)] (fun (k : Nat) (a2 : Option Addr) (c2 : Nat) (ws : List (Sl Sp)) (Sw : Hp) (New2 : Hp) => Sw ++ (Sz42 ++ (New2 ++ Pool))) (fun (k : Nat) (a2 : Option Addr) (c2 : Nat) (ws : List (Sl Sp)) (Sw : Hp) (New2 : Hp) => zs42.length - k) 0 ao co os So (New42 ++ New) ⟨Nat.zero_le _, hO, by rw [List.append_assoc]; exact hPo.mono (HIn.app HIn.all), by rw [List.append_assoc]; exact hP42, by rw [hG, hen]; rfl⟩ sbA sbA (by simp only [List.append_assoc]; exact hzB) ?_
     rintro k a2 c2 ws Sw New2 ⟨hk, hOw, hPw, hPz, hmw⟩
     refine c_seq fun _ hK24 => ?_; refine cR fun _ hK25 => ?_; refine oM (oM ?_); refine oS sC ?_
     by_cases hkl : (k : Int) < zs42.length
     ·obtain ⟨z, hzk⟩ : ∃ z, zs42[k]? = some z := gE
      have hzx : (ddp (LF1 K.w y js i e c.xs))[k]? = some z.xs := by rw [← hm42, List.getElem?_map, hzk]; rfl
      have hzL : z.xs ∈ L42 := (hC42.res (show i ≤ e by omega)).1 _ (ddp_mem.1 (List.mem_of_getElem? hzx))
      obtain ⟨R66, k66, hC66, hk66⟩ := hsub z.xs hzL
      refine oS lsT (oZ hK25 ?_); refine cTZ hK24 (c_seq fun _ hK26 => ?_); refine c_block ?_; refine c_drawE (Sz42) (fun i => false) ?_; refine eP 0 rfl sM ?_; refine eP 1 rfl sM ?_; refine eP 2 rfl sM ?_; refine eP 3 rfl sN ?_; refine eP 4 rfl sF ?_; refine eP 6 rfl sM ?_; refine eP 9 rfl sM ?_; refine eP 10 rfl (step_cast (v' := .int .i64 (r.num : Nat)) (s_sub rfl rfl (by omega)) (congrArg _ (by omega))) ?_; refine eP 11 rfl sM ?_; refine eP 12 rfl sM ?_; refine eP 13 rfl sM ?_; refine eP 14 rfl sM ?_; refine eP 15 rfl (s_idx rfl rfl hO42.sl (by omega)) ?_; refine eK 16 rfl (s_ld rfl ((hO42.rdk hiA).ld k 0 hzk rfl (by decide) (by omega))) ?_; refine eO 5 rfl ?_; refine oS (s_ld rfl ((RdPK.old hw.d0 hw.a0).cel (j := 2) rfl rfl)) ?_; refine oX (eO 7 rfl ?_); refine oS (s_idx rfl rfl hhs (by omega)) ?_; refine oX (eO 8 rfl ?_); refine oS (s_ld rfl ((RdK.old hw.d2 hw.a2).ld at_ 0 hby rfl (by decide) (by omega))) ?_; refine oX (eO 17 rfl ?_); refine o_call (ih r (by omega) _ _ hpr e j (by omega) hjn z (New2 ++ Pool) (hPz z (List.mem_of_getElem? hzk)) (LF1_okc hoc (by omega) (by omega) _ (ddp_mem.1 (List.mem_of_getElem? hzx))) R66 k66 hC66 (by omega)) rfl rfl rfl (pkA) (fun w st => hw.out st hiA) (fun v66 S66 ⟨a66, c66, zs66, Sz66, New66, hv66, hS66, hO66, hP66, hm66⟩ => ?_); subst hv66
      subst hS66
      have hB67 : (addC (ws.map Sl.xs) (zs66.map Sl.xs)).length ≤ 1000000 := by
        rw [hmw, hm66, addC_step, ← take_flat hzx]
        exact Nat.le_trans (gatS_pre (A := (fun e => LF1 K.w y js i e c.xs)) (B := (fun e c1 => LF K.w r false e j c1)) htt (k + 1) []) (by rw [List.append_nil]; exact hlen)
      have hz66 : zs66.length ≤ 1000000 := by
        have h : zs66.length = (ddp (LF K.w r false e j z.xs)).length := by rw [← hm66, List.length_map]
        rw [h]; exact Nat.le_trans (hC66.res (show e ≤ j by omega)).2 (by show k66 + 1 ≤ _; omega)
      refine oX (eO 18 rfl ?_); refine o_call (allF_fn a2 c2 ws Sw hOw a66 c66 zs66 Sz66 (New66 ++ (New2 ++ Pool)) hO66 K.N (hPw.mono hiB) hP66 hNl hB67 (by omega)) rfl rfl rfl ((Pick.takeA pkA pkA)) (fun _ _ => trivial) (fun v67 S67 ⟨a67, c67, zs67, SL67, hv67, hS67, hO67, hP67, hm67⟩ => ?_); subst hv67
      subst hS67; refine oX (eO 19 rfl (oA (oX ?_))); refine e_done (by kernel_rfl) ?_; refine x_block (xZ hK26 (c_region (oM ?_))); refine oS sD (oA (o_nil ?_)); exact x_then (x_inv (k + 1, a67, c67, zs67, SL67, New66 ++ New2) ⟨by dsimp only; omega, hO67, by rw [List.append_assoc]; exact hP67, by rw [List.append_assoc]; exact hPz.mono hiB, by dsimp only; rw [hm67, hmw, hm66, addC_step, take_flat hzx]⟩ (by first | omega | (dsimp only; omega)) sbA (by simp only [List.append_assoc]; exact hzB))
     ·have hkz : k = zs42.length := by omega
      have htk : (ddp (LF1 K.w y js i e c.xs)).take k = ddp (LF1 K.w y js i e c.xs) := by rw [← hm42]; exact List.take_of_length_le (by rw [List.length_map]; omega)
      rw [htk] at hmw
      refine oS lsF (oZ hK25 ?_); refine cF ?_; refine c_exit ?_; refine x_then_exit (x_then_exit (x_block_exit (x_block (xZ hK13 (c_region (oM ?_)))))); refine oS sU (oA (o_nil ?_)); exact x_then (x_inv ((e : Int) - 1, a2, c2, ws, Sw, New2) ⟨by dsimp only; omega, by dsimp only; omega, hOw, hPw, fun h => by have := hrj h; dsimp only; omega, by dsimp only; rw [hmw, show ((e : Int) - 1 + 1).toNat = e by omega, ends_snoc (e := e) (j := j) (by omega)]; exact gatS_snoc (A := (fun e => LF1 K.w y js i e c.xs)) (B := (fun e c1 => LF K.w r false e j c1))⟩ (by dsimp only; omega) sbA hzB)
   ·refine oS geF (oZ hK12 ?_); refine cF ?_; refine c_exit ?_; refine x_then_exit (x_then_exit (x_block_exit (xZ hK9 (cR fun _ hK27 => ?_)))); refine oM (oA (oZ hK27 (c_ret ?_))); refine ?_; refine x_sub (Sub.refl _) (H' := So ++ (New ++ Pool)) hzB ?_; exact xR rfl rfl (⟨ao, co, os, So, New, rfl, rfl, hO, hPo, by rw [hsem, hG, ends_fin (i := i) (p := r.num = 0) (fun h => by have := he3 h; omega) (fun h => by omega)]⟩)
end Go.Proofs.YtloepfcndglmmaaDoor
