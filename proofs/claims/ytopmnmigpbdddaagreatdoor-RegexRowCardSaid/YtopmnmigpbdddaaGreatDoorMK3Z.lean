/- Mathematics of captures: spans, what groups take, the best derivation. Conditions: none. -/
import Derived.Test.YtopmnmigpbdddaaGreatDoorMT8Z
import Derived.Test.YtopmnmigpbdddaaGreatDoorHlB
import Derived.Test.YtopmnmigpbdddaaGreatDoorHTZ
import Derived.Test.YtopmnmigpbdddaaGreatDoorMT3Z
import Derived.Test.YtopmnmigpbdddaaGreatDoorHMZ
namespace Go.HL.Kl.Mc
open Go Go.HL Go.HL.Kl
structure Sp where
  fr : Int
  to : Int
  deriving DecidableEq
def Esp (s : Sp) : List Value := [.int .i64 s.fr, .int .i64 s.to]
instance : Enc Esp 2 := ⟨fun _ => rfl, fun x v hv => by
  simp only [Esp, List.mem_cons, List.not_mem_nil, or_false] at hv
  rcases hv with rfl | rfl <;> rfl⟩
def noS : Sp := ⟨-1, -1⟩
def fg1 (cs : List Sp) (x : Nd) : List Sp := if x.op = 7 then cs.set x.n.toNat noS else cs
def fgt (l : List Nd) (cs : List Sp) : List Sp := l.foldl fg1 cs
theorem fg1_len (cs : List Sp) (x : Nd) : (fg1 cs x).length = cs.length := by unfold fg1; split <;> simp
theorem fgt_len : ∀ (l : List Nd) (cs : List Sp), (fgt l cs).length = cs.length
  | [], cs => rfl
  | x :: l, cs => by
    show (fgt l (fg1 cs x)).length = _
    rw [fgt_len l, fg1_len]
def fgtTo (re : List Nd) (a j : Nat) (cs : List Sp) : List Sp := fgt ((re.drop a).take (j - a)) cs
theorem fgtTo_start {re : List Nd} {a : Nat} {cs : List Sp} : fgtTo re a a cs = cs := by simp [fgtTo, fgt]
theorem fgtTo_len {re : List Nd} {a j : Nat} {cs : List Sp} : (fgtTo re a j cs).length = cs.length := fgt_len _ _
theorem fgtTo_step {re : List Nd} {a j : Nat} {cs : List Sp} {x : Nd} (h : re[j]? = some x) (ha : a ≤ j) : fgtTo re a (j + 1) cs = fg1 (fgtTo re a j cs) x := by
  unfold fgtTo
  have e : (re.drop a).take (j + 1 - a) = (re.drop a).take (j - a) ++ [x] := by
    rw [show j + 1 - a = (j - a) + 1 by omega, List.take_add_one, List.getElem?_drop, show a + (j - a) = j by omega, h]; rfl
  rw [e]; simp [fgt, List.foldl_append]
theorem fgtTo_part {re : List Nd} {f : F} {a e : Nat} {cs : List Sp} (h : Part re f a e) : fgtTo re a e cs = fgt f.flat cs := by
  unfold fgtTo
  rw [h.flat, show e - a = f.flat.length by have := h.len; rw [F.flat_size]; omega, List.take_left' rfl]
open Classical in
noncomputable def grt (Q : Nat → Prop) (p q : Nat) : Nat := if h : ∃ m, Grt Q p q m then h.choose else 0
theorem Grt.uniq {Q : Nat → Prop} {p q m n : Nat} (h : Grt Q p q m) (h' : Grt Q p q n) : m = n := by
  rcases Nat.lt_trichotomy m n with e | e | e
  · exact absurd h'.2.2.1 (h.2.2.2 n e h'.2.1)
  · exact e
  · exact absurd h.2.2.1 (h'.2.2.2 m e h.2.1)
theorem grt_eq {Q : Nat → Prop} {p q m : Nat} (h : Grt Q p q m) : grt Q p q = m := by
  unfold grt
  have hx : ∃ m, Grt Q p q m := ⟨m, h⟩
  rw [dif_pos hx]
  exact hx.choose_spec.uniq h
theorem grt_ex {Q : Nat → Prop} {p q m : Nat} (h1 : p ≤ m) (h2 : m ≤ q) (h : Q m) : ∃ n, Grt Q p q n := by
  have key : ∀ k, k ≤ q - m → (∀ n, q - k < n → n ≤ q → ¬ Q n) → ∃ n, Grt Q p q n := by
    intro k hk
    induction hj : (q - m - k) generalizing k with
    | zero => intro hn; exact ⟨m, h1, h2, h, fun n a b => hn n (by omega) b⟩
    | succ j ih =>
      intro hn
      by_cases hq : Q (q - k)
      · exact ⟨q - k, by omega, by omega, hq, hn⟩
      · refine ih (k + 1) (by omega) (by omega) fun n a b => ?_
        by_cases e : n = q - k
        · subst e; exact hq
        · exact hn n (by omega) b
  exact key 0 (by omega) fun n a b => by omega
attribute [irreducible] grt
noncomputable def reps (x : Nd) (D : Nat → Nat → Prop) (B : Nat → Nat → List Sp → List Sp) (q : Nat) : Nat → Nat → Nat → List Sp → List Sp
  | 0, _, _, cs => cs
  | f + 1, r, p, cs => if dQ (∃ m, Grt (RQ x D r p q) p q m) = true then reps x D B q f (nxtR x r) (grt (RQ x D r p q) p q) (B p (grt (RQ x D r p q) p q) cs) else cs
theorem reps_go {x : Nd} {D : Nat → Nat → Prop} {B : Nat → Nat → List Sp → List Sp} {q f r p m : Nat} {cs : List Sp} (h : Grt (RQ x D r p q) p q m) : reps x D B q (f + 1) r p cs = reps x D B q f (nxtR x r) m (B p m cs) := by
  rw [reps, if_pos (dQ_t ⟨m, h⟩), grt_eq h]
theorem reps_end {x : Nd} {D : Nat → Nat → Prop} {B : Nat → Nat → List Sp → List Sp} {q f r p : Nat} {cs : List Sp} (h : ∀ m, p ≤ m → m ≤ q → ¬ RQ x D r p q m) : reps x D B q f r p cs = cs := by
  cases f with
  | zero => rfl
  | succ f => rw [reps, if_neg]; rw [dQ_f (fun ⟨m, hm⟩ => h m hm.1 hm.2.1 hm.2.2.1)]; simp
noncomputable def bst (w : List UInt8) : F → Bool → Nat → Nat → List Sp → List Sp
  | .nil, _, _, _, cs => cs
  | .nd x ks r, m, p, q, cs =>
    let one : Nat → Nat → List Sp → List Sp := fun p q cs =>
      if x.op = 7 then (bst w ks false p q (fgt ks.flat cs)).set x.n.toNat ⟨p, q⟩
      else if x.op = 5 then bst w ks true p q cs
      else if x.op = 4 then bst w ks false p q cs
      else if x.op = 6 then reps x (der w ks false) (fun p q cs => bst w ks false p q (fgt ks.flat cs)) q ((q - p) + max x.mn.toNat 1 + 1) 0 p cs
      else cs
    if m = true then (if dQ (der1 w x ks p q) = true then one p q cs else bst w r true p q cs)
    else bst w r false (grt (fun n => der1 w x ks p n ∧ der w r false n q) p q) q (one p (grt (fun n => der1 w x ks p n ∧ der w r false n q) p q) cs)
noncomputable def bst1 (w : List UInt8) (x : Nd) (ks : F) (p q : Nat) (cs : List Sp) : List Sp :=
  if x.op = 7 then (bst w ks false p q (fgt ks.flat cs)).set x.n.toNat ⟨p, q⟩
  else if x.op = 5 then bst w ks true p q cs
  else if x.op = 4 then bst w ks false p q cs
  else if x.op = 6 then reps x (der w ks false) (fun p q cs => bst w ks false p q (fgt ks.flat cs)) q ((q - p) + max x.mn.toNat 1 + 1) 0 p cs
  else cs
theorem bst_alt {w : List UInt8} {x : Nd} {ks r : F} {p q : Nat} {cs : List Sp} : bst w (.nd x ks r) true p q cs = if dQ (der1 w x ks p q) = true then bst1 w x ks p q cs else bst w r true p q cs := by
  conv => lhs; rw [bst]
  rfl
theorem bst_cat {w : List UInt8} {x : Nd} {ks r : F} {p q n : Nat} {cs : List Sp} (h : Grt (fun n => der1 w x ks p n ∧ der w r false n q) p q n) : bst w (.nd x ks r) false p q cs = bst w r false n q (bst1 w x ks p n cs) := by
  conv => lhs; rw [bst]
  rw [← grt_eq h]
  rfl
theorem bst_nil {w : List UInt8} {m : Bool} {p q : Nat} {cs : List Sp} : bst w .nil m p q cs = cs := by rw [bst]
theorem bst_one {w : List UInt8} {x : Nd} {ks : F} {p q : Nat} {cs : List Sp} (h : der1 w x ks p q) : bst w (.nd x ks .nil) false p q cs = bst1 w x ks p q cs := by
  have hg : Grt (fun n => der1 w x ks p n ∧ der w .nil false n q) p q q := ⟨der1_up _ _ h, Nat.le_refl _, ⟨h, der_nil.2 rfl⟩, fun n a b => by omega⟩
  rw [bst_cat hg, bst_nil]
theorem bst1_7 {w : List UInt8} {x : Nd} {ks : F} {p q : Nat} {cs : List Sp} (h : x.op = 7) : bst1 w x ks p q cs = (bst w ks false p q (fgt ks.flat cs)).set x.n.toNat ⟨p, q⟩ := by rw [bst1, if_pos h]
theorem bst1_5 {w : List UInt8} {x : Nd} {ks : F} {p q : Nat} {cs : List Sp} (h : x.op = 5) : bst1 w x ks p q cs = bst w ks true p q cs := by rw [bst1, if_neg (by omega), if_pos h]
theorem bst1_4 {w : List UInt8} {x : Nd} {ks : F} {p q : Nat} {cs : List Sp} (h : x.op = 4) : bst1 w x ks p q cs = bst w ks false p q cs := by rw [bst1, if_neg (by omega), if_neg (by omega), if_pos h]
theorem bst1_6 {w : List UInt8} {x : Nd} {ks : F} {p q : Nat} {cs : List Sp} (h : x.op = 6) : bst1 w x ks p q cs = reps x (der w ks false) (fun p q cs => bst w ks false p q (fgt ks.flat cs)) q ((q - p) + max x.mn.toNat 1 + 1) 0 p cs := by rw [bst1, if_neg (by omega), if_neg (by omega), if_neg (by omega), if_pos h]
theorem bst1_0 {w : List UInt8} {x : Nd} {ks : F} {p q : Nat} {cs : List Sp} (h : x.op ≤ 3) : bst1 w x ks p q cs = cs := by rw [bst1, if_neg (by omega), if_neg (by omega), if_neg (by omega), if_neg (by omega)]
theorem reps_len {x : Nd} {D : Nat → Nat → Prop} {B : Nat → Nat → List Sp → List Sp} {q : Nat} (hB : ∀ p q cs, (B p q cs).length = cs.length) : ∀ f r p cs, (reps x D B q f r p cs).length = cs.length
  | 0, r, p, cs => rfl
  | f + 1, r, p, cs => by
    rw [reps]; split
    · rw [reps_len hB f, hB]
    · rfl
theorem bst_len {w : List UInt8} : ∀ (f : F) (m : Bool) (p q : Nat) (cs : List Sp), (bst w f m p q cs).length = cs.length
  | .nil, m, p, q, cs => by rw [bst_nil]
  | .nd x ks r, m, p, q, cs => by
    have h1 : ∀ p q cs, (bst1 w x ks p q cs).length = cs.length := by
      intro p q cs
      unfold bst1
      split
      · rw [List.length_set, bst_len ks, fgt_len]
      split
      · rw [bst_len ks]
      split
      · rw [bst_len ks]
      split
      · rw [reps_len fun p q cs => by rw [bst_len ks, fgt_len]]
      · rfl
    cases m with
    | true =>
      rw [bst_alt]; split
      · exact h1 _ _ _
      · exact bst_len r _ _ _ _
    | false =>
      conv => lhs; rw [bst]
      show (bst w r false _ q (bst1 w x ks p _ cs)).length = _
      rw [bst_len r, h1]
theorem bst1_len {w : List UInt8} {x : Nd} {ks : F} {p q : Nat} {cs : List Sp} : (bst1 w x ks p q cs).length = cs.length := by
  have := bst_len (w := w) (.nd x ks .nil) true p q cs
  unfold bst1
  split
  · rw [List.length_set, bst_len ks, fgt_len]
  split
  · rw [bst_len ks]
  split
  · rw [bst_len ks]
  split
  · rw [reps_len fun p q cs => by rw [bst_len ks, fgt_len]]
  · rfl
def gcn (l : List Nd) : Nat := l.countP (fun x => decide (x.op = 7))
theorem gcn_take {re : List Nd} {j : Nat} {x : Nd} (h : re[j]? = some x) : gcn (re.take (j + 1)) = gcn (re.take j) + (if x.op = 7 then 1 else 0) := by
  rw [List.take_add_one, h]
  simp [gcn, List.countP_append, List.countP_cons]
theorem gcn_mono {re : List Nd} {i j : Nat} (h : i ≤ j) : gcn (re.take i) ≤ gcn (re.take j) := by
  unfold gcn
  exact List.Sublist.countP_le (List.take_sublist_take_left h)
def Numd (re : List Nd) (b i i' b' : Nat) : Prop := b' + gcn (re.take i) = b + gcn (re.take i') ∧ ∀ j x, i ≤ j → j < i' → re[j]? = some x → x.op = 7 → x.n + (gcn (re.take i) : Nat) = (b : Int) + (gcn (re.take j) : Nat) + 1
theorem kidsN_num {re : List Nd} {step : Nat → List Bool → Option (Nat × List Bool)} (hs : ∀ i en i' en', step i en = some (i', en') → i ≤ i' ∧ Numd re en.length i i' en'.length) :
    ∀ k i en i' en', kidsN step k i en = some (i', en') → i ≤ i' ∧ Numd re en.length i i' en'.length := by
  intro k
  induction k with
  | zero =>
    intro i en i' en' h
    simp only [kidsN, Option.some.injEq, Prod.mk.injEq] at h
    obtain ⟨rfl, rfl⟩ := h
    exact ⟨Nat.le_refl _, rfl, fun j x h1 h2 => by omega⟩
  | succ k ih =>
    intro i en i' en' h
    simp only [kidsN] at h
    split at h
    · cases h
    · rename_i j en1 hst
      obtain ⟨h1, h2, h3⟩ := hs _ _ _ _ hst
      obtain ⟨h4, h5, h6⟩ := ih _ _ _ _ h
      refine ⟨by omega, by omega, fun t x ht1 ht2 hx h7 => ?_⟩
      rcases Nat.lt_or_ge t j with e | e
      · exact h3 t x ht1 e hx h7
      · have := h6 t x e ht2 hx h7; omega
theorem shN_num {re : List Nd} : ∀ f i en g i' en', shN re f i en g = some (i', en') → i ≤ i' ∧ Numd re en.length i i' en'.length := by
  intro f
  induction f with
  | zero => intro i en g i' en' h; cases h
  | succ f ih =>
    intro i en g i' en' h
    simp only [shN] at h
    split at h
    · cases h
    · rename_i x hx
      split at h
      · split at h
        · cases h
        · rename_i en1 g1 hg
          split at h
          · cases h
          · rename_i i2 en2 hk
            simp only [Option.some.injEq, Prod.mk.injEq] at h
            obtain ⟨rfl, rfl⟩ := h
            obtain ⟨h1, h2, h3⟩ := kidsN_num (fun i en i' en' h => ih i en g1 i' en' h) _ _ _ _ _ hk
            have ht := gcn_take hx
            have he : en1.length = en.length + (if x.op = 7 then 1 else 0) ∧ (x.op = 7 → x.n = en.length + 1) := by
              unfold gate at hg
              split at hg
              · split at hg
                · cases hg; rename_i h8 _; exact ⟨by rw [if_neg (by omega)]; rfl, fun h => by omega⟩
                · cases hg
              split at hg
              · split at hg
                · cases hg; rename_i _ h7 hc; exact ⟨by rw [if_pos h7]; simp, fun _ => hc.1⟩
                · cases hg
              · cases hg; rename_i _ h7; exact ⟨by rw [if_neg h7]; rfl, fun h => absurd h h7⟩
            have hl : (if x.op = 7 then en2.set (x.n.toNat - 1) true else en2).length = en2.length := by split <;> simp
            refine ⟨by omega, by rw [hl]; omega, fun j y hj1 hj2 hy h7 => ?_⟩
            by_cases e : j = i
            · subst e
              rw [hx] at hy; cases hy
              have := he.2 h7; omega
            · have := h3 j y (by omega) hj2 hy h7
              omega
      · cases h
theorem grp_n {re : List Nd} (h : shapedB re = true) {j : Nat} {x : Nd} (hx : re[j]? = some x) (h7 : x.op = 7) : x.n = (gcn (re.take j) : Nat) + 1 ∧ x.n ≤ gcn re := by
  obtain ⟨⟨en, hsh⟩, _⟩ := shapedB_iff.1 h
  obtain ⟨_, h1, h2⟩ := shN_num _ _ _ _ _ _ hsh
  have hlt := (List.getElem?_eq_some_iff.1 hx).1
  have h3 := h2 j x (Nat.zero_le _) hlt hx h7
  have h4 := gcn_take hx
  have h5 : gcn (re.take (j + 1)) ≤ gcn re := by
    have := gcn_mono (re := re) (i := j + 1) (j := re.length) hlt
    rwa [List.take_length] at this
  simp [gcn] at h3
  rw [if_pos h7] at h4
  refine ⟨by simp only [gcn]; omega, ?_⟩
  simp only [gcn] at h4 h5 ⊢
  omega
end Go.HL.Kl.Mc
namespace Go.HL.Kl.Mc
open Go Go.HL Go.HL.Kl
abbrev Caps := List Sp
def em1 (c : Caps) (x : Nd) : Caps := if x.op = 7 then c.set (x.n.toNat - 1) noS else c
def emp (l : List Nd) (c : Caps) : Caps := l.foldl em1 c
theorem em1_len (c : Caps) (x : Nd) : (em1 c x).length = c.length := by unfold em1; split <;> simp
theorem emp_len : ∀ (l : List Nd) (c : Caps), (emp l c).length = c.length
  | [], c => rfl
  | x :: l, c => by show (emp l (em1 c x)).length = _; rw [emp_len l, em1_len]
def sameAt (w : List UInt8) (x : Sp) (i j : Nat) : Bool := decide (0 ≤ x.fr ∧ x.to - x.fr = (j : Int) - i) && decide ((w.drop x.fr.toNat).take (j - i) = (w.drop i).take (j - i))
def down (p : Nat) : Nat → List Nat
  | 0 => []
  | k + 1 => (p + k) :: down p k
def ends (p q : Nat) : List Nat := down p (q + 1 - p)
theorem mem_down {p e : Nat} : ∀ {k : Nat}, e ∈ down p k ↔ p ≤ e ∧ e < p + k
  | 0 => by simp only [down, List.not_mem_nil, false_iff]; omega
  | k + 1 => by rw [down, List.mem_cons, mem_down]; omega
theorem mem_ends {p q e : Nat} : e ∈ ends p q ↔ p ≤ e ∧ e ≤ q := by rw [ends, mem_down]; omega
def RL (x : Nd) (B : Nat → Nat → Caps → List Caps) (q : Nat) : Nat → Nat → Nat → Caps → List Caps
  | 0, _, _, _ => []
  | f + 1, had, p, c =>
    (if x.mx = -1 ∨ (had : Int) < x.mx then (ends p q).flatMap (fun e => if e = p ∧ x.mn ≤ (had : Int) ∧ 0 < had then [] else (B p e c).flatMap (fun c1 => RL x B q f (had + 1) e c1)) else []) ++
    (if p = q ∧ x.mn ≤ (had : Int) then [c] else [])
def fuelR (x : Nd) (q had p : Nat) : Nat := (q - p) + (max x.mn.toNat 1 - had) + 1
def RLf (x : Nd) (B : Nat → Nat → Caps → List Caps) (q had p : Nat) (c : Caps) : List Caps := RL x B q (fuelR x q had p) had p c
theorem flatMap_congr' {α β : Type} {f g : α → List β} : ∀ {l : List α}, (∀ a ∈ l, f a = g a) → l.flatMap f = l.flatMap g
  | [], _ => rfl
  | a :: l, h => by rw [List.flatMap_cons, List.flatMap_cons, h a List.mem_cons_self, flatMap_congr' fun b hb => h b (List.mem_cons_of_mem _ hb)]
theorem RL_fuel {x : Nd} {B : Nat → Nat → Caps → List Caps} {q : Nat} : ∀ (f f' had p : Nat) (c : Caps), fuelR x q had p ≤ f → fuelR x q had p ≤ f' → RL x B q f had p c = RL x B q f' had p c
  | 0, _, had, p, c, h, _ => by unfold fuelR at h; omega
  | f + 1, 0, had, p, c, _, h => by unfold fuelR at h; omega
  | f + 1, f' + 1, had, p, c, h, h' => by
    rw [RL, RL]
    congr 1
    split
    · refine flatMap_congr' fun e he => ?_
      have he := mem_ends.1 he
      split
      · rfl
      · rename_i hn
        refine flatMap_congr' fun c1 _ => RL_fuel f f' (had + 1) e c1 ?_ ?_ <;> (unfold fuelR at h h' ⊢; omega)
    · rfl
theorem RLf_eq {x : Nd} {B : Nat → Nat → Caps → List Caps} {q had p : Nat} {c : Caps} : RLf x B q had p c =
    (if x.mx = -1 ∨ (had : Int) < x.mx then (ends p q).flatMap (fun e => if e = p ∧ x.mn ≤ (had : Int) ∧ 0 < had then [] else (B p e c).flatMap (fun c1 => RLf x B q (had + 1) e c1)) else []) ++
    (if p = q ∧ x.mn ≤ (had : Int) then [c] else []) := by
  have e0 : RLf x B q had p c = RL x B q (fuelR x q had p + 1) had p c := RL_fuel _ _ _ _ _ (Nat.le_refl _) (by omega)
  rw [e0, RL]
  congr 1
  split
  · refine flatMap_congr' fun e he => ?_
    have he := mem_ends.1 he
    split
    · rfl
    · exact flatMap_congr' fun c1 _ => RL_fuel _ _ _ _ _ (by unfold fuelR; omega) (Nat.le_refl _)
  · rfl
theorem RLf_cap {x : Nd} {B : Nat → Nat → Caps → List Caps} {q : Nat} (hx : x.mx = -1) : ∀ (n had had' p : Nat) (c : Caps), q + 1 - p ≤ n → max x.mn.toNat 1 ≤ had → max x.mn.toNat 1 ≤ had' → RLf x B q had p c = RLf x B q had' p c := by
  intro n
  induction n with
  | zero =>
    intro had had' p c hn h1 h2
    rw [RLf_eq, RLf_eq]
    have e0 : ends p q = [] := by rw [ends, show q + 1 - p = 0 by omega]; rfl
    rw [e0, if_neg (show ¬ (p = q ∧ x.mn ≤ (had : Int)) by omega), if_neg (show ¬ (p = q ∧ x.mn ≤ (had' : Int)) by omega)]
    simp
  | succ n ih =>
    intro had had' p c hn h1 h2
    rw [RLf_eq, RLf_eq, if_pos (show x.mx = -1 ∨ (had : Int) < x.mx from .inl hx), if_pos (show x.mx = -1 ∨ (had' : Int) < x.mx from .inl hx)]
    congr 1
    · refine flatMap_congr' fun e he => ?_
      have he := mem_ends.1 he
      by_cases ep : e = p
      · rw [if_pos (show e = p ∧ x.mn ≤ (had : Int) ∧ 0 < had from ⟨ep, by omega, by omega⟩), if_pos (show e = p ∧ x.mn ≤ (had' : Int) ∧ 0 < had' from ⟨ep, by omega, by omega⟩)]
      · rw [if_neg (fun h => ep h.1), if_neg (fun h => ep h.1)]
        exact flatMap_congr' fun c1 _ => ih _ _ e c1 (by omega) (by omega) (by omega)
    · have e1 : (p = q ∧ x.mn ≤ (had : Int)) = (p = q ∧ x.mn ≤ (had' : Int)) := propext ⟨fun h => ⟨h.1, by omega⟩, fun h => ⟨h.1, by omega⟩⟩
      simp only [e1]
def LF (w : List UInt8) : F → Bool → Nat → Nat → Caps → List Caps
  | .nil, md, i, j, c => if md = false ∧ i = j then [c] else []
  | .nd x ks r, md, i, j, c =>
    let one : Nat → Nat → Caps → List Caps := fun i j c =>
      if x.op = 1 then (if j = i + 1 ∧ (∃ b, w[i]? = some b ∧ x.set.getLsbD b.toNat = true) then [c] else [])
      else if x.op = 2 then (if i = 0 ∧ j = 0 then [c] else [])
      else if x.op = 3 then (if i = w.length ∧ j = w.length then [c] else [])
      else if x.op = 8 then (if sameAt w (c.getD (x.n.toNat - 1) noS) i j = true then [c] else [])
      else if x.op = 5 then LF w ks true i j c
      else if x.op = 6 then RLf x (fun p e c => LF w ks false p e (emp ks.flat c)) j 0 i c
      else if x.op = 7 then (LF w ks false i j (emp ks.flat c)).map (fun d => d.set (x.n.toNat - 1) ⟨i, j⟩)
      else LF w ks false i j c
    if md = true then one i j c ++ LF w r true i j c
    else (ends i j).flatMap (fun e => (one i e c).flatMap (fun c1 => LF w r false e j c1))
def moreC (l : List Caps) (c : Caps) : List Caps := if c ∈ l then l else l ++ [c]
def addC (l m : List Caps) : List Caps := m.foldl moreC l
def Sim (R : Nat → Prop) (c c' : Caps) : Prop := c.length = c'.length ∧ ∀ n, R n → c[n]? = c'[n]?
theorem Sim.set {R : Nat → Prop} {c c' : Caps} (h : Sim R c c') (n : Nat) (s : Sp) : Sim R (c.set n s) (c'.set n s) := by
  refine ⟨by simp [h.1], fun m hm => ?_⟩
  by_cases e : n = m
  · subst e
    by_cases hl : n < c.length
    · rw [List.getElem?_set_self hl, List.getElem?_set_self (by rw [← h.1]; exact hl)]
    · rw [List.getElem?_eq_none (by simp; omega), List.getElem?_eq_none (by simp [← h.1]; omega)]
  · rw [List.getElem?_set_ne e, List.getElem?_set_ne e, h.2 m hm]
theorem Sim.emp {R : Nat → Prop} : ∀ (l : List Nd) {c c' : Caps}, Sim R c c' → Sim R (emp l c) (emp l c')
  | [], c, c', h => h
  | x :: l, c, c', h => by
    show Sim R (Mc.emp l (em1 c x)) (Mc.emp l (em1 c' x))
    refine Sim.emp l ?_
    unfold em1
    split
    · exact h.set _ _
    · exact h
inductive SimL (R : Nat → Prop) : List Caps → List Caps → Prop
  | nil : SimL R [] []
  | cons {c c' : Caps} {l l' : List Caps} (h : Sim R c c') (t : SimL R l l') : SimL R (c :: l) (c' :: l')
theorem SimL.app {R : Nat → Prop} {l l' m m' : List Caps} (h : SimL R l l') (h' : SimL R m m') : SimL R (l ++ m) (l' ++ m') := by
  induction h with
  | nil => exact h'
  | cons a _ ih => exact .cons a ih
theorem SimL.flat {R : Nat → Prop} {f f' : Caps → List Caps} (hf : ∀ c c', Sim R c c' → SimL R (f c) (f' c')) {l l' : List Caps} (h : SimL R l l') : SimL R (l.flatMap f) (l'.flatMap f') := by
  induction h with
  | nil => exact .nil
  | cons a _ ih => rw [List.flatMap_cons, List.flatMap_cons]; exact (hf _ _ a).app ih
theorem SimL.flat1 {R : Nat → Prop} {α : Type} {f f' : α → List Caps} : ∀ (l : List α), (∀ a ∈ l, SimL R (f a) (f' a)) → SimL R (l.flatMap f) (l.flatMap f')
  | [], _ => .nil
  | a :: l, h => by rw [List.flatMap_cons, List.flatMap_cons]; exact (h a List.mem_cons_self).app (SimL.flat1 l fun b hb => h b (List.mem_cons_of_mem _ hb))
theorem SimL.map {R : Nat → Prop} {f : Caps → Caps} (hf : ∀ c c', Sim R c c' → Sim R (f c) (f c')) {l l' : List Caps} (h : SimL R l l') : SimL R (l.map f) (l'.map f) := by
  induction h with
  | nil => exact .nil
  | cons a _ ih => exact .cons (hf _ _ a) ih
theorem SimL.ite {R : Nat → Prop} {p : Prop} [Decidable p] {l l' : List Caps} (h : SimL R l l') : SimL R (if p then l else []) (if p then l' else []) := by
  split
  · exact h
  · exact .nil
theorem RLf_sim {R : Nat → Prop} {x : Nd} {B : Nat → Nat → Caps → List Caps} {q : Nat} (hB : ∀ p e c c', Sim R c c' → SimL R (B p e c) (B p e c')) : ∀ (f had p : Nat) (c c' : Caps), Sim R c c' → SimL R (RL x B q f had p c) (RL x B q f had p c')
  | 0, _, _, _, _, _ => .nil
  | f + 1, had, p, c, c', h => by
    rw [RL, RL]
    refine SimL.app (SimL.ite ?_) (SimL.ite (.cons h .nil))
    refine SimL.flat1 _ fun e _ => ?_
    split
    · exact .nil
    · exact (hB _ _ _ _ h).flat fun c1 c1' h1 => RLf_sim hB f _ _ _ _ h1
def refd (l : List Nd) (n : Nat) : Prop := ∃ x ∈ l, x.op = 8 ∧ x.n.toNat - 1 = n
theorem LF_sim {w : List UInt8} {R : Nat → Prop} : ∀ (f : F) (md : Bool) (i j : Nat) (c c' : Caps), (∀ n, refd f.flat n → R n) → Sim R c c' → SimL R (LF w f md i j c) (LF w f md i j c')
  | .nil, md, i, j, c, c', _, h => by rw [LF, LF]; exact SimL.ite (.cons h .nil)
  | .nd x ks r, md, i, j, c, c', hR, h => by
    have hks : ∀ n, refd ks.flat n → R n := fun n ⟨y, hy, h1, h2⟩ => hR n ⟨y, by simp [F.flat, hy], h1, h2⟩
    have hr : ∀ n, refd r.flat n → R n := fun n ⟨y, hy, h1, h2⟩ => hR n ⟨y, by simp [F.flat, hy], h1, h2⟩
    have hone : ∀ i j c c', Sim R c c' → SimL R
      (if x.op = 1 then (if j = i + 1 ∧ (∃ b, w[i]? = some b ∧ x.set.getLsbD b.toNat = true) then [c] else [])
      else if x.op = 2 then (if i = 0 ∧ j = 0 then [c] else [])
      else if x.op = 3 then (if i = w.length ∧ j = w.length then [c] else [])
      else if x.op = 8 then (if sameAt w (c.getD (x.n.toNat - 1) noS) i j = true then [c] else [])
      else if x.op = 5 then LF w ks true i j c
      else if x.op = 6 then RLf x (fun p e c => LF w ks false p e (emp ks.flat c)) j 0 i c
      else if x.op = 7 then (LF w ks false i j (emp ks.flat c)).map (fun d => d.set (x.n.toNat - 1) ⟨i, j⟩)
      else LF w ks false i j c)
      (if x.op = 1 then (if j = i + 1 ∧ (∃ b, w[i]? = some b ∧ x.set.getLsbD b.toNat = true) then [c'] else [])
      else if x.op = 2 then (if i = 0 ∧ j = 0 then [c'] else [])
      else if x.op = 3 then (if i = w.length ∧ j = w.length then [c'] else [])
      else if x.op = 8 then (if sameAt w (c'.getD (x.n.toNat - 1) noS) i j = true then [c'] else [])
      else if x.op = 5 then LF w ks true i j c'
      else if x.op = 6 then RLf x (fun p e c => LF w ks false p e (emp ks.flat c)) j 0 i c'
      else if x.op = 7 then (LF w ks false i j (emp ks.flat c')).map (fun d => d.set (x.n.toNat - 1) ⟨i, j⟩)
      else LF w ks false i j c') := by
      intro i j c c' h
      split
      · exact SimL.ite (.cons h .nil)
      split
      · exact SimL.ite (.cons h .nil)
      split
      · exact SimL.ite (.cons h .nil)
      split
      · rename_i h8
        have e : c.getD (x.n.toNat - 1) noS = c'.getD (x.n.toNat - 1) noS := by
          rw [List.getD_eq_getElem?_getD, List.getD_eq_getElem?_getD, h.2 _ (hR _ ⟨x, by simp [F.flat], h8, rfl⟩)]
        rw [e]; exact SimL.ite (.cons h .nil)
      split
      · exact LF_sim ks true i j c c' hks h
      split
      · exact RLf_sim (fun p e c c' h => LF_sim ks false p e _ _ hks (h.emp _)) _ _ _ _ _ h
      split
      · exact (LF_sim ks false i j _ _ hks (h.emp _)).map fun c c' h => h.set _ _
      · exact LF_sim ks false i j c c' hks h
    rw [LF, LF]
    cases md with
    | true =>
      simp only [if_true]
      exact (hone i j c c' h).app (LF_sim r true i j c c' hr h)
    | false =>
      simp only [Bool.false_eq_true, if_false]
      exact SimL.flat1 _ fun e _ => (hone i e c c' h).flat fun c1 c1' h1 => LF_sim r false e j _ _ hr h1
end Go.HL.Kl.Mc
namespace Go.HL
open Go
theorem RdP.lt {w : World} {b off : Nat} {cs : List Value} (h : RdP w b off cs) (hc : cs ≠ []) : b < w.heap.size := by
  obtain ⟨u, hu⟩ : ∃ u, cs[0]? = some u := by
    cases cs with
    | nil => exact absurd rfl hc
    | cons a l => exact ⟨a, rfl⟩
  have h2 := h.get 0 u hu
  rcases Nat.lt_or_ge b w.heap.size with h' | h'
  · exact h'
  · simp [World.cell?, oblk, Array.getElem?_eq_none h'] at h2
theorem St.notin {w0 w : World} {M : List Nat} {H S : Hp} {b off : Nat} {cs : List Value} (st : St w0 w M H) (hin : HIn S H) (hr : RdP w0 b off cs) (hc : cs ≠ []) (hM : b ∉ M) : b ∉ keys S := by
  intro hm
  obtain ⟨⟨b', o⟩, hmS, hb⟩ := List.mem_map.1 hm
  have hb : b' = b := hb
  subst hb
  have := hr.lt hc
  rcases st.own _ _ (hin _ hmS) with h1 | h1
  · exact hM h1
  · omega
theorem hin_cons {b : Nat} {o : Obj} {S H : Hp} (h : (b, o) ∈ H) (hs : HIn S H) : HIn ((b, o) :: S) H := fun p hp => by
  rcases List.mem_cons.1 hp with rfl | hp
  · exact h
  · exact hs p hp
theorem hin_nil {H : Hp} : HIn [] H := fun _ h => by cases h
end Go.HL
namespace Go.HL.Kl.Mc
open Go Go.HL Go.HL.Kl AskE
theorem Env.sub {w0 w : World} {K : AskE} {M : List Nat} {H S : Hp} (h : Env w0 K M) (st : St w0 w M H) (hin : HIn S H) : Env w K (keys S) :=
  ⟨(RdPK.old (κ := ⟨0, [], w0, M⟩) (H := H) h.p1 h.n1).out w st, (RdPK.old (κ := ⟨0, [], w0, M⟩) (H := H) h.p2 h.n2).out w st, (RdPK.old (κ := ⟨0, [], w0, M⟩) (H := H) h.p3 h.n3).out w st, (RdPK.old (κ := ⟨0, [], w0, M⟩) (H := H) h.p4 h.n4).out w st,
    (RdK.old (κ := ⟨0, [], w0, M⟩) (H := H) h.d1 h.a1).out w st, (RdK.old (κ := ⟨0, [], w0, M⟩) (H := H) h.d2 h.a2).out w st, (RdK.old (κ := ⟨0, [], w0, M⟩) (H := H) h.d3 h.a3).out w st,
    st.notin hin h.p1 (by simp) h.n1, st.notin hin h.p2 (by simp) h.n2, st.notin hin h.p3 (by simp) h.n3, st.notin hin h.p4 (by simp) h.n4, st.apart_M hin h.d1 h.a1 (by decide), st.apart_M hin h.d2 h.a2 (by decide), by
      have e : K.ven = .slice (some ⟨K.bE, 0, none⟩) K.l.length K.re.length := by
        obtain ⟨a, c, e, _⟩ := h.d3.sl.out
        simp only [ven, Value.slice.injEq] at e ⊢
        exact ⟨trivial, e.2.1, trivial⟩
      have hd := h.d3
      have ha := h.a3
      rw [e] at hd ha ⊢
      exact st.apart_M hin hd ha (by decide)⟩
theorem St.ne {w0 w : World} {M : List Nat} {H S R : Hp} {b : Nat} {o : Obj} (st : St w0 w M H) (hpk : Pick H S R) (hm : (b, o) ∈ R) : b ∉ keys S := by
  intro h
  obtain ⟨⟨b', o'⟩, hmS, hb⟩ := List.mem_map.1 h
  exact (List.pairwise_append.1 (st.perm hpk.perm).nd).2.2 _ hmS _ hm hb
theorem Env.make {w0 w : World} {K : AskE} {H S R Se : Hp} {t1 t2 t3 t4 t5 : Nat} (st : St w0 w [] H) (hpk : Pick H S R) (h1 : Rd En w0 K.vre K.re) (h2 : Rd Eb w0 K.vtx K.tx) (hO : OwnS Eix 1 t5 K.ven K.l Se) (he : HIn Se R)
    (m1 : (K.bRe, .cells [K.vre].toArray t1 (0, 0)) ∈ R) (m2 : (K.bTx, .cells [K.vtx].toArray t2 (0, 0)) ∈ R) (m3 : (K.bA, .cells [pt K.bS].toArray t3 (0, 0)) ∈ R) (m4 : (K.bS, .cells K.cells.toArray t4 (0, 0)) ∈ R) : Env w K (keys S) := by
  have st' := st.perm hpk.perm
  have hi : ∀ {p}, p ∈ R → p ∈ S ++ R := fun h => List.mem_append.2 (.inr h)
  have hs : HIn S H := fun p h => hpk.perm.mem_iff.2 (List.mem_append.2 (.inl h))
  exact ⟨(RdPK.own (κ := ⟨0, [], w0, []⟩) (hi m1)).out w st', (RdPK.own (κ := ⟨0, [], w0, []⟩) (hi m2)).out w st', (RdPK.own (κ := ⟨0, [], w0, []⟩) (hi m3)).out w st', (RdPK.own (κ := ⟨0, [], w0, []⟩) (hi m4)).out w st',
    (RdK.old (κ := ⟨0, [], w0, []⟩) (H := H) h1 .nil).out w st, (RdK.old (κ := ⟨0, [], w0, []⟩) (H := H) h2 .nil).out w st, hO.rd fun b o h => st'.has _ _ (hi (he _ h)),
    St.ne st hpk m1, St.ne st hpk m2, St.ne st hpk m3, St.ne st hpk m4, st.apart_old hs h1 (by decide), st.apart_old hs h2 (by decide), st.apart hpk hO he⟩
structure AskG (T n : Nat) where
  (bE bM bA bS : Nat) (S : Hp)
  (h : OwnS Eix 1 T (.slice (some ⟨bE, 0, none⟩) n n) (List.replicate n 0) S)
noncomputable def capsV (w : List UInt8) (re : List Nd) (x : Nd) (ks : F) (p q : Nat) : List Sp := (bst1 w x ks p q (List.replicate (gcn re + 1) noS)).set 0 ⟨p, q⟩
theorem capsV_len {w : List UInt8} {re : List Nd} {x : Nd} {ks : F} {p q : Nat} : (capsV w re x ks p q).length = gcn re + 1 := by rw [capsV, List.length_set, bst1_len, List.length_replicate]
theorem fill_rep {n j : Nat} {l : List Sp} (h : Tab.Fill (fun _ => noS) n j l) (hj : n ≤ j) : l = List.replicate n noS := by
  have := h.done hj
  rw [this]
  apply List.ext_getElem?
  intro i
  by_cases hi : i < n
  · simp [List.getElem?_range hi, hi]
  · simp [hi]
def Slots (re : List Nd) (n : Nat) : Prop := ∀ y ∈ re, y.op = 7 → 0 ≤ y.n ∧ y.n.toNat < n
def TakeP (K : AskE) (T : Nat) (ca : Option Addr) (cc N : Nat) (cs : List Sp) (S' : Hp) : Prop := ∃ es c Sc, S' = (K.bM, mpO es c) :: Sc ∧ MapOk K.tx K.re es ∧ OwnS Esp 2 T (.slice ca N cc) cs Sc
def TakeK (P : Program) (K : AskE) (fn T : Nat) (x : Nd) (ks : F) : Prop := ∀ (i i1 p q : Nat) (es : List Me) (c : Nat) (ca : Option Addr) (cc N : Nat) (cs : List Sp) (Sc : Hp), Part K.re (.nd x ks .nil) i i1 → p ≤ q → q ≤ K.tx.length → der1 K.tx x ks p q → MapOk K.tx K.re es → cs.length = N → Slots K.re N → OwnS Esp 2 T (.slice ca N cc) cs Sc →
  Fn P fn [pt K.bS, .int .i64 i, .int .i64 p, .int .i64 q, .slice ca N cc] (fun W => Env W K (keys ((K.bM, mpO es c) :: Sc))) ((K.bM, mpO es c) :: Sc) (fun _ S' => TakeP K T ca cc N (bst1 K.tx x ks p q cs) S')
theorem slots_of {re : List Nd} (h : shapedB re = true) : Slots re (gcn re + 1) := fun y hy h7 => by
  obtain ⟨j, hj, rfl⟩ := List.getElem_of_mem hy
  have := grp_n h (List.getElem?_eq_getElem hj) h7
  omega
def CapsP (K : AskE) (T : Nat) (cs : List Sp) (v : Value) (S' : Hp) : Prop := ∃ es c a cc Sc, v = .slice a cs.length cc ∧ S' = (K.bM, mpO es c) :: Sc ∧ OwnS Esp 2 T (.slice a cs.length cc) cs Sc
end Go.HL.Kl.Mc
namespace Go.HL.Kl.Mc
open Go Go.HL Go.HL.Kl
def CodeP (T n : Nat) (v : Value) (S' : Hp) : Prop := ∃ (a : Option Addr) (c : Nat) (m : List In), v = .slice a m.length c ∧ m.length = n ∧ OwnS Ein 7 T (.slice a m.length c) m S'
def CodeC (P : Program) (fn T : Nat) (x : Nd) (ks : F) : Prop := ∀ (ma : Option Addr) (mc : Nat) (m : List In) (Sm : Hp) (ra : Option Addr) (rc : Nat) (re : List Nd) (i i1 : Nat), (∀ x ∈ re, -128 ≤ x.op ∧ x.op < 128) → (∀ x ∈ re, ¬ x.op = 8) → re.length ≤ 1000000 → Part re (.nd x ks .nil) i i1 → OwnS Ein 7 T (.slice ma m.length mc) m Sm → m.length + lenT x ks ≤ 70000 →
  Fn P fn [.slice ma m.length mc, .slice ra re.length rc, .int .i64 i] (fun W => Rd En W (.slice ra re.length rc) re ∧ Apart (keys Sm) (.slice ra re.length rc)) Sm (CodeP T (m.length + lenT x ks))
end Go.HL.Kl.Mc
namespace Go.HL.Kl.Mc
open Go Go.HL Go.HL.Kl Go.RowKit Go.ChangeShapes Go.WideShapes Go.ChangeAt
def Ew1 (w : BitVec 64) : List Value := [Ew w]
instance : Enc Ew1 1 := ⟨fun _ => rfl, fun _ v hv => by simp [Ew1, Ew] at hv; subst hv; rfl⟩
theorem open_u64 {P : Program} {t : TypeId} (ht : P.underlying t = some (.int .u64)) : Opens P t Ew1 (fun _ _ => True) := by
  refine ⟨fun enc w fuel cs x h _ => ?_⟩
  obtain ⟨n, rfl, _, hw⟩ := DataW.trod_int ht h
  have hb : 0 ≤ n ∧ n ≤ 18446744073709551615 := by
    simp only [Lit.wf] at hw
    simpa [IntKind.min, IntKind.max, IntKind.signed, IntKind.bits] using hw
  refine ⟨BitVec.ofNat 64 n.toNat, ?_, trivial⟩
  have e : (BitVec.ofNat 64 n.toNat).toNat = n.toNat := by
    rw [BitVec.toNat_ofNat]
    exact Nat.mod_eq_of_lt (by rw [show (2 : Nat) ^ 64 = 18446744073709551616 from by decide]; omega)
  simp only [Ew1, Ew, e, List.cons.injEq, Value.int.injEq, true_and, and_true]
  omega
def mk4 (a b c d : BitVec 64) : Cl := setw (setw (setw (setw 0 0 a) 1 b) 2 c) 3 d
theorem mk4_wd (a b c d : BitVec 64) : Ec (mk4 a b c d) = [Ew a, Ew b, Ew c, Ew d] := by
  simp [Ec, mk4, wd_setw]
theorem open_cl {P : Program} {t e : TypeId} (ht : P.underlying t = some (.array 4 e)) (he : P.underlying e = some (.int .u64)) (hk : P.cellsOf e = 1) (hc : P.cellsOf t = 4) : Opens P t Ec (fun _ _ => True) := by
  refine ⟨fun enc w fuel cs x h hw => ?_⟩
  obtain ⟨xs, rfl, hl, _⟩ := (open_array ht hk (by rw [hc]) (open_u64 he)).out enc w fuel cs x h hw
  match xs, hl with
  | [a, b, c, d], _ => exact ⟨mk4 a b c d, by rw [mk4_wd]; rfl, trivial⟩
def Ei8 (n : Int) : List Value := [.int .i8 n]
instance : Enc Ei8 1 := ⟨fun _ => rfl, fun _ _ h => by simp [Ei8] at h; subst h; rfl⟩
theorem open_i8 {P : Program} {t : TypeId} (ht : P.underlying t = some (.int .i8)) : Opens P t Ei8 (fun _ n => -128 ≤ n ∧ n < 128) := by
  refine ⟨fun enc w fuel cs x h _ => ?_⟩
  obtain ⟨n, rfl, _, hw⟩ := DataW.trod_int ht h
  refine ⟨n, rfl, ?_⟩
  simp only [Lit.wf] at hw
  have : -128 ≤ n ∧ n ≤ 127 := by simpa [IntKind.min, IntKind.max, IntKind.signed, IntKind.bits] using hw
  omega
theorem open_struct6 {P : Program} {t : TypeId} {f0 f1 f2 f3 f4 f5 : Field} {α0 α1 α2 α3 α4 α5 γ : Type} {E0 : α0 → List Value} {E1 : α1 → List Value} {E2 : α2 → List Value} {E3 : α3 → List Value} {E4 : α4 → List Value} {E5 : α5 → List Value} {E : γ → List Value} {M0 : World → α0 → Prop} {M1 : World → α1 → Prop} {M2 : World → α2 → Prop} {M3 : World → α3 → Prop} {M4 : World → α4 → Prop} {M5 : World → α5 → Prop} {Mem : World → γ → Prop}
    (ht : P.underlying t = some (.struct #[f0, f1, f2, f3, f4, f5])) (h0 : f0.offset = 0) (h1 : f1.offset = P.cellsOf f0.type) (h2 : f2.offset = P.cellsOf f0.type + P.cellsOf f1.type) (h3 : f3.offset = P.cellsOf f0.type + P.cellsOf f1.type + P.cellsOf f2.type)
    (h4 : f4.offset = P.cellsOf f0.type + P.cellsOf f1.type + P.cellsOf f2.type + P.cellsOf f3.type) (h5 : f5.offset = P.cellsOf f0.type + P.cellsOf f1.type + P.cellsOf f2.type + P.cellsOf f3.type + P.cellsOf f4.type) (hc : P.cellsOf t = P.cellsOf f0.type + P.cellsOf f1.type + P.cellsOf f2.type + P.cellsOf f3.type + P.cellsOf f4.type + P.cellsOf f5.type)
    (o0 : Opens P f0.type E0 M0) (o1 : Opens P f1.type E1 M1) (o2 : Opens P f2.type E2 M2) (o3 : Opens P f3.type E3 M3) (o4 : Opens P f4.type E4 M4) (o5 : Opens P f5.type E5 M5) (mk : ∀ w a b c d e f, M0 w a → M1 w b → M2 w c → M3 w d → M4 w e → M5 w f → ∃ z, E z = E0 a ++ (E1 b ++ (E2 c ++ (E3 d ++ (E4 e ++ E5 f)))) ∧ Mem w z) : Opens P t E Mem := by
  refine ⟨fun enc w fuel cs x h hw => ?_⟩
  obtain ⟨hl, n, hf⟩ := trod_fields ht h hw
  obtain ⟨y0, e0, w0⟩ := hf 0 f0 rfl
  obtain ⟨y1, e1, w1⟩ := hf 1 f1 rfl
  obtain ⟨y2, e2, w2⟩ := hf 2 f2 rfl
  obtain ⟨y3, e3, w3⟩ := hf 3 f3 rfl
  obtain ⟨y4, e4, w4⟩ := hf 4 f4 rfl
  obtain ⟨y5, e5, w5⟩ := hf 5 f5 rfl
  obtain ⟨a, ha, ma⟩ := o0.out enc w _ _ _ e0 w0
  obtain ⟨b, hb, mb⟩ := o1.out enc w _ _ _ e1 w1
  obtain ⟨c, hcc, mc⟩ := o2.out enc w _ _ _ e2 w2
  obtain ⟨d, hd, md⟩ := o3.out enc w _ _ _ e3 w3
  obtain ⟨e, he, me⟩ := o4.out enc w _ _ _ e4 w4
  obtain ⟨f, hff, mf⟩ := o5.out enc w _ _ _ e5 w5
  obtain ⟨z, hz, hm⟩ := mk w a b c d e f ma mb mc md me mf
  refine ⟨z, ?_, hm⟩
  rw [hz, ← ha, ← hb, ← hcc, ← hd, ← he, ← hff, h0, h1, h2, h3, h4, h5, List.drop_zero, List.take_of_length_le (l := cs.drop (P.cellsOf f0.type + _ + _ + _ + _)) (by rw [List.length_drop]; omega), ← cells_split, ← cells_split, ← cells_split, ← cells_split, List.take_append_drop]
end Go.HL.Kl.Mc
namespace Go.HL
open Go
/-! lists of lists: for the bag that looks whether lists share memory -/
section
variable {α : Type} {E : α → List Value} {k : Nat} {T : TypeId}
inductive OwnL (E : α → List Value) (k : Nat) (T : TypeId) : List (Sl α) → List (List α) → Hp → Prop
  | nil : OwnL E k T [] [] []
  | cons {s : Sl α} {xs : List α} {sls : List (Sl α)} {xss : List (List α)} {S R : Hp} (h : OwnS E k T s.v xs S) (hs : OwnL E k T sls xss R) : OwnL E k T (s :: sls) (xs :: xss) (S ++ R)
def mkL (f : Nat → Nat → α) (n m : Nat) : List α := (List.range m).map (f n)
inductive OwnF (E : α → List Value) (k : Nat) (T : TypeId) (f : Nat → Nat → α) : Nat → List (Sl α) → Hp → Prop
  | nil {n : Nat} : OwnF E k T f n [] []
  | cons {n : Nat} {s : Sl α} {sls : List (Sl α)} {S R : Hp} (h : OwnS E k T s.v (mkL f n s.xs.length) S) (hs : OwnF E k T f (n + 1) sls R) : OwnF E k T f n (s :: sls) (S ++ R)
structure Done (E : α → List Value) (f : Nat → Nat → α) (sls ones mores : List (Sl α)) (G : Hp) (n : Nat) : Prop where
  out : ∀ j, j < n → ∃ s o m, sls[j]? = some s ∧ ones[j]? = some o ∧ mores[j]? = some m ∧ o.xs = mkL f j (s.xs.length + 1) ∧ m.xs = mkL f j (s.xs.length + 70) ∧ IsSl s.v s.xs.length ∧ IsSl o.v o.xs.length ∧ IsSl m.v m.xs.length ∧ RdS E s.v (mkL f j s.xs.length) G ∧ RdS E o.v o.xs G ∧ RdS E m.v m.xs G
end
end Go.HL
namespace Go.HL.Kl.Mc
open Go Go.HL Go.HL.Kl
noncomputable def errC (re : List Nd) : Int := if shapedB re = false then 49 else if refsB re = true then 44 else 0
theorem cut_eq {n : Nat} (h : n ≤ 16384) : cut n = n := by unfold cut; omega
structure SetsTo (l : List Nd) (n j : Nat) : Prop where
  len : l.length = n
  rng : ∀ x ∈ l, -128 ≤ x.op ∧ x.op < 128
  get : ∀ t, t < j → ∃ y, l[t]? = some y ∧ y.op = 1 ∧ y.kids = 0
def cls9 (j : Nat) : Cl := mk4 9#64 0#64 (BitVec.ofNat 64 j) 0#64
attribute [irreducible] cls9
def spN (i : Nat) : Nd := ⟨0, 0, ((1048576 * 9 + i + 1 : Nat) : Int), -7, 0, 0⟩
end Go.HL.Kl.Mc
namespace Go.HL.Kl.Mc
open Go Go.HL Go.HL.Kl AskE
structure May (re : List Nd) (w : List UInt8) (x : Nd) (ks : F) : Prop where
  sh : shapedB re = true
  rf : refsB re = false
  hs : Shp re x ks
def CapO (T : Nat) (w : List UInt8) (re : List Nd) (x : Nd) (ks : F) (p q : Nat) (v : Value) (S' : Hp) : Prop := ∃ a cc, v = .tuple #[.slice a (capsV w re x ks p q).length cc, .bool true] ∧ OwnS Esp 2 T (.slice a (capsV w re x ks p q).length cc) (capsV w re x ks p q) S'
def BestP (T : Nat) (re : List Nd) (w : List UInt8) (fr to : Int) (v : Value) (S' : Hp) : Prop :=
  (∃ x ks, ∃ p q : Nat, May re w x ks ∧ fr = p ∧ to = q ∧ p ≤ q ∧ q ≤ w.length ∧ der1 w x ks p q ∧ CapO T w re x ks p q v S') ∨
  ((¬ ∃ x ks, ∃ p q : Nat, May re w x ks ∧ fr = p ∧ to = q ∧ p ≤ q ∧ q ≤ w.length ∧ der1 w x ks p q) ∧ v = .tuple #[.slice none 0 0, .bool false] ∧ S' = [])
structure Lft (w : List UInt8) (x : Nd) (ks : F) (f p q : Nat) : Prop where
  ge : f ≤ p
  le : p ≤ q
  len : q ≤ w.length
  der : der1 w x ks p q
  left : ∀ p' q', f ≤ p' → p' < p → q' ≤ w.length → ¬ der1 w x ks p' q'
  long : ∀ q', q < q' → q' ≤ w.length → ¬ der1 w x ks p q'
def FindP (T : Nat) (re : List Nd) (w : List UInt8) (f : Int) (v : Value) (S' : Hp) : Prop :=
  (∃ x ks, ∃ g p q : Nat, May re w x ks ∧ f = g ∧ Lft w x ks g p q ∧ CapO T w re x ks p q v S') ∨
  ((¬ ∃ x ks, ∃ g p q : Nat, May re w x ks ∧ f = g ∧ g ≤ p ∧ q ≤ w.length ∧ der1 w x ks p q) ∧ v = .tuple #[.slice none 0 0, .bool false] ∧ S' = [])
end Go.HL.Kl.Mc
namespace Go.HL.Kl.Mc
open Go Go.HL Go.HL.Kl
structure RowsP (rs : List (Sl Bool)) (N : Nat) (D : Nat → Nat → Prop) : Prop where
  len : rs.length = N + 1
  get : ∀ p, p ≤ N → ∃ s, rs[p]? = some s ∧ IsS s.xs N (D p)
structure RowsTo (rs : List (Sl Bool)) (N k : Nat) (D : Nat → Nat → Prop) : Prop where
  len : rs.length = k
  get : ∀ p, p < k → ∃ s, rs[p]? = some s ∧ IsS s.xs N (D p)
structure RdRows (W : World) (v : Value) (rs : List (Sl Bool)) : Prop where
  out : Rd (Esl (α := Bool)) W v rs
  row : ∀ s ∈ rs, Rd Ebo W (.slice s.a s.xs.length s.c) s.xs
/-! a set, added place by place -/
def orTo (a b : List Bool) (i : Nat) : List Bool := (List.range a.length).map fun j => if j < i then orF a b j else bo0 a j
def fromTo (D : Nat → Nat → Prop) (P : Nat → Prop) (k q : Nat) : Prop := ∃ p, p < k ∧ P p ∧ D p q
structure AgP (N : Nat) (D : Nat → Nat → Prop) (p : Nat) (out : List Bool) (todo : List Nat) : Prop where
  len : out.length = N + 1
  me : out[p]? = some true
  sound : ∀ q : Nat, out[q]? = some true → ∃ k, pow D k p q
  td : ∀ t ∈ todo, out[t]? = some true
  closed : ∀ q : Nat, out[q]? = some true → q ∉ todo → ∀ r, r ≤ N → D q r → out[r]? = some true
structure AgK (N : Nat) (D : Nat → Nat → Prop) (p t k : Nat) (out : List Bool) (todo : List Nat) : Prop where
  len : out.length = N + 1
  me : out[p]? = some true
  tt : out[t]? = some true
  sound : ∀ q : Nat, out[q]? = some true → ∃ k, pow D k p q
  td : ∀ t ∈ todo, out[t]? = some true
  closed : ∀ q : Nat, out[q]? = some true → q ∉ todo → q ≠ t → ∀ r, r ≤ N → D q r → out[r]? = some true
  part : ∀ r, r < k → D t r → out[r]? = some true
def mvN (g : Nat) (x : Nd) : Nd := if 0 < x.n then { x with n := IntKind.i64.wrap (x.n + g) } else x
def F.mv (g : Nat) : F → F
  | .nil => .nil
  | .nd x ks r => .nd (mvN g x) (ks.mv g) (r.mv g)
def catN : Nd := ⟨4, 0, 0, 0, 0, 2⟩
def altN : Nd := ⟨5, 0, 0, 0, 0, 2⟩
def twoL (n : Nd) (a b : List Nd) (g : Nat) : List Nd := n :: (a ++ b.map (mvN g))
end Go.HL.Kl.Mc
namespace Go.HL.Kl.Mc
open Go Go.HL Go.HL.Kl
def mvTo (g : Nat) (b : List Nd) (j : Nat) : List Nd := (b.take j).map (mvN g) ++ b.drop j
def RowsC (N : Nat) (D : Nat → Nat → Prop) (v : Value) (S : Hp) : Prop := ∃ (a : Option Addr) (c : Nat) (rs : List (Sl Bool)), v = .slice a rs.length c ∧ RowsP rs N D ∧ ∀ W : World, (∀ b o, (b, o) ∈ S → W.heap[b]? = some o) → RdRows W (.slice a rs.length c) rs
def RdRS (v : Value) (rs : List (Sl Bool)) (S : Hp) : Prop := ∀ W : World, (∀ b o, (b, o) ∈ S → W.heap[b]? = some o) → RdRows W v rs
def CompOk (re : List Nd) (sv : Value) (S : Hp) (x : Nd) (ks : F) : Prop := ∃ a, shapedB re = true ∧ refsB re = false ∧ Shp re x ks ∧ sv = .slice a (mach (.nd x ks .nil)).length (mach (.nd x ks .nil)).length ∧ RdS Ein (.slice a (mach (.nd x ks .nil)).length (mach (.nd x ks .nil)).length) (mach (.nd x ks .nil)) S
/-! well shaped: forests without groups and references -/
def F.plain : F → Prop
  | .nil => True
  | .nd x ks r => (¬ x.op = 7 ∧ ¬ x.op = 8) ∧ ks.plain ∧ r.plain
theorem shN_full {re : List Nd} : ∀ (f : F) (d g i i' : Nat) (en : List Bool), Part re f i i' → f.depth ≤ d → f.plain → kidsN (fun i en => shN re d i en g) f.num i en = some (i', en)
  | .nil, d, g, i, i', en, h, _, _ => by
    have := h.len
    simp [F.size] at this
    subst this; rfl
  | .nd x ks r, d, g, i, i', en, h, hd, hp => by
    obtain ⟨hx, hk, hr⟩ := h.head
    simp only [F.depth] at hd
    obtain ⟨d', rfl⟩ : ∃ d', d = d' + 1 := ⟨d - 1, by omega⟩
    have hkn : x.kids.toNat = ks.num := by have : (ks.num : Int) = x.kids := h.wf.2.1; omega
    have h1 := shN_full ks d' g (i + 1) _ en hk (by omega) hp.2.1
    have h2 := shN_some hx h.wf.1 (gate_other (en := en) (g := g) hp.1.2 hp.1.1) (by rw [hkn]; exact h1)
    rw [if_neg hp.1.1] at h2
    show (match shN re (d' + 1) i en g with | none => none | some (i', en') => kidsN (fun i en => shN re (d' + 1) i en g) r.num i' en') = _
    rw [h2]
    exact shN_full r (d' + 1) g _ i' en hr (by omega) hp.2.2
theorem Shp.good {re : List Nd} {x : Nd} {ks : F} (h : Shp re x ks) (hp : (F.nd x ks .nil).plain) : shapedB re = true ∧ refsB re = false := by
  have h1 := shN_full (.nd x ks .nil) 260 0 0 re.length [] h.part (by have := h.dep; simp only [F.depth]; omega) hp
  have h2 : shN re 260 0 [] 0 = some (re.length, []) := by
    simp only [F.num, kidsN] at h1
    cases hs : shN re 260 0 [] 0 with
    | none => simp [hs] at h1
    | some q => obtain ⟨a, b⟩ := q; simpa [hs] using h1
  refine ⟨shapedB_iff.2 ⟨⟨[], h2⟩, x, ks, h⟩, refs_no fun j y hj hy h8 => ?_⟩
  have key : ∀ f : F, f.plain → ∀ y ∈ f.flat, ¬ y.op = 8 := by
    intro f
    induction f with
    | nil => intro _ y hy; cases hy
    | nd z a b iha ihb =>
      rintro ⟨h1, h2, h3⟩ y hy
      rcases List.mem_cons.1 hy with rfl | hy
      · exact h1.2
      · exact (List.mem_append.1 hy).elim (iha h2 y) (ihb h3 y)
  have hm := List.mem_of_getElem? hy
  rw [h.flat] at hm
  exact key _ hp y (by simpa [F.flat] using hm) h8
/-! the row's regex -/
def endN : Nd := ⟨4, 0, 0, 0, 0, 0⟩
def rowN (n : Nat) : Nd := ⟨4, 0, 0, 0, 0, (n : Int) + 1⟩
def timN (l m : Nat) : Nd := ⟨6, 0, 0, l, (l : Int) + m, 1⟩
def rowF : List UInt8 → F
  | [] => .nd endN .nil .nil
  | b :: bs => .nd (letN b) .nil (rowF bs)
def rowR (row : List UInt8) (l m : Nat) : List Nd := timN l m :: rowN row.length :: (row.map letN ++ [endN])
theorem let_ok' (b : UInt8) : ndOk (letN b) = true := by
  have : flds (letN b) = true := flds_iff.2 ⟨by simp [letN], .inl rfl, .inr (.inr rfl), (fun h => by cases h), fun _ => ⟨rfl, rfl⟩⟩
  rw [ndOk, this]; rfl
def Mt (row w : List UInt8) (p : Nat) : Prop := (w.drop p).take row.length = row
theorem der_let {w : List UInt8} {b : UInt8} {p q : Nat} : der1 w (letN b) .nil p q ↔ q = p + 1 ∧ w[p]? = some b := by
  rw [der1_def, if_pos (show (letN b).op = 1 from rfl)]
  refine and_congr_right fun _ => ⟨fun ⟨c, hc, hs⟩ => ?_, fun h => ⟨b, h, ?_⟩⟩
  · rw [show (letN b).set = bit b.toNat from rfl, bit_get c.toNat_lt, decide_eq_true_eq] at hs
    rw [hc, UInt8.toNat_inj.1 hs]
  · rw [show (letN b).set = bit b.toNat from rfl, bit_get b.toNat_lt, decide_eq_true_eq]
theorem mt_cons {b : UInt8} {bs w : List UInt8} {p : Nat} : Mt (b :: bs) w p ↔ w[p]? = some b ∧ Mt bs w (p + 1) := by
  unfold Mt
  rcases Nat.lt_or_ge p w.length with h | h
  · rw [List.drop_eq_getElem_cons h, List.getElem?_eq_getElem h, List.length_cons, List.take_succ_cons]
    simp
  · rw [List.drop_of_length_le h, List.getElem?_eq_none h]
    simp
def Most (row w : List UInt8) (n k : Nat) : Prop := k ≤ n ∧ (∀ j, j < k → Mt row w (j * row.length)) ∧ (k = n ∨ ¬ Mt row w (k * row.length))
end Go.HL.Kl.Mc
