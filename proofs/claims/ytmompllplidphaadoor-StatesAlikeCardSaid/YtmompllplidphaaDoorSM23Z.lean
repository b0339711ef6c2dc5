/- The wide machine takes a text just if the regex has a derivation at all of it. Conditions: none. -/
import Derived.Test.YtmompllplidphaaDoorSM20Z
import Derived.Test.YtmompllplidphaaDoorMK1Z
import Derived.Test.YtmompllplidphaaDoorMT20Z
import Derived.Test.YtmompllplidphaaDoorSW1Z
import Derived.Test.YtmompllplidphaaDoorHlB
import Derived.Test.YtmompllplidphaaDoorKQ8Z
import Derived.Test.YtmompllplidphaaDoorHTZ
import Derived.Test.YtmompllplidphaaDoorMT3Z
import Derived.Test.YtmompllplidphaaDoorSN1Z
import Derived.Test.YtmompllplidphaaDoorSN4Z
namespace Go.HL.Sts
open Go Go.HL Go.HL.Kl Go.HL.Kl.Mc
theorem Path.snoc {E T : Nat → Nat → Prop} {p i q j : Nat} : Path E T p i q (j + 1) ↔ (i = j ∧ p = q ∧ T p i) ∨ ∃ r, Path E T p i r j ∧ E r q ∧ T q j := by
  constructor
  · intro h
    have key : ∀ {p i q k : Nat}, Path E T p i q k → ∀ j, k = j + 1 → (i = j ∧ p = q ∧ T p i) ∨ ∃ r, Path E T p i r j ∧ E r q ∧ T q j := by
      intro p i q k h
      induction h with
      | one ht => exact fun j hj => .inl ⟨by omega, rfl, ht⟩
      | @step p i r q k ht he hr ih =>
        intro j hj
        rcases ih j hj with ⟨h1, rfl, h3⟩ | ⟨s, h1, h2, h3⟩
        · subst h1
          exact .inr ⟨p, .one ht, he, h3⟩
        · exact .inr ⟨s, .step ht he h1, h2, h3⟩
    exact key h j rfl
  · rintro (⟨rfl, rfl, h⟩ | ⟨r, h1, h2, h3⟩)
    · exact .one h
    · exact h1.trans h2 (.one h3)
theorem runW_snoc (next : List (List Nat)) (k : Nat) : ∀ (t : List Nat) (q : Nat), runW next q (t ++ [k]) = nx next (runW next q t) k
  | [], q => rfl
  | x :: t, q => runW_snoc next k t (nx next q x)
theorem nx_get {next : List (List Nat)} {q k v : Nat} {row : List Nat} (h : next[q]? = some row) (hv : row[k]? = some v) : nx next q k = v := by simp [nx, h, hv]
theorem nref_shp {re : List Nd} {n : Nd} {ks : F} (h : Mc.Shp re n ks) (hs : shapedB re = true) (hr : refsB re = false) : nref (.nd n ks .nil) := by
  refine nref_of _ fun y hy h8 => ?_
  have hm : y ∈ re := by rw [h.flat]; simpa [F.flat] using hy
  rw [refs_yes hs hm h8] at hr
  cases hr
theorem wide_der {re : List Nd} {n : Nd} {ks : F} (hS : Mc.Shp re n ks) (hn : nref (.nd n ks .nil)) (hw : (F.nd n ks .nil).weight ≤ 20) (w : List UInt8) :
    accW (wdM re n ks).next (wdM re n ks).ends 0 (ltrs (atoms (setsOf re)) w) = true ↔ der1 w n ks 0 w.length := by
  have hcnt : cnt1 n ks ≤ 20 := by
    have h1 := cnt_le (F.nd n ks .nil) hS.wf
    have h2 : cntM (F.nd n ks .nil) = cnt1 n ks + cntM .nil := rfl
    omega
  obtain ⟨_, hlen, hA⟩ := part_sem (w := w) hS.wf hn ⟨[], []⟩ rfl (by simp; omega)
  have hsub : ∀ s ∈ (partM n ks ⟨[], []⟩).2.sets, s ∈ setsOf re := fun s hs => by
    rcases sub_part (fun b c => sub_kids ks b c) ⟨[], []⟩ s hs with h | h
    · cases h
    · rw [hS.flat]; exact h
  have hC := wideM_ok (partM n ks ⟨[], []⟩).2 (partM n ks ⟨[], []⟩).1 (atoms (setsOf re))
  have eW : wdM re n ks = wideM (partM n ks ⟨[], []⟩).2 (partM n ks ⟨[], []⟩).1 (atoms (setsOf re)) := rfl
  rw [← eW] at hC
  obtain ⟨X, hX⟩ : ∃ X, X = (partM n ks ⟨[], []⟩).2 := ⟨_, rfl⟩
  obtain ⟨root, hroot⟩ : ∃ r, r = (partM n ks ⟨[], []⟩).1 := ⟨_, rfl⟩
  obtain ⟨at_, hat⟩ : ∃ a, a = atoms (setsOf re) := ⟨_, rfl⟩
  obtain ⟨W, hW⟩ : ∃ W, W = wdM re n ks := ⟨_, rfl⟩
  rw [← hX] at hlen hA hsub hC
  rw [← hroot] at hA hC
  rw [← hat] at hC ⊢
  rw [← hW] at hC ⊢
  have hatm : Atm at_ := by rw [hat]; exact atoms_atm _
  have hl20 : X.sets.length ≤ 20 := by have : X.sets.length = 0 + cnt1 n ks := hlen; omega
  have hfl := hA.ln
  -- what a place takes, by the atom of the byte
  have htk : ∀ (m : Nat) (b : UInt8), w[m]? = some b → ∃ a, at_[fstK at_ b.toNat]? = some a ∧ ∀ p, p < 24 → ((rdTo X.sets a X.sets.length).getLsbD p = true ↔ p < X.sets.length ∧ tk w X p m) := by
    intro m b hb
    obtain ⟨hk, hh⟩ := hatm.fst b.toNat_lt
    refine ⟨_, List.getElem?_eq_getElem hk, fun p hp => ?_⟩
    rw [rdTo_get hp _ (by omega)]
    refine and_congr_right fun hpl => ?_
    have hs : X.sets[p]? = some X.sets[p] := List.getElem?_eq_getElem hpl
    have hm := hsub _ (List.getElem_mem hpl)
    have hmt := mt_bit (l := setsOf re) hm (by rw [← hat]; exact List.getElem_mem hk) hh
    unfold tk
    rw [hs, Option.getD_some, hb]
    have e1 : (X.sets[p] &&& at_[fstK at_ b.toNat] ≠ 0) ↔ X.sets[p].getLsbD b.toNat = true := by
      unfold Kl.mt at hmt
      constructor
      · intro h
        rw [decide_eq_false (show ¬ (X.sets[p] &&& at_[fstK at_ b.toNat] = 0#256) from fun h2 => h h2)] at hmt
        cases e : X.sets[p].getLsbD b.toNat with
        | true => rfl
        | false => rw [e] at hmt; cases hmt
      · intro h h2
        rw [h, decide_eq_true (show X.sets[p] &&& at_[fstK at_ b.toNat] = 0#256 from h2)] at hmt
        cases hmt
    rw [e1]
    constructor
    · intro h; exact ⟨b, rfl, h⟩
    · rintro ⟨b', e, h⟩
      rw [← Option.some.inj e] at h; exact h
  have h24 : ∀ {s : Sp} {p : Nat}, s.getLsbD p = true → p < 24 := fun {s p} h => by
    rcases Nat.lt_or_ge p 24 with h1 | h1
    · exact h1
    · rw [BitVec.getLsbD_of_ge _ _ h1] at h; cases h
  have main : ∀ m, m < w.length → ∃ (j : Nat) (s : Sp), runW W.next 0 ((ltrs at_ w).take (m + 1)) = j + 1 ∧ W.met[j]? = some s ∧ ∀ p, s.getLsbD p = true ↔ ∃ p0, fst' root true p0 ∧ Path (ed X) (tk w X) p0 0 p (m + 1) := by
    intro m
    induction m with
    | zero =>
      intro hm
      obtain ⟨b, hb⟩ : ∃ b, w[0]? = some b := ⟨_, List.getElem?_eq_getElem hm⟩
      obtain ⟨a, ha, hr⟩ := htk 0 b hb
      obtain ⟨row, h1, h2⟩ := hC.r0
      obtain ⟨j, h3, h4⟩ := h2 _ _ (rdsOf_get ha)
      have ht : (ltrs at_ w).take 1 = [fstK at_ b.toNat] := by
        rw [take_succ_get (k := 0) (by unfold ltrs; rw [List.getElem?_map, hb]; rfl)]; rfl
      refine ⟨j, _, ?_, h4, fun p => ?_⟩
      · rw [ht]; exact nx_get h1 h3
      · rw [and_get]
        constructor
        · rintro ⟨g1, g2⟩
          exact ⟨p, g1, .one ((hr p (h24 g1)).1 g2).2⟩
        · rintro ⟨p0, g1, g2⟩
          rcases Path.snoc.1 g2 with ⟨_, rfl, g3⟩ | ⟨r, g3, _, _⟩
          · have := hA.fr.rF true p0 g1
            exact ⟨g1, (hr p0 (h24 g1)).2 ⟨this.2, g3⟩⟩
          · have := g3.lt; omega
    | succ m ih =>
      intro hm
      obtain ⟨j, s, e1, e2, e3⟩ := ih (by omega)
      obtain ⟨b, hb⟩ : ∃ b, w[m + 1]? = some b := ⟨_, List.getElem?_eq_getElem hm⟩
      obtain ⟨a, ha, hr⟩ := htk (m + 1) b hb
      have hjl := (List.getElem?_eq_some_iff.1 e2).1
      obtain ⟨_, row, h1, h2⟩ := hC.rs j s hjl e2
      obtain ⟨j', h3, h4⟩ := h2 _ _ (rdsOf_get ha)
      refine ⟨j', _, ?_, h4, fun p => ?_⟩
      · rw [take_succ_get (k := m + 1) (a := fstK at_ b.toNat) (by unfold ltrs; rw [List.getElem?_map, hb]; rfl), runW_snoc, e1]
        exact nx_get h1 h3
      · rw [and_get, folTo_get p _ (Nat.le_refl _)]
        constructor
        · rintro ⟨⟨r, _, g1, g2⟩, g3⟩
          obtain ⟨p0, g4, g5⟩ := (e3 r).1 g1
          exact ⟨p0, g4, Path.snoc.2 (.inr ⟨r, g5, g2, ((hr p (h24 g2)).1 g3).2⟩)⟩
        · rintro ⟨p0, g1, g2⟩
          rcases Path.snoc.1 g2 with ⟨g3, _⟩ | ⟨r, g3, g4, g5⟩
          · omega
          · have hr0 := hA.fr.rF true p0 g1
            have hrr := g3.stay hA.fr.rE hr0
            have hrp := hA.fr.rE r p hrr g4
            have hrl : r < X.fol.length := by have := hrr.2; omega
            exact ⟨⟨r, hrl, (e3 r).2 ⟨p0, g1, g3⟩, g4⟩, (hr p (h24 g4)).2 ⟨hrp.2, g5⟩⟩
  rcases Nat.eq_zero_or_pos w.length with h0 | h0
  · have hw0 := List.eq_nil_of_length_eq_zero h0
    subst hw0
    have hnl := hA.fr.nl 0 (Nat.zero_le _)
    show W.ends[0]?.getD false = true ↔ der1 [] n ks 0 0
    rw [hC.e0, hnl]
    simp [nul]
  · obtain ⟨N, hN⟩ : ∃ N, w.length = N + 1 := ⟨w.length - 1, by omega⟩
    obtain ⟨j, s, e1, e2, e3⟩ := main N (by omega)
    have ht : (ltrs at_ w).take (N + 1) = ltrs at_ w := List.take_of_length_le (by simp [ltrs]; omega)
    rw [ht] at e1
    have hjl := (List.getElem?_eq_some_iff.1 e2).1
    obtain ⟨h5, _⟩ := hC.rs j s hjl e2
    unfold accW
    rw [e1, h5, Option.getD_some, decide_eq_true_eq, ne_get, hA.fr.ph 0 w.length h0 (Nat.le_refl _), decide_eq_true rfl, decide_eq_true rfl, hN]
    constructor
    · rintro ⟨p, hp⟩
      obtain ⟨g1, g2⟩ := (and_get _ _ _).1 hp
      obtain ⟨p0, g3, g4⟩ := (e3 p).1 g1
      exact ⟨p0, p, g3, g4, g2⟩
    · rintro ⟨p0, p, g3, g4, g2⟩
      exact ⟨p, (and_get _ _ _).2 ⟨(e3 p).2 ⟨p0, g3, g4⟩, g2⟩⟩
theorem make_means {re : List Nd} {d : Df} (h : mkOk re d) : ∃ (n : Nd) (ks : F), Mc.Shp re n ks ∧ refsB re = false ∧ (F.nd n ks .nil).weight ≤ 20 ∧ Sts.Shp d ∧ ∀ w : List UInt8, takesP d w = true ↔ der1 w n ks 0 w.length := by
  have hs := h.1
  obtain ⟨n, ks, lv, m, hS, hr, hw, ha, hM, hlm, hSh⟩ := mk_ok h
  refine ⟨n, ks, hS, hr, hw, hSh, fun w => ?_⟩
  have hK := hSh.sz.2.2.2.2
  rw [takes_eq, hM.takes hSh.atm rfl hK w, ha]
  exact wide_der hS (nref_shp hS hs hr) hw w
end Go.HL.Sts
namespace Go.HL.Kl.Mc
open Go Go.HL Go.HL.Kl AskE
def Refd (re : List Nd) (b i i' b' : Nat) : Prop := b ≤ b' ∧ ∀ j x, i ≤ j → j < i' → re[j]? = some x → x.op = 8 → 1 ≤ x.n ∧ x.n ≤ (b' : Int)
def BehI (re : List Nd) (hl : List Nat) (i : Nat) : Prop := hl.length = i ∧ ∀ k y js r e, k < i → Part re (.nd y js r) k e → hl[k]? = some (k + 1 + js.size)
def zer (l : List Nat) : Nat := l.countP fun m => decide (m = 0)
def zers (ls : List (List Nat)) : Nat := (ls.map zer).sum
theorem zer_set {l : List Nat} {i v : Nat} (h : l[i]? = some 0) (hv : v ≠ 0) : zer (l.set i v) + 1 = zer l := by
  induction l generalizing i with
  | nil => simp at h
  | cons a l ih =>
    cases i with
    | zero => simp at h; subst h; simp [zer, hv]
    | succ i =>
      have := ih (i := i) (by simpa using h)
      simp only [zer, List.set_cons_succ, List.countP_cons] at this ⊢
      omega
theorem zers_set {ls : List (List Nat)} {k i v : Nat} {l : List Nat} (h : ls[k]? = some l) (hi : l[i]? = some 0) (hv : v ≠ 0) : zers (ls.set k (l.set i v)) + 1 = zers ls := by
  induction ls generalizing k with
  | nil => simp at h
  | cons a ls ih =>
    cases k with
    | zero =>
      simp at h; subst h
      have := zer_set hi hv
      simp only [zers, List.set_cons_zero, List.map_cons, List.sum_cons]
      omega
    | succ k =>
      have := ih (k := k) (by simpa using h)
      simp only [zers, List.set_cons_succ, List.map_cons, List.sum_cons] at this ⊢
      omega
def SetR (N : Nat) (Pool : Hp) (s : Sl Bool) : Prop := s.xs.length = N + 1 ∧ IsSl s.v (N + 1) ∧ RdS Ebo s.v s.xs Pool
def TabI (re : List Nd) (w : List UInt8) (met : List (List Nat)) (ss : List (Sl Bool)) : Prop :=
  ∀ k l i m, met[k]? = some l → l[i]? = some (m + 1) → ∃ s, ss[m]? = some s ∧ ∀ y js r e, Part re (.nd y js r) k e → IsS s.xs w.length (der1 w y js i)
theorem TabI.sets {re : List Nd} {w : List UInt8} {met : List (List Nat)} {ss : List (Sl Bool)} (h : TabI re w met ss) (s : Sl Bool) : TabI re w met (ss ++ [s]) := fun k l i m h1 h2 => by
  obtain ⟨t, h3, h4⟩ := h k l i m h1 h2
  exact ⟨t, by rw [List.getElem?_append_left (List.getElem?_eq_some_iff.1 h3).1]; exact h3, h4⟩
theorem TabI.set {re : List Nd} {w : List UInt8} {met : List (List Nat)} {ss : List (Sl Bool)} (h : TabI re w met ss) {k i m : Nat} {l : List Nat} (hl : met[k]? = some l) {s : Sl Bool} (hs : ss[m]? = some s) (hd : ∀ y js r e, Part re (.nd y js r) k e → IsS s.xs w.length (der1 w y js i)) : TabI re w (met.set k (l.set i (m + 1))) ss := fun k' l' i' m' h1 h2 => by
  have hk := (List.getElem?_eq_some_iff.1 hl).1
  by_cases e : k' = k
  · subst e
    rw [List.getElem?_set_self hk] at h1
    cases h1
    by_cases e2 : i' = i
    · subst e2
      have hi := (List.getElem?_eq_some_iff.1 h2).1
      rw [List.length_set] at hi
      rw [List.getElem?_set_self hi] at h2
      cases h2
      exact ⟨s, hs, hd⟩
    · rw [List.getElem?_set_ne (Ne.symm e2)] at h2
      exact h _ _ _ _ hl h2
  · rw [List.getElem?_set_ne (Ne.symm e)] at h1
    exact h _ _ _ _ h1 h2
theorem TabI.begun {re : List Nd} {w : List UInt8} {n : Nat} : TabI re w (List.replicate n (List.replicate (w.length + 1) 0)) [] := fun k l i m h1 h2 => by
  rw [List.mem_replicate.1 (List.mem_of_getElem? h1) |>.2] at h2
  have := (List.mem_replicate.1 (List.mem_of_getElem? h2)).2
  omega
theorem IsS.upto {N : Nat} {D : Nat → Nat → Prop} {S : Nat → Prop} {out l : List Bool} {k : Nat} (h : IsS out N (fun q => ∃ p, p < k ∧ S p ∧ D p q)) (hs : S k) (hl : IsS l N (D k)) : IsS (orL out l) N (fun q => ∃ p, p < k + 1 ∧ S p ∧ D p q) :=
  (h.or hl).iff fun q _ => ⟨fun h => h.elim (fun ⟨p, a, b, c⟩ => ⟨p, by omega, b, c⟩) fun h => ⟨k, by omega, hs, h⟩, fun ⟨p, a, b, c⟩ => by
    by_cases e : p = k
    · subst e; exact .inr c
    · exact .inl ⟨p, by omega, b, c⟩⟩
theorem IsS.upto_no {N : Nat} {D : Nat → Nat → Prop} {S : Nat → Prop} {out : List Bool} {k : Nat} (h : IsS out N (fun q => ∃ p, p < k ∧ S p ∧ D p q)) (hs : ¬ S k) : IsS out N (fun q => ∃ p, p < k + 1 ∧ S p ∧ D p q) :=
  h.iff fun q _ => ⟨fun ⟨p, a, b, c⟩ => ⟨p, by omega, b, c⟩, fun ⟨p, a, b, c⟩ => ⟨p, by
    by_cases e : p = k
    · subst e; exact absurd b hs
    · omega, b, c⟩⟩
def orK (a b : List Bool) (i : Nat) : List Bool := (orL a b).take i ++ a.drop i
theorem orK_len {a b : List Bool} {i : Nat} : (orK a b i).length = a.length := by
  simp only [orK, List.length_append, List.length_take, orL_len, List.length_drop]; omega
theorem orK_zero {a b : List Bool} : orK a b 0 = a := by simp [orK]
theorem orK_all {a b : List Bool} : orK a b a.length = orL a b := by
  rw [orK, List.drop_length, List.append_nil, List.take_of_length_le (by rw [orL_len]; exact Nat.le_refl _)]
theorem orK_get {a b : List Bool} {i j : Nat} : (orK a b i)[j]? = if j < i then (orL a b)[j]? else a[j]? := by
  unfold orK
  by_cases h : j < i
  · rw [if_pos h]
    by_cases h2 : j < a.length
    · rw [List.getElem?_append_left (by rw [List.length_take, orL_len]; omega), List.getElem?_take_of_lt h]
    · rw [List.getElem?_eq_none (by rw [List.length_append, List.length_take, orL_len, List.length_drop]; omega), List.getElem?_eq_none (by rw [orL_len]; omega)]
  · rw [if_neg h]
    by_cases h2 : i ≤ a.length
    · rw [List.getElem?_append_right (by rw [List.length_take, orL_len]; omega), List.length_take, orL_len, Nat.min_eq_left h2, List.getElem?_drop]
      congr 1; omega
    · rw [List.getElem?_eq_none (by rw [List.length_append, List.length_take, orL_len, List.length_drop]; omega), List.getElem?_eq_none (by omega)]
theorem orK_yes {a b : List Bool} {i : Nat} (hi : i < a.length) (hb : bo0 b i = true) : (orK a b i).set i true = orK a b (i + 1) := List.ext_getElem? fun j => by
  by_cases e : i = j
  · subst e
    rw [List.getElem?_set_self (by rw [orK_len]; exact hi), orK_get, if_pos (by omega), orL_get hi, orF, hb, Bool.or_true]
  · rw [List.getElem?_set_ne e, orK_get, orK_get]
    by_cases h : j < i
    · rw [if_pos h, if_pos (by omega)]
    · rw [if_neg h, if_neg (by omega)]
theorem orK_no {a b : List Bool} {i : Nat} (hi : i < a.length) (hb : bo0 b i = false ∨ bo0 a i = true) : orK a b i = orK a b (i + 1) := List.ext_getElem? fun j => by
  rw [orK_get, orK_get]
  by_cases e : j = i
  · subst e
    rw [if_neg (by omega), if_pos (by omega), orL_get hi, bo0_get hi, orF]
    rcases hb with h | h <;> rw [h] <;> simp
  · by_cases h : j < i
    · rw [if_pos h, if_pos (by omega)]
    · rw [if_neg h, if_neg (by omega)]
end Go.HL.Kl.Mc
namespace Go.Proofs.YtmompllplidphaaDoor
open Go Go.HL Go.Proofs Go.HL.Kl Go.HL.Kl.Mc Go.HL.Kl.Mc.AskE
set_option maxHeartbeats 1000000 in
theorem orM_fn (aa : Option Addr) (ac : Nat) (xs : List Bool) (Sa : Hp) (hO : OwnS Ebo 1 4 (.slice aa xs.length ac) xs Sa) (ba : Option Addr) (bc : Nat) (zs : List Bool) (hz : zs.length = xs.length) (hxl : xs.length ≤ 2000000) : HL.Fn Tryd.prog 98 [.slice aa xs.length ac, .slice ba zs.length bc] (fun W => Rd Ebo W (.slice ba zs.length bc) zs ∧ Apart (keys Sa) (.slice ba zs.length bc)) Sa (fun v S' => v = .bool (moreB xs zs) ∧ OwnS Ebo 1 4 (.slice aa xs.length ac) (orL xs zs) S') := by
  refine fn_of Tryd.func98 rfl rfl rfl fun w0 hw => ?_
  have hzs := hw.1.sl
  have hxs := hO.sl
  refine cR fun _ hK1 => ?_; refine oA (oZ hK1 (cR fun _ hK2 => ?_)); refine oA (oZ hK2 (c_seq fun _ hK3 => ?_)); refine cR fun _ hK4 => ?_; refine oA (oZ hK4 (c_block ?_)); refine c_loop2 (fun (i : Nat) (Sx : Hp) => i ≤ xs.length ∧ OwnS Ebo 1 4 (.slice aa xs.length ac) (orK xs zs i) Sx) (fun (i : Nat) (Sx : Hp) => [(6, .int .i64 i), (5, .bool (moreTo xs zs i))]) [(0, _), (1, _), (4, _)] (fun (i : Nat) (Sx : Hp) => Sx) (fun (i : Nat) (Sx : Hp) => xs.length - i) 0 Sa ⟨Nat.zero_le _, by rw [orK_zero]; exact hO⟩ sbA sbA hzB ?_
  rintro i Sx ⟨hi, hOx⟩
  refine c_seq fun _ hK5 => ?_; refine cR fun _ hK6 => ?_; refine oM (oM ?_); refine oS sC ?_; refine oS (s_lss rfl rfl) ?_; refine oZ hK6 ?_; refine c_if rfl (fun hlt => ?_) (fun hlt => ?_)
  ·have hix : i < xs.length := by omega
   have hiz : i < zs.length := by omega
   have hgx : (orK xs zs i)[i]? = some (bo0 xs i) := by rw [orK_get, if_neg (by omega)]; exact bo0_get hix
   refine c_skip (xZ hK5 (c_seq fun _ hK7 => ?_)); refine c_block (cR fun _ hK8 => ?_); refine oM (oM ?_); refine oS (s_idx rfl rfl hzs (by omega)) ?_
   by_cases hb : bo0 zs i = true
   ·refine oS (step_cast (v' := .bool true) (s_ld rfl ((RdK.old hw.1 hw.2).ld i 0 (bo0_get hiz) rfl (by decide) (by omega))) (by rw [hb])) ?_; refine oM ?_; refine oY (oM ?_); refine oY (oM ?_); refine oY ?_; refine oS (s_idx rfl rfl hxs (by omega)) ?_; refine oY ?_
    by_cases ha : bo0 xs i = true
    ·refine oS (step_cast (v' := .bool true) (s_ld rfl ((hOx.rdk hiA).ld i 0 hgx rfl (by decide) (by omega))) (by rw [ha])) ?_; refine oY ?_; refine oS (s_not rfl) ?_; refine oS sT (oZ hK8 ?_); refine cF (c_skip (x_block (xZ hK7 (c_region (oM ?_))))); refine oS sD (oA (o_nil ?_)); exact x_then (x_inv (i + 1, Sx) ⟨by dsimp only; omega, by rw [← orK_no hix (.inr ha)]; exact hOx⟩ (by first | omega | (dsimp only; omega)) (by exact Sub.cons rfl (Sub.cons' rfl (congrArg Value.bool (by rw [moreTo_succ, hb, ha]; simp)) sbA)) hzB)
    ·have haf : bo0 xs i = false := by simpa using ha
     refine oS (step_cast (v' := .bool false) (s_ld rfl ((hOx.rdk hiA).ld i 0 hgx rfl (by decide) (by omega))) (by rw [haf])) ?_; refine oY ?_; refine oS (s_not rfl) ?_; refine oS sT (oZ hK8 ?_); refine cT (cR fun _ hK9 => ?_); refine oM (oM ?_); refine oS (s_idx rfl rfl hxs (by omega)) ?_; refine o_stS1 i _ hOx pkA rfl rfl rfl (by rw [orK_len]; omega) (by omega) fun S' hS' => ?_; refine oZ hK9 (c_region (oA (o_nil (x_block (xZ hK7 (c_region (oM ?_))))))); refine oS sD (oA (o_nil ?_)); exact x_then (x_inv (i + 1, S') ⟨by dsimp only; omega, by rw [← orK_yes hix hb]; exact hS'⟩ (by first | omega | (dsimp only; omega)) (by exact Sub.cons rfl (Sub.cons' rfl (congrArg Value.bool (by rw [moreTo_succ, hb, haf]; simp)) sbA)) hzB)
   ·have hbf : bo0 zs i = false := by simpa using hb
    refine oS (step_cast (v' := .bool false) (s_ld rfl ((RdK.old hw.1 hw.2).ld i 0 (bo0_get hiz) rfl (by decide) (by omega))) (by rw [hbf])) ?_; refine oM ?_; refine oN ?_; refine oN ?_; refine oN ?_; refine oN ?_; refine oN ?_; refine oS sP (oZ hK8 ?_); refine cF (c_skip (x_block (xZ hK7 (c_region (oM ?_))))); refine oS sD (oA (o_nil ?_)); exact x_then (x_inv (i + 1, Sx) ⟨by dsimp only; omega, by rw [← orK_no hix (.inl hbf)]; exact hOx⟩ (by first | omega | (dsimp only; omega)) (by exact Sub.cons rfl (Sub.cons' rfl (congrArg Value.bool (by rw [moreTo_succ, hbf]; simp)) sbA)) hzB)
  ·obtain rfl : i = xs.length := by omega
   rw [orK_all] at hOx
   refine c_exit ?_; refine x_then_exit (x_then_exit (x_block_exit (xZ hK3 (cR fun _ hK10 => ?_)))); refine oM (oA (oZ hK10 (c_ret ?_))); refine ?_; refine x_sub (Sub.refl _) (H' := Sx) hzB ?_; exact xR rfl rfl (⟨rfl, hOx⟩)
theorem orM2_fn (aa : Option Addr) (ac n : Nat) (xs : List Bool) (hn : xs.length = n) (Sa : Hp) (hO : OwnS Ebo 1 4 (.slice aa n ac) xs Sa) (ba : Option Addr) (bc : Nat) (zs : List Bool) (hz : zs.length = n) (hxl : n ≤ 2000000) : HL.Fn Tryd.prog 98 [.slice aa n ac, .slice ba zs.length bc] (fun W => Rd Ebo W (.slice ba zs.length bc) zs ∧ Apart (keys Sa) (.slice ba zs.length bc)) Sa (fun v S' => v = .bool (moreB xs zs) ∧ OwnS Ebo 1 4 (.slice aa n ac) (orL xs zs) S') := by
  subst hn
  exact orM_fn aa ac xs Sa hO ba bc zs hz hxl
def SetO (N : Nat) (Pool : Hp) (s : Sl Bool) : Prop := s.xs.length = N + 1 ∧ ∃ S0, HIn S0 Pool ∧ OwnS Ebo 1 4 s.v s.xs S0
theorem SetO.mono {N : Nat} {P P' : Hp} {s : Sl Bool} (h : SetO N P s) (hs : HIn P P') : SetO N P' s := by
  obtain ⟨h1, S0, h2, h3⟩ := h
  exact ⟨h1, S0, fun p hp => hs p (h2 p hp), h3⟩
structure MeE where
  (bM : Nat) (ra : Option Addr) (rc : Nat) (re : List Nd) (ta : Option Addr) (tc : Nat) (w : List UInt8) (ma : Option Addr) (mc : Nat) (sls : List (Sl Nat))
structure MeS where
  (met : List (List Nat)) (SR : Hp) (sa : Option Addr) (sc : Nat) (ss : List (Sl Bool)) (SS Pool : Hp)
namespace MeE
def obj (K : MeE) (σ : MeS) : Nat × Obj := (K.bM, .cells [.slice K.ra K.re.length K.rc, .slice K.ta K.w.length K.tc, .slice K.ma K.sls.length K.mc, .slice σ.sa σ.ss.length σ.sc].toArray 106 (0, 0))
def H (K : MeE) (σ : MeS) : Hp := K.obj σ :: (σ.SR ++ (σ.SS ++ σ.Pool))
structure ok (K : MeE) : Prop where
  rng : ∀ x ∈ K.re, -128 ≤ x.op ∧ x.op < 128
  sh : shapedB K.re = true
  r8 : ∀ x ∈ K.re, ¬ x.op = 8
  rl : K.re.length ≤ 1000000
  wl : K.w.length ≤ 1000000
  sl : K.sls.length = K.re.length
structure Env (K : MeE) (W : World) (S : Hp) : Prop where
  d1 : Rd En W (.slice K.ra K.re.length K.rc) K.re
  a1 : Apart (keys S) (.slice K.ra K.re.length K.rc)
  d2 : Rd Eb W (.slice K.ta K.w.length K.tc) K.w
  a2 : Apart (keys S) (.slice K.ta K.w.length K.tc)
  d3 : Rd Esl W (.slice K.ma K.sls.length K.mc) K.sls
  a3 : Apart (keys S) (.slice K.ma K.sls.length K.mc)
structure Inv (K : MeE) (σ : MeS) : Prop where
  rows : OwnL Eix 1 3 K.sls σ.met σ.SR
  sets : OwnS Esl 1 24 (.slice σ.sa σ.ss.length σ.sc) σ.ss σ.SS
  tab : TabI K.re K.w σ.met σ.ss
  pool : ∀ s ∈ σ.ss, SetO K.w.length σ.Pool s
  len : ∀ (k : Nat) l, σ.met[k]? = some l → l.length = K.w.length + 1
  cnt : σ.ss.length + zers σ.met ≤ 1000000
structure Ext (K : MeE) (lo hi : Nat) (σ σ' : MeS) : Prop where
  inv : K.Inv σ'
  pool : HIn σ.Pool σ'.Pool
  out : ∀ k, k < lo ∨ hi ≤ k → σ'.met[k]? = σ.met[k]?
theorem Ext.refl {K : MeE} {lo hi : Nat} {σ : MeS} (h : K.Inv σ) : K.Ext lo hi σ σ := ⟨h, fun _ h => h, fun _ _ => rfl⟩
theorem Ext.trans {K : MeE} {lo hi lo1 hi1 : Nat} {σ σ1 σ2 : MeS} (h : K.Ext lo hi σ σ1) (h' : K.Ext lo1 hi1 σ1 σ2) (h1 : lo ≤ lo1) (h2 : hi1 ≤ hi) : K.Ext lo hi σ σ2 :=
  ⟨h'.inv, fun p hp => h'.pool p (h.pool p hp), fun k hk => (h'.out k (by omega)).trans (h.out k hk)⟩
theorem Ext.wide {K : MeE} {lo hi lo1 hi1 : Nat} {σ σ1 : MeS} (h : K.Ext lo1 hi1 σ σ1) (h1 : lo ≤ lo1) (h2 : hi1 ≤ hi) : K.Ext lo hi σ σ1 := ⟨h.inv, h.pool, fun k hk => h.out k (by omega)⟩
theorem Inv.add {K : MeE} {σ : MeS} (h : K.Inv σ) {at_ i : Nat} {row : List Nat} (hr : σ.met[at_]? = some row) (h0 : row[i]? = some 0) {a : Option Addr} {c : Nat} {l : List Bool} {So : Hp} (hO : OwnS Ebo 1 4 (.slice a l.length c) l So) (hll : l.length = K.w.length + 1)
    {sa : Option Addr} {sc : Nat} {SS' : Hp} (hS : OwnS Esl 1 24 (.slice sa (σ.ss ++ [(⟨a, c, l⟩ : Sl Bool)]).length sc) (σ.ss ++ [(⟨a, c, l⟩ : Sl Bool)]) SS') {SR' : Hp} (hR : OwnL Eix 1 3 K.sls (σ.met.set at_ (row.set i (σ.ss.length + 1))) SR')
    (hD : ∀ y js r e, Part K.re (.nd y js r) at_ e → IsS l K.w.length (der1 K.w y js i)) : K.Inv ⟨σ.met.set at_ (row.set i (σ.ss.length + 1)), SR', sa, sc, σ.ss ++ [(⟨a, c, l⟩ : Sl Bool)], SS', So ++ σ.Pool⟩ := by
  have hz := zers_set (v := σ.ss.length + 1) hr h0 (Nat.succ_ne_zero _)
  refine ⟨hR, hS, (h.tab.sets ⟨a, c, l⟩).set hr (s := ⟨a, c, l⟩) (by simp) hD, fun s hs => ?_, fun k l' hk => ?_, ?_⟩
  · rcases List.mem_append.1 hs with hs | hs
    · exact (h.pool s hs).mono HIn.appR
    · obtain rfl := List.mem_singleton.1 hs
      exact ⟨hll, So, HIn.appL, hO⟩
  · by_cases e : at_ = k
    · subst e
      rw [List.getElem?_set_self (List.getElem?_eq_some_iff.1 hr).1] at hk
      cases hk
      rw [List.length_set]
      exact h.len _ _ hr
    · rw [List.getElem?_set_ne e] at hk
      exact h.len _ _ hk
  · have := h.cnt
    simp only [List.length_append, List.length_singleton]
    omega
def OutQ (K : MeE) (lo hi : Nat) (D : Nat → Prop) (σ : MeS) (v : Value) (S' : Hp) : Prop := ∃ (a : Option Addr) (c : Nat) (l : List Bool) (So : Hp) (σ' : MeS), v = .slice a l.length c ∧ S' = K.obj σ' :: (So ++ (σ'.SR ++ (σ'.SS ++ σ'.Pool))) ∧ OwnS Ebo 1 4 (.slice a l.length c) l So ∧ IsS l K.w.length D ∧ K.Ext lo hi σ σ'
def EndQ (K : MeE) (lo hi : Nat) (D : Nat → Prop) (σ : MeS) (v : Value) (S' : Hp) : Prop := ∃ (a : Option Addr) (c : Nat) (l : List Bool) (S0 : Hp) (σ' : MeS), v = .slice a l.length c ∧ S' = K.obj σ' :: (σ'.SR ++ (σ'.SS ++ σ'.Pool)) ∧ OwnS Ebo 1 4 (.slice a l.length c) l S0 ∧ HIn S0 σ'.Pool ∧ IsS l K.w.length D ∧ K.Ext lo hi σ σ'
def EndsT (K : MeE) (x : Nd) (ks : F) : Prop := ∀ (at_ i1 : Nat), Part K.re (.nd x ks .nil) at_ i1 → ∀ (i : Nat), i ≤ K.w.length → ∀ σ : MeS, K.Inv σ →
  HL.Fn Tryd.prog 66 [pt K.bM, .int .i64 at_, .int .i64 i] (fun W => K.Env W (K.H σ)) (K.H σ) (K.EndQ at_ i1 (der1 K.w x ks i) σ)
def StepT (K : MeE) (x : Nd) (ks : F) : Prop := ∀ (at_ i1 : Nat), Part K.re (.nd x ks .nil) at_ i1 → ∀ (fa : Option Addr) (fc : Nat) (fr : List Bool) (S : Nat → Prop), IsS fr K.w.length S → ∀ σ : MeS, K.Inv σ →
  HL.Fn Tryd.prog 100 [pt K.bM, .int .i64 at_, .slice fa fr.length fc] (fun W => K.Env W (K.H σ) ∧ Rd Ebo W (.slice fa fr.length fc) fr ∧ Apart (keys (K.H σ)) (.slice fa fr.length fc)) (K.H σ) (K.OutQ at_ i1 (img (der1 K.w x ks) S) σ)
def RoundT (K : MeE) (x y : Nd) (js : F) : Prop := ∀ (at_ i1 : Nat), x.op = 6 → Part K.re (.nd x (.nd y js .nil) .nil) at_ i1 → ∀ (fa : Option Addr) (fc : Nat) (fr : List Bool) (Sh : Hp) (S : Nat → Prop), OwnS Ebo 1 4 (.slice fa fr.length fc) fr Sh → IsS fr K.w.length S → (∀ p, S p → p ≤ K.w.length) → ∀ σ : MeS, K.Inv σ →
  HL.Fn Tryd.prog 99 [pt K.bM, .int .i64 at_, .slice fa fr.length fc] (fun W => K.Env W (K.obj σ :: (Sh ++ (σ.SR ++ (σ.SS ++ σ.Pool))))) (K.obj σ :: (Sh ++ (σ.SR ++ (σ.SS ++ σ.Pool)))) (K.OutQ (at_ + 1) i1 (img (rounds x (der1 K.w y js)) S) σ)
end MeE
end Go.Proofs.YtmompllplidphaaDoor
namespace Go.HL.Kl.Mc
open Go Go.HL Go.HL.Kl AskE
variable {w : List UInt8} {x y : Nd} {ks js : F} {i : Nat}
theorem IsS.ds1 (h1 : x.op = 1) {b : UInt8} (hb : w[i]? = some b) {v : Bool} (hv : v = true ↔ x.set.getLsbD b.toNat = true) : IsS ((List.replicate (w.length + 1) false).set (i + 1) v) w.length (der1 w x ks i) := by
  have hi := (List.getElem?_eq_some_iff.1 hb).1
  refine (IsS.only (by omega) hv).iff fun q _ => ?_
  rw [der1_1 h1]
  constructor
  · rintro ⟨rfl, h⟩; exact ⟨rfl, b, hb, h⟩
  · rintro ⟨rfl, b', hb', h⟩
    rw [hb] at hb'
    cases hb'
    exact ⟨rfl, h⟩
theorem IsS.ds1n (h1 : x.op = 1) (hi : ¬ i < w.length) : IsS (List.replicate (w.length + 1) false) w.length (der1 w x ks i) := IsS.none.iff fun q _ => by
  rw [der1_1 h1]
  refine ⟨False.elim, ?_⟩
  rintro ⟨_, b, hb, _⟩
  exact hi (List.getElem?_eq_some_iff.1 hb).1
theorem IsS.ds2 (h2 : x.op = 2) (hi : i ≤ w.length) {v : Bool} (hv : v = true ↔ i = 0) : IsS ((List.replicate (w.length + 1) false).set i v) w.length (der1 w x ks i) := (IsS.only hi hv).iff fun q _ => by
  rw [der1_2 h2]
  constructor
  · rintro ⟨a, b⟩; omega
  · rintro ⟨a, b⟩; omega
theorem IsS.ds3 (h3 : x.op = 3) (hi : i ≤ w.length) {v : Bool} (hv : v = true ↔ i = w.length) : IsS ((List.replicate (w.length + 1) false).set i v) w.length (der1 w x ks i) := (IsS.only hi hv).iff fun q _ => by
  rw [der1_3 h3]
  constructor
  · rintro ⟨a, b⟩; omega
  · rintro ⟨a, b⟩; omega
theorem img_only {D : Nat → Nat → Prop} {i q : Nat} : img D (fun p => p = i) q ↔ D i q := by
  constructor
  · rintro ⟨p, h1, h2⟩
    have h1 : p = i := h1
    subst h1; exact h2
  · exact fun h => ⟨i, rfl, h⟩
theorem IsS.orn {l : List Bool} {N : Nat} {S : Nat → Prop} (hl : IsS l N S) : IsS (orL (List.replicate (N + 1) false) l) N S := (IsS.none.or hl).iff fun q _ => by simp
theorem IsS.ds7 (h7 : x.op = 7) {l : List Bool} (hl : IsS l w.length (der1 w y js i)) : IsS (orL (List.replicate (w.length + 1) false) l) w.length (der1 w x (.nd y js .nil) i) := hl.orn.iff fun q _ => by rw [der1_4 (.inr h7), der_one]
theorem IsS.ds6 (h6 : x.op = 6) {l : List Bool} (hl : IsS l w.length (img (rounds x (der1 w y js)) (fun q => q = i))) : IsS (orL (List.replicate (w.length + 1) false) l) w.length (der1 w x (.nd y js .nil) i) := hl.orn.iff fun q _ => by
  have h := img_rep6 (w := w) (x := x) (ks := .nd y js .nil) (T := fun q => q = i) (p := q) h6
  rw [der_fone] at h
  rw [← h, img_only]
def CatI (w : List UInt8) (x : Nd) (ks g : F) (i : Nat) (T : Nat → Prop) : Prop := ∀ q, img (der w g false) T q ↔ der1 w x ks i q
theorem CatI.start (h4 : x.op = 4) : CatI w x ks ks i (fun q => q = i) := fun q => by rw [img_only, der1_4 (.inl h4)]
theorem CatI.step {r : F} {T : Nat → Prop} (h : CatI w x ks (.nd y js r) i T) : CatI w x ks r i (img (der1 w y js) T) := fun q => img_cat.trans (h q)
theorem CatI.done {T : Nat → Prop} (h : CatI w x ks .nil i T) {l : List Bool} (hl : IsS l w.length T) : IsS (orL (List.replicate (w.length + 1) false) l) w.length (der1 w x ks i) := hl.orn.iff fun q _ => img_nil.symm.trans (h q)
def AltI (w : List UInt8) (x : Nd) (ks g : F) (i : Nat) (T : Nat → Prop) : Prop := ∀ q, (T q ∨ der w g true i q) ↔ der1 w x ks i q
theorem AltI.start (h5 : x.op = 5) : AltI w x ks ks i (fun _ => False) := fun q => by rw [der1_5 h5]; simp
theorem AltI.step {r : F} {T : Nat → Prop} (h : AltI w x ks (.nd y js r) i T) : AltI w x ks r i (fun q => T q ∨ der1 w y js i q) := fun q => by
  rw [← h q, der_alt, or_assoc]
theorem AltI.done {T : Nat → Prop} (h : AltI w x ks .nil i T) {l : List Bool} (hl : IsS l w.length T) : IsS l w.length (der1 w x ks i) := hl.iff fun q _ => by
  rw [← h q]
  exact ⟨.inl, fun h => h.resolve_right der_nil'.1⟩
theorem IsS.upto_all {S : Nat → Prop} {out : List Bool} (h : IsS out w.length (fun q => ∃ p, p < w.length + 1 ∧ S p ∧ der1 w y js p q)) : IsS out w.length (img (der1 w y js) S) := h.iff fun q hq => ⟨fun ⟨p, _, a, b⟩ => ⟨p, a, b⟩, fun ⟨p, a, b⟩ => ⟨p, by have := der1_up _ _ b; omega, a, b⟩⟩
end Go.HL.Kl.Mc
namespace Go.Proofs.YtmompllplidphaaDoor
open Go Go.HL Go.Proofs Go.HL.Kl Go.HL.Kl.Mc Go.HL.Kl.Mc.AskE
set_option maxHeartbeats 2000000 in
theorem step_fnM (K : MeE) (hK : K.ok) (y : Nd) (js : F) (hE : K.EndsT y js) (at_ i1 : Nat) (hp : Part K.re (.nd y js .nil) at_ i1) (fa : Option Addr) (fc : Nat) (fr : List Bool) (S : Nat → Prop) (hS : IsS fr K.w.length S) (σ0 : MeS) (hI0 : K.Inv σ0) : HL.Fn Tryd.prog 100 [pt K.bM, .int .i64 at_, .slice fa fr.length fc] (fun W => K.Env W ((K.bM, .cells [.slice K.ra K.re.length K.rc, .slice K.ta K.w.length K.tc, .slice K.ma K.sls.length K.mc, .slice σ0.sa σ0.ss.length σ0.sc].toArray 106 (0, 0)) :: (σ0.SR ++ (σ0.SS ++ σ0.Pool))) ∧ Rd Ebo W (.slice fa fr.length fc) fr ∧ Apart (keys ((K.bM, .cells [.slice K.ra K.re.length K.rc, .slice K.ta K.w.length K.tc, .slice K.ma K.sls.length K.mc, .slice σ0.sa σ0.ss.length σ0.sc].toArray 106 (0, 0)) :: (σ0.SR ++ (σ0.SS ++ σ0.Pool)))) (.slice fa fr.length fc)) ((K.bM, .cells [.slice K.ra K.re.length K.rc, .slice K.ta K.w.length K.tc, .slice K.ma K.sls.length K.mc, .slice σ0.sa σ0.ss.length σ0.sc].toArray 106 (0, 0)) :: (σ0.SR ++ (σ0.SS ++ σ0.Pool))) (K.OutQ at_ i1 (img (der1 K.w y js) S) σ0) := by
  refine fn_of Tryd.func100 rfl rfl rfl fun w0 hw => ?_
  have hwl := hK.wl
  have hts := hw.1.d2.sl
  have hfs := hw.2.1.sl
  have hfl := hS.len
  have hple := hp.le
  refine cR fun _ hK1 => ?_; refine oA (oZ hK1 (cR fun _ hK2 => ?_)); refine oM ?_; refine oS sN ?_; refine oS sF ?_; refine oS sL ?_; refine oS sC ?_; refine oS sD ?_; refine o_make (E := Ebo) (zx := false) (n := K.w.length + 1) rfl rfl rfl (by omega) (by omega) rfl fun b15 S15 hS15 => ?_
  have hS15s := hS15.sl
  rw [List.length_replicate] at hS15s
  refine oA (oZ hK2 (c_seq fun _ hK3 => ?_)); refine cR fun _ hK4 => ?_; refine oA (oZ hK4 (c_block ?_)); refine c_loop4 (fun (k : Nat) (l : List Bool) (So : Hp) (σ : MeS) => k ≤ K.w.length + 1 ∧ OwnS Ebo 1 4 (.slice (some ⟨b15, 0, none⟩) (K.w.length + 1) (K.w.length + 1)) l So ∧ IsS l K.w.length (fun q => ∃ p, p < k ∧ S p ∧ der1 K.w y js p q) ∧ K.Ext at_ i1 σ0 σ) (fun (k : Nat) (l : List Bool) (So : Hp) (σ : MeS) => [(8, .int .i64 k)]) [(0, _), (1, _), (2, _), (6, _), (7, _)] (fun (k : Nat) (l : List Bool) (So : Hp) (σ : MeS) => (K.bM, .cells [.slice K.ra K.re.length K.rc, .slice K.ta K.w.length K.tc, .slice K.ma K.sls.length K.mc, .slice σ.sa σ.ss.length σ.sc].toArray 106 (0, 0)) :: (So ++ (σ.SR ++ (σ.SS ++ σ.Pool)))) (fun (k : Nat) (l : List Bool) (So : Hp) (σ : MeS) => K.w.length + 1 - k) 0 _ S15 σ0 ⟨Nat.zero_le _, hS15, IsS.none.iff fun q _ => ⟨False.elim, fun ⟨_, h, _⟩ => absurd h (Nat.not_lt_zero _)⟩, .refl hI0⟩ sbA sbA hzB ?_
  rintro k l So σ ⟨hk, hO, hIs, hX⟩
  have hll := hIs.len
  refine c_seq fun _ hK5 => ?_; refine cR fun _ hK6 => ?_; refine oM (oM ?_); refine oS sC ?_
  by_cases hkl : (k : Int) < fr.length
  ·refine oS lsT (oZ hK6 ?_); refine cTZ hK5 (c_seq fun _ hK7 => ?_); refine c_block (cR fun _ hK8 => ?_); refine oM (oM ?_); refine oS (s_idx rfl rfl hfs (by omega)) ?_
   by_cases hb : bo0 fr k = true
   ·have hbS : S k := (hS.get k (by omega)).1 (bo0_true.1 hb)
    refine oS (step_cast (v' := .bool true) (s_ld rfl ((RdK.old hw.2.1 hw.2.2).ld k 0 (bo0_get (by omega)) rfl (by decide) (by omega))) (by rw [hb])) ?_; refine oZ hK8 ?_; refine cT (c_region (oM (oM (oM (oM ?_))))); refine o_call (hE at_ i1 hp k (by omega) σ hX.inv) rfl rfl rfl ((Pick.takeC pkA (Pick.takeA pkA pkA))) (fun _ st => ⟨(RdK.old hw.1.d1 hw.1.a1).out _ st, St.apart_M st (by exact hiB) hw.1.d1 hw.1.a1 (by decide), (RdK.old hw.1.d2 hw.1.a2).out _ st, St.apart_M st (by exact hiB) hw.1.d2 hw.1.a2 (by decide), (RdK.old hw.1.d3 hw.1.a3).out _ st, St.apart_M st (by exact hiB) hw.1.d3 hw.1.a3 (by decide)⟩) (fun v30 S30 ⟨a30, c30, l30, S030, σ30, hv30, hS30, hO30, hi30, hI30, hX30⟩ => ?_); subst hv30
    subst hS30
    have hl30 := hI30.len
    refine o_call (orM2_fn (some ⟨b15, 0, none⟩) _ _ l hll So hO a30 c30 l30 hl30 (by omega)) rfl rfl rfl pkA (fun _ st => ⟨((hO30.rds.mono hi30).rdk hiA).out _ st, St.apart st pkA hO30 (fun p hp => (show HIn σ30.Pool _ from by exact hiB) p (hi30 p hp))⟩) (fun v31 So31 ⟨hv31, hO31⟩ => ?_); subst hv31
    refine o_nil (x_block (xZ hK7 (c_region (oM ?_)))); refine oS sD (oA (o_nil ?_)); exact xI (k + 1, orL l l30, So31, σ30) ⟨by dsimp only; omega, hO31, hIs.upto hbS hI30, hX.trans hX30 (Nat.le_refl _) (Nat.le_refl _)⟩
   ·have hbS : ¬ S k := fun h => hb (bo0_true.2 ((hS.get k (by omega)).2 h))
    refine oS (step_cast (v' := .bool false) (s_ld rfl ((RdK.old hw.2.1 hw.2.2).ld k 0 (bo0_get (by omega)) rfl (by decide) (by omega))) (by rw [Bool.eq_false_iff.2 hb])) ?_; refine oZ hK8 ?_; refine cF (c_skip (x_block (xZ hK7 (c_region (oM ?_))))); refine oS sD (oA (o_nil ?_)); exact xI (k + 1, l, So, σ) ⟨by dsimp only; omega, hO, hIs.upto_no hbS, hX⟩
  ·obtain rfl : k = K.w.length + 1 := by omega
   refine o_step rfl (step_cast (v' := .bool false) (s_lss rfl rfl) (by rw [decide_eq_false (by omega)])) ?_; refine o_nil ?_; refine x_then (hK6 _ _ ?_); refine c_false rfl ?_; refine c_exit ?_; refine x_then_exit ?_; refine x_then_exit ?_; refine x_block_exit ?_; refine x_then (hK3 _ _ ?_); refine c_seq fun _ hK9 => ?_; refine c_region ?_; refine o_step rfl (s_move rfl) ?_; refine o_step rfl (s_assign rfl) ?_; refine o_nil ?_; refine x_then (hK9 _ _ ?_); refine c_ret ?_; refine ?_; refine x_sub (Sub.refl _) (H' := (K.bM, .cells [.slice K.ra K.re.length K.rc, .slice K.ta K.w.length K.tc, .slice K.ma K.sls.length K.mc, .slice σ.sa σ.ss.length σ.sc].toArray 106 (0, 0)) :: (So ++ (σ.SR ++ (σ.SS ++ σ.Pool)))) hzB ?_; exact x_ret rfl (.tmp rfl (.nil)) (⟨some ⟨b15, 0, none⟩, K.w.length + 1, l, So, σ, by rw [hll]; rfl, rfl, by rw [hll]; exact hO, hIs.upto_all, hX⟩)
theorem rounds_fixed2 {N k : Nat} {x : Nd} {D : Nat → Nat → Prop} {S : Nat → Prop} (h0 : 0 ≤ x.mn) (hkx : x.mx = -1 ∨ (k : Int) ≤ x.mx) (hk : x.mn.toNat ≤ k) (hS : ∀ p, S p → p ≤ N) (hD : Inn N D) (h : ∀ q, q ≤ N → img (pow D (k + 1)) S q → upTo D S x.mn.toNat k q) (q : Nat) : upTo D S x.mn.toNat k q ↔ img (rounds x D) S q := by
  rw [img_rounds h0]
  constructor
  · rintro ⟨j, h1, h2, h3⟩; exact ⟨j, h1, hkx.imp id fun h => by omega, h3⟩
  · rintro ⟨j, h1, _, h3⟩; exact upTo_fix hS hD hk h q ⟨j, h1, h3⟩
set_option maxHeartbeats 4000000 in
theorem rounds_fnM (K : MeE) (hK : K.ok) (x y : Nd) (js : F) (hSt : K.StepT y js) (at_ i1 : Nat) (h6 : x.op = 6) (hp : Part K.re (.nd x (.nd y js .nil) .nil) at_ i1) (fa : Option Addr) (fc : Nat) (fr : List Bool) (Sh : Hp) (S : Nat → Prop) (hOf : OwnS Ebo 1 4 (.slice fa fr.length fc) fr Sh) (hS : IsS fr K.w.length S) (hSb : ∀ p, S p → p ≤ K.w.length) (σ0 : MeS) (hI0 : K.Inv σ0) : HL.Fn Tryd.prog 99 [pt K.bM, .int .i64 at_, .slice fa fr.length fc] (fun W => K.Env W ((K.bM, .cells [.slice K.ra K.re.length K.rc, .slice K.ta K.w.length K.tc, .slice K.ma K.sls.length K.mc, .slice σ0.sa σ0.ss.length σ0.sc].toArray 106 (0, 0)) :: (Sh ++ (σ0.SR ++ (σ0.SS ++ σ0.Pool))))) ((K.bM, .cells [.slice K.ra K.re.length K.rc, .slice K.ta K.w.length K.tc, .slice K.ma K.sls.length K.mc, .slice σ0.sa σ0.ss.length σ0.sc].toArray 106 (0, 0)) :: (Sh ++ (σ0.SR ++ (σ0.SS ++ σ0.Pool)))) (K.OutQ (at_ + 1) i1 (img (rounds x (der1 K.w y js)) S) σ0) := by
  refine fn_of Tryd.func99 rfl rfl rfl fun w0 hw => ?_
  have hwl := hK.wl
  have hrl := hK.rl
  have hres := hw.d1.sl
  have hfl := hS.len
  have hple := hp.le
  have hpl := hp.len
  obtain ⟨hx, hpk, _⟩ := hp.head
  have hxz : (F.nd y js .nil).size = 1 + js.size := by simp only [F.size]; omega
  have hxy : (F.nd x (F.nd y js .nil) .nil).size = 2 + js.size := by simp only [F.size]; omega
  have hat := (List.getElem?_eq_some_iff.1 hx).1
  have hrf := rep_flds hp.wf.1 h6
  have hD : Inn K.w.length (der1 K.w y js) := der1_inn
  refine cR fun _ hK1 => ?_; refine oA (oZ hK1 (cR fun _ hK2 => ?_)); refine oM ?_; refine oS sN ?_; refine oS sF ?_; refine oS sL (oM ?_); refine oS (s_idx rfl rfl hres (by omega)) ?_; refine oS (s_ldB rfl ((RdK.old hw.d1 hw.a1).lds at_ hx rfl) (by rfl)) ?_; refine o_alloc (l := En zN) (by rw [En_zero]; rfl) rfl fun b7 => ?_; refine o_stW rfl rfl upA lnA lnA onA ?_; refine oZ hK2 (c_seq fun _ hK3 => ?_); refine cR fun _ hK4 => ?_; refine oA (oZ hK4 (c_block ?_)); refine c_loop6 (fun (j : Nat) (ga : Option Addr) (gc : Nat) (g : List Bool) (Sg : Hp) (σ : MeS) => (j : Int) ≤ x.mn ∧ OwnS Ebo 1 4 (.slice ga g.length gc) g Sg ∧ IsS g K.w.length (img (pow (der1 K.w y js) j) S) ∧ K.Ext (at_ + 1) i1 σ0 σ) (fun (j : Nat) (ga : Option Addr) (gc : Nat) (g : List Bool) (Sg : Hp) (σ : MeS) => [(8, .int .i64 j), (2, .slice ga g.length gc)]) [(0, _), (1, _), (6, _), (7, _)] (fun (j : Nat) (ga : Option Addr) (gc : Nat) (g : List Bool) (Sg : Hp) (σ : MeS) => (b7, .cells (En x).toArray 57 (0, 0)) :: (K.bM, .cells [.slice K.ra K.re.length K.rc, .slice K.ta K.w.length K.tc, .slice K.ma K.sls.length K.mc, .slice σ.sa σ.ss.length σ.sc].toArray 106 (0, 0)) :: (Sg ++ (σ.SR ++ (σ.SS ++ σ.Pool)))) (fun (j : Nat) (ga : Option Addr) (gc : Nat) (g : List Bool) (Sg : Hp) (σ : MeS) => x.mn.toNat - j) 0 fa fc fr Sh σ0 ⟨by omega, hOf, hS.iff fun q _ => img_zero.symm, .refl hI0⟩ sbA sbA hzB ?_
  rintro j ga gc g Sg σ ⟨hj, hOg, hIg, hX⟩
  have hlg := hIg.len
  refine c_seq fun _ hK5 => ?_; refine cR fun _ hK6 => ?_; refine oM ?_; refine oS sF ?_; refine oS sL ?_
  by_cases hjm : (j : Int) < x.mn
  ·refine oS lsT (oZ hK6 ?_); refine cTZ hK5 (c_seq fun _ hK7 => ?_); refine c_block (c_region (oM (oM ?_))); refine oS sD (oM ?_); refine o_call (hSt (at_ + 1) _ hpk ga gc g _ hIg σ hX.inv) rfl rfl rfl ((Pick.takeC pkA (Pick.takeA pkA pkA))) (fun _ st => ⟨⟨(RdK.old hw.d1 hw.a1).out _ st, St.apart_M st (by exact hiB) hw.d1 hw.a1 (by decide), (RdK.old hw.d2 hw.a2).out _ st, St.apart_M st (by exact hiB) hw.d2 hw.a2 (by decide), (RdK.old hw.d3 hw.a3).out _ st, St.apart_M st (by exact hiB) hw.d3 hw.a3 (by decide)⟩, (hOg.rdk hiA).out _ st, St.apart st (Pick.takeC pkA (Pick.takeA pkA pkA)) hOg (by exact hiB)⟩) (fun v28 S28 ⟨a28, c28, l28, So28, σ28, hv28, hS28, hO28, hI28, hX28⟩ => ?_)
   subst hv28; subst hS28
   have hl28 := hI28.len
   refine oA (o_nil (x_block (xZ hK7 (c_region (oM ?_))))); refine oS sD (oA (o_nil ?_)); exact xI (j + 1, a28, c28, l28, So28, σ28) ⟨by dsimp only; omega, hO28, hI28.iff fun q _ => img_succ, hX.trans hX28 (Nat.le_refl _) (by omega)⟩
  ·obtain rfl : j = x.mn.toNat := by omega
   refine oS lsF (oZ hK6 ?_); refine cF ?_; refine c_exit ?_; refine x_then_exit (x_then_exit (x_block_exit (xZ hK3 (cR fun _ hK8 => ?_)))); refine oM ?_; refine oS sC ?_; refine o_make (E := Ebo) (zx := false) (n := g.length) rfl rfl rfl (by omega) (by omega) rfl fun b31 S31 hS31 => ?_; refine oA (oZ hK8 (cR fun _ hK9 => ?_)); refine oM (oM ?_); refine o_call (orM2_fn (some ⟨b31, 0, none⟩) g.length g.length (List.replicate g.length false) List.length_replicate S31 hS31 ga gc g rfl (by omega)) rfl rfl rfl pkA (fun _ st => ⟨(hOg.rdk hiA).out _ st, St.apart st pkA hOg (by exact hiB)⟩) (fun v34 So34 ⟨hv34, hO34⟩ => ?_)
   subst hv34; refine oZ hK9 (c_seq fun _ hK10 => ?_); refine cR fun _ hK11 => ?_; refine oS sF ?_; refine oS sL (oA (oZ hK11 (c_block ?_))); refine c_loop8 (fun (k : Nat) (ha : Option Addr) (hc : Nat) (h : List Bool) (Sg2 : Hp) (o : List Bool) (So : Hp) (τ : MeS) => x.mn ≤ k ∧ (x.mx = -1 → k + cf o ≤ x.mn.toNat + K.w.length + 1) ∧ (x.mx ≠ -1 → (k : Int) ≤ x.mx) ∧ OwnS Ebo 1 4 (.slice ha h.length hc) h Sg2 ∧ IsS h K.w.length (img (pow (der1 K.w y js) k) S) ∧ OwnS Ebo 1 4 (.slice (some ⟨b31, 0, none⟩) g.length g.length) o So ∧ IsS o K.w.length (upTo (der1 K.w y js) S x.mn.toNat k) ∧ K.Ext (at_ + 1) i1 σ0 τ) (fun (k : Nat) (ha : Option Addr) (hc : Nat) (h : List Bool) (Sg2 : Hp) (o : List Bool) (So : Hp) (τ : MeS) => [(10, .int .i64 k), (2, .slice ha h.length hc)]) [(0, _), (1, _), (6, _), (7, _), (9, _)] (fun (k : Nat) (ha : Option Addr) (hc : Nat) (h : List Bool) (Sg2 : Hp) (o : List Bool) (So : Hp) (τ : MeS) => (b7, .cells (En x).toArray 57 (0, 0)) :: (K.bM, .cells [.slice K.ra K.re.length K.rc, .slice K.ta K.w.length K.tc, .slice K.ma K.sls.length K.mc, .slice τ.sa τ.ss.length τ.sc].toArray 106 (0, 0)) :: (So ++ (Sg2 ++ (τ.SR ++ (τ.SS ++ τ.Pool))))) (fun (k : Nat) (ha : Option Addr) (hc : Nat) (h : List Bool) (Sg2 : Hp) (o : List Bool) (So : Hp) (τ : MeS) => (if x.mx = -1 then cf o else (x.mx - k).toNat)) x.mn.toNat ga gc g Sg (orL (List.replicate g.length false) g) So34 σ ⟨by omega, fun _ => by have h1 := cf_le (orL (List.replicate g.length false) g); rw [orL_len, List.length_replicate] at h1; omega, fun h => by omega, hOg, hIg, hO34, by have h1 := hIg.orn; rw [← hlg] at h1; exact h1.iff fun q _ => upTo_start.symm, hX⟩ (by exact Sub.cons' rfl (by congr 1; omega) sbA) sbA hzB ?_
   rintro k ha hc h Sg2 o So τ ⟨hk1, hk2, hk3, hOh, hIh, hOo, hIo, hXt⟩
   have hlo := hIo.len
   have hlog : o.length = g.length := by omega
   refine c_seq fun _ hK12 => ?_; refine cR fun _ hK13 => ?_; refine oS sF ?_; refine oS sL ?_
   by_cases hm1 : x.mx < 0
   ·have hm2 : x.mx = -1 := by omega
    have hk2b := hk2 hm2
    refine oS lsT (oM ?_); refine oN ?_; refine oN ?_; refine oN ?_; refine oN ?_; refine oS sT (oZ hK13 ?_); refine cTZ hK12 (c_seq fun _ hK14 => ?_); refine c_block (cR fun _ hK15 => ?_); refine oM (oM ?_); refine oS sD (oM ?_); refine o_call (hSt (at_ + 1) _ hpk ha hc h _ hIh τ hXt.inv) rfl rfl rfl ((Pick.takeC pkA (Pick.takeA pkA pkA))) (fun _ st => ⟨⟨(RdK.old hw.d1 hw.a1).out _ st, St.apart_M st (by exact hiB) hw.d1 hw.a1 (by decide), (RdK.old hw.d2 hw.a2).out _ st, St.apart_M st (by exact hiB) hw.d2 hw.a2 (by decide), (RdK.old hw.d3 hw.a3).out _ st, St.apart_M st (by exact hiB) hw.d3 hw.a3 (by decide)⟩, (hOh.rdk hiA).out _ st, St.apart st (Pick.takeC pkA (Pick.takeA pkA pkA)) hOh (by exact hiB)⟩) (fun v52 S52 ⟨a52, c52, l52, So52, σ52, hv52, hS52, hO52, hI52, hX52⟩ => ?_)
    subst hv52; subst hS52
    have hl52 := hI52.len
    refine oA (oZ hK15 (cR fun _ hK16 => ?_)); refine oM (oM ?_); refine o_call (orM2_fn (some ⟨b31, 0, none⟩) g.length g.length o hlog So hOo a52 c52 l52 (by omega) (by omega)) rfl rfl rfl pkA (fun _ st => ⟨(hO52.rdk hiA).out _ st, St.apart st pkA hO52 (by exact hiB)⟩) (fun v55 So55 ⟨hv55, hO55⟩ => ?_); subst hv55
    by_cases hmo : moreB o l52 = false
    ·refine o_step rfl (step_cast (v' := .bool true) (s_not rfl) (by rw [hmo]; rfl)) ?_; refine o_nil ?_; refine x_then (hK16 _ _ ?_); refine c_true rfl ?_; refine c_exit ?_; refine x_block_pass rfl ?_; refine x_then_exit ?_; refine x_then_exit ?_; refine x_block_exit ?_; refine x_then (hK10 _ _ ?_); refine c_seq fun _ hK17 => ?_; refine c_region ?_; refine o_step rfl (s_move rfl) ?_; refine o_step rfl (s_assign rfl) ?_; refine o_nil ?_; refine x_then (hK17 _ _ ?_); refine c_ret ?_; refine ?_; refine x_sub (Sub.refl _) (H' := (K.bM, .cells [.slice K.ra K.re.length K.rc, .slice K.ta K.w.length K.tc, .slice K.ma K.sls.length K.mc, .slice σ52.sa σ52.ss.length σ52.sc].toArray 106 (0, 0)) :: (So55 ++ (σ52.SR ++ (σ52.SS ++ σ52.Pool)))) hzB ?_; exact x_ret rfl (.tmp rfl (.nil)) (⟨(some ⟨b31, 0, none⟩), g.length, orL o l52, So55, σ52, by rw [orL_len, hlo, hlg]; rfl, rfl, by rw [orL_len, hlo, ← hlg]; exact hO55, (hIo.or (hI52.iff fun q _ => img_succ)).iff fun q hq => ⟨fun h => (rounds_fixed2 (by omega) (by omega) (by omega) hSb hD (hIo.no_more (hI52.iff fun q _ => img_succ) hmo) q).1 (h.elim id (hIo.no_more (hI52.iff fun q _ => img_succ) hmo q hq)), fun h => .inl ((rounds_fixed2 (by omega) (by omega) (by omega) hSb hD (hIo.no_more (hI52.iff fun q _ => img_succ) hmo) q).2 h)⟩, hXt.trans hX52 (Nat.le_refl _) (by omega)⟩)
    ·have hmo2 : moreB o l52 = true := by simpa using hmo
     refine oS (step_cast (v' := .bool false) (s_not rfl) (by rw [hmo2]; rfl)) ?_; refine oZ hK16 ?_; refine cF (c_skip (x_block (xZ hK14 (c_region (oM ?_))))); refine oS sD (oA (o_nil ?_)); exact x_then (x_inv (k + 1, a52, c52, l52, So52, orL o l52, So55, σ52) ⟨by dsimp only; omega, fun h => by have := cf_more hmo2; have := hk2 hm2; dsimp only; omega, fun h => absurd hm2 h, hO52, hI52.iff fun q _ => img_succ, hO55, (hIo.or (hI52.iff fun q _ => img_succ)).iff fun q _ => (upTo_succ (by omega)).symm, hXt.trans hX52 (Nat.le_refl _) (by omega)⟩ (by dsimp only; rw [if_pos hm2, if_pos hm2]; exact cf_more hmo2) sbA hzB)
   ·have hk3b := hk3 (by omega)
    refine oS lsF (oM ?_); refine oY (oM ?_); refine oY ?_; refine oS sF ?_; refine oY ?_; refine oS sL ?_; refine oY ?_
    by_cases hkm : (k : Int) < x.mx
    ·refine oS lsT ?_; refine oS sP (oZ hK13 ?_); refine cTZ hK12 (c_seq fun _ hK18 => ?_); refine c_block (cR fun _ hK19 => ?_); refine oM (oM ?_); refine oS sD (oM ?_); refine o_call (hSt (at_ + 1) _ hpk ha hc h _ hIh τ hXt.inv) rfl rfl rfl ((Pick.takeC pkA (Pick.takeA pkA pkA))) (fun _ st => ⟨⟨(RdK.old hw.d1 hw.a1).out _ st, St.apart_M st (by exact hiB) hw.d1 hw.a1 (by decide), (RdK.old hw.d2 hw.a2).out _ st, St.apart_M st (by exact hiB) hw.d2 hw.a2 (by decide), (RdK.old hw.d3 hw.a3).out _ st, St.apart_M st (by exact hiB) hw.d3 hw.a3 (by decide)⟩, (hOh.rdk hiA).out _ st, St.apart st (Pick.takeC pkA (Pick.takeA pkA pkA)) hOh (by exact hiB)⟩) (fun v52 S52 ⟨a52, c52, l52, So52, σ52, hv52, hS52, hO52, hI52, hX52⟩ => ?_)
     subst hv52; subst hS52
     have hl52 := hI52.len
     refine oA (oZ hK19 (cR fun _ hK20 => ?_)); refine oM (oM ?_); refine o_call (orM2_fn (some ⟨b31, 0, none⟩) g.length g.length o hlog So hOo a52 c52 l52 (by omega) (by omega)) rfl rfl rfl pkA (fun _ st => ⟨(hO52.rdk hiA).out _ st, St.apart st pkA hO52 (by exact hiB)⟩) (fun v55 So55 ⟨hv55, hO55⟩ => ?_); subst hv55
     by_cases hmo : moreB o l52 = false
     ·refine o_step rfl (step_cast (v' := .bool true) (s_not rfl) (by rw [hmo]; rfl)) ?_; refine o_nil ?_; refine x_then (hK20 _ _ ?_); refine c_true rfl ?_; refine c_exit ?_; refine x_block_pass rfl ?_; refine x_then_exit ?_; refine x_then_exit ?_; refine x_block_exit ?_; refine x_then (hK10 _ _ ?_); refine c_seq fun _ hK21 => ?_; refine c_region ?_; refine o_step rfl (s_move rfl) ?_; refine o_step rfl (s_assign rfl) ?_; refine o_nil ?_; refine x_then (hK21 _ _ ?_); refine c_ret ?_; refine ?_; refine x_sub (Sub.refl _) (H' := (K.bM, .cells [.slice K.ra K.re.length K.rc, .slice K.ta K.w.length K.tc, .slice K.ma K.sls.length K.mc, .slice σ52.sa σ52.ss.length σ52.sc].toArray 106 (0, 0)) :: (So55 ++ (σ52.SR ++ (σ52.SS ++ σ52.Pool)))) hzB ?_; exact x_ret rfl (.tmp rfl (.nil)) (⟨(some ⟨b31, 0, none⟩), g.length, orL o l52, So55, σ52, by rw [orL_len, hlo, hlg]; rfl, rfl, by rw [orL_len, hlo, ← hlg]; exact hO55, (hIo.or (hI52.iff fun q _ => img_succ)).iff fun q hq => ⟨fun h => (rounds_fixed2 (by omega) (by omega) (by omega) hSb hD (hIo.no_more (hI52.iff fun q _ => img_succ) hmo) q).1 (h.elim id (hIo.no_more (hI52.iff fun q _ => img_succ) hmo q hq)), fun h => .inl ((rounds_fixed2 (by omega) (by omega) (by omega) hSb hD (hIo.no_more (hI52.iff fun q _ => img_succ) hmo) q).2 h)⟩, hXt.trans hX52 (Nat.le_refl _) (by omega)⟩)
     ·have hmo2 : moreB o l52 = true := by simpa using hmo
      refine oS (step_cast (v' := .bool false) (s_not rfl) (by rw [hmo2]; rfl)) ?_; refine oZ hK20 ?_; refine cF (c_skip (x_block (xZ hK18 (c_region (oM ?_))))); refine oS sD (oA (o_nil ?_)); exact x_then (x_inv (k + 1, a52, c52, l52, So52, orL o l52, So55, σ52) ⟨by dsimp only; omega, fun h => by omega, fun h => by omega, hO52, hI52.iff fun q _ => img_succ, hO55, (hIo.or (hI52.iff fun q _ => img_succ)).iff fun q _ => (upTo_succ (by omega)).symm, hXt.trans hX52 (Nat.le_refl _) (by omega)⟩ (by dsimp only; rw [if_neg (by omega), if_neg (by omega)]; omega) sbA hzB)
    ·refine o_step rfl (step_cast (v' := .bool false) (s_lss rfl rfl) (by rw [decide_eq_false (by omega)])) ?_; refine o_step rfl (s_pick_f rfl rfl) ?_; refine o_nil ?_; refine x_then (hK13 _ _ ?_); refine c_false rfl ?_; refine c_exit ?_; refine x_then_exit ?_; refine x_then_exit ?_; refine x_block_exit ?_; refine x_then (hK10 _ _ ?_); refine c_seq fun _ hK22 => ?_; refine c_region ?_; refine o_step rfl (s_move rfl) ?_; refine o_step rfl (s_assign rfl) ?_; refine o_nil ?_; refine x_then (hK22 _ _ ?_); refine c_ret ?_; refine ?_; refine x_sub (Sub.refl _) (H' := (K.bM, .cells [.slice K.ra K.re.length K.rc, .slice K.ta K.w.length K.tc, .slice K.ma K.sls.length K.mc, .slice τ.sa τ.ss.length τ.sc].toArray 106 (0, 0)) :: (So ++ (τ.SR ++ (τ.SS ++ τ.Pool)))) hzB ?_; exact x_ret rfl (.tmp rfl (.nil)) (⟨(some ⟨b31, 0, none⟩), g.length, o, So, τ, by rw [hlo, hlg]; rfl, rfl, by rw [hlo, ← hlg]; exact hOo, hIo.iff fun q _ => rounds_last (by omega) (by omega) q, hXt⟩)
end Go.Proofs.YtmompllplidphaaDoor
namespace Go.Proofs.YtmompllplidphaaDoor
open Go Go.HL Go.Proofs Go.HL.Kl Go.HL.Kl.Mc
theorem rBehind_fn (ra : Option Addr) (rc : Nat) (re : List Nd) (hre : ∀ x ∈ re, -128 ≤ x.op ∧ x.op < 128) (hsb : shapedB re = true) (x : Nd) (ks : F) (i i1 : Nat) (hp : Part re (.nd x ks .nil) i i1) : HL.Fn Tryd.prog 101 [.slice ra re.length rc, .int .i64 i] (fun w => Rd En w (.slice ra re.length rc) re) [] (fun v _ => v = .int .i64 i1) := by
  refine fn_of Tryd.func101 rfl rfl rfl fun w0 hw => ?_
  have hsl := hw.sl
  have hbl := hsl.le
  have hil := (List.getElem?_eq_some_iff.1 hp.head.1).1
  refine cR fun _ hK1 => ?_; refine oA (oZ hK1 (c_seq fun _ hK2 => ?_)); refine cR fun _ hK3 => ?_; refine oM ?_; refine o_callP (rShaped_fn ra rc re hre) rfl rfl rfl (fun w st => (RdK.old0 hw).out w st) (fun v7 hv7 => ?_)
  rw [hsb] at hv7
  subst hv7; refine oS (s_not rfl) ?_; refine oM ?_; refine oY (oM ?_); refine oY ?_; refine oS (s_lss_f rfl rfl (by omega)) ?_; refine oS sP (oM ?_); refine oY (oM ?_); refine oY (oM ?_); refine oY ?_; refine oS sC ?_; refine oY ?_; refine oS (s_geq_f rfl rfl (by omega)) ?_; refine oS sP (oZ hK3 ?_); refine cFZ hK2 (cR fun _ hK4 => ?_); refine oA (oZ hK4 (c_seq fun _ hK5 => ?_)); refine c_block ?_; refine c_loop2 (fun (g : F) (p : Nat) => Part re g p i1) (fun (g : F) (p : Nat) => [(5, .int .i64 g.num), (1, .int .i64 p)]) [(0, _), (4, _)] (fun (g : F) (p : Nat) => _) (fun (g : F) (p : Nat) => i1 - p) (.nd x ks .nil) i hp (by exact Sub.cons' rfl (by rw [F.num, F.num]; rfl) sbA) sbA hzB ?_
  rintro g p hpg
  have hgl := hpg.len
  have hgle := hpg.le
  have hgn := F.num_le g
  refine c_seq fun _ hK6 => ?_; refine cR fun _ hK7 => ?_; refine oM ?_
  by_cases hg : (g.num : Int) > 0
  ·obtain ⟨y, js, r, rfl⟩ : ∃ y js r, g = F.nd y js r := by cases g with | nil => simp [F.num] at hg | nd y a b => exact ⟨y, a, b, rfl⟩
   have hy := hpg.head.1
   have hyl := (List.getElem?_eq_some_iff.1 hy).1
   have hkn : (js.num : Int) = y.kids := hpg.wf.2.1
   have hjn := F.num_le js
   simp only [F.num] at hg hgn ⊢
   simp only [F.size] at hgl hgn
   refine oS gtT (oZ hK7 ?_); refine cTZ hK6 (c_block (cR fun _ hK8 => ?_)); refine oM ?_; refine oS sU (oM (oM ?_)); refine oS (s_idx rfl rfl hsl (by omega)) ?_; refine oS sF ?_; refine oS (s_ld rfl ((RdK.old0 hw).ld p 8 hy rfl (by decide) (by omega))) ?_; refine oS sD (oA (oZ hK8 (c_region (oM ?_)))); refine oS sD (oA (o_nil (x_block ?_))); exact x_then (x_inv ((js.app r), p + 1) hpg.down (by dsimp only; omega) (by exact Sub.cons' rfl (by rw [F.num_app, ← hkn]; congr 1; omega) sbA) hzB)
  ·obtain rfl : g = F.nil := F.num_nil (by omega)
   simp only [F.size] at hgl
   refine oS gtF (oZ hK7 ?_); refine cF ?_; refine c_exit ?_; refine x_then_exit (x_then_exit (x_block_exit (xZ hK5 (cR fun _ hK9 => ?_)))); refine oM (oA (oZ hK9 (c_ret ?_))); refine ?_; exact xR rfl rfl ((congrArg (Value.int .i64) (by omega)))
end Go.Proofs.YtmompllplidphaaDoor
