/- Numbers of pairs, the rounds of the parts, the numbers in the rows. Conditions: none. -/
import Derived.Test.YtmompllplidphaaGreatDoorKQZ
import Derived.Test.YtmompllplidphaaGreatDoorHTZ
import Derived.Test.YtmompllplidphaaGreatDoorGSC2Z
namespace Go.HL.Sts
open Go Go.HL Go.HL.Kl Go.HL.Kl.Mc
section
variable {α : Type} [DecidableEq α]
theorem idx_lt {s : α} : ∀ {l : List α}, s ∈ l → idx l s < l.length
  | x :: l, h => by
    unfold idx
    split
    · simp
    · rename_i hx
      have := idx_lt (l := l) ((List.mem_cons.1 h).resolve_left fun e => hx e.symm)
      simp; exact this
theorem idx_out {s : α} : ∀ {l : List α}, s ∉ l → idx l s = l.length
  | [], _ => rfl
  | x :: l, h => by
    unfold idx
    rw [if_neg (fun e => h (by simp [e])), idx_out (l := l) (fun e => h (List.mem_cons_of_mem _ e))]
    rfl
theorem idx_get {s : α} : ∀ {l : List α}, s ∈ l → l[idx l s]? = some s
  | x :: l, h => by
    unfold idx
    split
    · rename_i hx; simp [hx]
    · rename_i hx
      have := idx_get (l := l) ((List.mem_cons.1 h).resolve_left fun e => hx e.symm)
      simpa using this
theorem idx_app {s : α} (t : List α) : ∀ {l : List α}, s ∈ l → idx (l ++ t) s = idx l s
  | x :: l, h => by
    show (if x = s then 0 else idx (l ++ t) s + 1) = (if x = s then 0 else idx l s + 1)
    split
    · rfl
    · rename_i hx
      rw [idx_app t (l := l) ((List.mem_cons.1 h).resolve_left fun e => hx e.symm)]
theorem idx_end {s : α} (t : List α) : ∀ {l : List α}, s ∉ l → idx (l ++ s :: t) s = l.length
  | [], _ => by simp [idx]
  | x :: l, h => by
    show (if x = s then 0 else idx (l ++ s :: t) s + 1) = _
    rw [if_neg (fun e => h (by simp [e])), idx_end t (l := l) (fun e => h (List.mem_cons_of_mem _ e))]
    rfl
theorem idx_inj {x y : α} {l : List α} (hx : x ∈ l) (hy : y ∈ l) (h : idx l x = idx l y) : x = y := by
  have h1 := idx_get hx
  rw [h, idx_get hy] at h1
  exact (Option.some.inj h1).symm
theorem idx_at {x : α} : ∀ {l : List α} {i : Nat}, l.Nodup → l[i]? = some x → idx l x = i
  | y :: l, 0, _, h => by
    obtain rfl : y = x := by simpa using h
    simp [idx]
  | y :: l, i + 1, hn, h => by
    have h' : l[i]? = some x := by simpa using h
    have hne : y ≠ x := by
      rintro rfl
      exact (List.nodup_cons.1 hn).1 (List.mem_of_getElem? h')
    unfold idx
    rw [if_neg hne, idx_at (List.nodup_cons.1 hn).2 h']
theorem idx_addN (l : List α) (s : α) : idx (addN l s) s = idx l s := by
  unfold addN
  split
  · rfl
  · rename_i h
    rw [idx_end [] h, idx_out h]
theorem map_old {l : List α} {s : α} (h : s ∈ l) : addN l s = l := by simp [addN, h]
theorem map_new {l : List α} {s : α} (h : s ∉ l) : addN l s = l ++ [s] := by simp [addN, h]
def numM (l : List α) (s : α) : Option Value := if s ∈ l then some (.int .i64 ((idx l s : Nat) : Int)) else none
theorem numM_in {l : List α} {s : α} (h : s ∈ l) : numM l s = some (.int .i64 ((idx l s : Nat) : Int)) := by simp [numM, h]
theorem numM_out {l : List α} {s : α} (h : s ∉ l) : numM l s = none := by simp [numM, h]
theorem map_add {l : List α} {s : α} (hs : s ∉ l) {g g' : α → Option Value} (h : ∀ j, g j = numM l j)
    (h' : ∀ j, g' j = if j = s then some (.int .i64 ((l.length : Nat) : Int)) else g j) : ∀ j, g' j = numM (addN l s) j := by
  intro j
  rw [h', map_new hs]
  by_cases hj : j = s
  · subst hj
    rw [if_pos rfl, numM_in (by simp), idx_end [] hs]
  · rw [if_neg hj, h]
    by_cases hm : j ∈ l
    · rw [numM_in hm, numM_in (by simp [hm]), idx_app _ hm]
    · rw [numM_out hm, numM_out (by simp [hm, hj])]
end
theorem ids_ref : ∀ (ps seen : List (Nat × Nat)), seen.Nodup → (idsT ps seen).2.Nodup ∧ (∃ t, (idsT ps seen).2 = seen ++ t) ∧ (∀ x, x ∈ (idsT ps seen).2 ↔ x ∈ seen ∨ x ∈ ps) ∧ (idsT ps seen).1 = ps.map (idx (idsT ps seen).2)
  | [], seen, h => ⟨h, ⟨[], by simp [idsT]⟩, by simp [idsT], rfl⟩
  | p :: ps, seen, h => by
    obtain ⟨h1, ⟨t, h2⟩, h3, h4⟩ := ids_ref ps (addN seen p) (add_nodup h p)
    obtain ⟨u, hu⟩ := add_pre seen p
    refine ⟨h1, ⟨u ++ t, by show (idsT ps (addN seen p)).2 = _; rw [h2, hu, List.append_assoc]⟩, fun x => ?_, ?_⟩
    · show x ∈ (idsT ps (addN seen p)).2 ↔ _
      rw [h3, add_mem]; simp [or_assoc]
    · show idx seen p :: (idsT ps (addN seen p)).1 = idx (idsT ps (addN seen p)).2 p :: ps.map (idx (idsT ps (addN seen p)).2)
      rw [← h4, h2, idx_app t (add_mem.2 (.inr rfl)), idx_addN]
def ups (cur c : List Nat) (q : Nat) : List Nat := (idsT ((cur.zip c).take q) []).1 ++ cur.drop q
def upsS (cur c : List Nat) (q : Nat) : List (Nat × Nat) := (idsT ((cur.zip c).take q) []).2
theorem ups_len {cur c : List Nat} {q : Nat} (hc : c.length = cur.length) (hq : q ≤ cur.length) : (ups cur c q).length = cur.length := by
  simp [ups, idsT_len]; omega
theorem ups_get {cur c : List Nat} {q a : Nat} (hc : c.length = cur.length) (ha : cur[q]? = some a) : (ups cur c q)[q]? = some a := by
  have hq := (List.getElem?_eq_some_iff.1 ha).1
  unfold ups
  rw [List.getElem?_append_right (by simp [idsT_len]; omega)]
  simp [idsT_len, List.getElem?_drop]
  rw [show q + (q - min q (min cur.length c.length)) = q by omega]; exact ha
theorem ups_step {cur c : List Nat} {q a b : Nat} (hc : c.length = cur.length) (ha : cur[q]? = some a) (hb : c[q]? = some b) :
    (ups cur c q).set q (idx (upsS cur c q) (a, b)) = ups cur c (q + 1) ∧ addN (upsS cur c q) (a, b) = upsS cur c (q + 1) := by
  have hz : (cur.zip c)[q]? = some (a, b) := by simp [List.getElem?_zip_eq_some, ha, hb]
  have hq := (List.getElem?_eq_some_iff.1 ha).1
  have hl : (idsT ((cur.zip c).take q) []).1.length = q := by simp [idsT_len]; omega
  refine ⟨?_, ?_⟩
  · unfold ups upsS
    rw [take_succ_get hz, idsT_snoc, List.set_append_right _ _ (by omega), hl, Nat.sub_self, List.drop_eq_getElem_cons hq, List.set_cons_zero]
    simp
  · unfold upsS
    rw [take_succ_get hz, idsT_snoc]
theorem ups_end {next : List (List Nat)} {part : List Nat} {k : Nat} (hl : (roundT next part k).1.length = next.length) : ups (roundT next part k).1 (col next part k) next.length = (roundT next part (k + 1)).1 ∧ upsS (roundT next part k).1 (col next part k) next.length = (roundT next part (k + 1)).2 := by
  have hz : ((roundT next part k).1.zip (col next part k)).take next.length = (roundT next part k).1.zip (col next part k) := List.take_of_length_le (by simp [col]; omega)
  refine ⟨?_, ?_⟩
  · unfold ups
    rw [hz, List.drop_of_length_le (by omega), List.append_nil]; rfl
  · unfold upsS; rw [hz]; rfl
theorem upsS_le (cur c : List Nat) (q : Nat) (hq : q ≤ cur.length) : (upsS cur c q).length ≤ q := by
  have key : ∀ (ps seen : List (Nat × Nat)), (idsT ps seen).2.length ≤ seen.length + ps.length := by
    intro ps
    induction ps with
    | nil => intro seen; simp [idsT]
    | cons p ps ih =>
      intro seen
      have h1 := ih (addN seen p)
      have h2 : (addN seen p).length ≤ seen.length + 1 := by unfold addN; split <;> simp
      show (idsT ps (addN seen p)).2.length ≤ _
      simp; omega
  have := key ((cur.zip c).take q) []
  have h2 : ((cur.zip c).take q).length ≤ q := by simp; omega
  unfold upsS
  simp at this h2; omega
theorem col_get {next : List (List Nat)} {part : List Nat} {k q to b : Nat} {row : List Nat} (hr : next[q]? = some row) (ht : row[k]? = some to) (hb : part[to]? = some b) : (col next part k)[q]? = some b := by
  simp [col, hr, ht, hb]
theorem zip_at {α β : Type} {l : List α} {c : List β} {i : Nat} (h1 : i < l.length) (h2 : i < c.length) : (l.zip c)[i]? = some (l[i], c[i]) := by
  simp [List.getElem?_zip_eq_some, h1, h2]
theorem round_len {next : List (List Nat)} {part : List Nat} (h : part.length = next.length) : ∀ k, (roundT next part k).1.length = next.length
  | 0 => h
  | k + 1 => by
    show (idsT _ []).1.length = _
    rw [idsT_len, List.length_zip, round_len h k]; simp [col]
theorem round_ref {next : List (List Nat)} {part : List Nat} (h : part.length = next.length) : ∀ (k : Nat) {i j : Nat}, i < next.length → j < next.length → (roundT next part k).1[i]? = (roundT next part k).1[j]? → part[i]? = part[j]?
  | 0, i, j, _, _, he => he
  | k + 1, i, j, hi, hj, he => by
    have hl := round_len h k
    have hc : (col next part k).length = next.length := by simp [col]
    obtain ⟨_, _, h3, h4⟩ := ids_ref ((roundT next part k).1.zip (col next part k)) [] List.nodup_nil
    refine round_ref h k hi hj ?_
    have he' : (idsT ((roundT next part k).1.zip (col next part k)) []).1[i]? = (idsT ((roundT next part k).1.zip (col next part k)) []).1[j]? := he
    rw [h4, List.getElem?_map, List.getElem?_map] at he'
    have z1 := zip_at (l := (roundT next part k).1) (c := col next part k) (i := i) (by omega) (by omega)
    have z2 := zip_at (l := (roundT next part k).1) (c := col next part k) (i := j) (by omega) (by omega)
    rw [z1, z2] at he'
    have m1 := (h3 _).2 (.inr (List.mem_of_getElem? z1))
    have m2 := (h3 _).2 (.inr (List.mem_of_getElem? z2))
    have e := idx_inj m1 m2 (Option.some.inj he')
    rw [List.getElem?_eq_getElem (by omega), List.getElem?_eq_getElem (by omega), (Prod.mk.inj e).1]
theorem round_cov {next : List (List Nat)} {part : List Nat} (k : Nat) {i : Nat} (hi : i < (roundT next part (k + 1)).2.length) : i ∈ (roundT next part (k + 1)).1 := by
  obtain ⟨h1, _, h3, h4⟩ := ids_ref ((roundT next part k).1.zip (col next part k)) [] List.nodup_nil
  show i ∈ (idsT _ []).1
  have hg : (idsT ((roundT next part k).1.zip (col next part k)) []).2[i]? = some (roundT next part (k + 1)).2[i] := List.getElem?_eq_getElem hi
  rw [h4]
  have hm := ((h3 _).1 (List.mem_of_getElem? hg)).resolve_left (by simp)
  exact List.mem_map.2 ⟨_, hm, idx_at h1 hg⟩
theorem round_bnd {next : List (List Nat)} {part : List Nat} (k : Nat) {v : Nat} (hv : v ∈ (roundT next part (k + 1)).1) : v < (roundT next part (k + 1)).2.length := by
  obtain ⟨_, _, h3, h4⟩ := ids_ref ((roundT next part k).1.zip (col next part k)) [] List.nodup_nil
  have hv' : v ∈ (idsT ((roundT next part k).1.zip (col next part k)) []).1 := hv
  rw [h4] at hv'
  obtain ⟨x, hx, rfl⟩ := List.mem_map.1 hv'
  exact idx_lt ((h3 x).2 (.inr hx))
structure Rnd (n : Nat) (part : List Nat) (many : Nat) : Prop where
  len : part.length = n
  cov : ∀ i, i < many → i ∈ part
theorem Rnd.many {next : List (List Nat)} {part : List Nat} {many K : Nat} (h : Rnd next.length part many) (hK : 0 < K) : many ≤ (roundT next part K).2.length := by
  obtain ⟨k, rfl⟩ : ∃ k, K = k + 1 := ⟨K - 1, by omega⟩
  have hl := round_len h.len (k + 1)
  have hp : ∀ i, i < many → part[idx part i]? = some i ∧ idx part i < next.length := fun i hi => ⟨idx_get (h.cov i hi), by rw [← h.len]; exact idx_lt (h.cov i hi)⟩
  have hn : ((List.range many).map fun i => (roundT next part (k + 1)).1[idx part i]?.getD 0).Nodup := by
    rw [List.nodup_iff_pairwise_ne, List.pairwise_map]
    have hr := List.nodup_range (n := many)
    rw [List.nodup_iff_pairwise_ne] at hr
    refine hr.imp_of_mem ?_
    intro a b ha hb hab he
    have ha := hp a (by simpa using ha)
    have hb := hp b (by simpa using hb)
    rw [List.getElem?_eq_getElem (by omega), List.getElem?_eq_getElem (by omega), Option.getD_some, Option.getD_some] at he
    have := round_ref h.len (k + 1) ha.2 hb.2 (by rw [List.getElem?_eq_getElem (by omega), List.getElem?_eq_getElem (by omega), he])
    rw [ha.1, hb.1] at this
    exact hab (Option.some.inj this)
  have := nodup_lt hn (n := (roundT next part (k + 1)).2.length) (fun x hx => by
    obtain ⟨i, hi, rfl⟩ := List.mem_map.1 hx
    have hi := hp i (by simpa using hi)
    rw [List.getElem?_eq_getElem (by omega), Option.getD_some]
    exact round_bnd k (List.getElem_mem _))
  simpa using this
theorem round_le {next : List (List Nat)} {part : List Nat} (h : part.length = next.length) : ∀ K, (roundT next part K).2.length ≤ next.length
  | 0 => Nat.zero_le _
  | k + 1 => by
    have hl := round_len h k
    rw [← (ups_end hl).2]
    exact upsS_le _ _ _ (by omega)
theorem Rnd.step {next : List (List Nat)} {part : List Nat} {many K : Nat} (h : Rnd next.length part many) (hK : 0 < K) (hne : (roundT next part K).2.length ≠ many) : Rnd next.length (roundT next part K).1 (roundT next part K).2.length ∧ many < (roundT next part K).2.length ∧ (roundT next part K).2.length ≤ next.length := by
  have h1 := h.many hK
  obtain ⟨k, rfl⟩ : ∃ k, K = k + 1 := ⟨K - 1, by omega⟩
  exact ⟨⟨round_len h.len _, fun i hi => round_cov k hi⟩, by omega, round_le h.len _⟩
theorem partsT_end {next : List (List Nat)} {part : List Nat} {many K f : Nat} (h : (roundT next part K).2.length = many) : partsT next K f many part = part := by
  cases f with
  | zero => rfl
  | succ f => simp [partsT, h]
theorem partsT_step {next : List (List Nat)} {part : List Nat} {many K f : Nat} (hf : 0 < f) (h : (roundT next part K).2.length ≠ many) : partsT next K f many part = partsT next K (f - 1) (roundT next part K).2.length (roundT next part K).1 := by
  obtain ⟨g, rfl⟩ : ∃ g, f = g + 1 := ⟨f - 1, by omega⟩
  simp [partsT, h]
theorem part0_rnd {ends : List Bool} {n : Nat} (h : ends.length = n) : Rnd n (part0 ends) 0 := ⟨by simp [part0, h], fun i hi => by omega⟩
/-! the numbers in the rows -/
theorem rowT_bnd (fr : Sp) : ∀ (rds met : List Sp), ∀ v ∈ (rowT rds fr met).1, v ≤ (rowT rds fr met).2.length
  | [], met, v, h => by cases h
  | r :: rds, met, v, h => by
    rcases List.mem_cons.1 h with rfl | h
    · have h1 := idx_add met (fr &&& r)
      have h2 := (List.getElem?_eq_some_iff.1 h1).1
      have h3 := rowT_mono fr rds (addN met (fr &&& r))
      show met.idxOf (fr &&& r) + 1 ≤ (rowT rds fr (addN met (fr &&& r))).2.length
      omega
    · exact rowT_bnd fr rds _ v h
structure WdB (K : Nat) (w : Wd) : Prop where
  len : ∀ r ∈ w.next, r.length = K
  bnd : ∀ r ∈ w.next, ∀ v ∈ r, v ≤ w.met.length
theorem WdB.row {w : Wd} {rds : List Sp} (h : WdB rds.length w) (fr : Sp) (e : Bool) : WdB rds.length (w.row rds fr e) := by
  constructor
  · intro r hr
    rcases List.mem_append.1 hr with hr | hr
    · exact h.len r hr
    · obtain rfl := List.mem_singleton.1 hr
      exact rowT_len _ _ _
  · intro r hr v hv
    rcases List.mem_append.1 hr with hr | hr
    · exact Nat.le_trans (h.bnd r hr v hv) (rowT_mono fr rds w.met)
    · obtain rfl := List.mem_singleton.1 hr
      exact rowT_bnd fr rds w.met v hv
theorem WdB.run {fol rds : List Sp} {l1 : Sp} : ∀ (f q : Nat) {w : Wd}, WdB rds.length w → WdB rds.length (wdRun fol rds l1 f q w)
  | 0, _, _, h => h
  | f + 1, q, w, h => by
    unfold wdRun
    split
    · exact WdB.run f (q + 1) (h.row _ _)
    · exact h
theorem wideM_bnd (x : Plc) (root : Pt) (atoms : List Kl.Cl) : WdB atoms.length (wideM x root atoms) := by
  rw [← rdsOf_len x.sets atoms]
  exact WdB.run _ _ (WdB.row ⟨fun r h => (by cases h), fun r h => (by cases h)⟩ _ _)
end Go.HL.Sts
namespace Go.HL.Sts
open Go Go.HL Go.HL.Kl Go.HL.Kl.Mc
def Edge (next : List (List Nat)) (p to : Nat) : Prop := ∃ row, next[p]? = some row ∧ to ∈ row
def EdgeP (next : List (List Nat)) (q k p to : Nat) : Prop := (p < q ∧ Edge next p to) ∨ (p = q ∧ ∃ row j, next[q]? = some row ∧ j < k ∧ row[j]? = some to)
structure BkI (next : List (List Nat)) (q k cnt : Nat) (bss : List (List Nat)) : Prop where
  len : bss.length = next.length
  mem : ∀ to l, bss[to]? = some l → ∀ p, p ∈ l ↔ EdgeP next q k p to
  cnt : ∀ l ∈ bss, l.length ≤ cnt
theorem BkI.zero (next : List (List Nat)) : BkI next 0 0 0 (List.replicate next.length []) := by
  refine ⟨by simp, fun to l h p => ?_, fun l h => ?_⟩
  · have := List.eq_of_mem_replicate (List.mem_of_getElem? h)
    subst this
    simp only [List.not_mem_nil, false_iff]
    rintro (⟨h, _⟩ | ⟨_, _, j, _, h, _⟩) <;> omega
  · rw [List.eq_of_mem_replicate h]; simp
theorem BkI.step {next : List (List Nat)} {q k c to : Nat} {bss : List (List Nat)} {row l : List Nat} (h : BkI next q k c bss) (hr : next[q]? = some row) (ht : row[k]? = some to) (hl : bss[to]? = some l) : BkI next q (k + 1) (c + 1) (bss.set to (l ++ [q])) := by
  refine ⟨by simp [h.len], fun t m hm p => ?_, fun m hm => ?_⟩
  · have key : EdgeP next q (k + 1) p t ↔ EdgeP next q k p t ∨ (p = q ∧ t = to) := by
      constructor
      · rintro (h1 | ⟨rfl, row', j, hr', hj, hg⟩)
        · exact .inl (.inl h1)
        · rw [hr] at hr'; cases hr'
          rcases Nat.lt_or_ge j k with h2 | h2
          · exact .inl (.inr ⟨rfl, row, j, hr, h2, hg⟩)
          · obtain rfl : j = k := by omega
            rw [ht] at hg; cases hg
            exact .inr ⟨rfl, rfl⟩
      · rintro ((h1 | ⟨rfl, row', j, hr', hj, hg⟩) | ⟨rfl, rfl⟩)
        · exact .inl h1
        · exact .inr ⟨rfl, row', j, hr', by omega, hg⟩
        · exact .inr ⟨rfl, row, k, hr, by omega, ht⟩
    rw [key]
    by_cases e : to = t
    · subst e
      rw [List.getElem?_set_self (List.getElem?_eq_some_iff.1 hl).1] at hm
      cases hm
      rw [List.mem_append, h.mem to l hl]; simp
    · rw [List.getElem?_set_ne e] at hm
      rw [h.mem t m hm]
      constructor
      · exact .inl
      · rintro (h1 | ⟨_, h1⟩)
        · exact h1
        · exact absurd h1.symm e
  · rcases List.mem_or_eq_of_mem_set hm with hm | rfl
    · have := h.cnt m hm; omega
    · have := h.cnt l (List.mem_of_getElem? hl)
      simp; omega
theorem BkI.row {next : List (List Nat)} {q k c : Nat} {bss : List (List Nat)} {row : List Nat} (h : BkI next q k c bss) (hr : next[q]? = some row) (hk : k = row.length) : BkI next (q + 1) 0 c bss := by
  refine ⟨h.len, fun t m hm p => (h.mem t m hm p).trans ?_, h.cnt⟩
  subst hk
  constructor
  · rintro (⟨h1, h2⟩ | ⟨rfl, row', j, hr', hj, hg⟩)
    · exact .inl ⟨by omega, h2⟩
    · exact .inl ⟨by omega, row', hr', List.mem_of_getElem? hg⟩
  · rintro (⟨h1, h2⟩ | ⟨_, _, j, _, h1, _⟩)
    · rcases Nat.lt_or_ge p q with h3 | h3
      · exact .inl ⟨h3, h2⟩
      · obtain rfl : p = q := by omega
        obtain ⟨row', hr', hm'⟩ := h2
        rw [hr] at hr'; cases hr'
        obtain ⟨j, hj⟩ := List.getElem?_of_mem hm'
        exact .inr ⟨rfl, row, j, hr, (List.getElem?_eq_some_iff.1 hj).1, hj⟩
    · omega
theorem BkI.done {next : List (List Nat)} {q c : Nat} {bss : List (List Nat)} (h : BkI next q 0 c bss) (hq : q = next.length) {to : Nat} {l : List Nat} (hl : bss[to]? = some l) (p : Nat) : p ∈ l ↔ Edge next p to := by
  refine (h.mem to l hl p).trans ⟨?_, fun h1 => ?_⟩
  · rintro (⟨_, h1⟩ | ⟨_, _, j, _, h1, _⟩)
    · exact h1
    · omega
  · obtain ⟨row, hr, hm⟩ := h1
    exact .inl ⟨by have := (List.getElem?_eq_some_iff.1 hr).1; omega, row, hr, hm⟩
structure LvI (next : List (List Nat)) (ends : List Bool) (lv : List Bool) (todo : List Nat) (ex : Option Nat) : Prop where
  len : lv.length = next.length
  snd : ∀ q : Nat, lv[q]? = some true → Live next ends q
  fin : ∀ q : Nat, ends[q]? = some true → lv[q]? = some true
  tod : ∀ q : Nat, q ∈ todo → lv[q]? = some true
  cls : ∀ q : Nat, lv[q]? = some true → q ∈ todo ∨ some q = ex ∨ ∀ p, Edge next p q → lv[p]? = some true
def todoE (ends : List Bool) (q : Nat) : List Nat := (List.range q).filter fun i => ends[i]?.getD false
theorem todoE_yes {ends : List Bool} {q : Nat} (h : ends[q]? = some true) : todoE ends (q + 1) = todoE ends q ++ [q] := by simp [todoE, List.range_succ, h]
theorem todoE_no {ends : List Bool} {q : Nat} (h : ends[q]? = some false) : todoE ends (q + 1) = todoE ends q := by simp [todoE, List.range_succ, h]
theorem todoE_len (ends : List Bool) (q : Nat) : (todoE ends q).length ≤ q := by
  have := List.length_filter_le (fun i => ends[i]?.getD false) (List.range q)
  simpa [todoE] using this
theorem LvI.init {next : List (List Nat)} {ends : List Bool} (h : ends.length = next.length) : LvI next ends ends (todoE ends ends.length) none where
  len := h
  snd := fun q hq => .ends hq
  fin := fun q hq => hq
  tod := fun q hq => by
    have := List.mem_filter.1 hq
    have h1 : q < ends.length := by simpa using this.1
    have h2 := this.2
    rw [List.getElem?_eq_getElem h1] at h2 ⊢
    simpa using h2
  cls := fun q hq => .inl (List.mem_filter.2 ⟨by have := (List.getElem?_eq_some_iff.1 hq).1; simpa using this, by simp [hq]⟩)
theorem LvI.pop {next : List (List Nat)} {ends lv : List Bool} {todo : List Nat} {q : Nat} (h : LvI next ends lv (todo ++ [q]) none) : LvI next ends lv todo (some q) where
  len := h.len
  snd := h.snd
  fin := h.fin
  tod := fun x hx => h.tod x (by simp [hx])
  cls := fun x hx => by
    rcases h.cls x hx with h1 | h1 | h1
    · rcases List.mem_append.1 h1 with h1 | h1
      · exact .inl h1
      · exact .inr (.inl (by rw [List.mem_singleton.1 h1]))
    · cases h1
    · exact .inr (.inr h1)
theorem lv_set {lv : List Bool} {p : Nat} (hp : lv[p]? = some false) (x : Nat) : (lv.set p true)[x]? = some true ↔ x = p ∨ lv[x]? = some true := by
  have hl := (List.getElem?_eq_some_iff.1 hp).1
  by_cases e : p = x
  · subst e
    rw [List.getElem?_set_self hl]; simp
  · rw [List.getElem?_set_ne e]
    constructor
    · exact .inr
    · rintro (h | h)
      · exact absurd h.symm e
      · exact h
theorem LvI.push {next : List (List Nat)} {ends lv : List Bool} {todo : List Nat} {q p : Nat} (h : LvI next ends lv todo (some q)) (hq : lv[q]? = some true) (he : Edge next p q) (hp : lv[p]? = some false) : LvI next ends (lv.set p true) (todo ++ [p]) (some q) where
  len := by simp [h.len]
  snd := fun x hx => by
    rcases (lv_set hp x).1 hx with rfl | hx
    · obtain ⟨row, hr, hm⟩ := he
      exact .step hr hm (h.snd q hq)
    · exact h.snd x hx
  fin := fun x hx => (lv_set hp x).2 (.inr (h.fin x hx))
  tod := fun x hx => by
    rcases List.mem_append.1 hx with hx | hx
    · exact (lv_set hp x).2 (.inr (h.tod x hx))
    · exact (lv_set hp x).2 (.inl (List.mem_singleton.1 hx))
  cls := fun x hx => by
    rcases (lv_set hp x).1 hx with rfl | hx
    · exact .inl (by simp)
    · rcases h.cls x hx with h1 | h1 | h1
      · exact .inl (by simp [h1])
      · exact .inr (.inl h1)
      · exact .inr (.inr fun y hy => (lv_set hp y).2 (.inr (h1 y hy)))
theorem LvI.close {next : List (List Nat)} {ends lv : List Bool} {todo : List Nat} {q : Nat} (h : LvI next ends lv todo (some q)) (hq : ∀ p, Edge next p q → lv[p]? = some true) : LvI next ends lv todo none where
  len := h.len
  snd := h.snd
  fin := h.fin
  tod := h.tod
  cls := fun x hx => by
    rcases h.cls x hx with h1 | h1 | h1
    · exact .inl h1
    · cases h1; exact .inr (.inr hq)
    · exact .inr (.inr h1)
def LvOk (next : List (List Nat)) (ends lv : List Bool) : Prop := lv.length = next.length ∧ ∀ q : Nat, lv[q]? = some true ↔ Live next ends q
theorem LvI.done {next : List (List Nat)} {ends lv : List Bool} (h : LvI next ends lv [] none) : LvOk next ends lv := by
  refine ⟨h.len, fun q => ⟨h.snd q, fun hL => ?_⟩⟩
  induction hL with
  | ends hq => exact h.fin _ hq
  | step hr hm _ ih =>
    rcases h.cls _ ih with h1 | h1 | h1
    · cases h1
    · cases h1
    · exact h1 _ ⟨_, hr, hm⟩
def dead (lv : List Bool) : Nat := lv.countP (· = false)
theorem dead_set : ∀ {lv : List Bool} {p : Nat}, lv[p]? = some false → dead (lv.set p true) + 1 = dead lv
  | b :: lv, 0, h => by
    obtain rfl : b = false := by simpa using h
    simp [dead]
  | b :: lv, p + 1, h => by
    have := dead_set (lv := lv) (p := p) (by simpa using h)
    unfold dead at this ⊢
    rw [List.set_cons_succ, List.countP_cons, List.countP_cons]
    omega
theorem dead_todo (ends : List Bool) : 2 * dead ends + (todoE ends ends.length).length ≤ 2 * ends.length := by
  have h : ∀ q, q ≤ ends.length → (todoE ends q).length + dead (ends.take q) = q := by
    intro q
    induction q with
    | zero => intro _; simp [todoE, dead]
    | succ q ih =>
      intro hq
      obtain ⟨e, he⟩ : ∃ e, ends[q]? = some e := ⟨_, List.getElem?_eq_getElem (by omega)⟩
      have := ih (by omega)
      have ht : dead (ends.take (q + 1)) = dead (ends.take q) + dead [e] := by rw [take_succ_get he]; simp [dead]
      cases e with
      | false => rw [todoE_no he, ht]; simp [dead] at this ⊢; omega
      | true => rw [todoE_yes he, ht]; simp [dead] at this ⊢; omega
  have h1 := h ends.length (Nat.le_refl _)
  rw [List.take_length] at h1
  have h2 : dead ends ≤ ends.length := List.countP_le_length
  omega
theorem dead_le (lv : List Bool) : dead lv ≤ lv.length := List.countP_le_length
end Go.HL.Sts
namespace Go.Proofs.YtmompllplidphaaGreatDoor
open Go Go.HL Go.Proofs Go.HL.Kl Go.HL.Kl.Mc Go.HL.Sts
def EkP (p : Nat × Nat) : Value := .agg (intsV .i64 [(p.1 : Int), (p.2 : Int)]).toArray
instance k109 : QK Tryz.prog 118 true 2 2 := QK.arr (m := 2) (e := 3) (se := 1) (QK.int (t := 3))
instance keP : KE Tryz.prog 118 EkP := KE.ofA (Ei := fun p : Nat × Nat => [(p.1 : Int), (p.2 : Int)]) (fun _ => rfl) (fun a b h => by
  simp only [List.cons.injEq, and_true] at h
  exact Prod.ext (Int.ofNat.inj h.1) (Int.ofNat.inj h.2)) (by decide) ⟨_, _, Tryz.underlying118⟩
def StP (b7 : Nat) (seen : List (Nat × Nat)) (S : Hp) : Prop := ∃ (bm : Nat) (es : List (Mx (Nat × Nat))) (c : Nat), S = [(b7, .cells [.map (some bm)].toArray 122 (0, 0)), (bm, mxO EkP es c)] ∧ seen.Nodup ∧ es.length = seen.length ∧ ∀ s, getM es s = numM seen s
theorem part0_take {ends : List Bool} {q : Nat} {e : Bool} (h : ends[q]? = some e) : part0 (ends.take (q + 1)) = part0 (ends.take q) ++ [if e then 1 else 0] := by
  rw [take_succ_get h]; simp [part0]
theorem part0_yes {ends : List Bool} {q : Nat} (h : ends[q]? = some true) : (filZ 0 (part0 (ends.take q)) ends.length).set q 1 = filZ 0 (part0 (ends.take (q + 1))) ends.length := by
  have hq := (List.getElem?_eq_some_iff.1 h).1
  rw [part0_take h, filZ_set (by simp [part0]; omega) hq]; rfl
theorem part0_no {ends : List Bool} {q : Nat} (h : ends[q]? = some false) : filZ 0 (part0 (ends.take q)) ends.length = filZ 0 (part0 (ends.take (q + 1))) ends.length := by
  have hq := (List.getElem?_eq_some_iff.1 h).1
  rw [part0_take h, ← filZ_set0 (z := 0) (l := part0 (ends.take q)) (k := q) (by simp [part0]; omega) hq, filZ_set (by simp [part0]; omega) hq]; rfl
theorem cloneI_fn (a : Option Addr) (c n : Nat) (xs : List Nat) (hn : xs.length = n) (hxl : xs.length ≤ 4294967296) : HL.Fn Tryz.prog 112 [.slice a n c] (fun w => Rd Eix w (.slice a n c) xs) [] (fun v S' => ∃ a' c', v = .slice a' n c' ∧ OwnS Eix 1 3 (.slice a' n c') xs S') := by
  refine fn_of Tryz.func112 rfl rfl rfl fun w0 hw => ?_; subst hn
  have hsx := hw.sl
  have hbx := hsx.le
  refine cR fun _ hK1 => ?_; refine oA (oZ hK1 (c_seq fun _ hK2 => ?_)); refine cR fun _ hK3 => ?_; refine oM ?_; refine oS (s_eql_nils rfl rfl) ?_; refine oZ hK3 ?_; refine c_cond rfl (fun hn => ?_) (fun hn => ?_)
  ·have ha : a = none := Option.isNone_iff_eq_none.1 hn
   subst ha
   have hx0 : xs = [] := List.eq_nil_of_length_eq_zero hsx.none
   subst hx0; refine cR fun _ hK4 => ?_; refine oA (oZ hK4 (c_ret ?_)); refine x_then_ret (?_); exact xR rfl rfl (⟨_, _, rfl, .nil⟩)
  ·refine c_skip (xZ hK2 (cR fun _ hK5 => ?_)); refine o_bs (E := Eix) (xs := []) (vs := []) rfl rfl rfl rfl rfl (by decide) (by decide) fun b5 S5 hS5 => ?_; refine oM ?_; refine o_app hS5 (RdK.old0 hw) rfl rfl rfl rfl (by simp; omega) (by simp; omega) rfl pkA fun a7 c7 S7 hS7 => ?_; refine oA (oZ hK5 (c_ret ?_)); refine ?_
   simp only [List.nil_append] at hS7
   exact xR rfl rfl (⟨_, _, rfl, by simpa using hS7⟩)
theorem cloneB_fn (a : Option Addr) (c n : Nat) (xs : List Bool) (hn : xs.length = n) (hxl : xs.length ≤ 4294967296) : HL.Fn Tryz.prog 113 [.slice a n c] (fun w => Rd Ebo w (.slice a n c) xs) [] (fun v S' => ∃ a' c', v = .slice a' n c' ∧ OwnS Ebo 1 4 (.slice a' n c') xs S') := by
  refine fn_of Tryz.func113 rfl rfl rfl fun w0 hw => ?_; subst hn
  have hsx := hw.sl
  have hbx := hsx.le
  refine cR fun _ hK1 => ?_; refine oA (oZ hK1 (c_seq fun _ hK2 => ?_)); refine cR fun _ hK3 => ?_; refine oM ?_; refine oS (s_eql_nils rfl rfl) ?_; refine oZ hK3 ?_; refine c_cond rfl (fun hn => ?_) (fun hn => ?_)
  ·have ha : a = none := Option.isNone_iff_eq_none.1 hn
   subst ha
   have hx0 : xs = [] := List.eq_nil_of_length_eq_zero hsx.none
   subst hx0; refine cR fun _ hK4 => ?_; refine oA (oZ hK4 (c_ret ?_)); refine x_then_ret (?_); exact xR rfl rfl (⟨_, _, rfl, .nil⟩)
  ·refine c_skip (xZ hK2 (cR fun _ hK5 => ?_)); refine o_bs (E := Ebo) (xs := []) (vs := []) rfl rfl rfl rfl rfl (by decide) (by decide) fun b5 S5 hS5 => ?_; refine oM ?_; refine o_app hS5 (RdK.old0 hw) rfl rfl rfl rfl (by simp; omega) (by simp; omega) rfl pkA fun a7 c7 S7 hS7 => ?_; refine oA (oZ hK5 (c_ret ?_)); refine ?_
   simp only [List.nil_append] at hS7
   exact xR rfl rfl (⟨_, _, rfl, by simpa using hS7⟩)
theorem id_fn (b7 : Nat) (seen : List (Nat × Nat)) (S : Hp) (h : StP b7 seen S) (hsl : seen.length ≤ 16777220) (a b : Nat) : HL.Fn Tryz.prog 111 [.int .i64 a, .int .i64 b, .pointer (some ⟨b7, 0, none⟩)] (fun _ => True) S (fun v S' => v = .int .i64 ((idx seen (a, b) : Nat) : Int) ∧ StP b7 (addN seen (a, b)) S') := by
  refine fn_of Tryz.func111 rfl rfl rfl fun w0 hw => ?_
  obtain ⟨bm, es, c, rfl, hnd, hel, hg⟩ := h
  refine cR fun _ hK1 => ?_; refine oA (oZ hK1 (cR fun _ hK2 => ?_)); refine oS sL (oM (oM ?_)); refine oS (step_cast (v' := EkP (a, b)) (s_buildA1 [.int .i64 a, .int .i64 b] rfl rfl rfl rfl (by simp [Value.oneCell'])) rfl) ?_
  by_cases hm : (a, b) ∈ seen
  ·refine oS (step_cast (v' := .tuple #[.int .i64 ((idx seen (a, b) : Nat) : Int), .bool true]) (s_look2k (Ek := EkP) (k := (a, b)) rfl rfl meA) (by rw [hg, numM_in hm]; rfl)) ?_; refine oM ?_; refine oS sE ?_; refine oS sE (oA (oA (oZ hK2 (c_seq fun _ hK3 => ?_)))); refine cR fun _ hK4 => ?_; refine oM ?_; refine oS (s_not rfl) ?_; refine oZ hK4 ?_; refine cFZ hK3 (cR fun _ hK5 => ?_); refine oM (oA (oZ hK5 (c_ret ?_))); refine ?_; refine x_sub (Sub.refl _) (H' := [(b7, .cells [.map (some bm)].toArray 122 (0, 0)), (bm, mxO EkP es c)]) hzB ?_
   exact xR rfl rfl (⟨rfl, by rw [map_old hm]; exact ⟨bm, es, c, rfl, hnd, hel, hg⟩⟩)
  ·refine o_step rfl (step_cast (v' := .tuple #[.int .i64 0, .bool false]) (s_look2k (Ek := EkP) (k := (a, b)) rfl rfl meA) (by rw [hg, numM_out hm]; rfl)) ?_; refine o_step rfl (s_move rfl) ?_; refine o_step rfl (s_extract rfl rfl) ?_; refine o_step rfl (s_extract rfl rfl) ?_; refine o_step rfl (s_assign rfl) ?_; refine o_step rfl (s_assign rfl) ?_; refine o_nil ?_; refine x_then (hK2 _ _ ?_); refine c_seq fun _ hK6 => ?_; refine c_seq fun _ hK7 => ?_; refine c_region ?_; refine o_step rfl (s_move rfl) ?_; refine o_step rfl (s_not rfl) ?_; refine o_nil ?_; refine x_then (hK7 _ _ ?_); refine c_true rfl ?_; refine c_seq fun _ hK8 => ?_; refine c_region ?_; refine o_step rfl (s_ld rfl (.own meA rfl)) ?_; refine o_step rfl (step_cast (v' := .int .i64 ((seen.length : Nat) : Int)) (s_lenmap (Ek := EkP) (es := es) rfl meA) (by rw [hel])) ?_; refine o_step rfl (s_assign rfl) ?_; refine o_nil ?_
   refine x_then (hK8 _ _ ?_); refine c_region ?_; refine o_step rfl (s_ld rfl (.own meA rfl)) ?_; refine o_step rfl (s_move rfl) ?_; refine o_step rfl (s_move rfl) ?_; refine o_step rfl (step_cast (v' := EkP (a, b)) (s_buildA1 [.int .i64 a, .int .i64 b] rfl rfl rfl rfl (by simp [Value.oneCell'])) rfl) ?_; refine o_step rfl (s_move rfl) ?_; refine o_mset2 (Ek := EkP) (k := (a, b)) rfl rfl rfl pkA fun es' c' hset hel' => ?_; refine o_nil ?_; refine x_then (hK6 _ _ ?_); refine c_seq fun _ hK9 => ?_; refine c_region ?_; refine o_step rfl (s_move rfl) ?_; refine o_step rfl (s_assign rfl) ?_; refine o_nil ?_; refine x_then (hK9 _ _ ?_); refine c_ret ?_; refine ?_; refine x_sub (Sub.refl _) (H' := [(b7, .cells [.map (some bm)].toArray 122 (0, 0)), (bm, mxO EkP es' c')]) hzB ?_; exact x_ret rfl (.tmp rfl (.nil)) (⟨by rw [idx_out hm]; rfl, bm, es', c', rfl, add_nodup hnd _, by rw [hel', hg, numM_out hm, map_new hm, hel]; simp, map_add hm hg hset⟩)
set_option maxHeartbeats 1000000 in
theorem parts_fn (na : Option Addr) (nc : Nat) (rows : List (Sl Nat)) (ea : Option Addr) (ec : Nat) (ends : List Bool) (K : Nat) (hel : rows.length = ends.length) (h0 : 0 < rows.length) (hnl : rows.length ≤ 16777217) (hK0 : 0 < K) (hK256 : K ≤ 256) (hK : ∀ s ∈ rows, s.xs.length = K) (hbd : ∀ s ∈ rows, ∀ v ∈ s.xs, v < rows.length) : HL.Fn Tryz.prog 42 [.agg [.slice na rows.length nc, .slice ea ends.length ec].toArray] (fun w => Rd Esl w (.slice na rows.length nc) rows ∧ Rd Ebo w (.slice ea ends.length ec) ends ∧ ∀ s ∈ rows, Rd Eix w s.v s.xs) [] (fun v S' => ∃ a c, v = .slice a ends.length c ∧ OwnS Eix 1 3 (.slice a ends.length c) (partsM (rows.map Sl.xs) ends K) S') := by
  refine fn_of Tryz.func42 rfl rfl rfl fun w0 hw => ?_
  have hse := hw.2.1.sl
  have hsn := hw.1.sl
  have hxl : (rows.map Sl.xs).length = ends.length := by rw [List.length_map]; exact hel
  refine cR fun _ hK1 => ?_; refine o_box rfl rfl rfl fun b1 => ?_; refine oA (oZ hK1 (cR fun _ hK2 => ?_)); refine oS sF ?_; refine oS sL ?_; refine oS sC ?_; refine o_make (E := Eix) (zx := 0) (n := ends.length) rfl rfl rfl (by omega) (by omega) rfl fun b15 S15 hS15 => ?_
  rw [← filZ_nil] at hS15
  have hs15 := hS15.sl
  rw [filZ_len (Nat.zero_le _)] at hs15
  refine oA (oZ hK2 (c_seq fun _ hK3 => ?_)); refine cR fun _ hK4 => ?_; refine oS sF ?_; refine oS sL ?_; refine oS sC (oM (oZ hK4 (c_block ?_))); refine c_loop2 (fun (q : Nat) (Sp : Hp) => q ≤ ends.length ∧ OwnS Eix 1 3 (.slice (some ⟨b15, 0, none⟩) ends.length ends.length) (filZ 0 (part0 (ends.take q)) ends.length) Sp) (fun (q : Nat) (Sp : Hp) => [(19, .int .i64 q)]) [(1, _), (2, _), (3, _), (17, _), (18, _)] (fun (q : Nat) (Sp : Hp) => (b1, .cells [.slice na rows.length nc, .slice ea ends.length ec].toArray 96 (0, 0)) :: Sp) (fun (q : Nat) (Sp : Hp) => ends.length - q) 0 S15 ⟨Nat.zero_le _, hS15⟩ sbA sbA hzB ?_
  rintro q Sp ⟨hq, hP⟩
  refine cR fun _ hK5 => ?_; refine oS (s_lss rfl rfl) ?_; refine oZ hK5 (c_seq fun _ hK6 => ?_); refine c_if rfl (fun hlt => ?_) (fun hlt => ?_)
  ·obtain ⟨e, heq⟩ : ∃ e, ends[q]? = some e := gE
   refine c_skip (xZ hK6 (c_seq fun _ hK7 => ?_)); refine c_block (cR fun _ hK8 => ?_); refine oM ?_; refine oS (s_idx rfl rfl hse (by omega)) ?_; refine oS (s_ld rfl ((RdK.old0 hw.2.1).ld q 0 heq rfl (by decide) (by omega))) ?_; refine oA (oA (oZ hK8 (cR fun _ hK9 => ?_))); refine oM (oZ hK9 ?_); refine c_cond rfl (fun he24 => ?_) (fun he24 => ?_)
   ·subst he24; refine c_region (oM (oM ?_)); refine oS (s_idx rfl rfl hs15 (by omega)) ?_; refine o_stS1 q 1 hP pkA rfl rfl rfl (by rw [filZ_len (by simp [part0]; omega)]; omega) (by first | rfl | omega | (rw [Int.toNat_natCast, Nat.mul_one])) fun S27 hS27 => ?_; refine o_nil (x_block (xZ hK7 (c_region ?_))); refine oS sD (oM (o_nil ?_)); exact xI (q + 1, _) ⟨by omega, by rw [← part0_yes heq]; exact hS27⟩
   ·subst he24; refine c_skip (x_block (xZ hK7 (c_region ?_))); refine oS sD (oM (o_nil ?_)); exact xI (q + 1, _) ⟨by omega, by rw [← part0_no heq]; exact hP⟩
  ·obtain rfl : q = ends.length := by omega
   refine c_exit ?_; refine x_then_exit (x_then_exit (x_block_exit (xZ hK3 (cR fun _ hK10 => ?_)))); refine oA (oZ hK10 (c_block ?_))
   -- not carried: 2
   refine c_loop6 (fun (f : Nat) (many : Nat) (part : List Nat) (pa : Option Addr) (pc : Nat) (Sp : Hp) => ends.length + 2 ≤ f + many ∧ many ≤ ends.length ∧ partsT (rows.map Sl.xs) K f many part = partsM (rows.map Sl.xs) ends K ∧ Rnd (rows.map Sl.xs).length part many ∧ OwnS Eix 1 3 (.slice pa ends.length pc) part Sp) (fun (f : Nat) (many : Nat) (part : List Nat) (pa : Option Addr) (pc : Nat) (Sp : Hp) => [(3, .slice pa ends.length pc), (6, .int .i64 many)]) [(1, _)] (fun (f : Nat) (many : Nat) (part : List Nat) (pa : Option Addr) (pc : Nat) (Sp : Hp) => (b1, .cells [.slice na rows.length nc, .slice ea ends.length ec].toArray 96 (0, 0)) :: Sp) (fun (f : Nat) (many : Nat) (part : List Nat) (pa : Option Addr) (pc : Nat) (Sp : Hp) => ends.length + 1 - many) (ends.length + 2) 0 (part0 ends) (some ⟨b15, 0, none⟩) ends.length _ ⟨by omega, by omega, rfl, part0_rnd (by omega), by rw [List.take_length, filZ_full (by simp [part0])] at hP; exact hP⟩ sbA sbA hzB ?_
   rintro f many part pa pc Sp ⟨hf, hme, hpt, hR, hO⟩
   have hpl := hR.len
   have hso := hO.sl
   rw [show part.length = ends.length by omega] at hso
   obtain ⟨r0, hr0⟩ : ∃ r, rows[0]? = some r := ⟨_, List.getElem?_eq_getElem h0⟩
   have hr0k := hK r0 (List.mem_of_getElem? hr0)
   have hrs := (hw.2.2 r0 (List.mem_of_getElem? hr0)).sl
   refine c_block (cR fun _ hK11 => ?_); refine o_mmap2 (Ek := EkP) rfl fun b29 => ?_; refine o_alloc rfl rfl fun b7 => ?_; refine o_store rfl rfl rfl upA ltA rfl ?_; refine oZ hK11 (cR fun _ hK12 => ?_); refine oS (s_func (us := []) (vs := [_]) rfl rfl) ?_; refine oA (oZ hK12 (cR fun _ hK13 => ?_)); refine oM ?_; refine o_call (cloneI_fn pa pc ends.length part (by omega) (by omega)) rfl rfl rfl (by exact .nil) (fun w st => (hO.rdk hiA).out w st) (fun v32 S32 ⟨a32, c32, hv32, hS32⟩ => ?_); subst hv32
   have hs32 := hS32.sl
   rw [show part.length = ends.length by omega] at hs32
   refine oA (oZ hK13 (c_seq fun _ hK14 => ?_)); refine cR fun _ hK15 => ?_; refine oS sF ?_; refine oS sL ?_; refine oS (s_idx rfl rfl hsn (by omega)) ?_; refine oS (s_ld rfl ((RdK.old0 hw.1).ld 0 0 hr0 rfl (by decide) (by omega))) ?_; refine oS sC (oM (oZ hK15 (c_block ?_))); refine c_loop3 (fun (k : Nat) (Sn : Hp) (Sm : Hp) => k ≤ K ∧ OwnS Eix 1 3 (.slice a32 ends.length c32) (roundT (rows.map Sl.xs) part k).1 Sn ∧ StP b7 (roundT (rows.map Sl.xs) part k).2 Sm) (fun (k : Nat) (Sn : Hp) (Sm : Hp) => [(38, .int .i64 k)]) [(1, _), (3, _), (6, _), (7, _), (8, _), (9, _), (29, _), (30, _), (31, _), (32, _), (33, _), (34, _), (35, _), (36, _), (37, _)] (fun (k : Nat) (Sn : Hp) (Sm : Hp) => (b1, .cells [.slice na rows.length nc, .slice ea ends.length ec].toArray 96 (0, 0)) :: (Sp ++ (Sn ++ Sm))) (fun (k : Nat) (Sn : Hp) (Sm : Hp) => K - k) 0 S32 [(b7, .cells [.map (some b29)].toArray 122 (0, 0)), (b29, mxO EkP [] 0)] ⟨Nat.zero_le _, hS32, b29, [], 0, rfl, List.nodup_nil, rfl, fun s => rfl⟩ sbA sbA hzB ?_
   rintro k Sn Sm ⟨hk, hN, hM⟩
   refine cR fun _ hK16 => ?_; refine oS (s_lss rfl rfl) ?_; refine oZ hK16 (c_seq fun _ hK17 => ?_); refine c_if rfl (fun hlk => ?_) (fun hlk => ?_)
   ·have hcl := round_len hpl k
    have hcc : (col (rows.map Sl.xs) part k).length = (roundT (rows.map Sl.xs) part k).1.length := by simp [col]; omega
    obtain ⟨bm, es, c, rfl, hnd, hes, hg⟩ := hM
    refine c_skip (xZ hK17 (c_seq fun _ hK18 => ?_)); refine c_block (cR fun _ hK19 => ?_); refine oM (oA (oZ hK19 (cR fun _ hK20 => ?_))); refine oS sL ?_; refine o_clearmap (Ek := EkP) rfl pkA fun c' => ?_; refine oZ hK20 (cR fun _ hK21 => ?_); refine oM ?_; refine oS sC (oM (oZ hK21 (c_block ?_))); refine c_loop3 (fun (q : Nat) (Sn2 : Hp) (Sm2 : Hp) => q ≤ ends.length ∧ OwnS Eix 1 3 (.slice a32 ends.length c32) (ups (roundT (rows.map Sl.xs) part k).1 (col (rows.map Sl.xs) part k) q) Sn2 ∧ StP b7 (upsS (roundT (rows.map Sl.xs) part k).1 (col (rows.map Sl.xs) part k) q) Sm2) (fun (q : Nat) (Sn2 : Hp) (Sm2 : Hp) => [(44, .int .i64 q)]) [(1, _), (3, _), (6, _), (7, _), (8, _), (9, _), (10, _), (29, _), (30, _), (31, _), (32, _), (33, _), (34, _), (35, _), (36, _), (37, _), (38, _), (39, _), (40, _), (41, _), (42, _), (43, _)] (fun (q : Nat) (Sn2 : Hp) (Sm2 : Hp) => (b1, .cells [.slice na rows.length nc, .slice ea ends.length ec].toArray 96 (0, 0)) :: (Sp ++ (Sn2 ++ Sm2))) (fun (q : Nat) (Sn2 : Hp) (Sm2 : Hp) => ends.length - q) 0 Sn [(b7, .cells [.map (some bm)].toArray 122 (0, 0)), (bm, mxO EkP [] c')] ⟨Nat.zero_le _, hN, bm, [], c', rfl, List.nodup_nil, rfl, fun s => rfl⟩ sbA sbA hzB ?_
    rintro q Sn2 Sm2 ⟨hq, hN2, hM2⟩
    refine cR fun _ hK22 => ?_; refine oS (s_lss rfl rfl) ?_; refine oZ hK22 (c_seq fun _ hK23 => ?_); refine c_if rfl (fun hlq => ?_) (fun hlq => ?_)
    ·obtain ⟨a, ha⟩ : ∃ a, (roundT (rows.map Sl.xs) part k).1[q]? = some a := gE
     obtain ⟨s, hs⟩ : ∃ s, rows[q]? = some s := gE
     have hsm := List.mem_of_getElem? hs
     have hsK := hK s hsm
     obtain ⟨to, hto⟩ : ∃ t, s.xs[k]? = some t := gE
     have htl := hbd s hsm to (List.mem_of_getElem? hto)
     obtain ⟨b, hb⟩ : ∃ b, part[to]? = some b := gE
     have hcb : (col (rows.map Sl.xs) part k)[q]? = some b := col_get (by rw [List.getElem?_map, hs]; rfl) hto hb
     have hsx := (hw.2.2 s hsm).sl
     have hs2 := hN2.sl
     rw [ups_len hcc (by omega), hcl, hxl] at hs2
     have hul := upsS_le (roundT (rows.map Sl.xs) part k).1 (col (rows.map Sl.xs) part k) q (by omega)
     refine c_skip (xZ hK23 (c_seq fun _ hK24 => ?_)); refine c_block (cR fun _ hK25 => ?_); refine oM (oA (oZ hK25 ?_)); refine c_drawE ((b1, .cells [.slice na rows.length nc, .slice ea ends.length ec].toArray 96 (0, 0)) :: (Sp ++ Sn2)) (fun i => Nat.beq i 20) ?_; refine eP 0 rfl sM ?_; refine eP 1 rfl sM ?_; refine eP 2 rfl sM ?_; refine eP 3 rfl sM ?_; refine eP 4 rfl sM ?_; refine eP 5 rfl (s_idx rfl rfl hs2 (by omega)) ?_; refine eK 6 rfl (s_ld rfl ((hN2.rdk hiA).ld q 0 (ups_get hcc ha) rfl (by decide) (by omega))) ?_; refine eP 7 rfl sM ?_; refine eP 8 rfl sF ?_; refine eK 9 rfl sL ?_; refine eP 10 rfl sM ?_; refine eP 11 rfl (s_idx rfl rfl hsn (by omega)) ?_; refine eK 12 rfl (s_ld rfl ((RdK.old0 hw.1).ld q 0 hs rfl (by decide) (by omega))) ?_; refine eP 13 rfl sM ?_; refine eP 14 rfl (s_idx rfl rfl hsx (by omega)) ?_; refine eK 15 rfl (s_ld rfl ((RdK.old0 (hw.2.2 s hsm)).ld k 0 hto rfl (by decide) (by simp only [Sl.v]; omega))) ?_; refine eP 16 rfl (s_idx rfl rfl hso (by omega)) ?_; refine eK 17 rfl (s_ld rfl ((hO.rdk hiA).ld to 0 hb rfl (by decide) (by omega))) ?_; refine eO 18 rfl ?_; refine o_callC (us := []) (vs := [_, _]) (cs := [.pointer (some ⟨b7, 0, none⟩)]) (id_fn b7 (upsS (roundT (rows.map Sl.xs) part k).1 (col (rows.map Sl.xs) part k) q) Sm2 hM2 (by omega) a b) rfl rfl rfl (pkA) (fun _ _ => trivial) (fun v65 S65 ⟨hv65, hS65⟩ => ?_); subst hv65
     refine oX ?_; refine eP 19 rfl (s_idx rfl rfl hs2 (by omega)) ?_; refine eO 20 rfl ?_; refine o_stS1 q (idx (upsS (roundT (rows.map Sl.xs) part k).1 (col (rows.map Sl.xs) part k) q) (a, b)) hN2 pkA rfl rfl rfl (by rw [ups_len hcc (by omega)]; omega) (by first | rfl | omega | (rw [Int.toNat_natCast, Nat.mul_one])) fun S66 hS66 => ?_; refine o_nil ?_; refine x_oneL rfl ?_; refine e_done (by kernel_rfl) ?_; refine x_block (xZ hK24 (c_region ?_)); refine oS sD (oM (o_nil ?_)); exact xI (q + 1, _, _) ⟨by omega, by rw [← (ups_step hcc ha hcb).1]; exact hS66, by rw [← (ups_step hcc ha hcb).2]; exact hS65⟩
    ·obtain rfl : q = (rows.map Sl.xs).length := by omega
     refine c_exit ?_; refine x_then_exit (x_then_exit (x_block_exit (x_block (xZ hK18 (c_region ?_))))); refine oS sD (oM (o_nil ?_)); exact xI (k + 1, _, _) ⟨by omega, by rw [← (ups_end hcl).1]; exact hN2, by rw [← (ups_end hcl).2]; exact hM2⟩
   ·obtain rfl : K = k := by omega
    obtain ⟨bm, es, c, rfl, hnd, hes, hg⟩ := hM
    refine c_exit ?_; refine x_then_exit (x_then_exit (x_block_exit (xZ hK14 (c_seq fun _ hK26 => ?_)))); refine cR fun _ hK27 => ?_; refine oS sL ?_; refine oS (step_cast (v' := .int .i64 (((roundT (rows.map Sl.xs) part K).2.length : Nat) : Int)) (s_lenmap (Ek := EkP) (es := es) rfl meA) (by rw [hes])) ?_; refine oM ?_
    by_cases hmn : (roundT (rows.map Sl.xs) part K).2.length = many
    ·refine oS (step_cast (v' := .bool true) (s_eql rfl rfl) (congrArg Value.bool (decide_eq_true (by omega)))) ?_; refine oZ hK27 ?_; refine cT (cR fun _ hK28 => ?_); refine oM (oA (oZ hK28 (c_ret ?_))); refine x_then_ret (x_block_ret (x_then_ret (x_block_ret (?_))))
     refine x_sub (Sub.refl _) (H' := Sp) hzB ?_; exact xR rfl rfl (⟨_, _, rfl, by rw [← hpt, partsT_end hmn]; exact hO⟩)
    ·have hst := hR.step hK0 hmn
     refine oS (step_cast (v' := .bool false) (s_eql rfl rfl) (congrArg Value.bool (decide_eq_false (by omega)))) ?_; refine oZ hK27 ?_; refine cFZ hK26 (cR fun _ hK29 => ?_); refine oS sL ?_; refine oS (step_cast (v' := .int .i64 (((roundT (rows.map Sl.xs) part K).2.length : Nat) : Int)) (s_lenmap (Ek := EkP) (es := es) rfl meA) (by rw [hes])) ?_; refine oA (oZ hK29 (c_region (oM (oA (o_nil (x_block ?_)))))); exact xI (f - 1, (roundT (rows.map Sl.xs) part K).2.length, (roundT (rows.map Sl.xs) part K).1, a32, c32, Sn) ⟨by dsimp only; omega, by dsimp only; omega, by rw [← hpt, partsT_step (by omega) hmn], hst.1, hN⟩
end Go.Proofs.YtmompllplidphaaGreatDoor
