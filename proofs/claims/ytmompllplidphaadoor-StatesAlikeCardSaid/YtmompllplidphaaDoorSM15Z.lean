/- The parts: states of one part take the same texts, and those of two are parted by a text. Conditions: none. -/
import Derived.Test.YtmompllplidphaaDoorSW14Z
import Derived.Test.YtmompllplidphaaDoorKQ8Z
import Derived.Test.YtmompllplidphaaDoorHTZ
import Derived.Test.YtmompllplidphaaDoorSW1Z
import Derived.Test.YtmompllplidphaaDoorSN4Z
import Derived.Test.YtmompllplidphaaDoorMK1Z
namespace Go.HL.Sts
open Go Go.HL Go.HL.Kl Go.HL.Kl.Mc
def nx (next : List (List Nat)) (q k : Nat) : Nat := ((next[q]?.getD [])[k]?).getD 0
def runW (next : List (List Nat)) : Nat → List Nat → Nat
  | q, [] => q
  | q, k :: t => runW next (nx next q k) t
def accW (next : List (List Nat)) (ends : List Bool) (q : Nat) (t : List Nat) : Bool := ends[runW next q t]?.getD false
structure WOk (next : List (List Nat)) (ends : List Bool) (K : Nat) : Prop where
  len : ends.length = next.length
  pos : 0 < next.length
  K0 : 0 < K
  rows : ∀ r ∈ next, r.length = K
  bnd : ∀ r ∈ next, ∀ v ∈ r, v < next.length
theorem WOk.get {next : List (List Nat)} {ends : List Bool} {K : Nat} (h : WOk next ends K) {q k : Nat} (hq : q < next.length) (hk : k < K) : ∃ row, next[q]? = some row ∧ row[k]? = some (nx next q k) ∧ nx next q k < next.length := by
  have hr : next[q]? = some next[q] := List.getElem?_eq_getElem hq
  have hl := h.rows _ (List.getElem_mem hq)
  have hk' : next[q][k]? = some (next[q][k]) := List.getElem?_eq_getElem (by omega)
  refine ⟨_, hr, ?_, ?_⟩
  · unfold nx; rw [hr, Option.getD_some, hk']; rfl
  · unfold nx; rw [hr, Option.getD_some, hk', Option.getD_some]
    exact h.bnd _ (List.getElem_mem hq) _ (List.getElem_mem _)
theorem round_eq {next : List (List Nat)} {ends : List Bool} {K : Nat} (h : WOk next ends K) {part : List Nat} (hp : part.length = next.length) : ∀ (k : Nat), k ≤ K → ∀ {i j : Nat}, i < next.length → j < next.length →
    ((roundT next part k).1[i]? = (roundT next part k).1[j]? ↔ pt part i = pt part j ∧ ∀ k', k' < k → pt part (nx next i k') = pt part (nx next j k'))
  | 0, _, i, j, hi, hj => by
    show part[i]? = part[j]? ↔ _
    rw [pt_get (pm := part) (m := i) (by omega), pt_get (pm := part) (m := j) (by omega)]
    constructor
    · intro e; exact ⟨Option.some.inj e, fun k hk => by omega⟩
    · rintro ⟨e, _⟩; rw [e]
  | k + 1, hk, i, j, hi, hj => by
    have ih := round_eq h hp k (by omega) hi hj
    have hl := round_len hp k
    have hc : (col next part k).length = next.length := by simp [col]
    obtain ⟨_, _, h3, h4⟩ := ids_ref ((roundT next part k).1.zip (col next part k)) [] List.nodup_nil
    have z1 := zip_at (l := (roundT next part k).1) (c := col next part k) (i := i) (by omega) (by omega)
    have z2 := zip_at (l := (roundT next part k).1) (c := col next part k) (i := j) (by omega) (by omega)
    have m1 := (h3 _).2 (.inr (List.mem_of_getElem? z1))
    have m2 := (h3 _).2 (.inr (List.mem_of_getElem? z2))
    have cg : ∀ i, i < next.length → ∀ (hi : i < (col next part k).length), (col next part k)[i] = pt part (nx next i k) := by
      intro i hi hi'
      obtain ⟨row, hr, hv, hb⟩ := h.get hi (show k < K by omega)
      have := col_get (part := part) hr hv (pt_get (pm := part) (by omega))
      rw [List.getElem?_eq_getElem hi'] at this
      exact Option.some.inj this
    show (idsT _ []).1[i]? = (idsT _ []).1[j]? ↔ _
    rw [h4, List.getElem?_map, List.getElem?_map, z1, z2]
    simp only [Option.map_some, Option.some.injEq]
    constructor
    · intro e
      have e' := idx_inj m1 m2 e
      have e1 := (Prod.mk.inj e').1
      have e2 := (Prod.mk.inj e').2
      rw [cg i hi, cg j hj] at e2
      obtain ⟨p1, p2⟩ := ih.1 (by rw [List.getElem?_eq_getElem (by omega), List.getElem?_eq_getElem (by omega), e1])
      refine ⟨p1, fun k' hk' => ?_⟩
      rcases Nat.lt_or_ge k' k with h5 | h5
      · exact p2 k' h5
      · obtain rfl : k' = k := by omega
        exact e2
    · rintro ⟨p1, p2⟩
      have e1 := ih.2 ⟨p1, fun k' hk' => p2 k' (by omega)⟩
      rw [List.getElem?_eq_getElem (by omega), List.getElem?_eq_getElem (by omega)] at e1
      have e1 := Option.some.inj e1
      have e2 := p2 k (by omega)
      rw [← cg i hi (by omega), ← cg j hj (by omega)] at e2
      rw [e1, e2]
structure Sep (next : List (List Nat)) (ends : List Bool) (K : Nat) (part : List Nat) : Prop where
  len : part.length = next.length
  res : ∀ i j, i < next.length → j < next.length → pt part i = pt part j → ends[i]? = ends[j]?
  sep : ∀ i j, i < next.length → j < next.length → pt part i ≠ pt part j → ∃ t, (∀ k ∈ t, k < K) ∧ accW next ends i t ≠ accW next ends j t
theorem Sep.zero {next : List (List Nat)} {ends : List Bool} {K : Nat} (h : WOk next ends K) : Sep next ends K (part0 ends) := by
  have hl : (part0 ends).length = next.length := by simp [part0, h.len]
  have hg : ∀ i, i < next.length → ∃ b, ends[i]? = some b ∧ pt (part0 ends) i = if b then 1 else 0 := by
    intro i hi
    refine ⟨ends[i]'(by have := h.len; omega), List.getElem?_eq_getElem _, ?_⟩
    unfold pt part0
    rw [List.getElem?_map, List.getElem?_eq_getElem (by have := h.len; omega)]; rfl
  refine ⟨hl, fun i j hi hj he => ?_, fun i j hi hj he => ⟨[], by simp, ?_⟩⟩
  · obtain ⟨a, ha, e1⟩ := hg i hi
    obtain ⟨b, hb, e2⟩ := hg j hj
    rw [e1, e2] at he
    rw [ha, hb]
    cases a <;> cases b <;> simp_all
  · obtain ⟨a, ha, e1⟩ := hg i hi
    obtain ⟨b, hb, e2⟩ := hg j hj
    rw [e1, e2] at he
    show ends[i]?.getD false ≠ ends[j]?.getD false
    rw [ha, hb]
    cases a <;> cases b <;> simp_all
theorem Sep.round {next : List (List Nat)} {ends : List Bool} {K : Nat} (h : WOk next ends K) {part : List Nat} (hs : Sep next ends K part) : Sep next ends K (roundT next part K).1 := by
  have hl := round_len hs.len K
  have hq : ∀ i j, i < next.length → j < next.length → (pt (roundT next part K).1 i = pt (roundT next part K).1 j ↔ pt part i = pt part j ∧ ∀ k', k' < K → pt part (nx next i k') = pt part (nx next j k')) := by
    intro i j hi hj
    rw [← round_eq h hs.len K (Nat.le_refl _) hi hj, pt_get (by omega), pt_get (by omega)]
    exact ⟨fun e => by rw [e], fun e => Option.some.inj e⟩
  refine ⟨hl, fun i j hi hj he => hs.res i j hi hj ((hq i j hi hj).1 he).1, fun i j hi hj hne => ?_⟩
  by_cases e : pt part i = pt part j
  · obtain ⟨k, hk, hd⟩ : ∃ k, k < K ∧ pt part (nx next i k) ≠ pt part (nx next j k) := by
      refine Classical.byContradiction fun hc => hne ((hq i j hi hj).2 ⟨e, fun k hk => ?_⟩)
      exact Classical.byContradiction fun hd => hc ⟨k, hk, hd⟩
    obtain ⟨t, ht, ha⟩ := hs.sep _ _ (h.get hi hk).choose_spec.2.2 (h.get hj hk).choose_spec.2.2 hd
    exact ⟨k :: t, fun x hx => by rcases List.mem_cons.1 hx with rfl | hx; (· exact hk); (· exact ht x hx), ha⟩
  · exact hs.sep i j hi hj e
def Stb (next : List (List Nat)) (K : Nat) (part : List Nat) : Prop := ∀ i j, i < next.length → j < next.length → pt part i = pt part j → ∀ k, k < K → pt part (nx next i k) = pt part (nx next j k)
theorem stb_of {next : List (List Nat)} {ends : List Bool} {K : Nat} (h : WOk next ends K) {part : List Nat} {many : Nat} (hR : Rnd next.length part many) (hb : ∀ v ∈ part, v < many) (he : (roundT next part K).2.length = many) : Stb next K part := by
  intro i j hi hj hij k hk
  refine Classical.byContradiction fun hne => ?_
  obtain ⟨K', rfl⟩ : ∃ k', K = k' + 1 := ⟨K - 1, by have := h.K0; omega⟩
  have hl := round_len hR.len (K' + 1)
  have hpl := hR.len
  have hq : ∀ i j, i < next.length → j < next.length → (pt (roundT next part (K' + 1)).1 i = pt (roundT next part (K' + 1)).1 j ↔ pt part i = pt part j ∧ ∀ k', k' < K' + 1 → pt part (nx next i k') = pt part (nx next j k')) := by
    intro i j hi hj
    rw [← round_eq h hR.len (K' + 1) (Nat.le_refl _) hi hj, pt_get (by omega), pt_get (by omega)]
    exact ⟨fun e => by rw [e], fun e => Option.some.inj e⟩
  have hv : ∀ i, i < next.length → pt (roundT next part (K' + 1)).1 i < many := by
    intro i hi
    rw [← he]
    exact round_bnd K' (List.mem_of_getElem? (pt_get (by omega)))
  have hrep : ∀ c, c < many → part[idx part c]? = some c ∧ idx part c < next.length := fun c hc => ⟨idx_get (hR.cov c hc), by rw [← hR.len]; exact idx_lt (hR.cov c hc)⟩
  have hrp : ∀ c, c < many → pt part (idx part c) = c := fun c hc => by unfold pt; rw [(hrep c hc).1]; rfl
  have hc0 : pt part i < many := hb _ (List.mem_of_getElem? (pt_get (by omega)))
  have hnd : (((List.range many).filter fun c => decide (c ≠ pt part i)).map fun c => pt (roundT next part (K' + 1)).1 (idx part c)).Nodup := by
    rw [List.nodup_iff_pairwise_ne, List.pairwise_map]
    have hr : ((List.range many).filter fun c => decide (c ≠ pt part i)).Pairwise (· ≠ ·) := (List.nodup_iff_pairwise_ne.1 (List.nodup_range (n := many))).filter _
    refine hr.imp_of_mem ?_
    intro a b ha hb' hab hee
    have ha := (List.mem_filter.1 ha).1
    have hb' := (List.mem_filter.1 hb').1
    have ha' : a < many := by simpa using ha
    have hb'' : b < many := by simpa using hb'
    have := ((hq _ _ (hrep a ha').2 (hrep b hb'').2).1 hee).1
    rw [hrp a ha', hrp b hb''] at this
    exact hab this
  have hlen : many ≤ ((List.range many).filter fun c => decide (c ≠ pt part i)).length + 1 := by
    have hsub : List.range many ⊆ pt part i :: (List.range many).filter fun c => decide (c ≠ pt part i) := by
      intro c hc
      by_cases e : c = pt part i
      · rw [e]; exact List.mem_cons_self
      · exact List.mem_cons_of_mem _ (List.mem_filter.2 ⟨hc, by simp [e]⟩)
    have := (List.nodup_range (n := many)).length_le_of_subset hsub
    simpa using this
  have hapart : ∀ q, q < next.length → pt part q = pt part i → ∀ x ∈ ((List.range many).filter fun c => decide (c ≠ pt part i)).map fun c => pt (roundT next part (K' + 1)).1 (idx part c), x ≠ pt (roundT next part (K' + 1)).1 q := by
    intro q hq' hqi x hx hxe
    obtain ⟨c, hc, rfl⟩ := List.mem_map.1 hx
    have hc1 := (List.mem_filter.1 hc).1
    have hc2 : c ≠ pt part i := by simpa using (List.mem_filter.1 hc).2
    have hc3 : c < many := by simpa using hc1
    have := ((hq _ _ (hrep c hc3).2 hq').1 hxe).1
    rw [hrp c hc3, hqi] at this
    exact hc2 this
  have hij' : pt (roundT next part (K' + 1)).1 i ≠ pt (roundT next part (K' + 1)).1 j := fun e => hne (((hq i j hi hj).1 e).2 k hk)
  have hbig : ((((List.range many).filter fun c => decide (c ≠ pt part i)).map fun c => pt (roundT next part (K' + 1)).1 (idx part c)) ++ [pt (roundT next part (K' + 1)).1 i, pt (roundT next part (K' + 1)).1 j]).Nodup := by
    rw [List.nodup_append]
    refine ⟨hnd, by simp [hij'], fun x hx y hy => ?_⟩
    simp only [List.mem_cons, List.not_mem_nil, or_false] at hy
    rcases hy with rfl | rfl
    · exact hapart i hi rfl x hx
    · exact hapart j hj hij.symm x hx
  have := Sts.nodup_lt hbig (n := many) (fun x hx => by
    rcases List.mem_append.1 hx with hx | hx
    · obtain ⟨c, hc, rfl⟩ := List.mem_map.1 hx
      have hc3 : c < many := by simpa using (List.mem_filter.1 hc).1
      exact hv _ (hrep c hc3).2
    · simp only [List.mem_cons, List.not_mem_nil, or_false] at hx
      rcases hx with rfl | rfl
      · exact hv i hi
      · exact hv j hj)
  simp only [List.length_append, List.length_map, List.length_cons, List.length_nil] at this
  omega
theorem partsT_spec {next : List (List Nat)} {ends : List Bool} {K : Nat} (h : WOk next ends K) : ∀ (f many : Nat) (part : List Nat), next.length + 2 ≤ f + many → many ≤ next.length → Rnd next.length part many → Sep next ends K part → (many = 0 ∨ ∀ v ∈ part, v < many) → Sep next ends K (partsT next K f many part) ∧ Stb next K (partsT next K f many part)
  | 0, many, part, hf, hm, _, _, _ => by omega
  | f + 1, many, part, hf, hm, hR, hS, hb => by
    by_cases he : (roundT next part K).2.length = many
    · rw [partsT_end he]
      refine ⟨hS, stb_of h hR (hb.resolve_left fun h0 => ?_) he⟩
      obtain ⟨K', rfl⟩ : ∃ k', K = k' + 1 := ⟨K - 1, by have := h.K0; omega⟩
      have hl := round_len hR.len (K' + 1)
      have hp := h.pos
      have := round_bnd (next := next) (part := part) K' (List.mem_of_getElem? (pt_get (pm := (roundT next part (K' + 1)).1) (m := 0) (by omega)))
      omega
    · rw [partsT_step (by omega) he, Nat.add_sub_cancel]
      have hst := hR.step h.K0 he
      obtain ⟨K', rfl⟩ : ∃ k', K = k' + 1 := ⟨K - 1, by have := h.K0; omega⟩
      exact partsT_spec h f _ _ (by omega) hst.2.2 hst.1 (hS.round h) (.inr fun v hv => round_bnd K' hv)
theorem parts_spec {next : List (List Nat)} {ends : List Bool} {K : Nat} (h : WOk next ends K) : Sep next ends K (partsM next ends K) ∧ Stb next K (partsM next ends K) :=
  partsT_spec h _ _ _ (by have := h.len; omega) (by omega) (part0_rnd h.len) (Sep.zero h) (.inl rfl)
theorem part_acc {next : List (List Nat)} {ends : List Bool} {K : Nat} (h : WOk next ends K) : ∀ (t : List Nat) (i j : Nat), i < next.length → j < next.length → (∀ k ∈ t, k < K) → pt (partsM next ends K) i = pt (partsM next ends K) j → accW next ends i t = accW next ends j t
  | [], i, j, hi, hj, _, he => by
    show ends[i]?.getD false = ends[j]?.getD false
    rw [(parts_spec h).1.res i j hi hj he]
  | k :: t, i, j, hi, hj, ht, he => part_acc h t _ _ (h.get hi (ht k (by simp))).choose_spec.2.2 (h.get hj (ht k (by simp))).choose_spec.2.2 (fun x hx => ht x (by simp [hx])) ((parts_spec h).2 i j hi hj he k (ht k (by simp)))
theorem live_acc {next : List (List Nat)} {ends : List Bool} {K : Nat} (h : WOk next ends K) {q : Nat} (hq : q < next.length) : Live next ends q ↔ ∃ t, (∀ k ∈ t, k < K) ∧ accW next ends q t = true := by
  constructor
  · intro hL
    induction hL with
    | ends he => exact ⟨[], by simp, by simp [accW, runW, he]⟩
    | @step q to row hr hm _ ih =>
      obtain ⟨t, ht, ha⟩ := ih (h.bnd _ (List.mem_of_getElem? hr) _ hm)
      obtain ⟨k, hk⟩ := List.getElem?_of_mem hm
      have hkK : k < K := by rw [← h.rows _ (List.mem_of_getElem? hr)]; exact (List.getElem?_eq_some_iff.1 hk).1
      refine ⟨k :: t, fun x hx => by rcases List.mem_cons.1 hx with rfl | hx; (· exact hkK); (· exact ht x hx), ?_⟩
      have e : nx next q k = to := by unfold nx; rw [hr, Option.getD_some, hk]; rfl
      show accW next ends (nx next q k) t = true
      rw [e]; exact ha
  · rintro ⟨t, ht, ha⟩
    induction t generalizing q with
    | nil =>
      have he : ends[q]?.getD false = true := ha
      rw [List.getElem?_eq_getElem (by have := h.len; omega)] at he
      exact .ends (by rw [List.getElem?_eq_getElem (by have := h.len; omega)]; exact congrArg some he)
    | cons k t ih =>
      obtain ⟨row, hr, hv, hb⟩ := h.get hq (ht k (by simp))
      exact .step hr (List.mem_of_getElem? hv) (ih hb (fun x hx => ht x (by simp [hx])) ha)
def NumOk (P : List Nat) (lv : List Bool) (met : List Nat) (to : Nat) (v : Int) : Prop := (lv[to]? = some false → v = -1) ∧ (lv[to]? = some true → ∃ j : Nat, v = j ∧ (met.map (pt P))[j]? = some (pt P to))
theorem NumOk.mono {P : List Nat} {lv : List Bool} {met : List Nat} {to : Nat} {v : Int} (h : NumOk P lv met to v) (t : List Nat) : NumOk P lv (met ++ t) to v := by
  refine ⟨h.1, fun hl => ?_⟩
  obtain ⟨j, e, hj⟩ := h.2 hl
  refine ⟨j, e, ?_⟩
  rw [List.map_append, List.getElem?_append_left (List.getElem?_eq_some_iff.1 hj).1]
  exact hj
theorem toT_spec {P : List Nat} {lv : List Bool} {met : List Nat} {to : Nat} (hl : to < lv.length) (hn : (met.map (pt P)).Nodup) :
    NumOk P lv (toT P lv met to).2 to (toT P lv met to).1 ∧ ((toT P lv met to).2.map (pt P)).Nodup ∧ ((toT P lv met to).2 = met ∨ ((toT P lv met to).2 = met ++ [to] ∧ lv[to]? = some true ∧ (toT P lv met to).1 = (met.length : Int))) ∧ (toT P lv met to).1 ≤ (met.length : Int) ∧ ((toT P lv met to).1 = (met.length : Int) → (toT P lv met to).2 = met ++ [to]) := by
  by_cases hb : lv[to]? = some true
  · rw [toT_live hb]
    dsimp only
    by_cases hm : pt P to ∈ met.map (pt P)
    · rw [if_pos hm]
      have hlt := idx_lt hm
      rw [List.length_map] at hlt
      refine ⟨⟨fun h => (by rw [hb] at h; cases h), fun _ => ⟨_, rfl, idx_get hm⟩⟩, hn, .inl rfl, by omega, fun h => ?_⟩
      omega
    · rw [if_neg hm]
      have hout := idx_out hm
      rw [List.length_map] at hout
      have g1 : ((met ++ [to]).map (pt P))[idx (met.map (pt P)) (pt P to)]? = some (pt P to) := by
        rw [hout, List.map_append, List.getElem?_append_right (by simp)]
        simp
      have g2 : ((met ++ [to]).map (pt P)).Nodup := by
        rw [List.map_append, List.nodup_append]
        refine ⟨hn, by simp, fun x hx y hy => ?_⟩
        simp only [List.map_cons, List.map_nil, List.mem_singleton] at hy
        subst hy
        rintro rfl
        exact hm hx
      exact ⟨⟨fun h => (by rw [hb] at h; cases h), fun _ => ⟨_, rfl, g1⟩⟩, g2, .inr ⟨rfl, hb, by rw [hout]⟩, by omega, fun _ => rfl⟩
  · have hf := lv_no hl hb
    rw [toT_dead hf]
    refine ⟨⟨fun _ => rfl, fun h => (by rw [hf] at h; cases h)⟩, hn, .inl rfl, by omega, fun h => ?_⟩
    have : (-1 : Int) = (met.length : Int) := h
    omega
theorem lrowT_spec {P : List Nat} {lv : List Bool} : ∀ (r met : List Nat), (∀ v ∈ r, v < lv.length) → (met.map (pt P)).Nodup →
    ((lrowT P lv r met).2.map (pt P)).Nodup ∧ (∃ t, (lrowT P lv r met).2 = met ++ t ∧ ∀ x ∈ t, lv[x]? = some true ∧ x ∈ r) ∧ ∀ (k to : Nat) (v : Int), r[k]? = some to → (lrowT P lv r met).1[k]? = some v → NumOk P lv (lrowT P lv r met).2 to v
  | [], met, _, hn => ⟨hn, ⟨[], by simp [lrowT], by simp⟩, fun k to v h => by simp at h⟩
  | x :: r, met, hr, hn => by
    obtain ⟨h1, h2, h3, _, _⟩ := toT_spec (hr x (by simp)) hn
    obtain ⟨h4, ⟨t, ht, hlt⟩, h6⟩ := lrowT_spec r (toT P lv met x).2 (fun v hv => hr v (by simp [hv])) h2
    have e : (lrowT P lv (x :: r) met).2 = (lrowT P lv r (toT P lv met x).2).2 := rfl
    have e1 : (lrowT P lv (x :: r) met).1 = (toT P lv met x).1 :: (lrowT P lv r (toT P lv met x).2).1 := rfl
    rw [e, e1]
    refine ⟨h4, ?_, fun k to v hk hv => ?_⟩
    · rcases h3 with h3 | ⟨h3, hx, _⟩
      · rw [h3] at ht
        exact ⟨t, by rw [← ht, h3], fun y hy => ⟨(hlt y hy).1, List.mem_cons_of_mem _ (hlt y hy).2⟩⟩
      · refine ⟨x :: t, by rw [ht, h3]; simp, fun y hy => ?_⟩
        rcases List.mem_cons.1 hy with rfl | hy
        · exact ⟨hx, by simp⟩
        · exact ⟨(hlt y hy).1, List.mem_cons_of_mem _ (hlt y hy).2⟩
    · cases k with
      | zero =>
        obtain rfl := Option.some.inj hk
        obtain rfl := Option.some.inj hv
        rw [ht]
        exact h1.mono t
      | succ k => exact h6 k to v hk hv
structure LmI (w : Wd) (P : List Nat) (lv : List Bool) (K i : Nat) (m : Lm) : Prop where
  ln : m.next.length = i
  le : m.ends.length = i
  im : i ≤ m.met.length
  i6 : i ≤ 256
  z : m.met[0]? = some 0
  bnd : ∀ x ∈ m.met, x < w.next.length
  nd : (m.met.map (pt P)).Nodup
  liv : ∀ x ∈ m.met, x ≠ 0 → lv[x]? = some true
  rows : ∀ q s, q < i → m.met[q]? = some s → m.ends[q]? = w.ends[s]? ∧ ∃ row, m.next[q]? = some row ∧ row.length = K ∧ ∀ k v, k < K → row[k]? = some v → NumOk P lv m.met (nx w.next s k) v
theorem LmI.zero {w : Wd} {P : List Nat} {lv : List Bool} {K : Nat} (h : 0 < w.next.length) : LmI w P lv K 0 ⟨[0], [], []⟩ :=
  ⟨rfl, rfl, Nat.zero_le _, by omega, rfl, fun x hx => by rw [List.mem_singleton.1 hx]; exact h, by simp, fun x hx h0 => absurd (List.mem_singleton.1 hx) h0, fun q s h => by omega⟩
theorem LmI.step {w : Wd} {P : List Nat} {lv : List Bool} {K i : Nat} {m : Lm} (hw : WOk w.next w.ends K) (hlv : lv.length = w.next.length) (h : LmI w P lv K i m) (hi : i < m.met.length) (hm : m.met.length ≤ 256) : LmI w P lv K (i + 1) (lmStep w P lv i m) := by
  obtain ⟨s, hs⟩ : ∃ s, m.met[i]? = some s := ⟨_, List.getElem?_eq_getElem hi⟩
  have hsn := h.bnd s (List.mem_of_getElem? hs)
  have hr : w.next[s]? = some w.next[s] := List.getElem?_eq_getElem hsn
  have he : w.ends[s]? = some (w.ends[s]'(by have := hw.len; omega)) := List.getElem?_eq_getElem _
  rw [lmStep_eq hs hr he]
  have hrK := hw.rows _ (List.getElem_mem hsn)
  have hrb := hw.bnd _ (List.getElem_mem hsn)
  obtain ⟨h4, ⟨t, ht, hlt⟩, h6⟩ := lrowT_spec (P := P) (lv := lv) w.next[s] m.met (fun v hv => by rw [hlv]; exact hrb v hv) h.nd
  have hz0 := (List.getElem?_eq_some_iff.1 h.z).1
  refine ⟨by simp [h.ln], by simp [h.le], by dsimp only; rw [ht]; simp; omega, by omega, ?_, ?_, h4, ?_, ?_⟩
  · dsimp only; rw [ht, List.getElem?_append_left hz0]; exact h.z
  · intro x hx
    dsimp only at hx
    rw [ht] at hx
    rcases List.mem_append.1 hx with hx | hx
    · exact h.bnd x hx
    · exact hrb x (hlt x hx).2
  · intro x hx h0
    dsimp only at hx
    rw [ht] at hx
    rcases List.mem_append.1 hx with hx | hx
    · exact h.liv x hx h0
    · exact (hlt x hx).1
  · intro q s' hq hs'
    dsimp only at hs' ⊢
    rw [ht, List.getElem?_append_left (by omega)] at hs'
    rcases Nat.lt_or_ge q i with hqi | hqi
    · obtain ⟨e1, row, e2, e3, e4⟩ := h.rows q s' hqi hs'
      refine ⟨by rw [List.getElem?_append_left (by rw [h.le]; exact hqi)]; exact e1, row, by rw [List.getElem?_append_left (by rw [h.ln]; exact hqi)]; exact e2, e3, fun k v hk hv => ?_⟩
      rw [ht]
      exact (e4 k v hk hv).mono t
    · obtain rfl : q = i := by omega
      rw [hs] at hs'
      obtain rfl := Option.some.inj hs'
      refine ⟨by rw [List.getElem?_append_right (by rw [h.le]; omega), h.le]; simp [he], (lrowT P lv w.next[s] m.met).1, by rw [List.getElem?_append_right (by rw [h.ln]; omega), h.ln]; simp, by rw [lrowT_len, hrK], fun k v hk hv => ?_⟩
      have hkr : w.next[s][k]? = some (nx w.next s k) := by
        unfold nx
        rw [hr, Option.getD_some, List.getElem?_eq_getElem (by omega)]; rfl
      exact h6 k _ v hkr hv
theorem LmI.run {w : Wd} {P : List Nat} {lv : List Bool} {K : Nat} (hw : WOk w.next w.ends K) (hlv : lv.length = w.next.length) : ∀ (f i : Nat) (m m' : Lm), LmI w P lv K i m → lmRun w P lv f i m = some m' → LmI w P lv K m'.met.length m'
  | 0, _, _, _, _, h => by cases h
  | f + 1, i, m, m', hI, h => by
    unfold lmRun at h
    by_cases hi : i < m.met.length
    · rw [if_pos hi] at h
      by_cases hm : 256 < m.met.length
      · rw [if_pos hm] at h; cases h
      · rw [if_neg hm] at h
        exact LmI.run hw hlv f (i + 1) _ m' (hI.step hw hlv hi (by omega)) h
    · rw [if_neg hi] at h
      obtain rfl := Option.some.inj h
      have := hI.im
      rwa [show m.met.length = i by omega]
theorem lm_spec {w : Wd} {P : List Nat} {lv : List Bool} {K : Nat} (hw : WOk w.next w.ends K) (hlv : lv.length = w.next.length) {m : Lm} (h : lmM w P lv = some m) : LmI w P lv K m.met.length m := LmI.run hw hlv _ _ _ _ (LmI.zero hw.pos) h
/-! runs by letters -/
def gD (d : Df) (q : Int) (k : Nat) : Int := if q < 0 then -1 else nxt d q k
def runD (d : Df) (q : Int) (t : List Nat) : Int := t.foldl (gD d) q
def accD (d : Df) (q : Int) (t : List Nat) : Bool := endsR d (runD d q t)
theorem runD_neg (d : Df) : ∀ (t : List Nat) {q : Int}, q < 0 → runD d q t < 0
  | [], _, h => h
  | k :: t, q, h => by
    show runD d (gD d q k) t < 0
    exact runD_neg d t (by unfold gD; rw [if_pos h]; decide)
theorem accD_neg (d : Df) (t : List Nat) {q : Int} (h : q < 0) : accD d q t = false := by
  unfold accD endsR
  rw [decide_eq_false (by have := runD_neg d t h; omega)]; rfl
structure MkOk (w : Wd) (lv : List Bool) (K : Nat) (m : Lm) (d : Df) : Prop where
  hw : WOk w.next w.ends K
  hl : LvOk w.next w.ends lv
  I : LmI w (partsM w.next w.ends K) lv K m.met.length m
  nx : d.next = m.next
  en : d.ends = m.ends
theorem MkOk.acc {w : Wd} {lv : List Bool} {K : Nat} {m : Lm} {d : Df} (h : MkOk w lv K m d) : ∀ (t : List Nat) (i s : Nat), m.met[i]? = some s → (∀ k ∈ t, k < K) → accD d (i : Int) t = accW w.next w.ends s t
  | [], i, s, hs, _ => by
    have hi := (List.getElem?_eq_some_iff.1 hs).1
    obtain ⟨e1, _⟩ := h.I.rows i s hi hs
    simp [accD, accW, endsR, runD, runW, h.en, e1]
  | k :: t, i, s, hs, ht => by
    have hi := (List.getElem?_eq_some_iff.1 hs).1
    have hsn := h.I.bnd s (List.mem_of_getElem? hs)
    have hk := ht k (by simp)
    obtain ⟨_, row, e2, e3, e4⟩ := h.I.rows i s hi hs
    obtain ⟨v, hv⟩ : ∃ v, row[k]? = some v := ⟨_, List.getElem?_eq_getElem (by omega)⟩
    have hN := e4 k v hk hv
    have hg : gD d (i : Int) k = v := by
      unfold gD
      rw [if_neg (by omega), nxt_get (by rw [h.nx]; exact e2) hv]
    have htn := (h.hw.get hsn hk).choose_spec.2.2
    show accD d (gD d (i : Int) k) t = accW w.next w.ends (Sts.nx w.next s k) t
    rw [hg]
    by_cases hb : lv[Sts.nx w.next s k]? = some true
    · obtain ⟨j, rfl, hj⟩ := hN.2 hb
      rw [List.getElem?_map] at hj
      obtain ⟨s', hs', he⟩ := Option.map_eq_some_iff.1 hj
      rw [h.acc t j s' hs' fun x hx => ht x (by simp [hx])]
      exact part_acc h.hw t _ _ (h.I.bnd s' (List.mem_of_getElem? hs')) htn (fun x hx => ht x (by simp [hx])) he
    · rw [hN.1 (lv_no (by rw [h.hl.1]; exact htn) hb), accD_neg d t (by decide)]
      cases ha : accW w.next w.ends (Sts.nx w.next s k) t with
      | false => rfl
      | true => exact absurd ((h.hl.2 _).2 ((live_acc h.hw htn).2 ⟨t, fun x hx => ht x (by simp [hx]), ha⟩)) hb
theorem MkOk.len {w : Wd} {lv : List Bool} {K : Nat} {m : Lm} {d : Df} (h : MkOk w lv K m d) : d.next.length = m.met.length ∧ d.ends.length = m.met.length ∧ 1 ≤ m.met.length ∧ m.met.length ≤ 256 :=
  ⟨by rw [h.nx]; exact h.I.ln, by rw [h.en]; exact h.I.le, (List.getElem?_eq_some_iff.1 h.I.z).1, h.I.i6⟩
theorem MkOk.shp {w : Wd} {lv : List Bool} {K : Nat} {m : Lm} {d : Df} (h : MkOk w lv K m d) (ha : Atm d.atoms) (hK : d.atoms.length = K) (hK6 : K ≤ 256) : Shp d := by
  obtain ⟨h1, h2, h3, h4⟩ := h.len
  have hk0 := h.hw.K0
  refine ⟨⟨by omega, by omega, by omega, by omega, by omega⟩, ha, fun r hr => ?_⟩
  rw [h.nx] at hr
  obtain ⟨q, hq⟩ := List.getElem?_of_mem hr
  have hql := (List.getElem?_eq_some_iff.1 hq).1
  rw [h.I.ln] at hql
  obtain ⟨s, hs⟩ : ∃ s, m.met[q]? = some s := ⟨_, List.getElem?_eq_getElem hql⟩
  obtain ⟨_, row, e2, e3, e4⟩ := h.I.rows q s hql hs
  rw [hq] at e2
  obtain rfl := Option.some.inj e2
  refine ⟨by omega, fun v hv => ?_⟩
  obtain ⟨k, hk⟩ := List.getElem?_of_mem hv
  have hkK : k < K := by rw [← e3]; exact (List.getElem?_eq_some_iff.1 hk).1
  have hN := e4 k v hkK hk
  have hsn := h.I.bnd s (List.mem_of_getElem? hs)
  have htn := (h.hw.get hsn hkK).choose_spec.2.2
  by_cases hb : lv[Sts.nx w.next s k]? = some true
  · obtain ⟨j, rfl, hj⟩ := hN.2 hb
    have := (List.getElem?_eq_some_iff.1 hj).1
    rw [List.length_map] at this
    omega
  · rw [hN.1 (lv_no (by rw [h.hl.1]; exact htn) hb)]
    omega
def ltrs (atoms : List Kl.Cl) (w : List UInt8) : List Nat := w.map fun b => fstK atoms b.toNat
theorem tkR_run {d : Df} (ha : Atm d.atoms) : ∀ (w : List UInt8) (q : Int), tkR d w q = runD d q (ltrs d.atoms w)
  | [], q => rfl
  | b :: w, q => by
    have e : goesR d q b.toNat = gD d q (fstK d.atoms b.toNat) := by
      unfold goesR gD
      by_cases h : q < 0
      · rw [if_pos h, if_pos h]
      · rw [if_neg h, if_neg h, if_pos (ha.fst b.toNat_lt).1]
    show tkR d w (goesR d q b.toNat) = runD d (gD d q (fstK d.atoms b.toNat)) (ltrs d.atoms w)
    rw [e, tkR_run ha w]
theorem ltrs_lt {atoms : List Kl.Cl} (ha : Atm atoms) (w : List UInt8) : ∀ k ∈ ltrs atoms w, k < atoms.length := by
  intro k hk
  obtain ⟨b, _, rfl⟩ := List.mem_map.1 hk
  exact (ha.fst b.toNat_lt).1
theorem MkOk.takes {w : Wd} {lv : List Bool} {K : Nat} {m : Lm} {d : Df} (h : MkOk w lv K m d) (ha : Atm d.atoms) (hK : d.atoms.length = K) (hK6 : K ≤ 256) (t : List UInt8) : takesR d t = accW w.next w.ends 0 (ltrs d.atoms t) := by
  have hS := h.shp ha hK hK6
  rw [takesR_yes ((sh_eq d).symm.trans (shP_iff.2 hS)), tkR_run ha]
  have := h.acc (ltrs d.atoms t) 0 0 h.I.z (by rw [← hK]; exact ltrs_lt ha t)
  exact this
def LmT (w : Wd) (P : List Nat) (lv : List Bool) (K q : Nat) (mi m : Lm) : Prop := LmI w P lv K q mi ∧ ∃ f, lmRun w P lv f q mi = some m
theorem lmRun_pre {w : Wd} {P : List Nat} {lv : List Bool} : ∀ (f i : Nat) (mi m : Lm), lmRun w P lv f i mi = some m → ∃ t, m.next = mi.next ++ t
  | 0, _, _, _, h => by cases h
  | f + 1, i, mi, m, h => by
    unfold lmRun at h
    by_cases hi : i < mi.met.length
    · rw [if_pos hi] at h
      by_cases hm : 256 < mi.met.length
      · rw [if_pos hm] at h; cases h
      · rw [if_neg hm] at h
        obtain ⟨t, ht⟩ := lmRun_pre f (i + 1) _ m h
        exact ⟨[(lrowT P lv (w.next[mi.met[i]?.getD 0]?.getD []) mi.met).1] ++ t, by rw [ht]; simp [lmStep]⟩
    · rw [if_neg hi] at h
      obtain rfl := Option.some.inj h
      exact ⟨[], by simp⟩
theorem LmT.step {w : Wd} {P : List Nat} {lv : List Bool} {K q : Nat} {mi m : Lm} (hw : WOk w.next w.ends K) (hlv : lv.length = w.next.length) (h : LmT w P lv K q mi m) (hq : q < m.met.length) :
    ∃ (s : Nat) (row : List Nat), q < mi.met.length ∧ mi.met[q]? = some s ∧ w.next[s]? = some row ∧ row.length = K ∧ (∀ v ∈ row, v < lv.length) ∧ m.next[q]? = some (lrowT P lv row mi.met).1 ∧ LmT w P lv K (q + 1) (lmStep w P lv q mi) m ∧ (lmStep w P lv q mi).met = (lrowT P lv row mi.met).2 := by
  obtain ⟨hI, f, hf⟩ := h
  cases f with
  | zero => cases hf
  | succ f =>
    have hf0 := hf
    unfold lmRun at hf
    by_cases hi : q < mi.met.length
    · rw [if_pos hi] at hf
      by_cases hm : 256 < mi.met.length
      · rw [if_pos hm] at hf; cases hf
      · rw [if_neg hm] at hf
        obtain ⟨s, hs⟩ : ∃ s, mi.met[q]? = some s := ⟨_, List.getElem?_eq_getElem hi⟩
        have hsn := hI.bnd s (List.mem_of_getElem? hs)
        have hr : w.next[s]? = some w.next[s] := List.getElem?_eq_getElem hsn
        have he : w.ends[s]? = some (w.ends[s]'(by have := hw.len; omega)) := List.getElem?_eq_getElem _
        refine ⟨s, w.next[s], hi, hs, hr, hw.rows _ (List.getElem_mem hsn), fun v hv => by rw [hlv]; exact hw.bnd _ (List.getElem_mem hsn) v hv, ?_, ⟨hI.step hw hlv hi (by omega), f, hf⟩, by rw [lmStep_eq hs hr he]⟩
        obtain ⟨t, ht⟩ := lmRun_pre f _ _ m hf
        rw [lmStep_eq hs hr he] at ht
        rw [ht, List.append_assoc, List.getElem?_append_right (by rw [hI.ln]; omega), hI.ln, Nat.sub_self]
        rfl
    · rw [if_neg hi] at hf
      obtain rfl := Option.some.inj hf
      omega
theorem LmT.fin {w : Wd} {P : List Nat} {lv : List Bool} {K q : Nat} {mi m : Lm} (h : LmT w P lv K q mi m) (hq : m.met.length ≤ q) : mi = m := by
  obtain ⟨hI, f, hf⟩ := h
  cases f with
  | zero => cases hf
  | succ f =>
    unfold lmRun at hf
    by_cases hi : q < mi.met.length
    · rw [if_pos hi] at hf
      by_cases hm : 256 < mi.met.length
      · rw [if_pos hm] at hf; cases hf
      · rw [if_neg hm] at hf
        exfalso
        have key : ∀ (f i : Nat) (a b : Lm), lmRun w P lv f i a = some b → a.met.length ≤ b.met.length := by
          intro f
          induction f with
          | zero => intro i a b h; cases h
          | succ f ih =>
            intro i a b h
            unfold lmRun at h
            by_cases hi : i < a.met.length
            · rw [if_pos hi] at h
              by_cases hm : 256 < a.met.length
              · rw [if_pos hm] at h; cases h
              · rw [if_neg hm] at h
                have h1 := ih _ _ _ h
                have h2 := (lrowT_mono P lv (w.next[a.met[i]?.getD 0]?.getD []) a.met).2
                have h3 : (lmStep w P lv i a).met = (lrowT P lv (w.next[a.met[i]?.getD 0]?.getD []) a.met).2 := rfl
                rw [h3] at h1
                omega
            · rw [if_neg hi] at h
              obtain rfl := Option.some.inj h
              exact Nat.le_refl _
        have h1 := key _ _ _ _ hf
        have h2 := (lrowT_mono P lv (w.next[mi.met[q]?.getD 0]?.getD []) mi.met).2
        have h3 : (lmStep w P lv q mi).met = (lrowT P lv (w.next[mi.met[q]?.getD 0]?.getD []) mi.met).2 := rfl
        rw [h3] at h1
        omega
    · rw [if_neg hi] at hf
      exact Option.some.inj hf
theorem num_step {P : List Nat} {lv : List Bool} {r met : List Nat} {k to : Nat} {v : Int} (hr : ∀ v ∈ r, v < lv.length) (hn : (met.map (pt P)).Nodup) (hk : r[k]? = some to) (hv : (lrowT P lv r met).1[k]? = some v) :
    v ≤ ((lrowT P lv (r.take k) met).2.length : Int) ∧ ((lrowT P lv (r.take (k + 1)) met).2.length = if v = ((lrowT P lv (r.take k) met).2.length : Int) then (lrowT P lv (r.take k) met).2.length + 1 else (lrowT P lv (r.take k) met).2.length) := by
  have hkl := (List.getElem?_eq_some_iff.1 hk).1
  have hs := lrowK_succ (part := P) (lv := lv) (met := met) hk
  have hnk := (lrowT_spec (P := P) (lv := lv) (r.take k) met (fun v hv => hr v (List.mem_of_mem_take hv)) hn).1
  obtain ⟨_, _, h3, h4, h5⟩ := toT_spec (P := P) (lv := lv) (met := (lrowT P lv (r.take k) met).2) (hr to (List.mem_of_getElem? hk)) hnk
  have hv' : v = (toT P lv (lrowT P lv (r.take k) met).2 to).1 := by
    have key : ∀ (r met : List Nat) (k : Nat), (lrowT P lv (r.take k) met).1 = (lrowT P lv r met).1.take k := by
      intro r
      induction r with
      | nil => intro met k; simp [lrowT]
      | cons x r ih =>
        intro met k
        cases k with
        | zero => simp [lrowT]
        | succ k =>
          show (toT P lv met x).1 :: (lrowT P lv (r.take k) (toT P lv met x).2).1 = ((toT P lv met x).1 :: (lrowT P lv r (toT P lv met x).2).1).take (k + 1)
          rw [List.take_succ_cons, ih]
    have h6 := congrArg Prod.fst hs
    dsimp only at h6
    rw [key r met (k + 1), key r met k] at h6
    have h7 := congrArg (fun l => l[k]?) h6
    rw [List.getElem?_take_of_lt (by omega), hv, List.getElem?_append_right (by simp; omega)] at h7
    have hl1 : (lrowT P lv r met).1.length = r.length := lrowT_len P lv r met
    rw [show k - ((lrowT P lv r met).1.take k).length = 0 by rw [List.length_take]; omega] at h7
    exact Option.some.inj h7
  rw [hs, hv']
  refine ⟨h4, ?_⟩
  by_cases e : (toT P lv (lrowT P lv (r.take k) met).2 to).1 = ((lrowT P lv (r.take k) met).2.length : Int)
  · rw [if_pos e, h5 e]; simp
  · rw [if_neg e]
    rcases h3 with h3 | ⟨_, _, h3⟩
    · rw [h3]
    · exact absurd h3 e
/-! each state takes some text -/
theorem MkOk.apart {w : Wd} {lv : List Bool} {K : Nat} {m : Lm} {d : Df} (h : MkOk w lv K m d) {i j : Nat} (hi : i < m.met.length) (hj : j < m.met.length) (hij : i ≠ j) : ∃ t, (∀ k ∈ t, k < K) ∧ accD d (i : Int) t ≠ accD d (j : Int) t := by
  obtain ⟨s, hs⟩ : ∃ s, m.met[i]? = some s := ⟨_, List.getElem?_eq_getElem hi⟩
  obtain ⟨s', hs'⟩ : ∃ s, m.met[j]? = some s := ⟨_, List.getElem?_eq_getElem hj⟩
  have hne : pt (partsM w.next w.ends K) s ≠ pt (partsM w.next w.ends K) s' := by
    intro e
    have hn := h.I.nd
    have g1 : (m.met.map (pt (partsM w.next w.ends K)))[i]? = some (pt (partsM w.next w.ends K) s) := by rw [List.getElem?_map, hs]; rfl
    have g2 : (m.met.map (pt (partsM w.next w.ends K)))[j]? = some (pt (partsM w.next w.ends K) s) := by rw [List.getElem?_map, hs', e]; rfl
    have := idx_at hn g1
    rw [idx_at hn g2] at this
    exact hij this.symm
  obtain ⟨t, ht, ha⟩ := (parts_spec h.hw).1.sep s s' (h.I.bnd s (List.mem_of_getElem? hs)) (h.I.bnd s' (List.mem_of_getElem? hs')) hne
  exact ⟨t, ht, by rw [h.acc t i s hs ht, h.acc t j s' hs' ht]; exact ha⟩
/-! the rounds that look for what is alive -/
def ClD (d : Df) (L : List Bool) : Prop := ∀ (p j : Nat) (row : List Int) (v : Int), d.next[p]? = some row → row[j]? = some v → 0 ≤ v → L[v.toNat]? = some true → L[p]? = some true
structure RdI (d : Df) (L0 L : List Bool) (q k : Nat) : Prop where
  fix : ClD d L0 → L = L0
  len : L.length = d.ends.length
  len0 : L0.length = d.ends.length
  mono : ∀ x : Nat, L0[x]? = some true → L[x]? = some true
  done : ∀ (p j : Nat) (row : List Int) (v : Int), (p < q ∨ (p = q ∧ j < k)) → d.next[p]? = some row → row[j]? = some v → 0 ≤ v → L0[v.toNat]? = some true → L[p]? = some true
def goE (d : Df) (p k : Nat) : Nat := if p = d.ends.length ∨ nxt d (p : Int) k < 0 then d.ends.length else (nxt d (p : Int) k).toNat
def endE (d : Df) (p : Nat) : Bool := decide (p < d.ends.length) && d.ends[p]?.getD false
def uG (U : List (List Bool)) (p q : Nat) : Bool := (U[p]?.getD [])[q]?.getD false
def ClU (d : Df) (U : List (List Bool)) : Prop := ∀ p q k, p ≤ d.ends.length → q ≤ d.ends.length → k < d.atoms.length → uG U (goE d p k) (goE d q k) = true → uG U p q = true
def IniU (d : Df) (U : List (List Bool)) : Prop := ∀ p q, p ≤ d.ends.length → q ≤ d.ends.length → endE d p ≠ endE d q → uG U p q = true
def qI (d : Df) (p : Nat) : Int := if p = d.ends.length then -1 else (p : Int)
structure Hd where
  a : Option Addr
  n : Nat
  c : Nat
def Hd.v (h : Hd) : Value := .slice h.a h.n h.c
def Ehd (h : Hd) : List Value := [h.v]
instance : Enc Ehd 1 := ⟨fun _ => rfl, fun h v hv => by simp [Ehd, Hd.v] at hv; subst hv; rfl⟩
inductive OwnH : List Hd → List (List Bool) → Hp → Prop
  | nil : OwnH [] [] []
  | cons {h : Hd} {xs : List Bool} {hs : List Hd} {U : List (List Bool)} {S R : Hp} (ho : OwnS Ebo 1 4 h.v xs S) (hr : OwnH hs U R) : OwnH (h :: hs) (xs :: U) (S ++ R)
def iniRow (d : Df) (p : Nat) : List Bool := (List.range (d.ends.length + 1)).map fun q => decide (endE d p ≠ endE d q)
def iniT (d : Df) (p : Nat) : List (List Bool) := (List.range p).map (iniRow d)
structure MatI (d : Df) (U : List (List Bool)) : Prop where
  len : U.length = d.ends.length + 1
  rows : ∀ r ∈ U, r.length = d.ends.length + 1
def deadU : List (List Bool) → Nat
  | [] => 0
  | r :: U => dead r + deadU U
structure SwI (d : Df) (U0 U : List (List Bool)) (more : Bool) (p q k : Nat) : Prop where
  mat : MatI d U
  mono : ∀ p q, uG U0 p q = true → uG U p q = true
  none : more = false → U = U0 ∧ ∀ p' q' k', p' ≤ d.ends.length → q' ≤ d.ends.length → k' < d.atoms.length → (p' < p ∨ (p' = p ∧ (q' < q ∨ (q' = q ∧ k' < k)))) → uG U0 (goE d p' k') (goE d q' k') = true → uG U0 p' q' = true
  some : more = true → deadU U < deadU U0
end Go.HL.Sts
namespace Go.Proofs.YtmompllplidphaaDoor
open Go Go.HL Go.Proofs Go.HL.Kl Go.HL.Kl.Mc
set_option maxHeartbeats 1000000 in
theorem beyond_fn (ra : Option Addr) (rc : Nat) (re : List Nd) (hre : ∀ x ∈ re, -128 ≤ x.op ∧ x.op < 128) : HL.Fn Tryd.prog 55 [.slice ra re.length rc] (fun w => Rd En w (.slice ra re.length rc) re) [] (fun v _ => ∃ b, v = .bool b) := by
  refine fn_of Tryd.func55 rfl rfl rfl fun w0 hw => ?_
  have hsl := hw.sl
  have hbl := hsl.le
  refine cR fun _ hK1 => ?_; refine oA (oZ hK1 (cR fun _ hK2 => ?_)); refine oA (oZ hK2 (c_seq fun _ hK3 => ?_)); refine cR fun _ hK4 => ?_; refine oA (oZ hK4 (c_block ?_))
  -- not carried: 2
  refine c_loop3 (fun (j : Nat) (q : Sl Int) (S : Hp) => j ≤ re.length ∧ q.xs.length ≤ 65536 ∧ OwnS Ei 1 3 (.slice q.a q.xs.length q.c) q.xs S) (fun (j : Nat) (q : Sl Int) (S : Hp) => [(4, .int .i64 j), (3, .slice q.a q.xs.length q.c)]) [(0, _)] (fun (j : Nat) (q : Sl Int) (S : Hp) => S) (fun (j : Nat) (q : Sl Int) (S : Hp) => re.length - j) 0 ⟨none, 0, []⟩ [] ⟨by omega, by simp, .nil⟩ sbA sbA hzB ?_
  rintro j q0 S0 ⟨hj, hq0, hO0⟩
  refine c_seq fun _ hK5 => ?_; refine cR fun _ hK6 => ?_; refine oM (oM ?_); refine oS sC ?_
  by_cases hjl : j < re.length
  ·obtain ⟨x, hx⟩ : ∃ x, re[j]? = some x := ⟨_, List.getElem?_eq_getElem hjl⟩
   refine oS lsT (oZ hK6 ?_); refine cTZ hK5 (c_seq fun _ hK7 => ?_); refine c_block (c_seq fun _ hK8 => ?_); refine c_block ?_; refine c_loop2 (fun (q : Sl Int) (S : Hp) => q.xs.length ≤ 65536 ∧ OwnS Ei 1 3 (.slice q.a q.xs.length q.c) q.xs S) (fun (q : Sl Int) (S : Hp) => [(3, .slice q.a q.xs.length q.c)]) [(0, _), (4, _), (5, _), (6, _), (7, _), (8, _)] (fun (q : Sl Int) (S : Hp) => S) (fun (q : Sl Int) (S : Hp) => q.xs.length) q0 S0 ⟨hq0, hO0⟩ sbA sbA hzB ?_
   rintro q S ⟨hq, hO⟩
   have hOs := hO.sl
   have hOc := hOs.cap
   refine c_seq fun _ hK9 => ?_; refine cR fun _ hK10 => ?_; refine oM ?_; refine oS sC ?_
   by_cases hp0 : (q.xs.length : Int) > 0
   ·obtain ⟨u, hu⟩ : ∃ u, q.xs[q.xs.length - 1]? = some u := gE
    have hO1 := hO.pre (q.xs.length - 1) (by omega)
    have hql1 : (q.xs.take (q.xs.length - 1)).length = q.xs.length - 1 := by rw [List.length_take]; omega
    refine oS gtT (oM ?_); refine oY (oM ?_); refine oY (oM ?_); refine oY ?_; refine oS sC ?_; refine oY ?_; refine oS sU ?_; refine oY ?_; refine oS (s_idx rfl rfl hOs (by omega)) ?_; refine oY ?_; refine oS (s_ld rfl ((hO.rdk hiA).ld (q.xs.length - 1) 0 hu rfl (by decide) (by omega))) ?_; refine oY ?_
    by_cases hle : u ≤ 0
    ·refine oS leT ?_; refine oS sT (oZ hK10 ?_); refine cTZ hK9 (c_block (c_region (oM (oM ?_)))); refine oS sC ?_; refine oS sU ?_; refine oS (step_cast (v' := .slice q.a (q.xs.take (q.xs.length - 1)).length q.c) (s_slice_hi rfl rfl (by omega)) (by rw [hql1]; congr 1; omega)) ?_; refine oA (o_nil (x_block ?_)); exact x_then (x_inv (⟨q.a, q.c, q.xs.take (q.xs.length - 1)⟩, S) ⟨by rw [hql1]; omega, by dsimp only; rw [hql1]; exact hO1⟩ (by dsimp only; rw [hql1]; omega) sbA hzB)
    ·refine oS leF ?_; refine oS sT (oZ hK10 ?_); refine cF ?_; refine c_exit ?_; refine x_then_exit (x_then_exit (x_block_exit (xZ hK8 (c_seq fun _ hK11 => ?_)))); refine cR fun _ hK12 => ?_; refine oM ?_; refine oS sC ?_
     by_cases hp1 : (q.xs.length : Int) > 0
     ·obtain ⟨u2, hu2⟩ : ∃ u, q.xs[q.xs.length - 1]? = some u := gE
      refine oS gtT (oZ hK12 ?_); refine cT (c_region (oM (oM ?_))); refine oS sC ?_; refine oS sU (oM (oM ?_)); refine oS sC ?_; refine oS sU ?_; refine oS (s_idx rfl rfl hOs (by omega)) ?_; refine oS (s_ld rfl ((hO.rdk hiA).ld (q.xs.length - 1) 0 hu2 rfl (by decide) (by omega))) ?_; refine oS (s_subw rfl rfl) ?_; refine oS (s_idx rfl rfl hOs (by omega)) ?_; refine o_stS1 (q.xs.length - 1) _ hO pkA rfl rfl rfl (by omega) (by omega) fun S' hS' => ?_
      have hO := hS'
      refine oZ hK11 (cR fun _ hK13 => ?_); refine oM (oM (oM ?_)); refine oS (s_idx rfl rfl hsl (by omega)) ?_; refine oS sF ?_; refine oS (s_ld rfl ((RdK.old0 hw).ld j 8 hx rfl (by decide) (by omega))) ?_; refine o_bs (E := Ei) (xs := [x.kids]) (vs := [_]) rfl rfl rfl rfl rfl (by decide) (by decide) fun b49 S49 hS49 => ?_; refine o_app hO (hS49.rdk hiA) rfl rfl rfl rfl (by simp; omega) (by simp; omega) rfl pkA fun a50 c50 S50 hS50 => ?_; refine oA (oZ hK13 (cR fun _ hK14 => ?_)); refine oM ?_; refine oS sC ?_; refine oS (s_gtr rfl rfl) ?_; refine oZ hK14 ?_
      refine c_if rfl (fun hbig => ?_) (fun hbig => ?_)
      ·refine cR fun _ hK15 => ?_; refine oA (oZ hK15 (c_ret ?_)); refine x_block_ret (x_then_ret (x_then_ret (x_block_ret (x_then_ret (?_)))))
       exact xR rfl rfl (⟨_, rfl⟩)
      ·refine c_skip (x_block (xZ hK7 (c_region (oM ?_)))); refine oS sD (oA (o_nil ?_)); exact xI (j + 1, ⟨a50, c50, _⟩, S50) ⟨by omega, by dsimp only; omega, hS50⟩
     ·refine oS gtF (oZ hK12 ?_); refine cFZ hK11 (cR fun _ hK16 => ?_); refine oM (oM (oM ?_)); refine oS (s_idx rfl rfl hsl (by omega)) ?_; refine oS sF ?_; refine oS (s_ld rfl ((RdK.old0 hw).ld j 8 hx rfl (by decide) (by omega))) ?_; refine o_bs (E := Ei) (xs := [x.kids]) (vs := [_]) rfl rfl rfl rfl rfl (by decide) (by decide) fun b49 S49 hS49 => ?_; refine o_app hO (hS49.rdk hiA) rfl rfl rfl rfl (by simp; omega) (by simp; omega) rfl pkA fun a50 c50 S50 hS50 => ?_; refine oA (oZ hK16 (cR fun _ hK17 => ?_)); refine oM ?_; refine oS sC ?_; refine oS (s_gtr rfl rfl) ?_; refine oZ hK17 ?_; refine c_if rfl (fun hbig => ?_) (fun hbig => ?_)
      ·refine cR fun _ hK18 => ?_; refine oA (oZ hK18 (c_ret ?_)); refine x_block_ret (x_then_ret (x_then_ret (x_block_ret (x_then_ret (?_)))))
       exact xR rfl rfl (⟨_, rfl⟩)
      ·refine c_skip (x_block (xZ hK7 (c_region (oM ?_)))); refine oS sD (oA (o_nil ?_)); exact xI (j + 1, ⟨a50, c50, _⟩, S50) ⟨by omega, by dsimp only; omega, hS50⟩
   ·refine oS gtF (oM ?_); refine oN ?_; refine oN ?_; refine oN ?_; refine oN ?_; refine oN ?_; refine oN ?_; refine oN ?_; refine oS sP (oZ hK10 ?_); refine cF ?_; refine c_exit ?_; refine x_then_exit (x_then_exit (x_block_exit (xZ hK8 (c_seq fun _ hK19 => ?_)))); refine cR fun _ hK20 => ?_; refine oM ?_; refine oS sC ?_
    by_cases hp1 : (q.xs.length : Int) > 0
    ·obtain ⟨u2, hu2⟩ : ∃ u, q.xs[q.xs.length - 1]? = some u := gE
     refine oS gtT (oZ hK20 ?_); refine cT (c_region (oM (oM ?_))); refine oS sC ?_; refine oS sU (oM (oM ?_)); refine oS sC ?_; refine oS sU ?_; refine oS (s_idx rfl rfl hOs (by omega)) ?_; refine oS (s_ld rfl ((hO.rdk hiA).ld (q.xs.length - 1) 0 hu2 rfl (by decide) (by omega))) ?_; refine oS (s_subw rfl rfl) ?_; refine oS (s_idx rfl rfl hOs (by omega)) ?_; refine o_stS1 (q.xs.length - 1) _ hO pkA rfl rfl rfl (by omega) (by omega) fun S' hS' => ?_
     have hO := hS'
     refine oZ hK19 (cR fun _ hK21 => ?_); refine oM (oM (oM ?_)); refine oS (s_idx rfl rfl hsl (by omega)) ?_; refine oS sF ?_; refine oS (s_ld rfl ((RdK.old0 hw).ld j 8 hx rfl (by decide) (by omega))) ?_; refine o_bs (E := Ei) (xs := [x.kids]) (vs := [_]) rfl rfl rfl rfl rfl (by decide) (by decide) fun b49 S49 hS49 => ?_; refine o_app hO (hS49.rdk hiA) rfl rfl rfl rfl (by simp; omega) (by simp; omega) rfl pkA fun a50 c50 S50 hS50 => ?_; refine oA (oZ hK21 (cR fun _ hK22 => ?_)); refine oM ?_; refine oS sC ?_; refine oS (s_gtr rfl rfl) ?_; refine oZ hK22 ?_
     refine c_if rfl (fun hbig => ?_) (fun hbig => ?_)
     ·refine cR fun _ hK23 => ?_; refine oA (oZ hK23 (c_ret ?_)); refine x_block_ret (x_then_ret (x_then_ret (x_block_ret (x_then_ret (?_)))))
      exact xR rfl rfl (⟨_, rfl⟩)
     ·refine c_skip (x_block (xZ hK7 (c_region (oM ?_)))); refine oS sD (oA (o_nil ?_)); exact xI (j + 1, ⟨a50, c50, _⟩, S50) ⟨by omega, by dsimp only; omega, hS50⟩
    ·refine oS gtF (oZ hK20 ?_); refine cFZ hK19 (cR fun _ hK24 => ?_); refine oM (oM (oM ?_)); refine oS (s_idx rfl rfl hsl (by omega)) ?_; refine oS sF ?_; refine oS (s_ld rfl ((RdK.old0 hw).ld j 8 hx rfl (by decide) (by omega))) ?_; refine o_bs (E := Ei) (xs := [x.kids]) (vs := [_]) rfl rfl rfl rfl rfl (by decide) (by decide) fun b49 S49 hS49 => ?_; refine o_app hO (hS49.rdk hiA) rfl rfl rfl rfl (by simp; omega) (by simp; omega) rfl pkA fun a50 c50 S50 hS50 => ?_; refine oA (oZ hK24 (cR fun _ hK25 => ?_)); refine oM ?_; refine oS sC ?_; refine oS (s_gtr rfl rfl) ?_; refine oZ hK25 ?_; refine c_if rfl (fun hbig => ?_) (fun hbig => ?_)
     ·refine cR fun _ hK26 => ?_; refine oA (oZ hK26 (c_ret ?_)); refine x_block_ret (x_then_ret (x_then_ret (x_block_ret (x_then_ret (?_)))))
      exact xR rfl rfl (⟨_, rfl⟩)
     ·refine c_skip (x_block (xZ hK7 (c_region (oM ?_)))); refine oS sD (oA (o_nil ?_)); exact xI (j + 1, ⟨a50, c50, _⟩, S50) ⟨by omega, by dsimp only; omega, hS50⟩
  ·refine oS lsF (oZ hK6 ?_); refine cF ?_; refine c_exit ?_; refine x_then_exit (x_then_exit (x_block_exit (xZ hK3 (cR fun _ hK27 => ?_)))); refine oA (oZ hK27 (c_ret ?_)); refine ?_; exact xR rfl rfl (⟨_, rfl⟩)
end Go.Proofs.YtmompllplidphaaDoor
namespace Go.Proofs.YtmompllplidphaaDoor
open Go Go.HL Go.Proofs Go.HL.Kl Go.HL.Kl.Mc Go.HL.Sts
theorem longRe_fn (ra : Option Addr) (rc : Nat) (re : List Nd) (hre : ∀ x ∈ re, -128 ≤ x.op ∧ x.op < 128) : HL.Fn Tryd.prog 22 [.slice ra re.length rc] (fun W => Rd En W (.slice ra re.length rc) re) [] (fun v _ => ∃ b, v = .bool b) := by
  refine fn_of Tryd.func22 rfl rfl rfl fun w0 hw => ?_; refine cR fun _ hK1 => ?_; refine oA (oZ hK1 (cR fun _ hK2 => ?_)); refine oM ?_; refine oS sC ?_; refine o_callP (longN_fn re.length) rfl rfl rfl (fun _ _ => trivial) (fun v5 hv5 => ?_); subst hv5
  cases hlg : decide ((re.length : Int) > 2147483647)
  ·refine oM ?_; refine oY (oM ?_); refine oY ?_; refine o_callP (beyond_fn ra rc re hre) rfl rfl rfl (fun w st => (RdK.old0 hw).out w st) (fun v8 ⟨b8, hv8⟩ => ?_); subst hv8
   refine oS sP (oA (oZ hK2 (c_ret ?_))); refine ?_; exact xR rfl rfl (⟨_, rfl⟩)
  ·refine oM ?_; refine oN ?_; refine oN ?_; refine oS sT (oA (oZ hK2 (c_ret ?_))); refine ?_; exact xR rfl rfl (⟨_, rfl⟩)
end Go.Proofs.YtmompllplidphaaDoor
namespace Go.HL.Sts
open Go Go.HL Go.HL.Kl Go.HL.Kl.Mc
theorem wdRun_len {fol rds : List Sp} {l1 : Sp} : ∀ (f q : Nat) (w : Wd), q + f = full → w.met.Nodup → w.next.length = q + 1 → w.ends.length = q + 1 → q ≤ w.met.length →
    (wdRun fol rds l1 f q w).next.length = (wdRun fol rds l1 f q w).met.length + 1 ∧ (wdRun fol rds l1 f q w).ends.length = (wdRun fol rds l1 f q w).met.length + 1 ∧ (wdRun fol rds l1 f q w).met.Nodup
  | 0, q, w, hf, hn, h1, h2, h3 => by
    have := sets_len hn
    unfold full at hf
    omega
  | f + 1, q, w, hf, hn, h1, h2, h3 => by
    unfold wdRun
    by_cases hq : q < w.met.length
    · rw [if_pos hq]
      have hm := rowT_mono (folTo fol (w.met[q]?.getD 0) fol.length) rds w.met
      exact wdRun_len f (q + 1) _ (by omega) (rowT_nodup _ _ _ hn) (by simp [wdStep, Wd.row, h1]) (by simp [wdStep, Wd.row, h2]) (by show q + 1 ≤ (rowT rds _ w.met).2.length; omega)
    · rw [if_neg hq]
      exact ⟨by omega, by omega, hn⟩
theorem wideM_len (x : Plc) (root : Pt) (atoms : List Kl.Cl) : (wideM x root atoms).next.length = (wideM x root atoms).met.length + 1 ∧ (wideM x root atoms).ends.length = (wideM x root atoms).met.length + 1 ∧ (wideM x root atoms).met.Nodup :=
  wdRun_len _ _ _ (by omega) (rowT_nodup _ _ _ List.nodup_nil) (by simp [wdInit, Wd.row]) (by simp [wdInit, Wd.row]) (Nat.zero_le _)
theorem wdM_ok (re : List Nd) (n : Nd) (ks : F) : WOk (wdM re n ks).next (wdM re n ks).ends (atoms (setsOf re)).length := by
  obtain ⟨h1, h2, _⟩ := wideM_len (partM n ks ⟨[], []⟩).2 (partM n ks ⟨[], []⟩).1 (atoms (setsOf re))
  have hb := wideM_bnd (partM n ks ⟨[], []⟩).2 (partM n ks ⟨[], []⟩).1 (atoms (setsOf re))
  refine ⟨?_, ?_, (atoms_len2 _).1, hb.len, fun r hr v hv => ?_⟩
  · exact h2.trans h1.symm
  · show 0 < (wideM _ _ _).next.length; omega
  · have := hb.bnd r hr v hv
    show v < (wideM _ _ _).next.length; omega
theorem mk_ok {re : List Nd} {d : Df} (h : mkOk re d) : ∃ (n : Nd) (ks : F) (lv : List Bool) (m : Lm), Mc.Shp re n ks ∧ refsB re = false ∧ (F.nd n ks .nil).weight ≤ 20 ∧ d.atoms = atoms (setsOf re) ∧ MkOk (wdM re n ks) lv d.atoms.length m d ∧ lmM (wdM re n ks) (partsM (wdM re n ks).next (wdM re n ks).ends d.atoms.length) lv = some m ∧ Sts.Shp d := by
  obtain ⟨_, n, ks, lv, m, hS, hr, hw, hl, hm, h1, h2, h3⟩ := h
  have hW := wdM_ok re n ks
  rw [← h3] at hW
  have hm' : lmM (wdM re n ks) (partsM (wdM re n ks).next (wdM re n ks).ends d.atoms.length) lv = some m := by rw [h3]; exact hm
  have hk : MkOk (wdM re n ks) lv d.atoms.length m d := ⟨hW, hl, lm_spec hW hl.1 hm', h1, h2⟩
  refine ⟨n, ks, lv, m, hS, hr, hw, h3, hk, hm', hk.shp (by rw [h3]; exact atoms_atm _) rfl (by rw [h3]; exact (atoms_len2 _).2)⟩
theorem mkErr_ne {re : List Nd} {e : Int} (h : mkErr re e) : e ≠ 0 := by
  rcases h with ⟨_, rfl⟩ | ⟨_, _, rfl⟩ | ⟨_, _, _, _, _, rfl⟩ | ⟨_, _, _, _, _, _, _, _, rfl⟩ <;> decide
theorem MkOk.trace {w : Wd} {lv : List Bool} {K : Nat} {m : Lm} {d : Df} (h : MkOk w lv K m d) (hm : lmM w (partsM w.next w.ends K) lv = some m) : LmT w (partsM w.next w.ends K) lv K 0 ⟨[0], [], []⟩ m := ⟨LmI.zero h.hw.pos, _, hm⟩
end Go.HL.Sts
namespace Go.Proofs.YtmompllplidphaaDoor
open Go Go.HL Go.Proofs Go.HL.Kl Go.HL.Kl.Mc Go.HL.Sts
end Go.Proofs.YtmompllplidphaaDoor
namespace Go.Proofs.YtmompllplidphaaDoor
open Go Go.HL Go.Proofs Go.HL.Kl Go.HL.Kl.Mc
end Go.Proofs.YtmompllplidphaaDoor
