/- The least machine: its states stand for parts, in the order in which they are met. Conditions: none. -/
import Derived.Test.YtmompllplidphaaDoorHDZ
import Derived.Test.YtmompllplidphaaDoorKQ8Z
import Derived.Test.YtmompllplidphaaDoorSW2Z
import Derived.Test.YtmompllplidphaaDoorSN5Z
namespace Go.HL.Sts
open Go Go.HL Go.HL.Kl Go.HL.Kl.Mc
/-- the number in a row: for a state of the wide machine -/
def NumOk (P : List Nat) (lv : List Bool) (met : List Nat) (to : Nat) (v : Int) : Prop := (lv[to]? = some false → v = -1) ∧ (lv[to]? = some true → ∃ j : Nat, v = j ∧ (met.map (pt P))[j]? = some (pt P to))
theorem NumOk.mono {P : List Nat} {lv : List Bool} {met : List Nat} {to : Nat} {v : Int} (h : NumOk P lv met to v) (t : List Nat) : NumOk P lv (met ++ t) to v := by
  refine ⟨h.1, fun hl => ?_⟩
  obtain ⟨j, e, hj⟩ := h.2 hl
  refine ⟨j, e, ?_⟩
  rw [List.map_append, List.getElem?_append_left (List.getElem?_eq_some_iff.1 hj).1]
  exact hj
theorem toT_spec {P : List Nat} {lv : List Bool} {met : List Nat} {to : Nat} (hl : to < lv.length) (hn : (met.map (pt P)).Nodup) :
    NumOk P lv (toT P lv met to).2 to (toT P lv met to).1 ∧ ((toT P lv met to).2.map (pt P)).Nodup ∧ ((toT P lv met to).2 = met ∨ ((toT P lv met to).2 = met ++ [to] ∧ lv[to]? = some true ∧ (toT P lv met to).1 = (met.length : Int))) ∧ (toT P lv met to).1 ≤ (met.length : Int) ∧ ((toT P lv met to).1 = (met.length : Int) → (toT P lv met to).2 = met ++ [to]) := by
  by_cases hb : lv[to]? = some true
  · rw [toT_live hb]
    dsimp only
    by_cases hm : pt P to ∈ met.map (pt P)
    · rw [if_pos hm]
      have hlt := idx_lt hm
      rw [List.length_map] at hlt
      refine ⟨⟨fun h => (by rw [hb] at h; cases h), fun _ => ⟨_, rfl, idx_get hm⟩⟩, hn, .inl rfl, by omega, fun h => ?_⟩
      omega
    · rw [if_neg hm]
      have hout := idx_out hm
      rw [List.length_map] at hout
      have g1 : ((met ++ [to]).map (pt P))[idx (met.map (pt P)) (pt P to)]? = some (pt P to) := by
        rw [hout, List.map_append, List.getElem?_append_right (by simp)]
        simp
      have g2 : ((met ++ [to]).map (pt P)).Nodup := by
        rw [List.map_append, List.nodup_append]
        refine ⟨hn, by simp, fun x hx y hy => ?_⟩
        simp only [List.map_cons, List.map_nil, List.mem_singleton] at hy
        subst hy
        rintro rfl
        exact hm hx
      exact ⟨⟨fun h => (by rw [hb] at h; cases h), fun _ => ⟨_, rfl, g1⟩⟩, g2, .inr ⟨rfl, hb, by rw [hout]⟩, by omega, fun _ => rfl⟩
  · have hf := lv_no hl hb
    rw [toT_dead hf]
    refine ⟨⟨fun _ => rfl, fun h => (by rw [hf] at h; cases h)⟩, hn, .inl rfl, by omega, fun h => ?_⟩
    have : (-1 : Int) = (met.length : Int) := h
    omega
theorem lrowT_spec {P : List Nat} {lv : List Bool} : ∀ (r met : List Nat), (∀ v ∈ r, v < lv.length) → (met.map (pt P)).Nodup →
    ((lrowT P lv r met).2.map (pt P)).Nodup ∧ (∃ t, (lrowT P lv r met).2 = met ++ t ∧ ∀ x ∈ t, lv[x]? = some true ∧ x ∈ r) ∧ ∀ (k to : Nat) (v : Int), r[k]? = some to → (lrowT P lv r met).1[k]? = some v → NumOk P lv (lrowT P lv r met).2 to v
  | [], met, _, hn => ⟨hn, ⟨[], by simp [lrowT], by simp⟩, fun k to v h => by simp at h⟩
  | x :: r, met, hr, hn => by
    obtain ⟨h1, h2, h3, _, _⟩ := toT_spec (hr x (by simp)) hn
    obtain ⟨h4, ⟨t, ht, hlt⟩, h6⟩ := lrowT_spec r (toT P lv met x).2 (fun v hv => hr v (by simp [hv])) h2
    have e : (lrowT P lv (x :: r) met).2 = (lrowT P lv r (toT P lv met x).2).2 := rfl
    have e1 : (lrowT P lv (x :: r) met).1 = (toT P lv met x).1 :: (lrowT P lv r (toT P lv met x).2).1 := rfl
    rw [e, e1]
    refine ⟨h4, ?_, fun k to v hk hv => ?_⟩
    · rcases h3 with h3 | ⟨h3, hx, _⟩
      · rw [h3] at ht
        exact ⟨t, by rw [← ht, h3], fun y hy => ⟨(hlt y hy).1, List.mem_cons_of_mem _ (hlt y hy).2⟩⟩
      · refine ⟨x :: t, by rw [ht, h3]; simp, fun y hy => ?_⟩
        rcases List.mem_cons.1 hy with rfl | hy
        · exact ⟨hx, by simp⟩
        · exact ⟨(hlt y hy).1, List.mem_cons_of_mem _ (hlt y hy).2⟩
    · cases k with
      | zero =>
        obtain rfl := Option.some.inj hk
        obtain rfl := Option.some.inj hv
        rw [ht]
        exact h1.mono t
      | succ k => exact h6 k to v hk hv
/-- the least machine so far -/
structure LmI (w : Wd) (P : List Nat) (lv : List Bool) (K i : Nat) (m : Lm) : Prop where
  ln : m.next.length = i
  le : m.ends.length = i
  im : i ≤ m.met.length
  i6 : i ≤ 256
  z : m.met[0]? = some 0
  bnd : ∀ x ∈ m.met, x < w.next.length
  nd : (m.met.map (pt P)).Nodup
  liv : ∀ x ∈ m.met, x ≠ 0 → lv[x]? = some true
  rows : ∀ q s, q < i → m.met[q]? = some s → m.ends[q]? = w.ends[s]? ∧ ∃ row, m.next[q]? = some row ∧ row.length = K ∧ ∀ k v, k < K → row[k]? = some v → NumOk P lv m.met (nx w.next s k) v
theorem LmI.zero {w : Wd} {P : List Nat} {lv : List Bool} {K : Nat} (h : 0 < w.next.length) : LmI w P lv K 0 ⟨[0], [], []⟩ :=
  ⟨rfl, rfl, Nat.zero_le _, by omega, rfl, fun x hx => by rw [List.mem_singleton.1 hx]; exact h, by simp, fun x hx h0 => absurd (List.mem_singleton.1 hx) h0, fun q s h => by omega⟩
theorem LmI.step {w : Wd} {P : List Nat} {lv : List Bool} {K i : Nat} {m : Lm} (hw : WOk w.next w.ends K) (hlv : lv.length = w.next.length) (h : LmI w P lv K i m) (hi : i < m.met.length) (hm : m.met.length ≤ 256) : LmI w P lv K (i + 1) (lmStep w P lv i m) := by
  obtain ⟨s, hs⟩ : ∃ s, m.met[i]? = some s := ⟨_, List.getElem?_eq_getElem hi⟩
  have hsn := h.bnd s (List.mem_of_getElem? hs)
  have hr : w.next[s]? = some w.next[s] := List.getElem?_eq_getElem hsn
  have he : w.ends[s]? = some (w.ends[s]'(by have := hw.len; omega)) := List.getElem?_eq_getElem _
  rw [lmStep_eq hs hr he]
  have hrK := hw.rows _ (List.getElem_mem hsn)
  have hrb := hw.bnd _ (List.getElem_mem hsn)
  obtain ⟨h4, ⟨t, ht, hlt⟩, h6⟩ := lrowT_spec (P := P) (lv := lv) w.next[s] m.met (fun v hv => by rw [hlv]; exact hrb v hv) h.nd
  have hz0 := (List.getElem?_eq_some_iff.1 h.z).1
  refine ⟨by simp [h.ln], by simp [h.le], by dsimp only; rw [ht]; simp; omega, by omega, ?_, ?_, h4, ?_, ?_⟩
  · dsimp only; rw [ht, List.getElem?_append_left hz0]; exact h.z
  · intro x hx
    dsimp only at hx
    rw [ht] at hx
    rcases List.mem_append.1 hx with hx | hx
    · exact h.bnd x hx
    · exact hrb x (hlt x hx).2
  · intro x hx h0
    dsimp only at hx
    rw [ht] at hx
    rcases List.mem_append.1 hx with hx | hx
    · exact h.liv x hx h0
    · exact (hlt x hx).1
  · intro q s' hq hs'
    dsimp only at hs' ⊢
    rw [ht, List.getElem?_append_left (by omega)] at hs'
    rcases Nat.lt_or_ge q i with hqi | hqi
    · obtain ⟨e1, row, e2, e3, e4⟩ := h.rows q s' hqi hs'
      refine ⟨by rw [List.getElem?_append_left (by rw [h.le]; exact hqi)]; exact e1, row, by rw [List.getElem?_append_left (by rw [h.ln]; exact hqi)]; exact e2, e3, fun k v hk hv => ?_⟩
      rw [ht]
      exact (e4 k v hk hv).mono t
    · obtain rfl : q = i := by omega
      rw [hs] at hs'
      obtain rfl := Option.some.inj hs'
      refine ⟨by rw [List.getElem?_append_right (by rw [h.le]; omega), h.le]; simp [he], (lrowT P lv w.next[s] m.met).1, by rw [List.getElem?_append_right (by rw [h.ln]; omega), h.ln]; simp, by rw [lrowT_len, hrK], fun k v hk hv => ?_⟩
      have hkr : w.next[s][k]? = some (nx w.next s k) := by
        unfold nx
        rw [hr, Option.getD_some, List.getElem?_eq_getElem (by omega)]; rfl
      exact h6 k _ v hkr hv
theorem LmI.run {w : Wd} {P : List Nat} {lv : List Bool} {K : Nat} (hw : WOk w.next w.ends K) (hlv : lv.length = w.next.length) : ∀ (f i : Nat) (m m' : Lm), LmI w P lv K i m → lmRun w P lv f i m = some m' → LmI w P lv K m'.met.length m'
  | 0, _, _, _, _, h => by cases h
  | f + 1, i, m, m', hI, h => by
    unfold lmRun at h
    by_cases hi : i < m.met.length
    · rw [if_pos hi] at h
      by_cases hm : 256 < m.met.length
      · rw [if_pos hm] at h; cases h
      · rw [if_neg hm] at h
        exact LmI.run hw hlv f (i + 1) _ m' (hI.step hw hlv hi (by omega)) h
    · rw [if_neg hi] at h
      obtain rfl := Option.some.inj h
      have := hI.im
      rwa [show m.met.length = i by omega]
theorem lm_spec {w : Wd} {P : List Nat} {lv : List Bool} {K : Nat} (hw : WOk w.next w.ends K) (hlv : lv.length = w.next.length) {m : Lm} (h : lmM w P lv = some m) : LmI w P lv K m.met.length m := LmI.run hw hlv _ _ _ _ (LmI.zero hw.pos) h
/-! runs by letters -/
def gD (d : Df) (q : Int) (k : Nat) : Int := if q < 0 then -1 else nxt d q k
def runD (d : Df) (q : Int) (t : List Nat) : Int := t.foldl (gD d) q
def accD (d : Df) (q : Int) (t : List Nat) : Bool := endsR d (runD d q t)
theorem runD_neg (d : Df) : ∀ (t : List Nat) {q : Int}, q < 0 → runD d q t < 0
  | [], _, h => h
  | k :: t, q, h => by
    show runD d (gD d q k) t < 0
    exact runD_neg d t (by unfold gD; rw [if_pos h]; decide)
theorem accD_neg (d : Df) (t : List Nat) {q : Int} (h : q < 0) : accD d q t = false := by
  unfold accD endsR
  rw [decide_eq_false (by have := runD_neg d t h; omega)]; rfl
/-- the machine that was made of a wide one -/
structure MkOk (w : Wd) (lv : List Bool) (K : Nat) (m : Lm) (d : Df) : Prop where
  hw : WOk w.next w.ends K
  hl : LvOk w.next w.ends lv
  I : LmI w (partsM w.next w.ends K) lv K m.met.length m
  nx : d.next = m.next
  en : d.ends = m.ends
theorem MkOk.acc {w : Wd} {lv : List Bool} {K : Nat} {m : Lm} {d : Df} (h : MkOk w lv K m d) : ∀ (t : List Nat) (i s : Nat), m.met[i]? = some s → (∀ k ∈ t, k < K) → accD d (i : Int) t = accW w.next w.ends s t
  | [], i, s, hs, _ => by
    have hi := (List.getElem?_eq_some_iff.1 hs).1
    obtain ⟨e1, _⟩ := h.I.rows i s hi hs
    simp [accD, accW, endsR, runD, runW, h.en, e1]
  | k :: t, i, s, hs, ht => by
    have hi := (List.getElem?_eq_some_iff.1 hs).1
    have hsn := h.I.bnd s (List.mem_of_getElem? hs)
    have hk := ht k (by simp)
    obtain ⟨_, row, e2, e3, e4⟩ := h.I.rows i s hi hs
    obtain ⟨v, hv⟩ : ∃ v, row[k]? = some v := ⟨_, List.getElem?_eq_getElem (by omega)⟩
    have hN := e4 k v hk hv
    have hg : gD d (i : Int) k = v := by
      unfold gD
      rw [if_neg (by omega), nxt_get (by rw [h.nx]; exact e2) hv]
    have htn := (h.hw.get hsn hk).choose_spec.2.2
    show accD d (gD d (i : Int) k) t = accW w.next w.ends (Sts.nx w.next s k) t
    rw [hg]
    by_cases hb : lv[Sts.nx w.next s k]? = some true
    · obtain ⟨j, rfl, hj⟩ := hN.2 hb
      rw [List.getElem?_map] at hj
      obtain ⟨s', hs', he⟩ := Option.map_eq_some_iff.1 hj
      rw [h.acc t j s' hs' fun x hx => ht x (by simp [hx])]
      exact part_acc h.hw t _ _ (h.I.bnd s' (List.mem_of_getElem? hs')) htn (fun x hx => ht x (by simp [hx])) he
    · rw [hN.1 (lv_no (by rw [h.hl.1]; exact htn) hb), accD_neg d t (by decide)]
      cases ha : accW w.next w.ends (Sts.nx w.next s k) t with
      | false => rfl
      | true => exact absurd ((h.hl.2 _).2 ((live_acc h.hw htn).2 ⟨t, fun x hx => ht x (by simp [hx]), ha⟩)) hb
theorem MkOk.len {w : Wd} {lv : List Bool} {K : Nat} {m : Lm} {d : Df} (h : MkOk w lv K m d) : d.next.length = m.met.length ∧ d.ends.length = m.met.length ∧ 1 ≤ m.met.length ∧ m.met.length ≤ 256 :=
  ⟨by rw [h.nx]; exact h.I.ln, by rw [h.en]; exact h.I.le, (List.getElem?_eq_some_iff.1 h.I.z).1, h.I.i6⟩
theorem MkOk.shp {w : Wd} {lv : List Bool} {K : Nat} {m : Lm} {d : Df} (h : MkOk w lv K m d) (ha : Atm d.atoms) (hK : d.atoms.length = K) (hK6 : K ≤ 256) : Shp d := by
  obtain ⟨h1, h2, h3, h4⟩ := h.len
  have hk0 := h.hw.K0
  refine ⟨⟨by omega, by omega, by omega, by omega, by omega⟩, ha, fun r hr => ?_⟩
  rw [h.nx] at hr
  obtain ⟨q, hq⟩ := List.getElem?_of_mem hr
  have hql := (List.getElem?_eq_some_iff.1 hq).1
  rw [h.I.ln] at hql
  obtain ⟨s, hs⟩ : ∃ s, m.met[q]? = some s := ⟨_, List.getElem?_eq_getElem hql⟩
  obtain ⟨_, row, e2, e3, e4⟩ := h.I.rows q s hql hs
  rw [hq] at e2
  obtain rfl := Option.some.inj e2
  refine ⟨by omega, fun v hv => ?_⟩
  obtain ⟨k, hk⟩ := List.getElem?_of_mem hv
  have hkK : k < K := by rw [← e3]; exact (List.getElem?_eq_some_iff.1 hk).1
  have hN := e4 k v hkK hk
  have hsn := h.I.bnd s (List.mem_of_getElem? hs)
  have htn := (h.hw.get hsn hkK).choose_spec.2.2
  by_cases hb : lv[Sts.nx w.next s k]? = some true
  · obtain ⟨j, rfl, hj⟩ := hN.2 hb
    have := (List.getElem?_eq_some_iff.1 hj).1
    rw [List.length_map] at this
    omega
  · rw [hN.1 (lv_no (by rw [h.hl.1]; exact htn) hb)]
    omega
/-- bytes as letters -/
def ltrs (atoms : List Kl.Cl) (w : List UInt8) : List Nat := w.map fun b => fstK atoms b.toNat
/-- the run that made m, from its state q on -/
def LmT (w : Wd) (P : List Nat) (lv : List Bool) (K q : Nat) (mi m : Lm) : Prop := LmI w P lv K q mi ∧ ∃ f, lmRun w P lv f q mi = some m
theorem lmRun_pre {w : Wd} {P : List Nat} {lv : List Bool} : ∀ (f i : Nat) (mi m : Lm), lmRun w P lv f i mi = some m → ∃ t, m.next = mi.next ++ t
  | 0, _, _, _, h => by cases h
  | f + 1, i, mi, m, h => by
    unfold lmRun at h
    by_cases hi : i < mi.met.length
    · rw [if_pos hi] at h
      by_cases hm : 256 < mi.met.length
      · rw [if_pos hm] at h; cases h
      · rw [if_neg hm] at h
        obtain ⟨t, ht⟩ := lmRun_pre f (i + 1) _ m h
        exact ⟨[(lrowT P lv (w.next[mi.met[i]?.getD 0]?.getD []) mi.met).1] ++ t, by rw [ht]; simp [lmStep]⟩
    · rw [if_neg hi] at h
      obtain rfl := Option.some.inj h
      exact ⟨[], by simp⟩
theorem LmT.step {w : Wd} {P : List Nat} {lv : List Bool} {K q : Nat} {mi m : Lm} (hw : WOk w.next w.ends K) (hlv : lv.length = w.next.length) (h : LmT w P lv K q mi m) (hq : q < m.met.length) :
    ∃ (s : Nat) (row : List Nat), q < mi.met.length ∧ mi.met[q]? = some s ∧ w.next[s]? = some row ∧ row.length = K ∧ (∀ v ∈ row, v < lv.length) ∧ m.next[q]? = some (lrowT P lv row mi.met).1 ∧ LmT w P lv K (q + 1) (lmStep w P lv q mi) m ∧ (lmStep w P lv q mi).met = (lrowT P lv row mi.met).2 := by
  obtain ⟨hI, f, hf⟩ := h
  cases f with
  | zero => cases hf
  | succ f =>
    have hf0 := hf
    unfold lmRun at hf
    by_cases hi : q < mi.met.length
    · rw [if_pos hi] at hf
      by_cases hm : 256 < mi.met.length
      · rw [if_pos hm] at hf; cases hf
      · rw [if_neg hm] at hf
        obtain ⟨s, hs⟩ : ∃ s, mi.met[q]? = some s := ⟨_, List.getElem?_eq_getElem hi⟩
        have hsn := hI.bnd s (List.mem_of_getElem? hs)
        have hr : w.next[s]? = some w.next[s] := List.getElem?_eq_getElem hsn
        have he : w.ends[s]? = some (w.ends[s]'(by have := hw.len; omega)) := List.getElem?_eq_getElem _
        refine ⟨s, w.next[s], hi, hs, hr, hw.rows _ (List.getElem_mem hsn), fun v hv => by rw [hlv]; exact hw.bnd _ (List.getElem_mem hsn) v hv, ?_, ⟨hI.step hw hlv hi (by omega), f, hf⟩, by rw [lmStep_eq hs hr he]⟩
        obtain ⟨t, ht⟩ := lmRun_pre f _ _ m hf
        rw [lmStep_eq hs hr he] at ht
        rw [ht, List.append_assoc, List.getElem?_append_right (by rw [hI.ln]; omega), hI.ln, Nat.sub_self]
        rfl
    · rw [if_neg hi] at hf
      obtain rfl := Option.some.inj hf
      omega
theorem LmT.fin {w : Wd} {P : List Nat} {lv : List Bool} {K q : Nat} {mi m : Lm} (h : LmT w P lv K q mi m) (hq : m.met.length ≤ q) : mi = m := by
  obtain ⟨hI, f, hf⟩ := h
  cases f with
  | zero => cases hf
  | succ f =>
    unfold lmRun at hf
    by_cases hi : q < mi.met.length
    · rw [if_pos hi] at hf
      by_cases hm : 256 < mi.met.length
      · rw [if_pos hm] at hf; cases hf
      · rw [if_neg hm] at hf
        exfalso
        have key : ∀ (f i : Nat) (a b : Lm), lmRun w P lv f i a = some b → a.met.length ≤ b.met.length := by
          intro f
          induction f with
          | zero => intro i a b h; cases h
          | succ f ih =>
            intro i a b h
            unfold lmRun at h
            by_cases hi : i < a.met.length
            · rw [if_pos hi] at h
              by_cases hm : 256 < a.met.length
              · rw [if_pos hm] at h; cases h
              · rw [if_neg hm] at h
                have h1 := ih _ _ _ h
                have h2 := (lrowT_mono P lv (w.next[a.met[i]?.getD 0]?.getD []) a.met).2
                have h3 : (lmStep w P lv i a).met = (lrowT P lv (w.next[a.met[i]?.getD 0]?.getD []) a.met).2 := rfl
                rw [h3] at h1
                omega
            · rw [if_neg hi] at h
              obtain rfl := Option.some.inj h
              exact Nat.le_refl _
        have h1 := key _ _ _ _ hf
        have h2 := (lrowT_mono P lv (w.next[mi.met[q]?.getD 0]?.getD []) mi.met).2
        have h3 : (lmStep w P lv q mi).met = (lrowT P lv (w.next[mi.met[q]?.getD 0]?.getD []) mi.met).2 := rfl
        rw [h3] at h1
        omega
    · rw [if_neg hi] at hf
      exact Option.some.inj hf
/-- one number of a row, and how many states were met behind it -/
theorem num_step {P : List Nat} {lv : List Bool} {r met : List Nat} {k to : Nat} {v : Int} (hr : ∀ v ∈ r, v < lv.length) (hn : (met.map (pt P)).Nodup) (hk : r[k]? = some to) (hv : (lrowT P lv r met).1[k]? = some v) :
    v ≤ ((lrowT P lv (r.take k) met).2.length : Int) ∧ ((lrowT P lv (r.take (k + 1)) met).2.length = if v = ((lrowT P lv (r.take k) met).2.length : Int) then (lrowT P lv (r.take k) met).2.length + 1 else (lrowT P lv (r.take k) met).2.length) := by
  have hkl := (List.getElem?_eq_some_iff.1 hk).1
  have hs := lrowK_succ (part := P) (lv := lv) (met := met) hk
  have hnk := (lrowT_spec (P := P) (lv := lv) (r.take k) met (fun v hv => hr v (List.mem_of_mem_take hv)) hn).1
  obtain ⟨_, _, h3, h4, h5⟩ := toT_spec (P := P) (lv := lv) (met := (lrowT P lv (r.take k) met).2) (hr to (List.mem_of_getElem? hk)) hnk
  have hv' : v = (toT P lv (lrowT P lv (r.take k) met).2 to).1 := by
    have key : ∀ (r met : List Nat) (k : Nat), (lrowT P lv (r.take k) met).1 = (lrowT P lv r met).1.take k := by
      intro r
      induction r with
      | nil => intro met k; simp [lrowT]
      | cons x r ih =>
        intro met k
        cases k with
        | zero => simp [lrowT]
        | succ k =>
          show (toT P lv met x).1 :: (lrowT P lv (r.take k) (toT P lv met x).2).1 = ((toT P lv met x).1 :: (lrowT P lv r (toT P lv met x).2).1).take (k + 1)
          rw [List.take_succ_cons, ih]
    have h6 := congrArg Prod.fst hs
    dsimp only at h6
    rw [key r met (k + 1), key r met k] at h6
    have h7 := congrArg (fun l => l[k]?) h6
    rw [List.getElem?_take_of_lt (by omega), hv, List.getElem?_append_right (by simp; omega)] at h7
    have hl1 : (lrowT P lv r met).1.length = r.length := lrowT_len P lv r met
    rw [show k - ((lrowT P lv r met).1.take k).length = 0 by rw [List.length_take]; omega] at h7
    exact Option.some.inj h7
  rw [hs, hv']
  refine ⟨h4, ?_⟩
  by_cases e : (toT P lv (lrowT P lv (r.take k) met).2 to).1 = ((lrowT P lv (r.take k) met).2.length : Int)
  · rw [if_pos e, h5 e]; simp
  · rw [if_neg e]
    rcases h3 with h3 | ⟨_, _, h3⟩
    · rw [h3]
    · exact absurd h3 e
/-! each state takes some text -/
theorem live_zero {w : Wd} {lv : List Bool} {K : Nat} (hw : WOk w.next w.ends K) (hl : LvOk w.next w.ends lv) : ∀ (f i : Nat) (mi m : Lm), LmI w (partsM w.next w.ends K) lv K i mi → (i = 0 → mi.met.length = 1) → (0 < i → 1 < mi.met.length → lv[0]? = some true) → lmRun w (partsM w.next w.ends K) lv f i mi = some m → 1 < m.met.length → lv[0]? = some true
  | 0, _, _, _, _, _, _, h, _ => by cases h
  | f + 1, i, mi, m, hI, h0, h1, h, hm1 => by
    unfold lmRun at h
    by_cases hi : i < mi.met.length
    · rw [if_pos hi] at h
      by_cases hm : 256 < mi.met.length
      · rw [if_pos hm] at h; cases h
      · rw [if_neg hm] at h
        refine live_zero hw hl f (i + 1) _ m (hI.step hw hl.1 hi (by omega)) (fun h => by omega) (fun _ h2 => ?_) h hm1
        rcases Nat.eq_zero_or_pos i with hi0 | hi0
        · subst hi0
          have hl1 := h0 rfl
          have hs := hI.z
          have hsn := hI.bnd 0 (List.mem_of_getElem? hs)
          have hr : w.next[0]? = some w.next[0] := List.getElem?_eq_getElem hsn
          have he : w.ends[0]? = some (w.ends[0]'(by have := hw.len; omega)) := List.getElem?_eq_getElem _
          rw [lmStep_eq hs hr he] at h2
          obtain ⟨_, ⟨t, ht, hlt⟩, _⟩ := lrowT_spec (P := partsM w.next w.ends K) (lv := lv) w.next[0] mi.met (fun v hv => by rw [hl.1]; exact hw.bnd _ (List.getElem_mem hsn) v hv) hI.nd
          dsimp only at h2
          rw [ht, List.length_append, hl1] at h2
          obtain ⟨x, hx⟩ : ∃ x, x ∈ t := by
            cases t with
            | nil => simp at h2
            | cons x t => exact ⟨x, by simp⟩
          obtain ⟨hx1, hx2⟩ := hlt x hx
          exact (hl.2 0).2 (.step hr hx2 ((hl.2 x).1 hx1))
        · exact h1 hi0 (by omega)
    · rw [if_neg hi] at h
      obtain rfl := Option.some.inj h
      rcases Nat.eq_zero_or_pos i with hi0 | hi0
      · have := h0 hi0; omega
      · exact h1 hi0 hm1
theorem MkOk.alive {w : Wd} {lv : List Bool} {K : Nat} {m : Lm} {d : Df} (h : MkOk w lv K m d) (hm : lmM w (partsM w.next w.ends K) lv = some m) (h1 : 1 < m.met.length) {i : Nat} (hi : i < m.met.length) : ∃ t, (∀ k ∈ t, k < K) ∧ accD d (i : Int) t = true := by
  obtain ⟨s, hs⟩ : ∃ s, m.met[i]? = some s := ⟨_, List.getElem?_eq_getElem hi⟩
  have hsm := List.mem_of_getElem? hs
  have hlv : lv[s]? = some true := by
    by_cases h0 : s = 0
    · rw [h0]
      exact live_zero h.hw h.hl _ _ _ _ (LmI.zero h.hw.pos) (fun _ => rfl) (fun h => by omega) hm h1
    · exact h.I.liv s hsm h0
  obtain ⟨t, ht, ha⟩ := (live_acc h.hw (h.I.bnd s hsm)).1 ((h.hl.2 s).1 hlv)
  exact ⟨t, ht, by rw [h.acc t i s hs ht]; exact ha⟩
theorem MkOk.apart {w : Wd} {lv : List Bool} {K : Nat} {m : Lm} {d : Df} (h : MkOk w lv K m d) {i j : Nat} (hi : i < m.met.length) (hj : j < m.met.length) (hij : i ≠ j) : ∃ t, (∀ k ∈ t, k < K) ∧ accD d (i : Int) t ≠ accD d (j : Int) t := by
  obtain ⟨s, hs⟩ : ∃ s, m.met[i]? = some s := ⟨_, List.getElem?_eq_getElem hi⟩
  obtain ⟨s', hs'⟩ : ∃ s, m.met[j]? = some s := ⟨_, List.getElem?_eq_getElem hj⟩
  have hne : pt (partsM w.next w.ends K) s ≠ pt (partsM w.next w.ends K) s' := by
    intro e
    have hn := h.I.nd
    have g1 : (m.met.map (pt (partsM w.next w.ends K)))[i]? = some (pt (partsM w.next w.ends K) s) := by rw [List.getElem?_map, hs]; rfl
    have g2 : (m.met.map (pt (partsM w.next w.ends K)))[j]? = some (pt (partsM w.next w.ends K) s) := by rw [List.getElem?_map, hs', e]; rfl
    have := idx_at hn g1
    rw [idx_at hn g2] at this
    exact hij this.symm
  obtain ⟨t, ht, ha⟩ := (parts_spec h.hw).1.sep s s' (h.I.bnd s (List.mem_of_getElem? hs)) (h.I.bnd s' (List.mem_of_getElem? hs')) hne
  exact ⟨t, ht, by rw [h.acc t i s hs ht, h.acc t j s' hs' ht]; exact ha⟩
/-! the rounds that look for what is alive -/
def ClD (d : Df) (L : List Bool) : Prop := ∀ (p j : Nat) (row : List Int) (v : Int), d.next[p]? = some row → row[j]? = some v → 0 ≤ v → L[v.toNat]? = some true → L[p]? = some true
structure RdI (d : Df) (L0 L : List Bool) (q k : Nat) : Prop where
  fix : ClD d L0 → L = L0
  len : L.length = d.ends.length
  len0 : L0.length = d.ends.length
  mono : ∀ x : Nat, L0[x]? = some true → L[x]? = some true
  done : ∀ (p j : Nat) (row : List Int) (v : Int), (p < q ∨ (p = q ∧ j < k)) → d.next[p]? = some row → row[j]? = some v → 0 ≤ v → L0[v.toNat]? = some true → L[p]? = some true
theorem RdI.zero {d : Df} {L : List Bool} (h : L.length = d.ends.length) : RdI d L L 0 0 := ⟨fun _ => rfl, h, h, fun _ h => h, fun p j row v h => by omega⟩
theorem RdI.step {d : Df} {L0 L : List Bool} {q k : Nat} {row : List Int} {v : Int} {b : Bool} (h : RdI d L0 L q k) (hr : d.next[q]? = some row) (hv : row[k]? = some v) (hb : L[q]? = some b) {b' : Bool} (h1 : b = true → b' = true) (h2 : 0 ≤ v → L[v.toNat]? = some true → b' = true) (h3 : b' = true → b = true ∨ (0 ≤ v ∧ L[v.toNat]? = some true)) : RdI d L0 (L.set q b') q (k + 1) := by
  have hq := (List.getElem?_eq_some_iff.1 hb).1
  have hm : ∀ x : Nat, L[x]? = some true → (L.set q b')[x]? = some true := by
    intro x hx
    by_cases e : q = x
    · subst e
      rw [List.getElem?_set_self hq]
      rw [hb] at hx
      rw [h1 (Option.some.inj hx)]
    · rw [List.getElem?_set_ne e]; exact hx
  refine ⟨fun hc => ?_, by simp [h.len], h.len0, fun x hx => hm x (h.mono x hx), fun p j row' v' hp hr' hv' h0 hL => ?_⟩
  · have hf := h.fix hc
    subst hf
    have hbb : b' = b := by
      cases b' with
      | true =>
        rcases h3 rfl with h4 | ⟨h4, h5⟩
        · exact h4.symm
        · have := hc q k row v hr hv h4 h5
          rw [hb] at this
          exact (Option.some.inj this).symm
      | false =>
        cases b with
        | true => exact absurd (h1 rfl) (by simp)
        | false => rfl
    rw [hbb]
    apply List.ext_getElem?
    intro x
    by_cases e : q = x
    · subst e; rw [List.getElem?_set_self hq, hb]
    · rw [List.getElem?_set_ne e]
  rcases hp with hp | ⟨rfl, hj⟩
  · exact hm p (h.done p j row' v' (.inl hp) hr' hv' h0 hL)
  · rcases Nat.lt_or_ge j k with hjk | hjk
    · exact hm _ (h.done _ j row' v' (.inr ⟨rfl, hjk⟩) hr' hv' h0 hL)
    · obtain rfl : j = k := by omega
      rw [hr] at hr'
      obtain rfl := Option.some.inj hr'
      rw [hv] at hv'
      obtain rfl := Option.some.inj hv'
      rw [List.getElem?_set_self hq, h2 h0 (h.mono _ hL)]
theorem RdI.row {d : Df} {L0 L : List Bool} {q k : Nat} {row : List Int} (h : RdI d L0 L q k) (hr : d.next[q]? = some row) (hk : row.length ≤ k) : RdI d L0 L (q + 1) 0 := by
  refine ⟨h.fix, h.len, h.len0, h.mono, fun p j row' v' hp hr' hv' h0 hL => ?_⟩
  rcases hp with hp | ⟨_, hj⟩
  · rcases Nat.lt_or_ge p q with hpq | hpq
    · exact h.done p j row' v' (.inl hpq) hr' hv' h0 hL
    · obtain rfl : p = q := by omega
      rw [hr] at hr'
      obtain rfl := Option.some.inj hr'
      exact h.done p j row v' (.inr ⟨rfl, by have := (List.getElem?_eq_some_iff.1 hv').1; omega⟩) hr hv' h0 hL
  · omega
theorem dead_mono : ∀ (L0 L : List Bool), L0.length = L.length → (∀ x : Nat, L0[x]? = some true → L[x]? = some true) → dead L ≤ dead L0 ∧ (dead L = dead L0 → L = L0)
  | [], [], _, _ => ⟨Nat.le_refl _, fun _ => rfl⟩
  | a :: L0, b :: L, hl, h => by
    have ih := dead_mono L0 L (by simpa using hl) fun x hx => by simpa using h (x + 1) (by simpa using hx)
    have h0 : a = true → b = true := fun e => by simpa using h 0 (by simp [e])
    unfold dead at ih ⊢
    simp only [List.countP_cons]
    cases a <;> cases b <;> simp_all <;> omega
theorem RdI.end_ {d : Df} {L0 L : List Bool} {i : Nat} (h : RdI d L0 L d.next.length 0) (hi : ClD d L0 ∨ dead L0 + i ≤ d.ends.length) : ClD d L ∨ dead L + (i + 1) ≤ d.ends.length := by
  have hd : ∀ (p j : Nat) (row : List Int) (v : Int), d.next[p]? = some row → row[j]? = some v → 0 ≤ v → L0[v.toNat]? = some true → L[p]? = some true := fun p j row v hr hv h0 hL => h.done p j row v (.inl (List.getElem?_eq_some_iff.1 hr).1) hr hv h0 hL
  obtain ⟨h1, h2⟩ := dead_mono L0 L (by rw [h.len, h.len0]) h.mono
  by_cases e : dead L = dead L0
  · left
    have := h2 e
    subst this
    exact hd
  · rcases hi with hi | hi
    · left; rw [h.fix hi]; exact hi
    · right; omega
theorem closed_acc {d : Df} (hS : Shp d) {L : List Bool} (hL : ClD d L) (he : ∀ q : Nat, d.ends[q]? = some true → L[q]? = some true) : ∀ (t : List Nat) (q : Nat), q < d.ends.length → (∀ k ∈ t, k < d.atoms.length) → accD d (q : Int) t = true → L[q]? = some true
  | [], q, _, _, h => by
    unfold accD endsR runD at h
    simp only [List.foldl_nil, Int.toNat_natCast, Bool.and_eq_true] at h
    apply he
    cases e : d.ends[q]? with
    | none => rw [e] at h; cases h.2
    | some b => rw [e] at h; rw [show b = true from h.2]
  | k :: t, q, hq, ht, h => by
    have hg : accD d (gD d (q : Int) k) t = true := h
    have hnl := hS.sz.2.2.1
    have hk := ht k (by simp)
    have hr : d.next[q]? = some (d.next[q]'(by omega)) := List.getElem?_eq_getElem _
    have hrk := hS.rows _ (List.getElem_mem (show q < d.next.length by omega))
    obtain ⟨v, hv⟩ : ∃ v, (d.next[q]'(by omega))[k]? = some v := ⟨_, List.getElem?_eq_getElem (by rw [hrk.1]; exact hk)⟩
    have hvb := hrk.2 v (List.mem_of_getElem? hv)
    have hgv : gD d (q : Int) k = v := by
      unfold gD
      rw [if_neg (by omega), nxt_get hr hv]
    rw [hgv] at hg
    by_cases hn : v < 0
    · rw [accD_neg d t hn] at hg; cases hg
    · obtain ⟨v, rfl⟩ := Int.eq_ofNat_of_zero_le (show 0 ≤ v by omega)
      exact hL q k _ _ hr hv (by omega) (by rw [Int.toNat_natCast]; exact closed_acc hS hL he t v (by omega) (fun x hx => ht x (by simp [hx])) hg)
/-- behind all rounds what is alive is marked -/
theorem rounds_all {d : Df} (hS : Shp d) {L : List Bool} (hlen : L.length = d.ends.length) (he : ∀ q : Nat, d.ends[q]? = some true → L[q]? = some true) (hc : ClD d L ∨ dead L + d.ends.length ≤ d.ends.length) {q : Nat} (hq : q < d.ends.length) {t : List Nat} (ht : ∀ k ∈ t, k < d.atoms.length) (ha : accD d (q : Int) t = true) : L[q]? = some true := by
  rcases hc with hc | hc
  · exact closed_acc hS hc he t q hq ht ha
  · have h0 : dead L = 0 := by omega
    rw [List.getElem?_eq_getElem (by omega)]
    unfold dead at h0
    rw [List.countP_eq_zero] at h0
    have := h0 _ (List.getElem_mem (show q < L.length by omega))
    cases e : L[q] <;> simp_all
/-! apart: parts by texts of one letter more each time; d.ends.length is the state that is nowhere -/
def goE (d : Df) (p k : Nat) : Nat := if p = d.ends.length ∨ nxt d (p : Int) k < 0 then d.ends.length else (nxt d (p : Int) k).toNat
def endE (d : Df) (p : Nat) : Bool := decide (p < d.ends.length) && d.ends[p]?.getD false
def uG (U : List (List Bool)) (p q : Nat) : Bool := (U[p]?.getD [])[q]?.getD false
theorem goE_le {d : Df} (hS : Shp d) {p k : Nat} (hp : p ≤ d.ends.length) (hk : k < d.atoms.length) : goE d p k ≤ d.ends.length := by
  unfold goE
  split
  · exact Nat.le_refl _
  · rename_i h
    have := hS.nxt_ok (q := (p : Int)) (by omega) (by omega) hk
    omega
/-- a matrix that is closed parts what a text parts -/
def ClU (d : Df) (U : List (List Bool)) : Prop := ∀ p q k, p ≤ d.ends.length → q ≤ d.ends.length → k < d.atoms.length → uG U (goE d p k) (goE d q k) = true → uG U p q = true
def IniU (d : Df) (U : List (List Bool)) : Prop := ∀ p q, p ≤ d.ends.length → q ≤ d.ends.length → endE d p ≠ endE d q → uG U p q = true
def qI (d : Df) (p : Nat) : Int := if p = d.ends.length then -1 else (p : Int)
theorem acc_go {d : Df} (hS : Shp d) {p k : Nat} (hp : p ≤ d.ends.length) (hk : k < d.atoms.length) (t : List Nat) : accD d (qI d p) (k :: t) = accD d (qI d (goE d p k)) t := by
  show accD d (gD d (qI d p) k) t = _
  unfold qI
  by_cases h : p = d.ends.length
  · rw [if_pos h]
    have e : goE d p k = d.ends.length := by unfold goE; rw [if_pos (.inl h)]
    rw [e, if_pos rfl]
    unfold gD
    rw [if_pos (by decide)]
  · rw [if_neg h]
    have hb := hS.nxt_ok (q := (p : Int)) (by omega) (by omega) hk
    unfold gD
    rw [if_neg (by omega)]
    by_cases hn : nxt d (p : Int) k < 0
    · have e : goE d p k = d.ends.length := by unfold goE; rw [if_pos (.inr hn)]
      rw [e, if_pos rfl, accD_neg d t hn, accD_neg d t (by decide)]
    · have e : goE d p k = (nxt d (p : Int) k).toNat := by unfold goE; rw [if_neg (by omega)]
      rw [e, if_neg (by omega)]
      congr 1; omega
theorem closed_apart {d : Df} (hS : Shp d) {U : List (List Bool)} (hc : ClU d U) (hi : IniU d U) : ∀ (t : List Nat) (p q : Nat), p ≤ d.ends.length → q ≤ d.ends.length → (∀ k ∈ t, k < d.atoms.length) → accD d (qI d p) t ≠ accD d (qI d q) t → uG U p q = true
  | [], p, q, hp, hq, _, h => by
    have key : ∀ p, p ≤ d.ends.length → accD d (qI d p) [] = endE d p := by
      intro p hp
      unfold accD runD endE qI endsR
      simp only [List.foldl_nil]
      by_cases e : p = d.ends.length
      · rw [if_pos e, show decide (p < d.ends.length) = false from decide_eq_false (by omega)]; rfl
      · rw [if_neg e, Int.toNat_natCast, show decide (p < d.ends.length) = true from decide_eq_true (by omega)]; simp
    rw [key p hp, key q hq] at h
    exact hi p q hp hq h
  | k :: t, p, q, hp, hq, ht, h => by
    have hk := ht k (by simp)
    rw [acc_go hS hp hk, acc_go hS hq hk] at h
    exact hc p q k hp hq hk (closed_apart hS hc hi t _ _ (goE_le hS hp hk) (goE_le hS hq hk) (fun x hx => ht x (by simp [hx])) h)
/-- a list's header -/
structure Hd where
  a : Option Addr
  n : Nat
  c : Nat
def Hd.v (h : Hd) : Value := .slice h.a h.n h.c
def Ehd (h : Hd) : List Value := [h.v]
instance : Enc Ehd 1 := ⟨fun _ => rfl, fun h v hv => by simp [Ehd, Hd.v] at hv; subst hv; rfl⟩
/-- rows of truth values, owned -/
inductive OwnH : List Hd → List (List Bool) → Hp → Prop
  | nil : OwnH [] [] []
  | cons {h : Hd} {xs : List Bool} {hs : List Hd} {U : List (List Bool)} {S R : Hp} (ho : OwnS Ebo 1 4 h.v xs S) (hr : OwnH hs U R) : OwnH (h :: hs) (xs :: U) (S ++ R)
theorem OwnH.snoc {hs : List Hd} {U : List (List Bool)} {S S' : Hp} {h : Hd} {xs : List Bool} (ho : OwnH hs U S) (h' : OwnS Ebo 1 4 h.v xs S') : OwnH (hs ++ [h]) (U ++ [xs]) (S ++ S') := by
  induction ho with
  | nil => simpa using OwnH.cons h' .nil
  | cons h1 h2 ih => simpa using OwnH.cons h1 ih
theorem OwnH.at {hs : List Hd} {U : List (List Bool)} {S : Hp} (ho : OwnH hs U S) : ∀ {n : Nat} {h : Hd}, hs[n]? = some h →
    ∃ xs S1 Sn S2, U[n]? = some xs ∧ S = S1 ++ (Sn ++ S2) ∧ OwnS Ebo 1 4 h.v xs Sn ∧ ∀ xs' Sn', OwnS Ebo 1 4 h.v xs' Sn' → OwnH hs (U.set n xs') (S1 ++ (Sn' ++ S2)) := by
  induction ho with
  | nil => intro n h hn; simp at hn
  | @cons h xs hs U S R h1 h2 ih =>
    intro n h' hn
    cases n with
    | zero =>
      simp at hn; subst hn
      exact ⟨xs, [], S, R, rfl, rfl, h1, fun xs' Sn' h' => by simpa using OwnH.cons h' h2⟩
    | succ n =>
      obtain ⟨xs', S1, Sn, S2, e1, rfl, e3, e4⟩ := ih (by simpa using hn)
      exact ⟨xs', S ++ S1, Sn, S2, by simpa using e1, by simp, e3, fun y Sy hy => by simpa using OwnH.cons h1 (e4 y Sy hy)⟩
theorem OwnH.len {hs : List Hd} {U : List (List Bool)} {S : Hp} (ho : OwnH hs U S) : hs.length = U.length := by
  induction ho with
  | nil => rfl
  | cons h1 h2 ih => simp [ih]
theorem OwnH.rdk {hs : List Hd} {U : List (List Bool)} {S H : Hp} {κ : Cx} (ho : OwnH hs U S) (hin : HIn S H) {n : Nat} {h : Hd} {xs : List Bool} (hn : hs[n]? = some h) (hx : U[n]? = some xs) : RdK Ebo κ H h.v xs := by
  obtain ⟨ys, S1, Sn, S2, e1, rfl, e3, _⟩ := ho.at hn
  rw [hx] at e1
  obtain rfl := Option.some.inj e1
  exact e3.rdk fun p hp => hin p (by simp [hp])
theorem own_n {α : Type} {E : α → List Value} {k : Nat} {T : TypeId} {a : Option Addr} {n c : Nat} {xs : List α} {S : Hp} (h : OwnS E k T (.slice a n c) xs S) : n = xs.length := by
  cases h with
  | nil => rfl
  | blk hc hn hm h1 hf => rfl
theorem OwnH.sl {hs : List Hd} {U : List (List Bool)} {S : Hp} (ho : OwnH hs U S) {n : Nat} {h : Hd} {xs : List Bool} (hn : hs[n]? = some h) (hx : U[n]? = some xs) : IsSl (.slice h.a h.n h.c) h.n ∧ h.n = xs.length := by
  obtain ⟨ys, S1, Sn, S2, e1, _, e3, _⟩ := ho.at hn
  rw [hx] at e1
  obtain rfl := Option.some.inj e1
  have h1 : h.n = xs.length := own_n e3
  have h2 := e3.sl
  rw [← h1] at h2
  exact ⟨h2, h1⟩
/-! the first row, by the ends -/
def iniRow (d : Df) (p : Nat) : List Bool := (List.range (d.ends.length + 1)).map fun q => decide (endE d p ≠ endE d q)
theorem iniRow_len (d : Df) (p : Nat) : (iniRow d p).length = d.ends.length + 1 := by simp [iniRow]
theorem iniRow_get {d : Df} {p q : Nat} (hq : q < d.ends.length + 1) : (iniRow d p)[q]? = some (decide (endE d p ≠ endE d q)) := by simp [iniRow, List.getElem?_range hq]
def iniT (d : Df) (p : Nat) : List (List Bool) := (List.range p).map (iniRow d)
theorem iniT_succ (d : Df) (p : Nat) : iniT d (p + 1) = iniT d p ++ [iniRow d p] := by simp [iniT, List.range_succ]
theorem iniRow_step {d : Df} {p q : Nat} {b : Bool} (hq : q < d.ends.length + 1) (hb : b = decide (endE d p ≠ endE d q)) : (filZ false ((iniRow d p).take q) (d.ends.length + 1)).set q b = filZ false ((iniRow d p).take (q + 1)) (d.ends.length + 1) := by
  rw [take_succ_get (iniRow_get hq), filZ_set (by rw [List.length_take, iniRow_len]; omega) hq, hb]
/-- a matrix of the right size -/
structure MatI (d : Df) (U : List (List Bool)) : Prop where
  len : U.length = d.ends.length + 1
  rows : ∀ r ∈ U, r.length = d.ends.length + 1
theorem MatI.get {d : Df} {U : List (List Bool)} (h : MatI d U) {p q : Nat} (hp : p ≤ d.ends.length) (hq : q ≤ d.ends.length) : ∃ row, U[p]? = some row ∧ row.length = d.ends.length + 1 ∧ row[q]? = some (uG U p q) := by
  have hr : U[p]? = some (U[p]'(by have := h.len; omega)) := List.getElem?_eq_getElem _
  have hl := h.rows _ (List.mem_of_getElem? hr)
  refine ⟨_, hr, hl, ?_⟩
  unfold uG
  rw [hr, Option.getD_some, List.getElem?_eq_getElem (by omega)]; rfl
theorem iniT_mat (d : Df) : MatI d (iniT d (d.ends.length + 1)) ∧ IniU d (iniT d (d.ends.length + 1)) := by
  have g : ∀ p, p ≤ d.ends.length → (iniT d (d.ends.length + 1))[p]? = some (iniRow d p) := fun p hp => by unfold iniT; rw [List.getElem?_map, List.getElem?_range (by omega)]; rfl
  refine ⟨⟨by simp [iniT], fun r hr => ?_⟩, fun p q hp hq h => ?_⟩
  · obtain ⟨p, _, rfl⟩ := List.mem_map.1 hr
    exact iniRow_len d p
  · unfold uG
    rw [g p hp, Option.getD_some, iniRow_get (by omega), Option.getD_some, decide_eq_true h]
theorem uG_set {d : Df} {U : List (List Bool)} (h : MatI d U) {p q : Nat} {row : List Bool} (hr : U[p]? = some row) (hq : q ≤ d.ends.length) (p' q' : Nat) : uG (U.set p (row.set q true)) p' q' = (decide (p' = p ∧ q' = q) || uG U p' q') := by
  have hp := (List.getElem?_eq_some_iff.1 hr).1
  have hl := h.rows _ (List.mem_of_getElem? hr)
  unfold uG
  by_cases e : p = p'
  · subst e
    rw [List.getElem?_set_self hp, Option.getD_some, hr, Option.getD_some]
    by_cases e2 : q = q'
    · subst e2
      rw [List.getElem?_set_self (by omega)]; simp
    · rw [List.getElem?_set_ne e2]
      rw [decide_eq_false (fun h => e2 h.2.symm), Bool.false_or]
  · rw [List.getElem?_set_ne e]
    rw [decide_eq_false (fun h => e h.1.symm), Bool.false_or]
theorem MatI.set {d : Df} {U : List (List Bool)} (h : MatI d U) {p : Nat} {row : List Bool} (hr : U[p]? = some row) (q : Nat) : MatI d (U.set p (row.set q true)) := by
  refine ⟨by simp [h.len], fun r hm => ?_⟩
  rcases List.mem_or_eq_of_mem_set hm with hm | rfl
  · exact h.rows r hm
  · rw [List.length_set]; exact h.rows _ (List.mem_of_getElem? hr)
def deadU : List (List Bool) → Nat
  | [] => 0
  | r :: U => dead r + deadU U
theorem deadU_set : ∀ {U : List (List Bool)} {p q : Nat} {row : List Bool}, U[p]? = some row → row[q]? = some false → deadU (U.set p (row.set q true)) + 1 = deadU U
  | r :: U, 0, q, row, hr, hq => by
    obtain rfl : r = row := by simpa using hr
    have := dead_set hq
    simp only [List.set_cons_zero, deadU]; omega
  | r :: U, p + 1, q, row, hr, hq => by
    have := deadU_set (U := U) (p := p) (q := q) (row := row) (by simpa using hr) hq
    simp only [List.set_cons_succ, deadU]; omega
/-- one sweep over the matrix: U0 was there, U is -/
structure SwI (d : Df) (U0 U : List (List Bool)) (more : Bool) (p q k : Nat) : Prop where
  mat : MatI d U
  mono : ∀ p q, uG U0 p q = true → uG U p q = true
  none : more = false → U = U0 ∧ ∀ p' q' k', p' ≤ d.ends.length → q' ≤ d.ends.length → k' < d.atoms.length → (p' < p ∨ (p' = p ∧ (q' < q ∨ (q' = q ∧ k' < k)))) → uG U0 (goE d p' k') (goE d q' k') = true → uG U0 p' q' = true
  some : more = true → deadU U < deadU U0
theorem SwI.zero {d : Df} {U : List (List Bool)} (h : MatI d U) : SwI d U U false 0 0 0 := ⟨h, fun _ _ h => h, fun _ => ⟨rfl, fun p' q' k' _ _ _ h => by omega⟩, fun h => by cases h⟩
theorem SwI.no {d : Df} {U0 U : List (List Bool)} {more : Bool} {p q k : Nat} (h : SwI d U0 U more p q k) (hn : uG U (goE d p k) (goE d q k) = false) : SwI d U0 U more p q (k + 1) := by
  refine ⟨h.mat, h.mono, fun hm => ?_, h.some⟩
  obtain ⟨e, hd⟩ := h.none hm
  refine ⟨e, fun p' q' k' h1 h2 h3 h4 h5 => ?_⟩
  by_cases he : p' = p ∧ q' = q ∧ k' = k
  · obtain ⟨rfl, rfl, rfl⟩ := he
    rw [← e, hn] at h5; cases h5
  · exact hd p' q' k' h1 h2 h3 (by omega) h5
theorem SwI.yes {d : Df} {U0 U : List (List Bool)} {more : Bool} {p q k : Nat} (h : SwI d U0 U more p q k) (hq : q ≤ d.ends.length) {row : List Bool} (hr : U[p]? = Option.some row) (hf : row[q]? = Option.some false) : SwI d U0 (U.set p (row.set q true)) true p q (k + 1) := by
  refine ⟨h.mat.set hr q, fun p' q' hu => by rw [uG_set h.mat hr hq, h.mono p' q' hu, Bool.or_true], fun hm => (by cases hm), fun _ => ?_⟩
  have h1 := deadU_set hr hf
  cases more with
  | true => have := h.some rfl; omega
  | false => have := (h.none rfl).1; rw [← this]; omega
theorem SwI.col {d : Df} {U0 U : List (List Bool)} {more : Bool} {p q k : Nat} (h : SwI d U0 U more p q k) (hk : d.atoms.length ≤ k ∨ uG U p q = true) : SwI d U0 U more p (q + 1) 0 := by
  refine ⟨h.mat, h.mono, fun hm => ?_, h.some⟩
  obtain ⟨e, hd⟩ := h.none hm
  refine ⟨e, fun p' q' k' h1 h2 h3 h4 h5 => ?_⟩
  by_cases he : p' = p ∧ q' = q
  · obtain ⟨rfl, rfl⟩ := he
    rcases hk with hk | hk
    · exact hd p' q' k' h1 h2 h3 (by omega) h5
    · rw [← e]; exact hk
  · exact hd p' q' k' h1 h2 h3 (by omega) h5
theorem SwI.row {d : Df} {U0 U : List (List Bool)} {more : Bool} {p q : Nat} (h : SwI d U0 U more p q 0) (hq : d.ends.length < q) : SwI d U0 U more (p + 1) 0 0 := by
  refine ⟨h.mat, h.mono, fun hm => ?_, h.some⟩
  obtain ⟨e, hd⟩ := h.none hm
  exact ⟨e, fun p' q' k' h1 h2 h3 h4 h5 => hd p' q' k' h1 h2 h3 (by omega) h5⟩
theorem SwI.closed {d : Df} {U0 U : List (List Bool)} {p : Nat} (h : SwI d U0 U false p 0 0) (hp : d.ends.length < p) : ClU d U := by
  obtain ⟨e, hd⟩ := h.none rfl
  rw [e]
  exact fun p' q' k' h1 h2 h3 h5 => hd p' q' k' h1 h2 h3 (by omega) h5
end Go.HL.Sts
namespace Go.Proofs.YtmompllplidphaaDoor
open Go Go.HL Go.Proofs Go.HL.Kl Go.HL.Kl.Mc
set_option maxHeartbeats 1000000 in
theorem beyond_fn (ra : Option Addr) (rc : Nat) (re : List Nd) (hre : ∀ x ∈ re, -128 ≤ x.op ∧ x.op < 128) : HL.Fn Tryd.prog 55 [.slice ra re.length rc] (fun w => Rd En w (.slice ra re.length rc) re) [] (fun v _ => ∃ b, v = .bool b) := by
  refine fn_of Tryd.func55 rfl rfl rfl fun w0 hw => ?_
  have hsl := hw.sl
  have hbl := hsl.le
  refine c_seq fun _ hK1 => ?_
  refine c_region ?_
  refine o_step rfl (s_assign rfl) ?_
  refine o_nil ?_
  refine x_then (hK1 _ _ ?_)
  refine c_seq fun _ hK2 => ?_
  refine c_region ?_
  refine o_step rfl (s_assign rfl) ?_
  refine o_nil ?_
  refine x_then (hK2 _ _ ?_)
  refine c_seq fun _ hK3 => ?_
  refine c_seq fun _ hK4 => ?_
  refine c_region ?_
  refine o_step rfl (s_assign rfl) ?_
  refine o_nil ?_
  refine x_then (hK4 _ _ ?_)
  refine c_block ?_
  -- not carried: 2
  refine c_loop3 (fun (j : Nat) (q : Sl Int) (S : Hp) => j ≤ re.length ∧ q.xs.length ≤ 65536 ∧ OwnS Ei 1 3 (.slice q.a q.xs.length q.c) q.xs S) (fun (j : Nat) (q : Sl Int) (S : Hp) => [(4, .int .i64 j), (3, .slice q.a q.xs.length q.c)]) [(0, _)] (fun (j : Nat) (q : Sl Int) (S : Hp) => S) (fun (j : Nat) (q : Sl Int) (S : Hp) => re.length - j) 0 ⟨none, 0, []⟩ [] ⟨by omega, by simp, .nil⟩ sbA sbA hzB ?_
  rintro j q0 S0 ⟨hj, hq0, hO0⟩
  refine c_seq fun _ hK5 => ?_
  refine c_seq fun _ hK6 => ?_
  refine c_region ?_
  refine o_step rfl (s_move rfl) ?_
  refine o_step rfl (s_move rfl) ?_
  refine o_step rfl (s_len rfl) ?_
  by_cases hjl : j < re.length
  ·
   obtain ⟨x, hx⟩ : ∃ x, re[j]? = some x := ⟨_, List.getElem?_eq_getElem hjl⟩
   refine o_step rfl (step_cast (v' := .bool true) (s_lss rfl rfl) (by rw [decide_eq_true (by omega)])) ?_
   refine o_nil ?_
   refine x_then (hK6 _ _ ?_)
   refine c_true rfl ?_
   refine c_skip ?_
   refine x_then (hK5 _ _ ?_)
   refine c_seq fun _ hK7 => ?_
   refine c_block ?_
   refine c_seq fun _ hK8 => ?_
   refine c_block ?_
   refine c_loop2 (fun (q : Sl Int) (S : Hp) => q.xs.length ≤ 65536 ∧ OwnS Ei 1 3 (.slice q.a q.xs.length q.c) q.xs S) (fun (q : Sl Int) (S : Hp) => [(3, .slice q.a q.xs.length q.c)]) [(0, _), (4, _), (5, _), (6, _), (7, _), (8, _)] (fun (q : Sl Int) (S : Hp) => S) (fun (q : Sl Int) (S : Hp) => q.xs.length) q0 S0 ⟨hq0, hO0⟩ sbA sbA hzB ?_
   rintro q S ⟨hq, hO⟩
   have hOs := hO.sl
   have hOc := hOs.cap
   refine c_seq fun _ hK9 => ?_
   refine c_seq fun _ hK10 => ?_
   refine c_region ?_
   refine o_step rfl (s_move rfl) ?_
   refine o_step rfl (s_len rfl) ?_
   by_cases hp0 : (q.xs.length : Int) > 0
   ·
    obtain ⟨u, hu⟩ : ∃ u, q.xs[q.xs.length - 1]? = some u := ⟨_, List.getElem?_eq_getElem (by omega)⟩
    have hO1 := hO.pre (q.xs.length - 1) (by omega)
    have hql1 : (q.xs.take (q.xs.length - 1)).length = q.xs.length - 1 := by rw [List.length_take]; omega
    refine o_step rfl (step_cast (v' := .bool true) (s_gtr rfl rfl) (by rw [decide_eq_true (by omega)])) ?_
    refine o_step rfl (s_move rfl) ?_
    refine o_yes rfl rfl ?_
    refine o_step rfl (s_move rfl) ?_
    refine o_yes rfl rfl ?_
    refine o_step rfl (s_move rfl) ?_
    refine o_yes rfl rfl ?_
    refine o_step rfl (s_len rfl) ?_
    refine o_yes rfl rfl ?_
    refine o_step rfl (s_sub rfl rfl (by omega)) ?_
    refine o_yes rfl rfl ?_
    refine o_step rfl (s_idx rfl rfl hOs (by omega)) ?_
    refine o_yes rfl rfl ?_
    refine o_step rfl (s_ld rfl ((hO.rdk hiA).ld (q.xs.length - 1) 0 hu rfl (by decide) (by omega))) ?_
    refine o_yes rfl rfl ?_
    by_cases hle : u ≤ 0
    ·
     refine o_step rfl (step_cast (v' := .bool true) (s_leq rfl rfl) (by rw [decide_eq_true (by omega)])) ?_
     refine o_step rfl (s_pick_t rfl rfl) ?_
     refine o_nil ?_
     refine x_then (hK10 _ _ ?_)
     refine c_true rfl ?_
     refine c_skip ?_
     refine x_then (hK9 _ _ ?_)
     refine c_block ?_
     refine c_region ?_
     refine o_step rfl (s_move rfl) ?_
     refine o_step rfl (s_move rfl) ?_
     refine o_step rfl (s_len rfl) ?_
     refine o_step rfl (s_sub rfl rfl (by omega)) ?_
     refine o_step rfl (step_cast (v' := .slice q.a (q.xs.take (q.xs.length - 1)).length q.c) (s_slice_hi rfl rfl (by omega)) (by rw [hql1]; congr 1; omega)) ?_
     refine o_step rfl (s_assign rfl) ?_
     refine o_nil ?_
     refine x_block ?_
     exact x_then (x_inv (⟨q.a, q.c, q.xs.take (q.xs.length - 1)⟩, S) ⟨by rw [hql1]; omega, by dsimp only; rw [hql1]; exact hO1⟩ (by dsimp only; rw [hql1]; omega) sbA hzB)
    ·
     refine o_step rfl (step_cast (v' := .bool false) (s_leq rfl rfl) (by rw [decide_eq_false (by omega)])) ?_
     refine o_step rfl (s_pick_t rfl rfl) ?_
     refine o_nil ?_
     refine x_then (hK10 _ _ ?_)
     refine c_false rfl ?_
     refine c_exit ?_
     refine x_then_exit ?_
     refine x_then_exit ?_
     refine x_block_exit ?_
     refine x_then (hK8 _ _ ?_)
     refine c_seq fun _ hK11 => ?_
     refine c_seq fun _ hK12 => ?_
     refine c_region ?_
     refine o_step rfl (s_move rfl) ?_
     refine o_step rfl (s_len rfl) ?_
     by_cases hp1 : (q.xs.length : Int) > 0
     ·
      obtain ⟨u2, hu2⟩ : ∃ u, q.xs[q.xs.length - 1]? = some u := ⟨_, List.getElem?_eq_getElem (by omega)⟩
      refine o_step rfl (step_cast (v' := .bool true) (s_gtr rfl rfl) (by rw [decide_eq_true (by omega)])) ?_
      refine o_nil ?_
      refine x_then (hK12 _ _ ?_)
      refine c_true rfl ?_
      refine c_region ?_
      refine o_step rfl (s_move rfl) ?_
      refine o_step rfl (s_move rfl) ?_
      refine o_step rfl (s_len rfl) ?_
      refine o_step rfl (s_sub rfl rfl (by omega)) ?_
      refine o_step rfl (s_move rfl) ?_
      refine o_step rfl (s_move rfl) ?_
      refine o_step rfl (s_len rfl) ?_
      refine o_step rfl (s_sub rfl rfl (by omega)) ?_
      refine o_step rfl (s_idx rfl rfl hOs (by omega)) ?_
      refine o_step rfl (s_ld rfl ((hO.rdk hiA).ld (q.xs.length - 1) 0 hu2 rfl (by decide) (by omega))) ?_
      refine o_step rfl (s_subw rfl rfl) ?_
      refine o_step rfl (s_idx rfl rfl hOs (by omega)) ?_
      refine o_stS1 (q.xs.length - 1) _ hO pkA rfl rfl rfl (by omega) (by omega) fun S' hS' => ?_
      have hO := hS'
      refine o_nil ?_
      refine x_then (hK11 _ _ ?_)
      refine c_seq fun _ hK13 => ?_
      refine c_region ?_
      refine o_step rfl (s_move rfl) ?_
      refine o_step rfl (s_move rfl) ?_
      refine o_step rfl (s_move rfl) ?_
      refine o_step rfl (s_idx rfl rfl hsl (by omega)) ?_
      refine o_step rfl (s_field rfl rfl (by decide)) ?_
      refine o_step rfl (s_ld rfl ((RdK.old0 hw).ld j 8 hx rfl (by decide) (by omega))) ?_
      refine o_bs (E := Ei) (xs := [x.kids]) (vs := [_]) rfl rfl rfl rfl rfl (by decide) (by decide) fun b49 S49 hS49 => ?_
      refine o_app hO (hS49.rdk hiA) rfl rfl rfl rfl (by simp; omega) (by simp; omega) rfl pkA fun a50 c50 S50 hS50 => ?_
      refine o_step rfl (s_assign rfl) ?_
      refine o_nil ?_
      refine x_then (hK13 _ _ ?_)
      refine c_seq fun _ hK14 => ?_
      refine c_region ?_
      refine o_step rfl (s_move rfl) ?_
      refine o_step rfl (s_len rfl) ?_
      refine o_step rfl (s_gtr rfl rfl) ?_
      refine o_nil ?_
      refine x_then (hK14 _ _ ?_)
      refine c_if rfl (fun hbig => ?_) (fun hbig => ?_)
      ·
       refine c_seq fun _ hK15 => ?_
       refine c_region ?_
       refine o_step rfl (s_assign rfl) ?_
       refine o_nil ?_
       refine x_then (hK15 _ _ ?_)
       refine c_ret ?_
       refine x_block_ret (x_then_ret (x_then_ret (x_block_ret (x_then_ret (?_)))))
       exact x_ret rfl (.tmp rfl (.nil)) (⟨_, rfl⟩)
      ·
       refine c_skip ?_
       refine x_block ?_
       refine x_then (hK7 _ _ ?_)
       refine c_region ?_
       refine o_step rfl (s_move rfl) ?_
       refine o_step rfl (s_add rfl rfl (by omega)) ?_
       refine o_step rfl (s_assign rfl) ?_
       refine o_nil ?_
       exact x_then (x_inv (j + 1, ⟨a50, c50, _⟩, S50) ⟨by omega, by dsimp only; omega, hS50⟩ (by first | omega | (dsimp only; omega)) sbA hzB)
     ·
      refine o_step rfl (step_cast (v' := .bool false) (s_gtr rfl rfl) (by rw [decide_eq_false (by omega)])) ?_
      refine o_nil ?_
      refine x_then (hK12 _ _ ?_)
      refine c_false rfl ?_
      refine c_skip ?_
      refine x_then (hK11 _ _ ?_)
      refine c_seq fun _ hK16 => ?_
      refine c_region ?_
      refine o_step rfl (s_move rfl) ?_
      refine o_step rfl (s_move rfl) ?_
      refine o_step rfl (s_move rfl) ?_
      refine o_step rfl (s_idx rfl rfl hsl (by omega)) ?_
      refine o_step rfl (s_field rfl rfl (by decide)) ?_
      refine o_step rfl (s_ld rfl ((RdK.old0 hw).ld j 8 hx rfl (by decide) (by omega))) ?_
      refine o_bs (E := Ei) (xs := [x.kids]) (vs := [_]) rfl rfl rfl rfl rfl (by decide) (by decide) fun b49 S49 hS49 => ?_
      refine o_app hO (hS49.rdk hiA) rfl rfl rfl rfl (by simp; omega) (by simp; omega) rfl pkA fun a50 c50 S50 hS50 => ?_
      refine o_step rfl (s_assign rfl) ?_
      refine o_nil ?_
      refine x_then (hK16 _ _ ?_)
      refine c_seq fun _ hK17 => ?_
      refine c_region ?_
      refine o_step rfl (s_move rfl) ?_
      refine o_step rfl (s_len rfl) ?_
      refine o_step rfl (s_gtr rfl rfl) ?_
      refine o_nil ?_
      refine x_then (hK17 _ _ ?_)
      refine c_if rfl (fun hbig => ?_) (fun hbig => ?_)
      ·
       refine c_seq fun _ hK18 => ?_
       refine c_region ?_
       refine o_step rfl (s_assign rfl) ?_
       refine o_nil ?_
       refine x_then (hK18 _ _ ?_)
       refine c_ret ?_
       refine x_block_ret (x_then_ret (x_then_ret (x_block_ret (x_then_ret (?_)))))
       exact x_ret rfl (.tmp rfl (.nil)) (⟨_, rfl⟩)
      ·
       refine c_skip ?_
       refine x_block ?_
       refine x_then (hK7 _ _ ?_)
       refine c_region ?_
       refine o_step rfl (s_move rfl) ?_
       refine o_step rfl (s_add rfl rfl (by omega)) ?_
       refine o_step rfl (s_assign rfl) ?_
       refine o_nil ?_
       exact x_then (x_inv (j + 1, ⟨a50, c50, _⟩, S50) ⟨by omega, by dsimp only; omega, hS50⟩ (by first | omega | (dsimp only; omega)) sbA hzB)
   ·
    refine o_step rfl (step_cast (v' := .bool false) (s_gtr rfl rfl) (by rw [decide_eq_false (by omega)])) ?_
    refine o_step rfl (s_move rfl) ?_
    refine o_no rfl rfl rfl rfl ?_
    refine o_no rfl rfl rfl rfl ?_
    refine o_no rfl rfl rfl rfl ?_
    refine o_no rfl rfl rfl rfl ?_
    refine o_no rfl rfl rfl rfl ?_
    refine o_no rfl rfl rfl rfl ?_
    refine o_no rfl rfl rfl rfl ?_
    refine o_step rfl (s_pick_f rfl rfl) ?_
    refine o_nil ?_
    refine x_then (hK10 _ _ ?_)
    refine c_false rfl ?_
    refine c_exit ?_
    refine x_then_exit ?_
    refine x_then_exit ?_
    refine x_block_exit ?_
    refine x_then (hK8 _ _ ?_)
    refine c_seq fun _ hK19 => ?_
    refine c_seq fun _ hK20 => ?_
    refine c_region ?_
    refine o_step rfl (s_move rfl) ?_
    refine o_step rfl (s_len rfl) ?_
    by_cases hp1 : (q.xs.length : Int) > 0
    ·
     obtain ⟨u2, hu2⟩ : ∃ u, q.xs[q.xs.length - 1]? = some u := ⟨_, List.getElem?_eq_getElem (by omega)⟩
     refine o_step rfl (step_cast (v' := .bool true) (s_gtr rfl rfl) (by rw [decide_eq_true (by omega)])) ?_
     refine o_nil ?_
     refine x_then (hK20 _ _ ?_)
     refine c_true rfl ?_
     refine c_region ?_
     refine o_step rfl (s_move rfl) ?_
     refine o_step rfl (s_move rfl) ?_
     refine o_step rfl (s_len rfl) ?_
     refine o_step rfl (s_sub rfl rfl (by omega)) ?_
     refine o_step rfl (s_move rfl) ?_
     refine o_step rfl (s_move rfl) ?_
     refine o_step rfl (s_len rfl) ?_
     refine o_step rfl (s_sub rfl rfl (by omega)) ?_
     refine o_step rfl (s_idx rfl rfl hOs (by omega)) ?_
     refine o_step rfl (s_ld rfl ((hO.rdk hiA).ld (q.xs.length - 1) 0 hu2 rfl (by decide) (by omega))) ?_
     refine o_step rfl (s_subw rfl rfl) ?_
     refine o_step rfl (s_idx rfl rfl hOs (by omega)) ?_
     refine o_stS1 (q.xs.length - 1) _ hO pkA rfl rfl rfl (by omega) (by omega) fun S' hS' => ?_
     have hO := hS'
     refine o_nil ?_
     refine x_then (hK19 _ _ ?_)
     refine c_seq fun _ hK21 => ?_
     refine c_region ?_
     refine o_step rfl (s_move rfl) ?_
     refine o_step rfl (s_move rfl) ?_
     refine o_step rfl (s_move rfl) ?_
     refine o_step rfl (s_idx rfl rfl hsl (by omega)) ?_
     refine o_step rfl (s_field rfl rfl (by decide)) ?_
     refine o_step rfl (s_ld rfl ((RdK.old0 hw).ld j 8 hx rfl (by decide) (by omega))) ?_
     refine o_bs (E := Ei) (xs := [x.kids]) (vs := [_]) rfl rfl rfl rfl rfl (by decide) (by decide) fun b49 S49 hS49 => ?_
     refine o_app hO (hS49.rdk hiA) rfl rfl rfl rfl (by simp; omega) (by simp; omega) rfl pkA fun a50 c50 S50 hS50 => ?_
     refine o_step rfl (s_assign rfl) ?_
     refine o_nil ?_
     refine x_then (hK21 _ _ ?_)
     refine c_seq fun _ hK22 => ?_
     refine c_region ?_
     refine o_step rfl (s_move rfl) ?_
     refine o_step rfl (s_len rfl) ?_
     refine o_step rfl (s_gtr rfl rfl) ?_
     refine o_nil ?_
     refine x_then (hK22 _ _ ?_)
     refine c_if rfl (fun hbig => ?_) (fun hbig => ?_)
     ·
      refine c_seq fun _ hK23 => ?_
      refine c_region ?_
      refine o_step rfl (s_assign rfl) ?_
      refine o_nil ?_
      refine x_then (hK23 _ _ ?_)
      refine c_ret ?_
      refine x_block_ret (x_then_ret (x_then_ret (x_block_ret (x_then_ret (?_)))))
      exact x_ret rfl (.tmp rfl (.nil)) (⟨_, rfl⟩)
     ·
      refine c_skip ?_
      refine x_block ?_
      refine x_then (hK7 _ _ ?_)
      refine c_region ?_
      refine o_step rfl (s_move rfl) ?_
      refine o_step rfl (s_add rfl rfl (by omega)) ?_
      refine o_step rfl (s_assign rfl) ?_
      refine o_nil ?_
      exact x_then (x_inv (j + 1, ⟨a50, c50, _⟩, S50) ⟨by omega, by dsimp only; omega, hS50⟩ (by first | omega | (dsimp only; omega)) sbA hzB)
    ·
     refine o_step rfl (step_cast (v' := .bool false) (s_gtr rfl rfl) (by rw [decide_eq_false (by omega)])) ?_
     refine o_nil ?_
     refine x_then (hK20 _ _ ?_)
     refine c_false rfl ?_
     refine c_skip ?_
     refine x_then (hK19 _ _ ?_)
     refine c_seq fun _ hK24 => ?_
     refine c_region ?_
     refine o_step rfl (s_move rfl) ?_
     refine o_step rfl (s_move rfl) ?_
     refine o_step rfl (s_move rfl) ?_
     refine o_step rfl (s_idx rfl rfl hsl (by omega)) ?_
     refine o_step rfl (s_field rfl rfl (by decide)) ?_
     refine o_step rfl (s_ld rfl ((RdK.old0 hw).ld j 8 hx rfl (by decide) (by omega))) ?_
     refine o_bs (E := Ei) (xs := [x.kids]) (vs := [_]) rfl rfl rfl rfl rfl (by decide) (by decide) fun b49 S49 hS49 => ?_
     refine o_app hO (hS49.rdk hiA) rfl rfl rfl rfl (by simp; omega) (by simp; omega) rfl pkA fun a50 c50 S50 hS50 => ?_
     refine o_step rfl (s_assign rfl) ?_
     refine o_nil ?_
     refine x_then (hK24 _ _ ?_)
     refine c_seq fun _ hK25 => ?_
     refine c_region ?_
     refine o_step rfl (s_move rfl) ?_
     refine o_step rfl (s_len rfl) ?_
     refine o_step rfl (s_gtr rfl rfl) ?_
     refine o_nil ?_
     refine x_then (hK25 _ _ ?_)
     refine c_if rfl (fun hbig => ?_) (fun hbig => ?_)
     ·
      refine c_seq fun _ hK26 => ?_
      refine c_region ?_
      refine o_step rfl (s_assign rfl) ?_
      refine o_nil ?_
      refine x_then (hK26 _ _ ?_)
      refine c_ret ?_
      refine x_block_ret (x_then_ret (x_then_ret (x_block_ret (x_then_ret (?_)))))
      exact x_ret rfl (.tmp rfl (.nil)) (⟨_, rfl⟩)
     ·
      refine c_skip ?_
      refine x_block ?_
      refine x_then (hK7 _ _ ?_)
      refine c_region ?_
      refine o_step rfl (s_move rfl) ?_
      refine o_step rfl (s_add rfl rfl (by omega)) ?_
      refine o_step rfl (s_assign rfl) ?_
      refine o_nil ?_
      exact x_then (x_inv (j + 1, ⟨a50, c50, _⟩, S50) ⟨by omega, by dsimp only; omega, hS50⟩ (by first | omega | (dsimp only; omega)) sbA hzB)
  ·
   refine o_step rfl (step_cast (v' := .bool false) (s_lss rfl rfl) (by rw [decide_eq_false (by omega)])) ?_
   refine o_nil ?_
   refine x_then (hK6 _ _ ?_)
   refine c_false rfl ?_
   refine c_exit ?_
   refine x_then_exit ?_
   refine x_then_exit ?_
   refine x_block_exit ?_
   refine x_then (hK3 _ _ ?_)
   refine c_seq fun _ hK27 => ?_
   refine c_region ?_
   refine o_step rfl (s_assign rfl) ?_
   refine o_nil ?_
   refine x_then (hK27 _ _ ?_)
   refine c_ret ?_
   refine ?_
   exact x_ret rfl (.tmp rfl (.nil)) (⟨_, rfl⟩)
end Go.Proofs.YtmompllplidphaaDoor
