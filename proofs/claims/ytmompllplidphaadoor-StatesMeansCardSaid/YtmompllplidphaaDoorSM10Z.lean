/- Make: the classes of a regex, its atoms, the least machine's rounds. Conditions: none. -/
import Derived.Test.YtmompllplidphaaDoorSW6Z
import Derived.Test.YtmompllplidphaaDoorSM4Z
import Derived.Test.YtmompllplidphaaDoorSW7Z
import Derived.Test.YtmompllplidphaaDoorSW4Z
import Derived.Test.YtmompllplidphaaDoorHlB
namespace Go.HL.Sts
open Go Go.HL Go.HL.Kl Go.HL.Kl.Mc
theorem atoms_len2 (l : List Kl.Cl) : 0 < (atoms l).length ∧ (atoms l).length ≤ 256 := by
  refine ⟨?_, (atoms_pi l).dj.len⟩
  rcases Nat.eq_zero_or_pos (atoms l).length with h | h
  · have h0 := List.eq_nil_of_length_eq_zero h
    have h1 := orA_atoms l
    rw [h0] at h1
    have h2 := congrArg (fun c => BitVec.getLsbD c 0) h1
    simp only [rng_all (x := 0) (by omega)] at h2
    simp [orA] at h2
  · exact h
theorem atoms_atm (l : List Kl.Cl) : Atm (atoms l) := by
  have hd := (atoms_pi l).dj
  refine ⟨hd.ne, hd.ap, ?_, fun b hb => ?_⟩
  · have h1 := (atoms_perm l).2
    have h2 := hd.ap
    have h3 : (atoms l).Pairwise fun a b => least a ≤ least b ∧ a &&& b = 0#256 := h1.and h2
    refine h3.imp_of_mem ?_
    intro a b ha hb ⟨h, h'⟩
    rcases Nat.lt_or_ge (least a) (least b) with h3 | h3
    · exact h3
    · exfalso
      have s1 := (least_spec (hd.ne a ha)).1
      have s2 := (least_spec (hd.ne b hb)).1
      rw [show least b = least a by omega] at s2
      exact and_zero_bit h' s1 s2
  · have h1 := congrArg (fun c => BitVec.getLsbD c b) (orA_atoms l)
    simp only [rng_all hb] at h1
    rw [orA_get, List.any_eq_true] at h1
    exact h1
theorem setsOf_yes {re : List Nd} {k : Nat} {n : Nd} (h : re[k]? = some n) (h1 : n.op = 1) : setsOf (re.take (k + 1)) = setsOf (re.take k) ++ [n.set] := by
  rw [take_succ_get h]; simp [setsOf, h1]
theorem setsOf_no {re : List Nd} {k : Nat} {n : Nd} (h : re[k]? = some n) (h1 : n.op ≠ 1) : setsOf (re.take (k + 1)) = setsOf (re.take k) := by
  rw [take_succ_get h]; simp [setsOf, h1]
theorem setsOf_len (re : List Nd) (k : Nat) : (setsOf (re.take k)).length ≤ k := by
  have h1 := List.length_filter_le (fun n : Nd => decide (n.op = 1)) (re.take k)
  have h2 : (re.take k).length ≤ k := by simp; omega
  simp only [setsOf, List.length_map]; omega
theorem partsT_len {next : List (List Nat)} {K : Nat} : ∀ (f many : Nat) (part : List Nat), part.length = next.length → (partsT next K f many part).length = next.length
  | 0, _, part, h => h
  | f + 1, many, part, h => by
    unfold partsT
    split
    · exact h
    · exact partsT_len f _ _ (round_len h K)
theorem partsM_len {next : List (List Nat)} {ends : List Bool} {K : Nat} (h : ends.length = next.length) : (partsM next ends K).length = next.length := partsT_len _ _ _ (by simp [part0, h])
/-! a row of the least machine -/
def pt (part : List Nat) (m : Nat) : Nat := part[m]?.getD 0
theorem toT_dead {part : List Nat} {lv : List Bool} {met : List Nat} {to : Nat} (h : lv[to]? = some false) : toT part lv met to = (-1, met) := by simp [toT, h]
theorem toT_live {part : List Nat} {lv : List Bool} {met : List Nat} {to : Nat} (h : lv[to]? = some true) : toT part lv met to = (((idx (met.map (pt part)) (pt part to) : Nat) : Int), if pt part to ∈ met.map (pt part) then met else met ++ [to]) := by
  unfold toT
  rw [h]; rfl
theorem lrowK_succ {part : List Nat} {lv : List Bool} {r met : List Nat} {k to : Nat} (h : r[k]? = some to) : lrowT part lv (r.take (k + 1)) met = ((lrowT part lv (r.take k) met).1 ++ [(toT part lv (lrowT part lv (r.take k) met).2 to).1], (toT part lv (lrowT part lv (r.take k) met).2 to).2) := by
  rw [take_succ_get h, lrowT_snoc]
theorem lrowK_len {part : List Nat} {lv : List Bool} {r met : List Nat} {k : Nat} (h : k ≤ r.length) : (lrowT part lv (r.take k) met).1.length = k := by rw [lrowT_len, take_len h]
theorem toT_len (part : List Nat) (lv : List Bool) (met : List Nat) (to : Nat) : (toT part lv met to).2.length ≤ met.length + 1 ∧ met.length ≤ (toT part lv met to).2.length := by
  unfold toT
  split
  · simp
  · dsimp only; split <;> simp
theorem lrowT_mono (part : List Nat) (lv : List Bool) : ∀ (r met : List Nat), (lrowT part lv r met).2.length ≤ met.length + r.length ∧ met.length ≤ (lrowT part lv r met).2.length
  | [], met => by simp [lrowT]
  | to :: r, met => by
    have h1 := lrowT_mono part lv r (toT part lv met to).2
    have h2 := toT_len part lv met to
    simp only [lrowT, List.length_cons]
    omega
theorem lrowT_pre (part : List Nat) (lv : List Bool) : ∀ (r met : List Nat), ∃ t, (lrowT part lv r met).2 = met ++ t
  | [], met => ⟨[], by simp [lrowT]⟩
  | to :: r, met => by
    obtain ⟨t, ht⟩ := lrowT_pre part lv r (toT part lv met to).2
    have h2 : ∃ u, (toT part lv met to).2 = met ++ u := by
      unfold toT
      split
      · exact ⟨[], by simp⟩
      · dsimp only
        split
        · exact ⟨[], by simp⟩
        · exact ⟨[to], rfl⟩
    obtain ⟨u, hu⟩ := h2
    exact ⟨u ++ t, by show (lrowT part lv r (toT part lv met to).2).2 = _; rw [ht, hu, List.append_assoc]⟩
theorem lmRun_step {w : Wd} {part : List Nat} {lv : List Bool} {f i : Nat} {m : Lm} (hf : 0 < f) (hi : i < m.met.length) (hm : m.met.length ≤ 256) : lmRun w part lv f i m = lmRun w part lv (f - 1) (i + 1) (lmStep w part lv i m) := by
  obtain ⟨g, rfl⟩ : ∃ g, f = g + 1 := ⟨f - 1, by omega⟩
  simp only [lmRun, if_pos hi, if_neg (show ¬ 256 < m.met.length by omega), Nat.add_sub_cancel]
theorem lmRun_end {w : Wd} {part : List Nat} {lv : List Bool} {f i : Nat} {m : Lm} (hf : 0 < f) (hi : ¬ i < m.met.length) : lmRun w part lv f i m = some m := by
  obtain ⟨g, rfl⟩ : ∃ g, f = g + 1 := ⟨f - 1, by omega⟩
  simp only [lmRun, if_neg hi]
theorem lmRun_many {w : Wd} {part : List Nat} {lv : List Bool} {f i : Nat} {m : Lm} (hf : 0 < f) (hi : i < m.met.length) (hm : 256 < m.met.length) : lmRun w part lv f i m = none := by
  obtain ⟨g, rfl⟩ : ∃ g, f = g + 1 := ⟨f - 1, by omega⟩
  simp only [lmRun, if_pos hi, if_pos hm]
theorem lmStep_eq {w : Wd} {part : List Nat} {lv : List Bool} {i q : Nat} {m : Lm} {row : List Nat} {e : Bool} (hq : m.met[i]? = some q) (hr : w.next[q]? = some row) (he : w.ends[q]? = some e) : lmStep w part lv i m = ⟨(lrowT part lv row m.met).2, m.next ++ [(lrowT part lv row m.met).1], m.ends ++ [e]⟩ := by
  simp [lmStep, hq, hr, he]
theorem numI_add {l : List Nat} {s : Nat} (hs : s ∉ l) {g g' : Int → Option Value} (h : ∀ j : Nat, g j = numM l j)
    (h' : ∀ j : Int, g' j = if j = (s : Int) then some (.int .i64 ((l.length : Nat) : Int)) else g j) : ∀ j : Nat, g' j = numM (l ++ [s]) j := by
  have := map_add (g := fun j : Nat => g j) (g' := fun j : Nat => g' j) hs h (fun j => by
    rw [h' (j : Int)]
    by_cases e : j = s
    · rw [if_pos e, if_pos (by omega)]
    · rw [if_neg e, if_neg (by omega)])
  rwa [map_new hs] at this
theorem numM_one {p : Nat} (j : Nat) : (if (j : Int) = (p : Int) then some (Value.int .i64 0) else none) = numM [p] j := by
  by_cases e : j = p
  · subst e; rw [if_pos rfl, numM_in (by simp)]; simp [idx]
  · rw [if_neg (by omega), numM_out (by simp [e])]
theorem lv_no {lv : List Bool} {q : Nat} (h : q < lv.length) (hn : ¬ lv[q]? = some true) : lv[q]? = some false := by
  rw [List.getElem?_eq_getElem h] at hn ⊢
  cases e : lv[q] <;> simp_all
theorem pt_get {pm : List Nat} {m : Nat} (h : m < pm.length) : pm[m]? = some (pt pm m) := by
  unfold pt
  rw [List.getElem?_eq_getElem h]; rfl
/-- the wide machine of a regex -/
def wdM (re : List Nd) (n : Nd) (ks : F) : Wd := wideM (partM n ks ⟨[], []⟩).2 (partM n ks ⟨[], []⟩).1 (atoms (setsOf re))
def lmOf (re : List Nd) (n : Nd) (ks : F) (lv : List Bool) : Option Lm := lmM (wdM re n ks) (partsM (wdM re n ks).next (wdM re n ks).ends (atoms (setsOf re)).length) lv
/-- when Make errs -/
def mkErr (re : List Nd) (e : Int) : Prop := (shapedB re = false ∧ e = 49) ∨ (shapedB re = true ∧ refsB re = true ∧ e = 44) ∨ (∃ n ks, Mc.Shp re n ks ∧ refsB re = false ∧ 20 < (F.nd n ks .nil).weight ∧ e = 48) ∨
  ∃ n ks lv, Mc.Shp re n ks ∧ refsB re = false ∧ (F.nd n ks .nil).weight ≤ 20 ∧ LvOk (wdM re n ks).next (wdM re n ks).ends lv ∧ lmOf re n ks lv = none ∧ e = 51
def mkOk (re : List Nd) (d : Df) : Prop := shapedB re = true ∧ ∃ n ks lv m, Mc.Shp re n ks ∧ refsB re = false ∧ (F.nd n ks .nil).weight ≤ 20 ∧ LvOk (wdM re n ks).next (wdM re n ks).ends lv ∧ lmOf re n ks lv = some m ∧ d.next = m.next ∧ d.ends = m.ends ∧ d.atoms = atoms (setsOf re)
end Go.HL.Sts
namespace Go.HL
open Go
section
variable {P : Program} {κ : Cx} {Q : Pst} {L : Loc} {H : Hp}
theorem c_loop15 {ι0 ι1 ι2 ι3 ι4 ι5 ι6 ι7 ι8 ι9 ι10 ι11 ι12 ι13 ι14 : Type} {body : Code} (I : ι0 → ι1 → ι2 → ι3 → ι4 → ι5 → ι6 → ι7 → ι8 → ι9 → ι10 → ι11 → ι12 → ι13 → ι14 → Prop) (mods : ι0 → ι1 → ι2 → ι3 → ι4 → ι5 → ι6 → ι7 → ι8 → ι9 → ι10 → ι11 → ι12 → ι13 → ι14 → Loc) (base : Loc) (Hf : ι0 → ι1 → ι2 → ι3 → ι4 → ι5 → ι6 → ι7 → ι8 → ι9 → ι10 → ι11 → ι12 → ι13 → ι14 → Hp) (m : ι0 → ι1 → ι2 → ι3 → ι4 → ι5 → ι6 → ι7 → ι8 → ι9 → ι10 → ι11 → ι12 → ι13 → ι14 → Nat) (i0 : ι0) (i1 : ι1) (i2 : ι2) (i3 : ι3) (i4 : ι4) (i5 : ι5) (i6 : ι6) (i7 : ι7) (i8 : ι8) (i9 : ι9) (i10 : ι10) (i11 : ι11) (i12 : ι12) (i13 : ι13) (i14 : ι14) (h0 : I i0 i1 i2 i3 i4 i5 i6 i7 i8 i9 i10 i11 i12 i13 i14) (hL : Sub L (mods i0 i1 i2 i3 i4 i5 i6 i7 i8 i9 i10 i11 i12 i13 i14)) (hb : Sub L base) (hH : HSub H (Hf i0 i1 i2 i3 i4 i5 i6 i7 i8 i9 i10 i11 i12 i13 i14))
    (round : ∀ i0 i1 i2 i3 i4 i5 i6 i7 i8 i9 i10 i11 i12 i13 i14, I i0 i1 i2 i3 i4 i5 i6 i7 i8 i9 i10 i11 i12 i13 i14 → C P κ (Exit.then (Inv κ (fun p : ι0 × ι1 × ι2 × ι3 × ι4 × ι5 × ι6 × ι7 × ι8 × ι9 × ι10 × ι11 × ι12 × ι13 × ι14 => I p.1 p.2.1 p.2.2.1 p.2.2.2.1 p.2.2.2.2.1 p.2.2.2.2.2.1 p.2.2.2.2.2.2.1 p.2.2.2.2.2.2.2.1 p.2.2.2.2.2.2.2.2.1 p.2.2.2.2.2.2.2.2.2.1 p.2.2.2.2.2.2.2.2.2.2.1 p.2.2.2.2.2.2.2.2.2.2.2.1 p.2.2.2.2.2.2.2.2.2.2.2.2.1 p.2.2.2.2.2.2.2.2.2.2.2.2.2.1 p.2.2.2.2.2.2.2.2.2.2.2.2.2.2) (fun p => mods p.1 p.2.1 p.2.2.1 p.2.2.2.1 p.2.2.2.2.1 p.2.2.2.2.2.1 p.2.2.2.2.2.2.1 p.2.2.2.2.2.2.2.1 p.2.2.2.2.2.2.2.2.1 p.2.2.2.2.2.2.2.2.2.1 p.2.2.2.2.2.2.2.2.2.2.1 p.2.2.2.2.2.2.2.2.2.2.2.1 p.2.2.2.2.2.2.2.2.2.2.2.2.1 p.2.2.2.2.2.2.2.2.2.2.2.2.2.1 p.2.2.2.2.2.2.2.2.2.2.2.2.2.2 ++ base) (fun p => Hf p.1 p.2.1 p.2.2.1 p.2.2.2.1 p.2.2.2.2.1 p.2.2.2.2.2.1 p.2.2.2.2.2.2.1 p.2.2.2.2.2.2.2.1 p.2.2.2.2.2.2.2.2.1 p.2.2.2.2.2.2.2.2.2.1 p.2.2.2.2.2.2.2.2.2.2.1 p.2.2.2.2.2.2.2.2.2.2.2.1 p.2.2.2.2.2.2.2.2.2.2.2.2.1 p.2.2.2.2.2.2.2.2.2.2.2.2.2.1 p.2.2.2.2.2.2.2.2.2.2.2.2.2.2) (fun p => m p.1 p.2.1 p.2.2.1 p.2.2.2.1 p.2.2.2.2.1 p.2.2.2.2.2.1 p.2.2.2.2.2.2.1 p.2.2.2.2.2.2.2.1 p.2.2.2.2.2.2.2.2.1 p.2.2.2.2.2.2.2.2.2.1 p.2.2.2.2.2.2.2.2.2.2.1 p.2.2.2.2.2.2.2.2.2.2.2.1 p.2.2.2.2.2.2.2.2.2.2.2.2.1 p.2.2.2.2.2.2.2.2.2.2.2.2.2.1 p.2.2.2.2.2.2.2.2.2.2.2.2.2.2) (i0, i1, i2, i3, i4, i5, i6, i7, i8, i9, i10, i11, i12, i13, i14)) Q) body (mods i0 i1 i2 i3 i4 i5 i6 i7 i8 i9 i10 i11 i12 i13 i14 ++ base) (Hf i0 i1 i2 i3 i4 i5 i6 i7 i8 i9 i10 i11 i12 i13 i14)) : C P κ Q (.loop body) L H :=
  c_loop (fun p : ι0 × ι1 × ι2 × ι3 × ι4 × ι5 × ι6 × ι7 × ι8 × ι9 × ι10 × ι11 × ι12 × ι13 × ι14 => I p.1 p.2.1 p.2.2.1 p.2.2.2.1 p.2.2.2.2.1 p.2.2.2.2.2.1 p.2.2.2.2.2.2.1 p.2.2.2.2.2.2.2.1 p.2.2.2.2.2.2.2.2.1 p.2.2.2.2.2.2.2.2.2.1 p.2.2.2.2.2.2.2.2.2.2.1 p.2.2.2.2.2.2.2.2.2.2.2.1 p.2.2.2.2.2.2.2.2.2.2.2.2.1 p.2.2.2.2.2.2.2.2.2.2.2.2.2.1 p.2.2.2.2.2.2.2.2.2.2.2.2.2.2) (fun p => mods p.1 p.2.1 p.2.2.1 p.2.2.2.1 p.2.2.2.2.1 p.2.2.2.2.2.1 p.2.2.2.2.2.2.1 p.2.2.2.2.2.2.2.1 p.2.2.2.2.2.2.2.2.1 p.2.2.2.2.2.2.2.2.2.1 p.2.2.2.2.2.2.2.2.2.2.1 p.2.2.2.2.2.2.2.2.2.2.2.1 p.2.2.2.2.2.2.2.2.2.2.2.2.1 p.2.2.2.2.2.2.2.2.2.2.2.2.2.1 p.2.2.2.2.2.2.2.2.2.2.2.2.2.2 ++ base) (fun p => Hf p.1 p.2.1 p.2.2.1 p.2.2.2.1 p.2.2.2.2.1 p.2.2.2.2.2.1 p.2.2.2.2.2.2.1 p.2.2.2.2.2.2.2.1 p.2.2.2.2.2.2.2.2.1 p.2.2.2.2.2.2.2.2.2.1 p.2.2.2.2.2.2.2.2.2.2.1 p.2.2.2.2.2.2.2.2.2.2.2.1 p.2.2.2.2.2.2.2.2.2.2.2.2.1 p.2.2.2.2.2.2.2.2.2.2.2.2.2.1 p.2.2.2.2.2.2.2.2.2.2.2.2.2.2) (fun p => m p.1 p.2.1 p.2.2.1 p.2.2.2.1 p.2.2.2.2.1 p.2.2.2.2.2.1 p.2.2.2.2.2.2.1 p.2.2.2.2.2.2.2.1 p.2.2.2.2.2.2.2.2.1 p.2.2.2.2.2.2.2.2.2.1 p.2.2.2.2.2.2.2.2.2.2.1 p.2.2.2.2.2.2.2.2.2.2.2.1 p.2.2.2.2.2.2.2.2.2.2.2.2.1 p.2.2.2.2.2.2.2.2.2.2.2.2.2.1 p.2.2.2.2.2.2.2.2.2.2.2.2.2.2) (i0, i1, i2, i3, i4, i5, i6, i7, i8, i9, i10, i11, i12, i13, i14) h0 (hL.app hb) hH (fun p hp => round p.1 p.2.1 p.2.2.1 p.2.2.2.1 p.2.2.2.2.1 p.2.2.2.2.2.1 p.2.2.2.2.2.2.1 p.2.2.2.2.2.2.2.1 p.2.2.2.2.2.2.2.2.1 p.2.2.2.2.2.2.2.2.2.1 p.2.2.2.2.2.2.2.2.2.2.1 p.2.2.2.2.2.2.2.2.2.2.2.1 p.2.2.2.2.2.2.2.2.2.2.2.2.1 p.2.2.2.2.2.2.2.2.2.2.2.2.2.1 p.2.2.2.2.2.2.2.2.2.2.2.2.2.2 hp)
end
section
variable {P : Program} {κ : Cx} {Q : Pst} {L : Loc} {H H' : Hp} {ops : Array Oper} {rest : List Oper} {ty t t' kt : TypeId} {d : Nat} {pos : String} {af : Array Edge} {x y z : Operand} {K : Type} [DecidableEq K] {Ek : K → Value}
theorem o_ins2 {vt b c : Nat} {es : List (Mx K)} {k : K} {u : Value} {R : Hp} [ke : KE P kt Ek] [TU P t (.map kt vt)] (hx : ev L x = some (.map (some b))) (hy : ev L y = some (Ek k)) (hz : ev L z = some u)
    (hpk : Pick H [(b, mxO Ek es c)] R) (h : ∀ es' c', (∀ j, getM es' j = if j = k then some u else getM es j) → es'.length = es.length + (if (getM es k).isSome then 0 else 1) → O P κ ops Q rest L ((b, mxO Ek es' c') :: R)) : O P κ ops Q (⟨none, .insert t x y z, ty, pos, af, none⟩ :: rest) L H := by
  refine ⟨fun ro a w hro ok => op_want rfl ?_⟩
  have e1 := ok.fr.ev hx
  have e2 := ok.fr.ev hy
  have e3 := ok.fr.ev hz
  have st := ok.st.perm hpk.perm
  have ho := run_getObj2 (P := P) (st.has _ _ (List.mem_cons_self))
  obtain ⟨r, hr, hc⟩ := find_key2 (P := P) (kt := kt) (Ek := Ek) w k es
  have hck := fun b => ke.check w b k
  have key : ∃ es' c', (Instr.mapUpdate t (.map (some b)) (Ek k) u).run P w = .ok () { w with heap := w.heap.setIfInBounds b (mxO Ek es' c') } ∧ (∀ j, getM es' j = if j = k then some u else getM es j) ∧ es'.length = es.length + (if (getM es k).isSome then 0 else 1) := by
    rcases hc with ⟨h1, h2⟩ | ⟨j, v, h1, h2, ⟨e', he', hk⟩, h4⟩
    · refine ⟨es ++ [⟨k, u, c⟩], c + 1, ?_, fun j => getM_push h2 u c j, by rw [getM_none h2]; simp⟩
      unfold Instr.mapUpdate
      simp only [Sem.run_bind, run_u, Result.andThen_ok, ho, mxO, hck]
      rw [hr, h1]
      simp only [Result.andThen_ok]
      rw [run_setObj2 (P := P) (Ek := Ek) (es := es) (c := c) (st.has _ _ (List.mem_cons_self))]
      simp [mxO, Mx.enc]
    · refine ⟨putM u es k, c, ?_, fun j => getM_put ⟨e', List.mem_of_getElem? he', hk⟩ u j, by rw [h2, putM_len]; simp⟩
      have hj : ((es.map (Mx.enc Ek)).toArray[j]?).map (·.key) = some (Ek k) := by
        simp [he', Mx.enc, hk]
      have hkey : (((es.map (Mx.enc Ek)).toArray[j]?).map (·.key)).getD (Ek k) = Ek k := by rw [hj]; rfl
      unfold Instr.mapUpdate
      simp only [Sem.run_bind, run_u, Result.andThen_ok, ho, mxO, hck]
      rw [hr, h1]
      simp only [Result.andThen_ok, Nat.zero_add, Sem.run_bind]
      rw [hkey]
      simp only [Instr.keyThatStays, ke.bits, if_true, Sem.run_pure, Result.andThen_ok]
      rw [h4 u, run_setObj2 (P := P) (Ek := Ek) (es := es) (c := c) (st.has _ _ (List.mem_cons_self))]
  obtain ⟨es', c', hrun, hg, hlen⟩ := key
  have hx' : (execOp a.eval ⟨none, .insert t x y z, ty, pos, af, none⟩).run P w = .ok .skip { w with heap := w.heap.setIfInBounds b (mxO Ek es' c') } := by
    simp [execOp, e1, e2, e3, hrun]
  exact op_skip hx' ((h es' c' hg hlen).out ro _ _ hro.tail ⟨ok.fr, St.put st rfl rfl rfl rfl⟩)
end
end Go.HL
