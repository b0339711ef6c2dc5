/- Part of the proofs over this seat: see the text that holds the theorem. Conditions: each theorem bears its own. -/
import Derived.Test.YtmmajabfmhipeaaDoorHlB
import Derived.Deep.CondSized
import Derived.Test.YtmmajabfmhipeaaDoorRows
import Derived.Test.YtmmajabfmhipeaaDoorTF1
import Derived.ProofKit
import Derived.LaidMore
import Derived.Stop.Joined
import Derived.Lib.LaidTab
namespace Go.Proofs.YtmmajabfmhipeaaDoor
open Go Go.RowKit Go.ChangeShapes Go.WideShapes Go.ChangeAt Go.HL
/-! the second form: what its bound gives -/
theorem bulk_one {H : Type} (d : DataW H) : 1 ≤ Rows.uptoBulk d := by
  cases d with
  | lit l => cases l <;> simp [Rows.uptoBulk]
  | nil => simp [Rows.uptoBulk]
  | ptr d => simp [Rows.uptoBulk]
  | slice elems spare => simp [Rows.uptoBulk]
  | agg parts => simp [Rows.uptoBulk]
  | iface t d => simp [Rows.uptoBulk]
  | map entries => simp [Rows.uptoBulk]
  | held h => simp [Rows.uptoBulk]
theorem part_le {H : Type} {d : DataW H} {l : List (DataW H)} (h : d ∈ l) : Rows.uptoBulk d ≤ Rows.uptoBulkAll l := by
  induction l with
  | nil => cases h
  | cons x r ih =>
    simp only [Rows.uptoBulkAll]
    cases List.mem_cons.1 h with
    | inl e => subst e; omega
    | inr e => have := ih e; omega
theorem length_le {H : Type} (l : List (DataW H)) : l.length ≤ Rows.uptoBulkAll l := by
  induction l with
  | nil => simp [Rows.uptoBulkAll]
  | cons x r ih => have := bulk_one x; simp only [Rows.uptoBulkAll, List.length_cons]; omega
theorem slice_le {H : Type} (elems spare : List (DataW H)) : elems.length + spare.length + 1 ≤ Rows.uptoBulk (.slice elems spare) := by
  have h1 := length_le elems
  have h2 := length_le spare
  simp only [Rows.uptoBulk]
  omega
theorem slice_elems {H : Type} (elems spare : List (DataW H)) : Rows.uptoBulkAll elems + 1 ≤ Rows.uptoBulk (.slice elems spare) := by
  simp only [Rows.uptoBulk]
  omega
class OpensU (P : Program) (t : TypeId) {α : Type} (E : α → List Value) (Mem : World → α → Prop) : Prop where
  out : ∀ {H : Type} (enc : TypeId × Value → H) (w : World) (fuel : Nat) (cs : List Value) (x : DataW H × List MemPlace), DataW.trod enc P w 0 (fun _ => true) true fuel t cs = some x → (∀ n ∈ x.1.weights P t, n ≤ reachBytes) → Rows.uptoBulk x.1 ≤ 1048576 → ∃ a, cs = E a ∧ Mem w a
theorem opensU {P : Program} {t : TypeId} {α : Type} {E : α → List Value} {Mem : World → α → Prop} (h : Opens P t E Mem) : OpensU P t E Mem :=
  ⟨fun enc w fuel cs x h1 h2 _ => h.out enc w fuel cs x h1 h2⟩
theorem OpensU.arg {P : Program} {t : TypeId} {α : Type} {E : α → List Value} {Mem : World → α → Prop} (ho : OpensU P t E Mem) {H : Type} {enc : TypeId × Value → H} {w : World} {v : Value} {d : DataW H} {p : List MemPlace} (h : DataW.Trod enc P w 0 (fun _ => true) true t v d p) (hw : ∀ n ∈ d.weights P t, n ≤ reachBytes) (hB : Rows.uptoBulk d ≤ 1048576) :
    ∃ a, v.cells.toList = E a ∧ Mem w a := by
  obtain ⟨fuel, hf⟩ := h
  exact ho.out enc w fuel _ _ hf hw hB
theorem argU_slice {P : Program} {t e : TypeId} {α : Type} {Mem : World → Sl α → Prop} (ht : P.underlying t = some (.slice e)) (ho : OpensU P t (Esl (α := α)) Mem) {H : Type} {enc : TypeId × Value → H} {w : World} {v : Value} {d : DataW H} {p : List MemPlace}
    (hv : ∃ b, Value.okWide P w .any b t v) (h : DataW.Trod enc P w 0 (fun _ => true) true t v d p) (hw : ∀ n ∈ d.weights P t, n ≤ reachBytes) (hB : Rows.uptoBulk d ≤ 1048576) : ∃ s : Sl α, v = s.v ∧ Mem w s := by
  obtain ⟨b, hv⟩ := hv
  obtain ⟨a, l, c, rfl⟩ := okWide_slice ht hv
  obtain ⟨s, h1, h2⟩ := ho.arg h hw hB
  exact ⟨s, by simpa [Value.cells, Esl] using h1, h2⟩
theorem argU_struct {P : Program} {t : Nat} {fs : Array Field} {α : Type} {E : α → List Value} {Mem : World → α → Prop} (ht : P.underlying t = some (.struct fs)) (ho : OpensU P t E Mem) {H : Type} {enc : TypeId × Value → H} {w : World} {v : Value} {d : DataW H} {p : List MemPlace}
    (hv : ∃ b, Value.okWide P w .any b t v) (h : DataW.Trod enc P w 0 (fun _ => true) true t v d p) (hw : ∀ n ∈ d.weights P t, n ≤ reachBytes) (hB : Rows.uptoBulk d ≤ 1048576) : ∃ x : α, v = .agg (E x).toArray ∧ Mem w x := by
  obtain ⟨b, hv⟩ := hv
  simp only [Value.okWide, ht] at hv
  obtain ⟨cs, rfl, _⟩ := hv
  obtain ⟨s, h1, h2⟩ := ho.arg h hw hB
  simp only [Value.cells] at h1
  exact ⟨s, by rw [← h1], h2⟩
theorem openU_slice {P : Program} {t e : TypeId} {α : Type} {E : α → List Value} {Mem : World → α → Prop} {k : Nat} [he : Enc E k] (ht : P.underlying t = some (.slice e)) (hk : P.cellsOf e = k) (hk0 : 0 < k) (hb : 0 < P.bytesOf e) (ho : OpensU P e E Mem) :
    OpensU P t (Esl (α := α)) (fun w s => Rd E w s.v s.xs ∧ (∀ x ∈ s.xs, Mem w x) ∧ s.xs.length ≤ 1048576) := by
  refine ⟨fun enc w fuel cs x h hw hB => ?_⟩
  rcases DataW.trod_slice ht h with ⟨rfl, _⟩ | ⟨a, len, cap, elems, rest, n, _, rfl, hx, _, hl, _, hlen, hel, hsp, _⟩
  · exact ⟨⟨none, 0, []⟩, rfl, Rd.nil E w, by simp, by simp⟩
  · obtain ⟨hr, _⟩ := hsp rfl
    have hwt : (elems.length + rest.length) * P.bytesOf e ≤ 140737488351232 := by
      have := hw ((elems.length + rest.length) * P.bytesOf e) (by rw [hx]; simp [DataW.weights, ht])
      simpa [reachBytes] using this
    have hcl : cap ≤ 140737488351232 := by
      have h1 : (elems.length + rest.length) ≤ (elems.length + rest.length) * P.bytesOf e := Nat.le_mul_of_pos_right _ hb
      omega
    have each : ∀ i, i < len → ∃ y, E y = (List.range k).map (fun j => (w.cell? ((a.add (i * k)).add j)).getD undef) ∧ (∀ j, j < k → w.cell? ((a.add (i * k)).add j) = (E y)[j]?) ∧ Mem w y := by
      intro i hi
      have h1 := hel i hi
      rw [List.getElem?_eq_getElem (by omega)] at h1
      simp only [Option.bind_eq_some_iff] at h1
      obtain ⟨cs', hcs, hy⟩ := h1
      rw [hk] at hcs
      obtain ⟨y, rfl, hm⟩ := ho.out enc w n cs' _ hy (fun n hn => hw n (by
        rw [hx]
        simp only [DataW.weights, ht, List.mem_cons, List.mem_append]
        refine .inr (.inl (weightsAll_mem (List.mem_map.2 ⟨elems[i], List.getElem_mem _, rfl⟩) n hn)))) (by
        rw [hx] at hB
        have h5 := slice_elems (elems.map (·.1)) (rest.map (·.1))
        have h6 := part_le (List.mem_map.2 ⟨elems[i], List.getElem_mem _, rfl⟩ : elems[i].1 ∈ elems.map (·.1))
        simp only at hB
        omega)
      obtain ⟨_, h2, h3⟩ := World.cells?_some hcs
      refine ⟨y, ?_, h3, hm⟩
      apply List.ext_getElem?
      intro j
      by_cases hj : j < k
      · rw [List.getElem?_map, List.getElem?_range hj, Option.map_some, h3 j hj, List.getElem?_eq_getElem (by rw [he.len]; exact hj)]
        rfl
      · rw [List.getElem?_eq_none (by rw [he.len]; omega), List.getElem?_eq_none (by simp; omega)]
    obtain ⟨xs, hxl, hxs⟩ := list_of len each
    have hspot : len ≠ 0 → a.spot = none := by
      intro h0
      have hy := List.getElem?_eq_getElem (l := xs) (i := 0) (by omega)
      obtain ⟨_, h3, _⟩ := hxs 0 _ hy
      have h4 := h3 0 hk0
      rw [List.getElem?_eq_getElem (by rw [he.len]; exact hk0)] at h4
      simp only [Nat.zero_mul] at h4
      cases hs : a.spot with
      | none => rfl
      | some q =>
        have e : (a.add 0).add 0 = a := rfl
        rw [e] at h4
        unfold World.cell? at h4
        rw [hs] at h4
        simp at h4
        split at h4 <;> simp at h4
    subst hxl
    refine ⟨⟨some a, cap, xs⟩, rfl, ⟨⟨⟨some a, cap, rfl, hl, (fun h => by cases h), (fun A hA h0 => by cases hA; exact hspot h0)⟩, by show xs.length ≤ _; omega⟩, fun j u hu => ?_⟩, fun x hx' => ?_, ?_⟩
    · have hj : j < xs.length * k := by
        rcases Nat.lt_or_ge j (xs.length * k) with h' | h'
        · exact h'
        · rw [List.getElem?_eq_none (by rw [flat_len]; exact h')] at hu; cases hu
      have hq : j / k < xs.length := (Nat.div_lt_iff_lt_mul hk0).2 hj
      have hr' : j % k < k := Nat.mod_lt _ hk0
      have e0 : j / k * k + j % k = j := by rw [Nat.mul_comm]; exact Nat.div_add_mod j k
      have hy := List.getElem?_eq_getElem hq
      have hu2 := flat_get E xs hy hr'
      rw [e0, hu] at hu2
      obtain ⟨_, h3, _⟩ := hxs _ _ hy
      rw [← h3 _ hr'] at hu2
      have hsn := hspot (fun h0 => absurd (h0 ▸ hq) (Nat.not_lt_zero _))
      obtain ⟨b, o, sp⟩ := a
      simp only at hsn; subst hsn
      rw [Addr.add_lit, Addr.add_lit] at hu2
      rw [show ea (Sl.v ⟨some ⟨b, o, none⟩, cap, xs⟩) j = ⟨b, o + j, none⟩ from rfl, hu2]
      have e3 : o + j = o + j / k * k + j % k := by rw [Nat.add_assoc, e0]
      rw [e3]
    · obtain ⟨i, hi, rfl⟩ := List.getElem_of_mem hx'
      exact (hxs i _ (List.getElem?_eq_getElem hi)).2.2
    · rw [hx] at hB
      have h5 := slice_le (elems.map (·.1)) (rest.map (·.1))
      simp only [List.length_map] at h5 hB
      show xs.length ≤ 1048576
      omega
theorem trodU_fields {P : Program} {t : TypeId} {fs : Array Field} {H : Type} {enc : TypeId × Value → H} {w : World} {fuel : Nat} {cs : List Value} {x : DataW H × List MemPlace} (ht : P.underlying t = some (.struct fs)) (h : DataW.trod enc P w 0 (fun _ => true) true fuel t cs = some x)
    (hw : ∀ n ∈ x.1.weights P t, n ≤ reachBytes) (hB : Rows.uptoBulk x.1 ≤ 1048576) : cs.length = P.cellsOf t ∧ ∃ n, ∀ (i : Nat) (f : Field), fs[i]? = some f → ∃ y, DataW.trod enc P w 0 (fun _ => true) true n f.type ((cs.drop f.offset).take (P.cellsOf f.type)) = some y ∧ (∀ q ∈ y.1.weights P f.type, q ≤ reachBytes) ∧ Rows.uptoBulk y.1 ≤ 1048576 := by
  obtain ⟨xs, n, _, rfl, hl, hlen, hf⟩ := DataW.trod_struct ht h
  refine ⟨hl, n, fun i f hi => ?_⟩
  have h1 := hf i f hi
  have hlt : i < xs.length := by
    rw [hlen]
    rcases Nat.lt_or_ge i fs.size with h' | h'
    · exact h'
    · rw [Array.getElem?_eq_none h'] at hi; cases hi
  rw [List.getElem?_eq_getElem hlt] at h1
  refine ⟨_, h1, fun q hq => hw q ?_, ?_⟩
  · simp only [DataW.weights, ht]
    refine DataW.weights_mem_each (ts := fs.toList.map (·.type)) (ds := xs.map (·.1)) (j := i) (t := f.type) (d := xs[i].1) ?_ ?_ q hq
    · rw [List.getElem?_map, Array.getElem?_toList, hi]; rfl
    · rw [List.getElem?_map, List.getElem?_eq_getElem hlt]; rfl
  · have h6 := part_le (List.mem_map.2 ⟨xs[i], List.getElem_mem _, rfl⟩ : xs[i].1 ∈ xs.map (·.1))
    simp only [Rows.uptoBulk] at hB
    omega
theorem openU_struct2 {P : Program} {t : TypeId} {f0 f1 : Field} {α0 α1 γ : Type} {E0 : α0 → List Value} {E1 : α1 → List Value} {E : γ → List Value} {M0 : World → α0 → Prop} {M1 : World → α1 → Prop} {Mem : World → γ → Prop}
    (ht : P.underlying t = some (.struct #[f0, f1])) (h0 : f0.offset = 0) (h1 : f1.offset = P.cellsOf f0.type) (hc : P.cellsOf t = P.cellsOf f0.type + P.cellsOf f1.type)
    (o0 : OpensU P f0.type E0 M0) (o1 : OpensU P f1.type E1 M1) (mk : ∀ w x0 x1, M0 w x0 → M1 w x1 → ∃ z, E z = E0 x0 ++ (E1 x1) ∧ Mem w z) : OpensU P t E Mem := by
  refine ⟨fun enc w fuel cs x h hw hB => ?_⟩
  obtain ⟨hl, n, hf⟩ := trodU_fields ht h hw hB
  obtain ⟨y0, e0, w0, b0⟩ := hf 0 f0 rfl
  obtain ⟨y1, e1, w1, b1⟩ := hf 1 f1 rfl
  obtain ⟨x0, hx0, m0⟩ := o0.out enc w _ _ _ e0 w0 b0
  obtain ⟨x1, hx1, m1⟩ := o1.out enc w _ _ _ e1 w1 b1
  obtain ⟨z, hz, hm⟩ := mk w x0 x1 m0 m1
  refine ⟨z, ?_, hm⟩
  rw [hz, ← hx0, ← hx1, h0, h1, List.drop_zero, List.take_of_length_le (l := cs.drop (P.cellsOf f0.type)) (by rw [List.length_drop]; omega), List.take_append_drop]
theorem openU_struct3 {P : Program} {t : TypeId} {f0 f1 f2 : Field} {α0 α1 α2 γ : Type} {E0 : α0 → List Value} {E1 : α1 → List Value} {E2 : α2 → List Value} {E : γ → List Value} {M0 : World → α0 → Prop} {M1 : World → α1 → Prop} {M2 : World → α2 → Prop} {Mem : World → γ → Prop}
    (ht : P.underlying t = some (.struct #[f0, f1, f2])) (h0 : f0.offset = 0) (h1 : f1.offset = P.cellsOf f0.type) (h2 : f2.offset = P.cellsOf f0.type + P.cellsOf f1.type) (hc : P.cellsOf t = P.cellsOf f0.type + P.cellsOf f1.type + P.cellsOf f2.type)
    (o0 : OpensU P f0.type E0 M0) (o1 : OpensU P f1.type E1 M1) (o2 : OpensU P f2.type E2 M2) (mk : ∀ w x0 x1 x2, M0 w x0 → M1 w x1 → M2 w x2 → ∃ z, E z = E0 x0 ++ (E1 x1 ++ (E2 x2)) ∧ Mem w z) : OpensU P t E Mem := by
  refine ⟨fun enc w fuel cs x h hw hB => ?_⟩
  obtain ⟨hl, n, hf⟩ := trodU_fields ht h hw hB
  obtain ⟨y0, e0, w0, b0⟩ := hf 0 f0 rfl
  obtain ⟨y1, e1, w1, b1⟩ := hf 1 f1 rfl
  obtain ⟨y2, e2, w2, b2⟩ := hf 2 f2 rfl
  obtain ⟨x0, hx0, m0⟩ := o0.out enc w _ _ _ e0 w0 b0
  obtain ⟨x1, hx1, m1⟩ := o1.out enc w _ _ _ e1 w1 b1
  obtain ⟨x2, hx2, m2⟩ := o2.out enc w _ _ _ e2 w2 b2
  obtain ⟨z, hz, hm⟩ := mk w x0 x1 x2 m0 m1 m2
  refine ⟨z, ?_, hm⟩
  rw [hz, ← hx0, ← hx1, ← hx2, h0, h1, h2, List.drop_zero, List.take_of_length_le (l := cs.drop (P.cellsOf f0.type + P.cellsOf f1.type)) (by rw [List.length_drop]; omega), ← cells_split, List.take_append_drop]
theorem openU_struct4 {P : Program} {t : TypeId} {f0 f1 f2 f3 : Field} {α0 α1 α2 α3 γ : Type} {E0 : α0 → List Value} {E1 : α1 → List Value} {E2 : α2 → List Value} {E3 : α3 → List Value} {E : γ → List Value} {M0 : World → α0 → Prop} {M1 : World → α1 → Prop} {M2 : World → α2 → Prop} {M3 : World → α3 → Prop} {Mem : World → γ → Prop}
    (ht : P.underlying t = some (.struct #[f0, f1, f2, f3])) (h0 : f0.offset = 0) (h1 : f1.offset = P.cellsOf f0.type) (h2 : f2.offset = P.cellsOf f0.type + P.cellsOf f1.type) (h3 : f3.offset = P.cellsOf f0.type + P.cellsOf f1.type + P.cellsOf f2.type) (hc : P.cellsOf t = P.cellsOf f0.type + P.cellsOf f1.type + P.cellsOf f2.type + P.cellsOf f3.type)
    (o0 : OpensU P f0.type E0 M0) (o1 : OpensU P f1.type E1 M1) (o2 : OpensU P f2.type E2 M2) (o3 : OpensU P f3.type E3 M3) (mk : ∀ w x0 x1 x2 x3, M0 w x0 → M1 w x1 → M2 w x2 → M3 w x3 → ∃ z, E z = E0 x0 ++ (E1 x1 ++ (E2 x2 ++ (E3 x3))) ∧ Mem w z) : OpensU P t E Mem := by
  refine ⟨fun enc w fuel cs x h hw hB => ?_⟩
  obtain ⟨hl, n, hf⟩ := trodU_fields ht h hw hB
  obtain ⟨y0, e0, w0, b0⟩ := hf 0 f0 rfl
  obtain ⟨y1, e1, w1, b1⟩ := hf 1 f1 rfl
  obtain ⟨y2, e2, w2, b2⟩ := hf 2 f2 rfl
  obtain ⟨y3, e3, w3, b3⟩ := hf 3 f3 rfl
  obtain ⟨x0, hx0, m0⟩ := o0.out enc w _ _ _ e0 w0 b0
  obtain ⟨x1, hx1, m1⟩ := o1.out enc w _ _ _ e1 w1 b1
  obtain ⟨x2, hx2, m2⟩ := o2.out enc w _ _ _ e2 w2 b2
  obtain ⟨x3, hx3, m3⟩ := o3.out enc w _ _ _ e3 w3 b3
  obtain ⟨z, hz, hm⟩ := mk w x0 x1 x2 x3 m0 m1 m2 m3
  refine ⟨z, ?_, hm⟩
  rw [hz, ← hx0, ← hx1, ← hx2, ← hx3, h0, h1, h2, h3, List.drop_zero, List.take_of_length_le (l := cs.drop (P.cellsOf f0.type + P.cellsOf f1.type + P.cellsOf f2.type)) (by rw [List.length_drop]; omega), ← cells_split, ← cells_split, List.take_append_drop]
theorem openU_struct5 {P : Program} {t : TypeId} {f0 f1 f2 f3 f4 : Field} {α0 α1 α2 α3 α4 γ : Type} {E0 : α0 → List Value} {E1 : α1 → List Value} {E2 : α2 → List Value} {E3 : α3 → List Value} {E4 : α4 → List Value} {E : γ → List Value} {M0 : World → α0 → Prop} {M1 : World → α1 → Prop} {M2 : World → α2 → Prop} {M3 : World → α3 → Prop} {M4 : World → α4 → Prop} {Mem : World → γ → Prop}
    (ht : P.underlying t = some (.struct #[f0, f1, f2, f3, f4])) (h0 : f0.offset = 0) (h1 : f1.offset = P.cellsOf f0.type) (h2 : f2.offset = P.cellsOf f0.type + P.cellsOf f1.type) (h3 : f3.offset = P.cellsOf f0.type + P.cellsOf f1.type + P.cellsOf f2.type) (h4 : f4.offset = P.cellsOf f0.type + P.cellsOf f1.type + P.cellsOf f2.type + P.cellsOf f3.type) (hc : P.cellsOf t = P.cellsOf f0.type + P.cellsOf f1.type + P.cellsOf f2.type + P.cellsOf f3.type + P.cellsOf f4.type)
    (o0 : OpensU P f0.type E0 M0) (o1 : OpensU P f1.type E1 M1) (o2 : OpensU P f2.type E2 M2) (o3 : OpensU P f3.type E3 M3) (o4 : OpensU P f4.type E4 M4) (mk : ∀ w x0 x1 x2 x3 x4, M0 w x0 → M1 w x1 → M2 w x2 → M3 w x3 → M4 w x4 → ∃ z, E z = E0 x0 ++ (E1 x1 ++ (E2 x2 ++ (E3 x3 ++ (E4 x4)))) ∧ Mem w z) : OpensU P t E Mem := by
  refine ⟨fun enc w fuel cs x h hw hB => ?_⟩
  obtain ⟨hl, n, hf⟩ := trodU_fields ht h hw hB
  obtain ⟨y0, e0, w0, b0⟩ := hf 0 f0 rfl
  obtain ⟨y1, e1, w1, b1⟩ := hf 1 f1 rfl
  obtain ⟨y2, e2, w2, b2⟩ := hf 2 f2 rfl
  obtain ⟨y3, e3, w3, b3⟩ := hf 3 f3 rfl
  obtain ⟨y4, e4, w4, b4⟩ := hf 4 f4 rfl
  obtain ⟨x0, hx0, m0⟩ := o0.out enc w _ _ _ e0 w0 b0
  obtain ⟨x1, hx1, m1⟩ := o1.out enc w _ _ _ e1 w1 b1
  obtain ⟨x2, hx2, m2⟩ := o2.out enc w _ _ _ e2 w2 b2
  obtain ⟨x3, hx3, m3⟩ := o3.out enc w _ _ _ e3 w3 b3
  obtain ⟨x4, hx4, m4⟩ := o4.out enc w _ _ _ e4 w4 b4
  obtain ⟨z, hz, hm⟩ := mk w x0 x1 x2 x3 x4 m0 m1 m2 m3 m4
  refine ⟨z, ?_, hm⟩
  rw [hz, ← hx0, ← hx1, ← hx2, ← hx3, ← hx4, h0, h1, h2, h3, h4, List.drop_zero, List.take_of_length_le (l := cs.drop (P.cellsOf f0.type + P.cellsOf f1.type + P.cellsOf f2.type + P.cellsOf f3.type)) (by rw [List.length_drop]; omega), ← cells_split, ← cells_split, ← cells_split, List.take_append_drop]
theorem openU_struct6 {P : Program} {t : TypeId} {f0 f1 f2 f3 f4 f5 : Field} {α0 α1 α2 α3 α4 α5 γ : Type} {E0 : α0 → List Value} {E1 : α1 → List Value} {E2 : α2 → List Value} {E3 : α3 → List Value} {E4 : α4 → List Value} {E5 : α5 → List Value} {E : γ → List Value} {M0 : World → α0 → Prop} {M1 : World → α1 → Prop} {M2 : World → α2 → Prop} {M3 : World → α3 → Prop} {M4 : World → α4 → Prop} {M5 : World → α5 → Prop} {Mem : World → γ → Prop}
    (ht : P.underlying t = some (.struct #[f0, f1, f2, f3, f4, f5])) (h0 : f0.offset = 0) (h1 : f1.offset = P.cellsOf f0.type) (h2 : f2.offset = P.cellsOf f0.type + P.cellsOf f1.type) (h3 : f3.offset = P.cellsOf f0.type + P.cellsOf f1.type + P.cellsOf f2.type) (h4 : f4.offset = P.cellsOf f0.type + P.cellsOf f1.type + P.cellsOf f2.type + P.cellsOf f3.type) (h5 : f5.offset = P.cellsOf f0.type + P.cellsOf f1.type + P.cellsOf f2.type + P.cellsOf f3.type + P.cellsOf f4.type) (hc : P.cellsOf t = P.cellsOf f0.type + P.cellsOf f1.type + P.cellsOf f2.type + P.cellsOf f3.type + P.cellsOf f4.type + P.cellsOf f5.type)
    (o0 : OpensU P f0.type E0 M0) (o1 : OpensU P f1.type E1 M1) (o2 : OpensU P f2.type E2 M2) (o3 : OpensU P f3.type E3 M3) (o4 : OpensU P f4.type E4 M4) (o5 : OpensU P f5.type E5 M5) (mk : ∀ w x0 x1 x2 x3 x4 x5, M0 w x0 → M1 w x1 → M2 w x2 → M3 w x3 → M4 w x4 → M5 w x5 → ∃ z, E z = E0 x0 ++ (E1 x1 ++ (E2 x2 ++ (E3 x3 ++ (E4 x4 ++ (E5 x5))))) ∧ Mem w z) : OpensU P t E Mem := by
  refine ⟨fun enc w fuel cs x h hw hB => ?_⟩
  obtain ⟨hl, n, hf⟩ := trodU_fields ht h hw hB
  obtain ⟨y0, e0, w0, b0⟩ := hf 0 f0 rfl
  obtain ⟨y1, e1, w1, b1⟩ := hf 1 f1 rfl
  obtain ⟨y2, e2, w2, b2⟩ := hf 2 f2 rfl
  obtain ⟨y3, e3, w3, b3⟩ := hf 3 f3 rfl
  obtain ⟨y4, e4, w4, b4⟩ := hf 4 f4 rfl
  obtain ⟨y5, e5, w5, b5⟩ := hf 5 f5 rfl
  obtain ⟨x0, hx0, m0⟩ := o0.out enc w _ _ _ e0 w0 b0
  obtain ⟨x1, hx1, m1⟩ := o1.out enc w _ _ _ e1 w1 b1
  obtain ⟨x2, hx2, m2⟩ := o2.out enc w _ _ _ e2 w2 b2
  obtain ⟨x3, hx3, m3⟩ := o3.out enc w _ _ _ e3 w3 b3
  obtain ⟨x4, hx4, m4⟩ := o4.out enc w _ _ _ e4 w4 b4
  obtain ⟨x5, hx5, m5⟩ := o5.out enc w _ _ _ e5 w5 b5
  obtain ⟨z, hz, hm⟩ := mk w x0 x1 x2 x3 x4 x5 m0 m1 m2 m3 m4 m5
  refine ⟨z, ?_, hm⟩
  rw [hz, ← hx0, ← hx1, ← hx2, ← hx3, ← hx4, ← hx5, h0, h1, h2, h3, h4, h5, List.drop_zero, List.take_of_length_le (l := cs.drop (P.cellsOf f0.type + P.cellsOf f1.type + P.cellsOf f2.type + P.cellsOf f3.type + P.cellsOf f4.type)) (by rw [List.length_drop]; omega), ← cells_split, ← cells_split, ← cells_split, ← cells_split, List.take_append_drop]
theorem openU_struct7 {P : Program} {t : TypeId} {f0 f1 f2 f3 f4 f5 f6 : Field} {α0 α1 α2 α3 α4 α5 α6 γ : Type} {E0 : α0 → List Value} {E1 : α1 → List Value} {E2 : α2 → List Value} {E3 : α3 → List Value} {E4 : α4 → List Value} {E5 : α5 → List Value} {E6 : α6 → List Value} {E : γ → List Value} {M0 : World → α0 → Prop} {M1 : World → α1 → Prop} {M2 : World → α2 → Prop} {M3 : World → α3 → Prop} {M4 : World → α4 → Prop} {M5 : World → α5 → Prop} {M6 : World → α6 → Prop} {Mem : World → γ → Prop}
    (ht : P.underlying t = some (.struct #[f0, f1, f2, f3, f4, f5, f6])) (h0 : f0.offset = 0) (h1 : f1.offset = P.cellsOf f0.type) (h2 : f2.offset = P.cellsOf f0.type + P.cellsOf f1.type) (h3 : f3.offset = P.cellsOf f0.type + P.cellsOf f1.type + P.cellsOf f2.type) (h4 : f4.offset = P.cellsOf f0.type + P.cellsOf f1.type + P.cellsOf f2.type + P.cellsOf f3.type) (h5 : f5.offset = P.cellsOf f0.type + P.cellsOf f1.type + P.cellsOf f2.type + P.cellsOf f3.type + P.cellsOf f4.type) (h6 : f6.offset = P.cellsOf f0.type + P.cellsOf f1.type + P.cellsOf f2.type + P.cellsOf f3.type + P.cellsOf f4.type + P.cellsOf f5.type) (hc : P.cellsOf t = P.cellsOf f0.type + P.cellsOf f1.type + P.cellsOf f2.type + P.cellsOf f3.type + P.cellsOf f4.type + P.cellsOf f5.type + P.cellsOf f6.type)
    (o0 : OpensU P f0.type E0 M0) (o1 : OpensU P f1.type E1 M1) (o2 : OpensU P f2.type E2 M2) (o3 : OpensU P f3.type E3 M3) (o4 : OpensU P f4.type E4 M4) (o5 : OpensU P f5.type E5 M5) (o6 : OpensU P f6.type E6 M6) (mk : ∀ w x0 x1 x2 x3 x4 x5 x6, M0 w x0 → M1 w x1 → M2 w x2 → M3 w x3 → M4 w x4 → M5 w x5 → M6 w x6 → ∃ z, E z = E0 x0 ++ (E1 x1 ++ (E2 x2 ++ (E3 x3 ++ (E4 x4 ++ (E5 x5 ++ (E6 x6)))))) ∧ Mem w z) : OpensU P t E Mem := by
  refine ⟨fun enc w fuel cs x h hw hB => ?_⟩
  obtain ⟨hl, n, hf⟩ := trodU_fields ht h hw hB
  obtain ⟨y0, e0, w0, b0⟩ := hf 0 f0 rfl
  obtain ⟨y1, e1, w1, b1⟩ := hf 1 f1 rfl
  obtain ⟨y2, e2, w2, b2⟩ := hf 2 f2 rfl
  obtain ⟨y3, e3, w3, b3⟩ := hf 3 f3 rfl
  obtain ⟨y4, e4, w4, b4⟩ := hf 4 f4 rfl
  obtain ⟨y5, e5, w5, b5⟩ := hf 5 f5 rfl
  obtain ⟨y6, e6, w6, b6⟩ := hf 6 f6 rfl
  obtain ⟨x0, hx0, m0⟩ := o0.out enc w _ _ _ e0 w0 b0
  obtain ⟨x1, hx1, m1⟩ := o1.out enc w _ _ _ e1 w1 b1
  obtain ⟨x2, hx2, m2⟩ := o2.out enc w _ _ _ e2 w2 b2
  obtain ⟨x3, hx3, m3⟩ := o3.out enc w _ _ _ e3 w3 b3
  obtain ⟨x4, hx4, m4⟩ := o4.out enc w _ _ _ e4 w4 b4
  obtain ⟨x5, hx5, m5⟩ := o5.out enc w _ _ _ e5 w5 b5
  obtain ⟨x6, hx6, m6⟩ := o6.out enc w _ _ _ e6 w6 b6
  obtain ⟨z, hz, hm⟩ := mk w x0 x1 x2 x3 x4 x5 x6 m0 m1 m2 m3 m4 m5 m6
  refine ⟨z, ?_, hm⟩
  rw [hz, ← hx0, ← hx1, ← hx2, ← hx3, ← hx4, ← hx5, ← hx6, h0, h1, h2, h3, h4, h5, h6, List.drop_zero, List.take_of_length_le (l := cs.drop (P.cellsOf f0.type + P.cellsOf f1.type + P.cellsOf f2.type + P.cellsOf f3.type + P.cellsOf f4.type + P.cellsOf f5.type)) (by rw [List.length_drop]; omega), ← cells_split, ← cells_split, ← cells_split, ← cells_split, ← cells_split, List.take_append_drop]
theorem lift_lawDU {C : Checked} {os : Os} {f : FuncId} {fn : Func} {s : ChangeSpec} {bt : TypeId} {H : Type} {enc : TypeId × Value → H} {F : Stop.Interp} {laid : List (String × DataW Unit)}
    (own : ownKnob C.prog.godebug = none) (started : os.Started) (noInit : C.prog.inits.idxOf? f = none) (hfn : C.prog.funcs[f]? = some fn)
    (witness : ∃ (w : World) (tape : Tape) (i : Input), w.os = os ∧ (w.forCall tape i).Shaped C.prog ∧ i.vars = [] ∧ Input.okWide C.prog (w.forCall tape i) .any w.heap.size f i ∧
      (((Rows.OpenSpec.upto s).pre enc C.prog fn [] false (w.forCall tape i).memory i.args ∧ laidMetH C.prog laid (w.forCall tape i).memory) ∧ sizedMet enc C.prog fn (Rows.OpenSpec.upto s) false (w.forCall tape i).memory i.args) ∧ ({} : Assume).holds C.prog (lone (Frame.enter C.prog f i.args .normal) [] (w.forCall tape i)))
    (hvars : s.vars = []) (hres : fn.resultTypes = #[bt]) (hbt : C.prog.underlying bt = some .bool) (hlaid : laidOutB C.prog = true)
    (hread : fn.params.toList.all (fun t => C.prog.readableRec t && decide (t < C.prog.types.size)) = true)
    (hspec : ∀ (H : Type) (ds : List (DataW H)), ds.length = fn.params.toList.length → s.fn H (ds ++ []) = { results := [.lit (.bool true)], args := ds })
    (contract : ∀ (W : World) (args : Array Value) (ds : List (DataW H)) (ps : List MemPlace), DataW.TrodAll enc C.prog W 0 (fun _ => true) true fn.params.toList args.toList ds ps →
      (∀ (j : Nat) t v, fn.params[j]? = some t → args[j]? = some v → ∃ b, Value.okWide C.prog W .any b t v) →
      (∀ n ∈ DataW.weightsEach C.prog fn.params.toList ds, n ≤ reachBytes) → Rows.uptoBulkAll ds ≤ 1048576 → Calls C.prog f args W (Post W [] (fun v _ => v = .bool true))) :
    ReturnsInHanded {} C os f .any (fun w args => ((Rows.OpenSpec.upto s).pre enc C.prog fn [] false w args ∧ laidMetH C.prog laid w) ∧ sizedMet enc C.prog fn (Rows.OpenSpec.upto s) false w args) (((Rows.OpenSpec.upto s).at F).post enc C.prog fn false true false false) := by
  refine returnsInHanded_of_calls own started noInit witness ?_
  intro w tape i _ _ _ hok hpre hholds
  obtain ⟨_, _, _, fn', hfn', _, _, _, _, hval⟩ := hok
  have e : fn' = fn := Option.some.inj (hfn'.symm.trans hfn)
  subst e
  obtain ⟨ds, gs, before, hw, hc, hk⟩ := (OpenSpec.pre_some (k := Rows.uptoSmall) rfl [] false _ _).1 hpre.1.1
  have hW := DataW.Whole.of_heap (w' := w.forCall tape i) (by rfl) hw
  have hsz := hpre.2.weights hw
  have hW' := hW
  obtain ⟨p, q, hA, hV, rfl, _, _⟩ := hW
  have hV0 : DataW.TrodVars enc C.prog (w.forCall tape i) (fun _ => true) s.vars gs q := hV
  rw [hvars] at hV0
  obtain ⟨rfl, rfl⟩ := trodVars_none hV0
  have hsz' : ∀ n ∈ DataW.weightsEach C.prog fn'.params.toList ds, n ≤ reachBytes := by
    intro n hn
    have e : s.plain.varTypes C.prog = [] := by
      have : s.plain.vars = [] := hvars
      simp [DataSpec.varTypes, this]
    have e' : (Rows.OpenSpec.upto s).bare.plain.varTypes C.prog = [] := e
    rw [e'] at hsz
    simp only [List.append_nil] at hsz
    have := List.all_eq_true.1 hsz n hn
    simpa using this
  have hB : Rows.uptoBulkAll ds ≤ 1048576 := by
    rw [List.append_nil] at hk
    exact of_decide_eq_true hk
  refine (contract (w.forCall tape i) i.args ds p hA (fun j t v h1 h2 => ⟨_, hval j t v h1 h2⟩) hsz' hB).mono fun e W' hpost => ?_
  obtain ⟨v, S', rfl, rfl, st⟩ := hpost.out
  have bel : Below (w.forCall tape i).heap.size (w.forCall tape i) W' := ⟨st.os, st.tape, st.output, st.size, fun k hk => st.old k hk (by simp)⟩
  have e1 := hspec H ds (trodAll_len hA)
  have e2 : ((Rows.OpenSpec.upto s).at F).fn H (ds ++ []) = { results := [.lit (.bool true)], args := ds } := e1
  refine ChangeSpec.post_blind ⟨ds, [], _, [], p, [], hW', ?_, ?_, ?_, bel.frame _, fun h => by cases h⟩
  · rw [e2, hres]; exact trodAll_mk1 (shut_bool hbt _)
  · rw [e2]; exact trodAll_below hlaid bel hread hA
  · rw [e2, show ((Rows.OpenSpec.upto s).at F).vars = [] from hvars]; rfl
end Go.Proofs.YtmmajabfmhipeaaDoor
namespace Go.Proofs.YtmmajabfmhipeaaDoor
open Go Go.HL Go.Proofs
theorem own : ownKnob Tryd.prog.godebug = none := by kernel_rfl
theorem laidOut : laidOutB Tryd.prog = true := by kernel_rfl
/-- the door's own heap meets the condition -/
theorem door_met (os : Os) (args : Array Value) : laidMetH Tryd.prog Rows.tableAppliesRow.laid ((World.doorLaid Tryd.prog 400 os).forCall (fun _ _ => 0) ⟨#[], args, []⟩).memory :=
  laidMetH_of_parts3 (fuel := 8) (laidMet_of_run' 8 (by kernel_rfl) (by kernel_rfl)) (by kernel_rfl) (by kernel_rfl)
end Go.Proofs.YtmmajabfmhipeaaDoor
