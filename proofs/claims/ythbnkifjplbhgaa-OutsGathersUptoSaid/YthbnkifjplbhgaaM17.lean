/- Part of the proofs over this seat: see the text that holds the theorem. Conditions: each theorem bears its own. -/
import Derived.Test.YthbnkifjplbhgaaM11
namespace Go.Proofs.Ythbnkifjplbhgaa
open Go Go.HL Go.Proofs

/-- what the world that is there knows -/
theorem c_know {P : Program} {κ : Cx} {Q : Pst} {c : Code} {L : HL.Loc} {H : Hp} {p : Prop} (h : ∀ w, St κ.w0 w κ.M H → p) (k : p → C P κ Q c L H) : C P κ Q c L H :=
  ⟨fun ro a w hr ok => (k (h w ok.st)).out ro a w hr ok⟩
/-- the bytes that a step, and a script, hands in -/
def bytesO (o : OpV) : List UInt8 := if o.f = true then [] else (o.p.xs.map Sl.xs).flatten
def allB (sc : List OpV) : List UInt8 := (sc.map bytesO).flatten
theorem allB_take {sc : List OpV} {j : Nat} (h : j < sc.length) : allB (sc.take (j + 1)) = allB (sc.take j) ++ bytesO (op0 sc j) := by
  rw [allB, List.take_add_one, op0_get h, List.map_append, List.flatten_append]; simp [allB]
theorem allB_split {sc : List OpV} {j : Nat} (h : j < sc.length) : allB sc = allB (sc.take j) ++ (bytesO (op0 sc j) ++ allB (sc.drop (j + 1))) := by
  conv => lhs; rw [← List.take_append_drop (j + 1) sc]
  rw [allB, List.map_append, List.flatten_append]
  show allB (sc.take (j + 1)) ++ allB (sc.drop (j + 1)) = _
  rw [allB_take h, List.append_assoc]
theorem bytesO_len {o : OpV} : (bytesO o).length ≤ cost o := by
  unfold bytesO cost
  split
  · simp
  · omega
theorem allB_len {sc : List OpV} : (allB sc).length ≤ (sc.map cost).sum := by
  induction sc with
  | nil => simp [allB]
  | cons o l ih =>
    have h := bytesO_len (o := o)
    simp only [allB, List.map_cons, List.flatten_cons, List.length_append, List.sum_cons] at ih ⊢
    omega
theorem allB_tot {sc : List OpV} {j : Nat} : (allB (sc.take j)).length ≤ tot sc j := allB_len

/-- what a Write or a Flush of an output that never failed comes to -/
inductive GStep (lim : Int) (fl : Bool) (b : List UInt8) (u u' : OS) (e : Int) : Prop
  | keeps (h1 : u'.said = u.said) (h2 : u'.kept = u.kept ++ b) (h3 : u'.cnt = u.cnt) (h4 : u'.err = 0) (h5 : e = 0) (hd : ¬ (0 < (u.kept.length : Int) + b.length ∧ (fl = true ∨ lim ≤ (u.kept.length : Int) + b.length)))
  | goes (h1 : u'.said = u.said ++ [u.kept ++ b]) (h2 : u'.kept = []) (h3 : u'.cnt = u.cnt + ((u.kept.length : Int) + b.length)) (h4 : u'.err = 0) (h5 : e = 0) (hd : 0 < (u.kept.length : Int) + b.length ∧ (fl = true ∨ lim ≤ (u.kept.length : Int) + b.length))
theorem gHand {u : OS} {b : List UInt8} {lim : Int} {fl : Bool} (h0 : u.err = 0) (hd : fl = true ∨ lim ≤ (u.kept.length : Int) + b.length) : GStep lim fl b u (handS 0 0 (keepS u b)) (handE 0 0 (keepS u b)) := by
  unfold handS handE
  have hl : ((u.kept ++ b).length : Int) = u.kept.length + b.length := by simp
  split
  · rename_i hk
    have hk' : u.kept ++ b = [] := hk
    rw [hk'] at hl
    exact .keeps rfl rfl rfl h0 rfl (fun h => by have := h.1; simp only [List.length_nil] at hl; omega)
  · rename_i hk
    have hk' : u.kept ++ b ≠ [] := hk
    have hp : 0 < (u.kept ++ b).length := List.length_pos_iff.2 hk'
    rw [tookE0]
    refine .goes rfl rfl ?_ rfl rfl ⟨by omega, hd⟩
    show u.cnt + ((u.kept ++ b).length : Int) = _
    omega
theorem gWrite {u : OS} {b : List UInt8} {lim : Int} (h0 : u.err = 0) : GStep lim false b u (writeS lim 0 0 u b) (writeE lim 0 0 u b) := by
  unfold writeS writeE
  have hl : ((u.kept ++ b).length : Int) = u.kept.length + b.length := by simp
  have hn : ¬ u.err ≠ 0 := fun h => h h0
  rw [if_neg hn, if_neg hn]
  split
  · exact .keeps rfl rfl rfl h0 rfl (fun h => by rcases h.2 with h2 | h2; cases h2; omega)
  · exact gHand h0 (.inr (by omega))
theorem gFlush {u : OS} {lim : Int} (h0 : u.err = 0) : GStep lim true [] u (flushS 0 0 u) (flushE 0 0 u) := by
  unfold flushS flushE
  have hn : ¬ u.err ≠ 0 := fun h => h h0
  rw [if_neg hn, if_neg hn]
  have := gHand (u := u) (b := []) (lim := lim) (fl := true) h0 (.inl rfl)
  have e : keepS u [] = u := by cases u; simp [keepS]
  rwa [e] at this
theorem GStep.e0 {lim : Int} {fl : Bool} {b : List UInt8} {u u' : OS} {e : Int} (h : GStep lim fl b u u' e) : e = 0 := by cases h <;> assumption
theorem flush_kept {u : OS} (h0 : u.err = 0) : (flushS 0 0 u).kept = [] := by
  rcases gFlush (lim := 0) h0 with ⟨h1, h2, h3, h4, h5, hd⟩ | ⟨h1, h2, h3, h4, h5, hd⟩
  · rw [h2, List.append_nil]
    exact List.eq_nil_of_length_eq_zero (Decidable.byContradiction fun hn => hd ⟨by simp only [List.length_nil]; omega, .inl rfl⟩)
  · exact h2
def GInv (u : OS) (l : List UInt8) (k : Nat) : Prop := u.err = 0 ∧ u.said.flatten ++ u.kept = l ∧ (∀ s ∈ u.said, s ≠ []) ∧ u.said.length ≤ k
theorem GInv.new : GInv ⟨[], 0, 0, []⟩ [] 0 := ⟨rfl, rfl, by simp, by simp⟩
theorem GStep.inv {lim : Int} {fl : Bool} {b l : List UInt8} {u u' : OS} {e : Int} {k : Nat} (h : GStep lim fl b u u' e) (hi : GInv u l k) : GInv u' (l ++ b) (k + 1) := by
  obtain ⟨i1, i2, i3, i4⟩ := hi
  rcases h with ⟨h1, h2, h3, h4, h5, hd⟩ | ⟨h1, h2, h3, h4, h5, hd⟩
  · exact ⟨h4, by rw [h1, h2, ← i2, List.append_assoc], by rw [h1]; exact i3, by rw [h1]; omega⟩
  · refine ⟨h4, by rw [h1, h2, ← i2]; simp, ?_, by rw [h1]; simp; omega⟩
    rw [h1]
    intro s hs
    rcases List.mem_append.1 hs with hs | hs
    · exact i3 s hs
    · rw [List.mem_singleton.1 hs]
      intro hn
      have : (u.kept ++ b).length = 0 := by rw [hn]; rfl
      rw [List.length_append] at this
      omega
theorem GInv.flush {u : OS} {l : List UInt8} {k : Nat} (h : GInv u l k) : GInv (flushS 0 0 u) l (k + 1) := by
  have := (gFlush (lim := 0) h.1).inv h
  rwa [List.append_nil] at this

/-- a place among what was said: so many bytes lie ahead of it -/
structure At (said : List (List UInt8)) (ca pa m : Nat) : Prop where
  hc : ca < said.length ∨ (said = [] ∧ ca = 0)
  hm : m = ((said.take ca).flatten).length + pa
  ha : pa ≤ (said.getD ca []).length
theorem At.zero {said : List (List UInt8)} : At said 0 0 0 := by
  refine ⟨?_, by simp, by omega⟩
  cases said with
  | nil => exact .inr ⟨rfl, rfl⟩
  | cons s l => exact .inl (by simp)
theorem take_flat {said : List (List UInt8)} {ca : Nat} (h : ca < said.length) : ((said.take (ca + 1)).flatten).length = ((said.take ca).flatten).length + (said.getD ca []).length := by
  rw [List.take_add_one, List.flatten_append, List.length_append]
  simp [List.getD, List.getElem?_eq_getElem h]
theorem flat_split {said : List (List UInt8)} {ca : Nat} (h : ca < said.length) : said.flatten = (said.take ca).flatten ++ (said.getD ca [] ++ (said.drop (ca + 1)).flatten) := by
  conv => lhs; rw [← List.take_append_drop ca said, List.drop_eq_getElem_cons h]
  rw [List.flatten_append, List.flatten_cons]
  simp [List.getD, List.getElem?_eq_getElem h]
theorem At.inn {said : List (List UInt8)} {ca pa m : Nat} (h : At said ca pa m) (hm : m < said.flatten.length) : ca < said.length := by
  rcases h.hc with hc | ⟨rfl, _⟩
  · exact hc
  · simp at hm
theorem At.next {said : List (List UInt8)} {ca pa m : Nat} (h : At said ca pa m) (hm : m < said.flatten.length) (e : pa = (said.getD ca []).length) : At said (ca + 1) 0 m := by
  have hc := h.inn hm
  have h1 := h.hm
  have h2 := take_flat hc
  refine ⟨.inl ?_, by omega, by omega⟩
  rcases Nat.lt_or_ge (ca + 1) said.length with h3 | h3
  · exact h3
  · rw [List.take_of_length_le h3] at h2
    omega
theorem At.byte {said : List (List UInt8)} {ca pa m : Nat} (h : At said ca pa m) (hm : m < said.flatten.length) (hp : pa < (said.getD ca []).length) : said.flatten[m]? = (said.getD ca [])[pa]? := by
  have hc := h.inn hm
  rw [flat_split hc, h.hm, List.getElem?_append_right (by omega), Nat.add_sub_cancel_left, List.getElem?_append_left hp]
theorem At.step {said : List (List UInt8)} {ca pa m : Nat} (h : At said ca pa m) (hp : pa < (said.getD ca []).length) : At said ca (pa + 1) (m + 1) := ⟨h.hc, by rw [h.hm]; omega, by omega⟩
theorem At.done {said : List (List UInt8)} {ca pa : Nat} (h : At said ca pa said.flatten.length) (hne : ∀ s ∈ said, s ≠ []) (h0 : 0 < said.length) : ca = said.length - 1 ∧ pa = (said.getD (said.length - 1) []).length := by
  have hc : ca < said.length := by
    rcases h.hc with hc | ⟨rfl, _⟩
    · exact hc
    · simp at h0
  have h1 := h.hm
  have h2 := h.ha
  have h3 := congrArg List.length (flat_split hc)
  simp only [List.length_append] at h3
  have h4 : ca = said.length - 1 := by
    rcases Nat.lt_or_ge (ca + 1) said.length with h5 | h5
    · exfalso
      rw [List.drop_eq_getElem_cons h5, List.flatten_cons, List.length_append] at h3
      have h6 := hne _ (List.getElem_mem h5)
      have h7 : 0 < said[ca + 1].length := List.length_pos_iff.2 h6
      omega
    · omega
  refine ⟨h4, ?_⟩
  rw [← h4]
  rw [List.drop_of_length_le (by omega : said.length ≤ ca + 1)] at h3
  simp only [List.flatten_nil, List.length_nil] at h3
  omega
theorem row_said {sl : List (Sl UInt8)} {said : List (List UInt8)} {n : Nat} (h : sl.map Sl.xs = said) (hn : n < sl.length) : (row0 sl n).xs = said.getD n [] := by
  subst h
  simp [List.getD, List.getElem?_map, row0_get hn]
theorem cat_split {rows : List (Sl UInt8)} {k : Nat} (h : k < rows.length) : (rows.map Sl.xs).flatten = catK [] rows k ++ ((row0 rows k).xs ++ ((rows.drop (k + 1)).map Sl.xs).flatten) := by
  conv => lhs; rw [← List.take_append_drop (k + 1) rows]
  rw [List.map_append, List.flatten_append]
  have := catK_succ (kept := []) h
  simp only [catK, List.nil_append] at this ⊢
  rw [this, List.append_assoc]
theorem byte_at {sc : List OpV} {j k q : Nat} (hj : j < sc.length) (hf : ¬ (op0 sc j).f = true) (hk : k < (op0 sc j).p.xs.length) (hq : q < (row0 (op0 sc j).p.xs k).xs.length) :
    (allB sc)[(allB (sc.take j)).length + (catK [] (op0 sc j).p.xs k).length + q]? = some ((row0 (op0 sc j).p.xs k).xs[q]) ∧ (allB (sc.take j)).length + (catK [] (op0 sc j).p.xs k).length + q < (allB sc).length := by
  have h1 : (allB sc)[(allB (sc.take j)).length + (catK [] (op0 sc j).p.xs k).length + q]? = some ((row0 (op0 sc j).p.xs k).xs[q]) := by
    rw [allB_split hj, List.getElem?_append_right (by omega), bytesO, if_neg hf, cat_split hk, List.append_assoc, List.getElem?_append_right (by omega), List.append_assoc, List.getElem?_append_left (by omega)]
    rw [show (allB (sc.take j)).length + (catK [] (op0 sc j).p.xs k).length + q - (allB (sc.take j)).length - (catK [] (op0 sc j).p.xs k).length = q by omega]
    exact List.getElem?_eq_getElem hq
  refine ⟨h1, ?_⟩
  rcases Nat.lt_or_ge ((allB (sc.take j)).length + (catK [] (op0 sc j).p.xs k).length + q) (allB sc).length with h2 | h2
  · exact h2
  · rw [List.getElem?_eq_none h2] at h1; cases h1
end Go.Proofs.Ythbnkifjplbhgaa
