/- Part of the proofs over this seat: see the text that holds the theorem. Conditions: each theorem bears its own. -/
import Derived.Test.YthbnkifjplbhgaaM15
import Derived.Test.YthbnkifjplbhgaaHlB
namespace Go.Proofs.Ythbnkifjplbhgaa
open Go Go.HL Go.Proofs

theorem gd_get {α : Type} {l : List α} {d : α} {j : Nat} (h : j < l.length) : l[j]? = some (l.getD j d) := by simp [List.getD, List.getElem?_eq_getElem h]
theorem gd_mem {α : Type} {l : List α} {d : α} {j : Nat} (h : j < l.length) : l.getD j d ∈ l := by simp [List.getD, List.getElem?_eq_getElem h]
theorem gd_take {α : Type} {l : List α} {d : α} {j : Nat} (h : j < l.length) : l.take (j + 1) = l.take j ++ [l.getD j d] := by
  rw [List.take_add_one, gd_get h (d := d)]; rfl
theorem gd_drop {α : Type} {l : List α} {d : α} {j : Nat} (h : j < l.length) : l.drop j = l.getD j d :: l.drop (j + 1) := by
  rw [List.drop_eq_getElem_cons h]; simp [List.getD, List.getElem?_eq_getElem h]

/-- a file of a world; a call that was noted, as it lies there, and what it says -/
structure FileV where
  n : ByteArray
  b : Sl UInt8
def Efile (f : FileV) : List Value := [.string f.n, f.b.v, .int .i64 0]
instance : Enc Efile 3 := ⟨fun _ => rfl, fun _ _ h => by simp [Efile] at h; rcases h with rfl | rfl | rfl <;> rfl⟩
structure CallV where
  k : Int
  n : ByteArray
  b : Sl UInt8
def Ecall (c : CallV) : List Value := [.int .i64 c.k, .string c.n, c.b.v]
instance : Enc Ecall 3 := ⟨fun _ => rfl, fun _ _ h => by simp [Ecall] at h; rcases h with rfl | rfl | rfl <;> rfl⟩
structure CA where
  k : Int
  n : ByteArray
  b : List UInt8
def CallV.abs (c : CallV) : CA := ⟨c.k, c.n, c.b.xs⟩
def fz : FileV := ⟨⟨#[]⟩, ⟨none, 0, []⟩⟩
def cz : CallV := ⟨0, ⟨#[]⟩, ⟨none, 0, []⟩⟩
/-- a step of a script -/
structure OpQ where
  k : Int
  b : Sl UInt8
  n : ByteArray
  fail : Int
  err : Int
  during : Int
def Eopq (o : OpQ) : List Value := [.int .i64 o.k, o.b.v, .string o.n, .int .i64 o.fail, .int .i64 o.err, .int .i64 o.during]
instance : Enc Eopq 6 := ⟨fun _ => rfl, fun _ _ h => by simp [Eopq] at h; rcases h with rfl | rfl | rfl | rfl | rfl | rfl <;> rfl⟩
def oz : OpQ := ⟨0, ⟨none, 0, []⟩, ⟨#[]⟩, 0, 0, 0⟩

/-- what calls hold lies in a part of the heap -/
structure CallsIn (cl : List CallV) (l : List CA) (S : Hp) : Prop where
  abs : cl.map CallV.abs = l
  rd : ∀ c ∈ cl, RdS Eb c.b.v c.b.xs S
theorem CallsIn.len {cl : List CallV} {l : List CA} {S : Hp} (h : CallsIn cl l S) : cl.length = l.length := by rw [← h.abs, List.length_map]
theorem CallsIn.nil {S : Hp} : CallsIn [] [] S := ⟨rfl, fun _ h => by simp at h⟩
theorem CallsIn.mono {cl : List CallV} {l : List CA} {S S' : Hp} (h : CallsIn cl l S) (hs : HIn S S') : CallsIn cl l S' := ⟨h.abs, fun c hc => (h.rd c hc).mono hs⟩
theorem CallsIn.snoc {cl : List CallV} {l : List CA} {S Sx : Hp} {k : Int} {n : ByteArray} {a : Option Addr} {c : Nat} {b : List UInt8} (h : CallsIn cl l S) (ho : OwnS Eb 1 5 (.slice a b.length c) b Sx) :
    CallsIn (cl ++ [⟨k, n, ⟨a, c, b⟩⟩]) (l ++ [⟨k, n, b⟩]) (Sx ++ S) := by
  refine ⟨by simp [h.abs, CallV.abs], fun x hx => ?_⟩
  rcases List.mem_append.1 hx with hx | hx
  · exact (h.rd x hx).mono HIn.appR
  · have e := List.mem_singleton.1 hx
    subst e
    exact (ho.rds).mono HIn.appL

/-- the last file of a name -/
def look (fs : List FileV) (n : ByteArray) : List UInt8 := ((fs.reverse.find? fun f => decide (f.n = n)).map fun f => f.b.xs).getD []
theorem look_nil (n : ByteArray) : look [] n = [] := rfl
theorem look_snoc (fs : List FileV) (f : FileV) (n : ByteArray) : look (fs ++ [f]) n = if f.n = n then f.b.xs else look fs n := by
  simp only [look, List.reverse_append, List.reverse_cons, List.reverse_nil, List.nil_append, List.singleton_append, List.find?_cons]
  by_cases h : f.n = n <;> simp [h]
theorem look_take {fs : List FileV} {n : ByteArray} {j : Nat} (h : j < fs.length) : look (fs.take (j + 1)) n = if (fs.getD j fz).n = n then (fs.getD j fz).b.xs else look (fs.take j) n := by
  rw [gd_take h (d := fz), look_snoc]
theorem look_len {fs : List FileV} {n : ByteArray} {m : Nat} (h : ∀ f ∈ fs, f.b.xs.length ≤ m) : (look fs n).length ≤ m := by
  unfold look
  cases hf : fs.reverse.find? fun f => decide (f.n = n) with
  | none => simp
  | some f => exact h f (List.mem_reverse.1 (List.mem_of_find?_eq_some hf))

/-- what a script puts: the files, the things that wait -/
def filesOf : List OpQ → List FileV
  | [] => []
  | o :: l => if o.k = 1 then ⟨o.n, o.b⟩ :: filesOf l else filesOf l
def thingsOf : List OpQ → List QI
  | [] => []
  | o :: l => if o.k = 0 then .text o.b.xs :: thingsOf l else if o.k = 1 then .file o.n :: thingsOf l else thingsOf l
theorem filesOf_app (l r : List OpQ) : filesOf (l ++ r) = filesOf l ++ filesOf r := by
  induction l with
  | nil => rfl
  | cons o l ih => simp only [List.cons_append, filesOf, ih]; split <;> rfl
theorem thingsOf_app (l r : List OpQ) : thingsOf (l ++ r) = thingsOf l ++ thingsOf r := by
  induction l with
  | nil => rfl
  | cons o l ih =>
    simp only [List.cons_append, thingsOf, ih]
    split
    · rfl
    · split <;> rfl
theorem filesOf_take {l : List OpQ} {j : Nat} (h : j < l.length) : filesOf (l.take (j + 1)) = filesOf (l.take j) ++ (if (l.getD j oz).k = 1 then [⟨(l.getD j oz).n, (l.getD j oz).b⟩] else []) := by
  rw [gd_take h (d := oz), filesOf_app]; simp only [filesOf]
theorem thingsOf_take {l : List OpQ} {j : Nat} (h : j < l.length) : thingsOf (l.take (j + 1)) = thingsOf (l.take j) ++ (if (l.getD j oz).k = 0 then [.text (l.getD j oz).b.xs] else if (l.getD j oz).k = 1 then [.file (l.getD j oz).n] else []) := by
  rw [gd_take h (d := oz), thingsOf_app]; simp only [thingsOf]
theorem filesOf_len (l : List OpQ) : (filesOf l).length ≤ l.length := by
  induction l with
  | nil => simp [filesOf]
  | cons o l ih => simp only [filesOf]; split <;> simp <;> omega
theorem thingsOf_len (l : List OpQ) : (thingsOf l).length ≤ l.length := by
  induction l with
  | nil => simp [thingsOf]
  | cons o l ih => simp only [thingsOf]; split; (simp; omega); split <;> simp <;> omega
theorem filesOf_mem {l : List OpQ} {f : FileV} (h : f ∈ filesOf l) : ∃ o ∈ l, f = ⟨o.n, o.b⟩ := by
  induction l with
  | nil => simp [filesOf] at h
  | cons o l ih =>
    simp only [filesOf] at h
    split at h
    · rcases List.mem_cons.1 h with h | h
      · exact ⟨o, List.mem_cons_self, h⟩
      · obtain ⟨o', h1, h2⟩ := ih h
        exact ⟨o', List.mem_cons_of_mem _ h1, h2⟩
    · obtain ⟨o', h1, h2⟩ := ih h
      exact ⟨o', List.mem_cons_of_mem _ h1, h2⟩

theorem thingsOf_mem {l : List OpQ} {b : List UInt8} (h : QI.text b ∈ thingsOf l) : ∃ o ∈ l, b = o.b.xs := by
  induction l with
  | nil => simp [thingsOf] at h
  | cons o l ih =>
    simp only [thingsOf] at h
    split at h
    · rcases List.mem_cons.1 h with h | h
      · exact ⟨o, List.mem_cons_self, by cases h; rfl⟩
      · obtain ⟨o', h1, h2⟩ := ih h
        exact ⟨o', List.mem_cons_of_mem _ h1, h2⟩
    · split at h
      · rcases List.mem_cons.1 h with h | h
        · cases h
        · obtain ⟨o', h1, h2⟩ := ih h
          exact ⟨o', List.mem_cons_of_mem _ h1, h2⟩
      · obtain ⟨o', h1, h2⟩ := ih h
        exact ⟨o', List.mem_cons_of_mem _ h1, h2⟩
theorem ItemOk.mono {S S' : Hp} {x : IV} : ∀ {q : QI}, ItemOk S x q → HIn S S' → ItemOk S' x q
  | .text _, ⟨s, h1, h2, h3⟩, hs => ⟨s, h1, h2, h3.mono hs⟩
  | .file _, h, _ => h
theorem Items.snoc {ql : List IV} {l : List QI} {S S' : Hp} {x : IV} {q : QI} (h : Items ql l S) (hs : HIn S S') (hx : ItemOk S' x q) : Items (ql ++ [x]) (l ++ [q]) S' := by
  have hl := h.len
  refine ⟨by simp [hl], fun j r hj => ?_⟩
  by_cases h1 : j < l.length
  · rw [List.getElem?_append_left h1] at hj
    have e : iv0 (ql ++ [x]) j = iv0 ql j := by simp [iv0, List.getD, List.getElem?_append_left (by omega : j < ql.length)]
    rw [e]
    exact (h.ok j r hj).mono hs
  · rw [List.getElem?_append_right (by omega)] at hj
    have h2 : j - l.length = 0 := by
      rcases Nat.lt_or_ge (j - l.length) 1 with h3 | h3
      · omega
      · rw [List.getElem?_eq_none (by simpa using h3)] at hj; cases hj
    rw [h2] at hj
    simp only [List.getElem?_cons_zero, Option.some.injEq] at hj
    subst hj
    have e : iv0 (ql ++ [x]) j = x := by simp [iv0, List.getD, List.getElem?_append_right (by omega : ql.length ≤ j), show j - ql.length = 0 by omega]
    rw [e]; exact hx
theorem Items.text {ql : List IV} {l : List QI} {S Sx : Hp} {a : Option Addr} {c : Nat} {xs : List UInt8} (h : Items ql l S) (ho : OwnS Eb 1 5 (.slice a xs.length c) xs Sx) : Items (ql ++ [⟨103, .slice a xs.length c⟩]) (l ++ [.text xs]) (Sx ++ S) :=
  h.snoc HIn.appR ⟨⟨a, c, xs⟩, rfl, rfl, ho.rds.mono HIn.appL⟩
theorem Items.file {ql : List IV} {l : List QI} {S : Hp} {n : ByteArray} (h : Items ql l S) : Items (ql ++ [⟨104, .string n⟩]) (l ++ [.file n]) S := h.snoc HIn.all rfl
theorem hsub_app {S S' R : Hp} (h : HSub S S') : HSub (S ++ R) (S' ++ R) := by
  obtain ⟨T, hT⟩ := h
  refine ⟨T, (hT.append_right R).trans ?_⟩
  rw [List.append_assoc, List.append_assoc]
  exact List.Perm.append_left _ List.perm_append_comm
/-- what a world notes: its calls; how many went out -/
structure QS where
  calls : List CA
  outs : Nat
def sdR (fs : List FileV) (s : QS) (n : ByteArray) : List UInt8 × QS := (look fs n, ⟨s.calls ++ [⟨3, n, []⟩], s.outs⟩)
def sdO (fail err : Int) (s : QS) (b : List UInt8) : Int × QS := (if (s.outs : Int) + 1 = fail then err else 0, ⟨s.calls ++ [⟨1, ⟨#[]⟩, b⟩], s.outs + 1⟩)
def sdKR (s : QS) (_ : ByteArray) : Prop := s.calls.length ≤ 4194304
def sdKO (s : QS) (b : List UInt8) : Prop := s.calls.length ≤ 4194304 ∧ b.length ≤ 1048577 ∧ s.outs ≤ 4194303
theorem sdFits {fs : List FileV} {fail err : Int} (hf : ∀ f ∈ fs, f.b.xs.length ≤ 1048576) : ∀ (l : List QI) (s : QS), (∀ b, QI.text b ∈ l → b.length ≤ 1048576) → s.calls.length + 2 * l.length ≤ 4194304 → s.outs + l.length ≤ 4194303 → fitsQ (sdR fs) (sdO fail err) sdKR sdKO l s
  | [], _, _, _, _ => trivial
  | .text b :: l, s, hb, hn, hn2 => by
    have h1 := hb b List.mem_cons_self
    simp only [List.length_cons] at hn hn2
    refine ⟨⟨by omega, by show s.calls.length ≤ _; omega, by simp; omega, by omega⟩, fun _ => sdFits hf l _ (fun b' h' => hb b' (List.mem_cons_of_mem _ h')) ?_ ?_⟩
    · simp only [stepQ, sdO, List.length_append, List.length_singleton]; omega
    · simp only [stepQ, sdO]; omega
  | .file n :: l, s, hb, hn, hn2 => by
    have h1 := look_len (n := n) hf
    simp only [List.length_cons] at hn hn2
    refine ⟨⟨by show s.calls.length ≤ _; omega, fun _ => ⟨by simp [sdR]; omega, by simp [sdR]; omega, by simp [sdR]; omega⟩⟩, fun _ => sdFits hf l _ (fun b' h' => hb b' (List.mem_cons_of_mem _ h')) ?_ ?_⟩
    · simp only [stepQ]
      split <;> simp [sdR, sdO] <;> omega
    · simp only [stepQ]
      split <;> simp [sdR, sdO] <;> omega

/-- what is wanted, step by step -/
def wantQ (fs : List FileV) (fail : Int) (s : QS) (o : OpQ) : QS :=
  if (o.k ≠ 0 ∧ o.k ≠ 1) ∨ (0 < fail ∧ (s.outs : Int) = fail) then s
  else if o.k = 1 then (if look fs o.n = [] then ⟨s.calls ++ [⟨3, o.n, []⟩], s.outs⟩ else ⟨s.calls ++ [⟨3, o.n, []⟩] ++ [⟨1, ⟨#[]⟩, look fs o.n⟩], s.outs + 1⟩)
  else ⟨s.calls ++ [⟨1, ⟨#[]⟩, o.b.xs ++ [10]⟩], s.outs + 1⟩
def wantsQ (fs : List FileV) (fail : Int) (l : List OpQ) : QS := l.foldl (wantQ fs fail) ⟨[], 0⟩
theorem wantsQ_take {fs : List FileV} {fail : Int} {l : List OpQ} {j : Nat} (h : j < l.length) : wantsQ fs fail (l.take (j + 1)) = wantQ fs fail (wantsQ fs fail (l.take j)) (l.getD j oz) := by
  rw [gd_take h (d := oz), wantsQ, List.foldl_append]; rfl
theorem want_stop {fs : List FileV} {fail : Int} : ∀ (l : List OpQ) (s : QS), 0 < fail → (s.outs : Int) = fail → l.foldl (wantQ fs fail) s = s
  | [], _, _, _ => rfl
  | o :: l, s, h1, h2 => by
    rw [List.foldl_cons, show wantQ fs fail s o = s from by unfold wantQ; rw [if_pos (.inr ⟨h1, h2⟩)]]
    exact want_stop l s h1 h2
theorem sdO_t {fail err : Int} {s : QS} {b : List UInt8} (h : (s.outs : Int) + 1 = fail) : sdO fail err s b = (err, ⟨s.calls ++ [⟨1, ⟨#[]⟩, b⟩], s.outs + 1⟩) := by simp only [sdO, if_pos h]
theorem sdO_f {fail err : Int} {s : QS} {b : List UInt8} (h : ¬ (s.outs : Int) + 1 = fail) : sdO fail err s b = (0, ⟨s.calls ++ [⟨1, ⟨#[]⟩, b⟩], s.outs + 1⟩) := by simp only [sdO, if_neg h]
def errQ (fail err : Int) (s : QS) : Int := if 0 < fail ∧ (s.outs : Int) = fail then err else 0
theorem errQ_t {fail err : Int} {s : QS} (h : 0 < fail ∧ (s.outs : Int) = fail) : errQ fail err s = err := if_pos h
theorem errQ_f {fail err : Int} {s : QS} (h : ¬ (0 < fail ∧ (s.outs : Int) = fail)) : errQ fail err s = 0 := if_neg h
theorem flush_want {fs : List FileV} {fail err : Int} (he : err ≠ 0) : ∀ (l : List OpQ) (s : QS), ¬ (0 < fail ∧ (s.outs : Int) = fail) →
    flushQ (sdR fs) (sdO fail err) (thingsOf l) s = (errQ fail err (l.foldl (wantQ fs fail) s), l.foldl (wantQ fs fail) s)
  | [], s, h => by simp only [thingsOf, flushQ, List.foldl_nil, errQ_f h]
  | o :: l, s, h => by
    simp only [List.foldl_cons]
    by_cases h0 : o.k = 0
    · have hw : wantQ fs fail s o = ⟨s.calls ++ [⟨1, ⟨#[]⟩, o.b.xs ++ [10]⟩], s.outs + 1⟩ := by
        unfold wantQ
        rw [if_neg (by rintro (⟨h1, _⟩ | h1); exact h1 h0; exact h h1), if_neg (by omega)]
      simp only [thingsOf, if_pos h0, hw]
      rw [flush_text]
      by_cases hq : (s.outs : Int) + 1 = fail
      · have e : sdO fail err s (o.b.xs ++ [10]) = (err, ⟨s.calls ++ [⟨1, ⟨#[]⟩, o.b.xs ++ [10]⟩], s.outs + 1⟩) := by simp only [sdO, if_pos hq]
        rw [e, if_pos he, want_stop l _ (by omega) (by dsimp only; omega)]
        rw [errQ_t ⟨by omega, by dsimp only; omega⟩]
      · have e : sdO fail err s (o.b.xs ++ [10]) = (0, ⟨s.calls ++ [⟨1, ⟨#[]⟩, o.b.xs ++ [10]⟩], s.outs + 1⟩) := by simp only [sdO, if_neg hq]
        rw [e, if_neg (by simp), flush_want he l _ (by dsimp only; omega)]
    · by_cases h1 : o.k = 1
      · have hn : ¬ ((o.k ≠ 0 ∧ o.k ≠ 1) ∨ (0 < fail ∧ (s.outs : Int) = fail)) := by rintro (⟨_, h2⟩ | h2); exact h2 h1; exact h h2
        simp only [thingsOf, if_neg h0, if_pos h1]
        by_cases hb : look fs o.n = []
        · have hw : wantQ fs fail s o = ⟨s.calls ++ [⟨3, o.n, []⟩], s.outs⟩ := by unfold wantQ; rw [if_neg hn, if_pos h1, if_pos hb]
          rw [flush_file0 (by simp only [sdR, hb]; rfl), hw]
          exact flush_want he l _ h
        · have hw : wantQ fs fail s o = ⟨s.calls ++ [⟨3, o.n, []⟩] ++ [⟨1, ⟨#[]⟩, look fs o.n⟩], s.outs + 1⟩ := by unfold wantQ; rw [if_neg hn, if_pos h1, if_neg hb]
          rw [flush_file (by simp only [sdR]; intro h2; exact hb (List.eq_nil_of_length_eq_zero (by omega))), hw]
          by_cases hq : (s.outs : Int) + 1 = fail
          · have e : sdO fail err (sdR fs s o.n).2 (sdR fs s o.n).1 = (err, ⟨s.calls ++ [⟨3, o.n, []⟩] ++ [⟨1, ⟨#[]⟩, look fs o.n⟩], s.outs + 1⟩) := sdO_t (s := ⟨s.calls ++ [⟨3, o.n, []⟩], s.outs⟩) hq
            rw [e, if_pos he, want_stop l _ (by omega) (by dsimp only; omega)]
            rw [errQ_t ⟨by omega, by dsimp only; omega⟩]
          · have e : sdO fail err (sdR fs s o.n).2 (sdR fs s o.n).1 = (0, ⟨s.calls ++ [⟨3, o.n, []⟩] ++ [⟨1, ⟨#[]⟩, look fs o.n⟩], s.outs + 1⟩) := sdO_f (s := ⟨s.calls ++ [⟨3, o.n, []⟩], s.outs⟩) hq
            rw [e, if_neg (by simp), flush_want he l _ (by dsimp only; omega)]
      · have hw : wantQ fs fail s o = s := by unfold wantQ; rw [if_pos (.inl ⟨h0, h1⟩)]
        simp only [thingsOf, if_neg h0, if_neg h1, hw]
        exact flush_want he l s h
theorem want_len {fs : List FileV} {fail : Int} : ∀ (l : List OpQ) (s : QS), (l.foldl (wantQ fs fail) s).calls.length ≤ s.calls.length + 2 * l.length ∧ (l.foldl (wantQ fs fail) s).outs ≤ s.outs + l.length
  | [], s => by simp
  | o :: l, s => by
    have ih := want_len (fs := fs) (fail := fail) l (wantQ fs fail s o)
    have h1 : (wantQ fs fail s o).calls.length ≤ s.calls.length + 2 ∧ (wantQ fs fail s o).outs ≤ s.outs + 1 := by
      unfold wantQ
      split
      · omega
      · split
        · split <;> simp
        · simp
    simp only [List.foldl_cons, List.length_cons]
    omega

theorem St.apart_oldM {α : Type} {E : α → List Value} {k : Nat} [he : Enc E k] {a : Option Addr} {c : Nat} {xs : List α} {w0 w : World} {M : List Nat} {H S : Hp} (st : St w0 w M H) (hin : HIn S H) (hr : Rd E w0 (.slice a xs.length c) xs) (hA : Apart M (.slice a xs.length c)) (hk : 0 < k) : Apart (keys S) (.slice a xs.length c) := by
  intro A n c' hv hn hm
  have hv' := hv
  cases hv
  obtain ⟨⟨b', o⟩, hmS, hb⟩ := List.mem_map.1 hm
  have hb : b' = A.block := hb
  rcases st.own _ _ (hin _ hmS) with hM | h1
  · exact hA A _ _ rfl hn (hb ▸ hM)
  · have hl : 0 < xs.length := by omega
    obtain ⟨u, hu⟩ : ∃ u, (flat E xs)[0]? = some u := by
      have : 0 < (flat E xs).length := by rw [flat_len]; exact Nat.mul_pos hl hk
      exact ⟨_, List.getElem?_eq_getElem this⟩
    have h2 := hr.get 0 u hu
    have h3 : A.block < w0.heap.size := by
      rcases Nat.lt_or_ge A.block w0.heap.size with h' | h'
      · exact h'
      · simp [World.cell?, ea, sblk, oblk, Array.getElem?_eq_none h'] at h2
    omega
theorem hin_sub {S H : Hp} (h : HSub H S) : HIn S H := fun x hx => by
  obtain ⟨R, hR⟩ := h
  exact hR.mem_iff.2 (List.mem_append_left _ hx)
/-- slices that were there ahead: they read as they did, and lie apart from a part of the heap -/
def OldL (L : List (Sl UInt8)) (S : Hp) (w : World) : Prop := ∀ p ∈ L, Rd Eb w p.v p.xs ∧ Apart (keys S) p.v
theorem apart_mono {M M' : List Nat} {v : Value} (h : Apart M v) (hs : ∀ b ∈ M', b ∈ M) : Apart M' v := fun a n c hv hn hm => h a n c hv hn (hs _ hm)
theorem OldL.st {L : List (Sl UInt8)} {S0 S H : Hp} {w0 w : World} (h : OldL L S0 w0) (st : St w0 w (keys S0) H) (hin : HIn S H) : OldL L S w := fun p hp =>
  ⟨(RdK.old (κ := ⟨0, [], w0, keys S0⟩) (h p hp).1 (h p hp).2).out w st, St.apart_oldM st hin (h p hp).1 (h p hp).2 (by decide)⟩
theorem OldL.sub {L : List (Sl UInt8)} {S0 S : Hp} {w : World} (h : OldL L S0 w) (hin : HIn S S0) : OldL L S w := fun p hp =>
  ⟨(h p hp).1, apart_mono (h p hp).2 fun b hb => by
    obtain ⟨x, hx, rfl⟩ := List.mem_map.1 hb
    exact List.mem_map.2 ⟨x, hin x hx, rfl⟩⟩
theorem OldL.top {L : List (Sl UInt8)} {S H : Hp} {w0 w : World} (h : ∀ p ∈ L, Rd Eb w0 p.v p.xs) (st : St w0 w [] H) (hin : HIn S H) : OldL L S w := fun p hp =>
  ⟨(RdK.old0 (n := 0) (ds := []) (h p hp)).out w st, St.apart_old st hin (h p hp) (by decide)⟩
end Go.Proofs.Ythbnkifjplbhgaa
