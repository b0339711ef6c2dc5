/- Part of the proofs over this seat: see the text that holds the theorem. Conditions: each theorem bears its own. -/
import Derived.Test.YtnjjkkncoijmmaaDoorHl
import Derived.RangeFuncNested
namespace Go.HL
open Go
/-! a loop over a function inside a round of another: code that is walked in the round of l0 -/
structure CI (P : Program) (l0 : Nat) (κ : Cx) (Q : Pst) (c : Code) (L : Loc) (H : Hp) : Prop where
  out : ∀ a w, Ok κ L H a w → c.wpIn (FR (some l0)) 0 P Q a w
section
variable {P : Program} {κ : Cx} {Q : Pst} {L L' : Loc} {H H' : Hp} {l0 : Nat}
theorem ci_of {c : Code} (hd : noDefC c = true) (h : C P κ Q c L H) : CI P l0 κ Q c L H := ⟨fun a w ok => h.out (some l0) a w (.inr hd) ok⟩
theorem ci_seq {x y : Code} (h : ∀ K : Act → World → Prop, (∀ L H, CI P l0 κ Q y L H → X κ K L H) → CI P l0 κ (Exit.then K Q) x L H) : CI P l0 κ Q (.seq x y) L H :=
  ⟨fun a w ok => wpIn_seq ((h (y.wpIn (FR (some l0)) 0 P Q) fun _ _ hc => ⟨fun a w ok => hc.out a w ok⟩).out a w ok)⟩
theorem ci_block {id : Nat} {c : Code} (h : CI P l0 κ (Exit.inBlock id Q) c L H) : CI P l0 κ Q (.block id c) L H := ⟨fun a w ok => wpIn_block (h.out a w ok)⟩
theorem ci_cond {c : Operand} {x y : Code} {t : Bool} (hc : ev L c = some (.bool t)) (ht : t = true → CI P l0 κ Q x L H) (hf : t = false → CI P l0 κ Q y L H) : CI P l0 κ Q (.cond c x y) L H :=
  ⟨fun a w ok => wpIn_cond_split (ok.fr.ev hc) (fun h => (ht h).out a w ok) (fun h => (hf h).out a w ok)⟩
theorem ci_if {c : Operand} {x y : Code} {p : Prop} [Decidable p] (hc : ev L c = some (.bool (decide p))) (ht : p → CI P l0 κ Q x L H) (hf : ¬ p → CI P l0 κ Q y L H) : CI P l0 κ Q (.cond c x y) L H :=
  ci_cond hc (fun h => ht (of_decide_eq_true h)) (fun h => hf (of_decide_eq_false h))
theorem ci_true {c : Operand} {x y : Code} (hc : ev L c = some (.bool true)) (h : CI P l0 κ Q x L H) : CI P l0 κ Q (.cond c x y) L H := ci_cond hc (fun _ => h) (fun h => by cases h)
theorem ci_false {c : Operand} {x y : Code} (hc : ev L c = some (.bool false)) (h : CI P l0 κ Q y L H) : CI P l0 κ Q (.cond c x y) L H := ci_cond hc (fun h => by cases h) (fun _ => h)
theorem ci_skip (h : X κ (Q .normal) L H) : CI P l0 κ Q .skip L H := ci_of rfl (c_skip h)
theorem ci_exit {id : Nat} (h : X κ (Q (.exit id)) L H) : CI P l0 κ Q (.exit id) L H := ci_of rfl (c_exit h)
theorem ci_ret (h : X κ (Q .ret) L H) : CI P l0 κ Q .ret L H := ci_of rfl (c_ret h)
theorem x_beginI {l : Nat} {r : Loop} {body : Code} (hu : Upd H l (.loop (recAt r .ready none)) (.loop (recAt r .busy none)) H') (h : CI P l κ Q body L H') : X κ (Begin P l body Q) L H := by
  refine ⟨fun a w ok => ⟨w.putObj l (.loop (recAt r .busy none)), run_beginRound (ok.st.has _ _ hu.mem) rfl, ?_⟩⟩
  exact h.out a _ ⟨ok.fr, ok.st.obj hu⟩
theorem ci_range {l0 : Nat} {r0 : Loop} {α : Type} {g : Operand} {ps : Array Tmp} {assign body : Code} {gf : FuncId} {us lb : List Value} {encs : α → List Value} {xs : List α} {pre : Hp → World → Prop} {S B0 R : Hp} {IS : Hp → Prop} (I : List α → Hp → Prop) (Ix : Code → List α → Hp → Prop)
    (hin : (l0, .loop r0) ∈ H) (hg : ev L g = some (.func (.func gf) us.toArray lb.toArray)) (it : It P gf us lb encs xs pre S IS) (hpk : Pick H (S ++ B0) R) (hpre : ∀ w H1 S1, St κ.w0 w κ.M H1 → HSub H1 S1 → pre S1 w) (h0 : I [] B0) (hps : (ps.toList.all fun p => Nat.blt p κ.n) = true) (hlen : ∀ x, ps.toList.length = (encs x).length) (hda : noDefC assign = true)
    (hround : ∀ (l : Nat) (r : Loop) (p : List α) (x : α) (B : Hp) (W : World), r.assign = assign → r.body = body → I p B → p ++ [x] <+: xs → ∀ post : Value → Hp → Prop,
      (∀ B', I (p ++ [x]) B' → post (.bool true) ((l, .loop (recAt r .ready none)) :: B')) → (∀ c B', Ix c (p ++ [x]) B' → post (.bool false) ((l, .loop (recAt r .done (some c))) :: B')) →
      C P ⟨κ.n, [], W, keys ((l, .loop (recAt r .ready none)) :: B)⟩ (Exit.then (Begin P l body (roundPost P l (Post W (keys ((l, .loop (recAt r .ready none)) :: B)) post))) fun _ _ _ => False) assign ((ps.toList.zip (encs x)).reverse ++ L) ((l, .loop (recAt r .ready none)) :: B))
    (hdone : ∀ S1 B, IS S1 → I xs B → X κ (Q .normal) L (S1 ++ B ++ R))
    (hstop : ∀ S1 c p B, IS S1 → p <+: xs → Ix c p B → CI P l0 κ Q c L (S1 ++ B ++ R)) :
    CI P l0 κ Q (.rangeFunc g ps assign body) L H := by
  refine ⟨fun a w ok => ?_⟩
  have hl0 := ok.st.has _ _ hin
  refine wpIn_rangeFunc fun fn _ => ?_
  have hgv := ok.fr.ev hg
  obtain ⟨r, hrr⟩ : ∃ r : Loop, r = { state := .ready, pending := none, fn, tmps := a.tmps, params := ps, assign, body, defers := r0.defers } := ⟨_, rfl⟩
  have er : recAt r .ready none = r := by rw [hrr]; rfl
  obtain ⟨w1, hw1⟩ : ∃ w1, w1 = w.alloc (.loop r) := ⟨_, rfl⟩
  have st1 : St κ.w0 w1 κ.M ((w.heap.size, .loop r) :: H) := by
    have := ok.st.alloc (.loop r)
    rw [hw1]; simpa using this
  have hp1 : ((w.heap.size, Obj.loop r) :: H).Perm ((S ++ ((w.heap.size, Obj.loop (recAt r .ready none)) :: B0)) ++ R) := by
    rw [er]
    refine List.Perm.trans (hpk.perm.cons _) ?_
    rw [List.append_assoc, List.append_assoc]
    exact List.perm_middle.symm
  have st2 := st1.perm hp1
  have hcall := (it.out (w.heap.size) (fun p B => ∃ B1, B = (w.heap.size, Obj.loop (recAt r .ready none)) :: B1 ∧ I p B1) (fun p B => ∃ c B1, B = (w.heap.size, Obj.loop (recAt r .done (some c))) :: B1 ∧ Ix c p B1)
    (fun p x B hB hx => by
      obtain ⟨B1, rfl, hi⟩ := hB
      refine yd_of ok.fr (by rw [hrr]) (by rw [hrr]; exact fun p hp => List.all_eq_true.1 hps p hp) (by rw [hrr]; exact hlen x) (by rw [hrr]; exact hda) fun W => ?_
      have := hround (w.heap.size) r p x B1 W (by rw [hrr]) (by rw [hrr]) hi hx (fun v B' => (v = .bool true ∧ ∃ B1, B' = (w.heap.size, Obj.loop (recAt r .ready none)) :: B1 ∧ I (p ++ [x]) B1) ∨ (v = .bool false ∧ ∃ c B1, B' = (w.heap.size, Obj.loop (recAt r .done (some c))) :: B1 ∧ Ix c (p ++ [x]) B1))
        (fun B' hb => .inl ⟨rfl, B', rfl, hb⟩) (fun c B' hb => .inr ⟨rfl, c, B', rfl, hb⟩)
      have e1 : r.params = ps := by rw [hrr]
      have e2 : r.assign = assign := by rw [hrr]
      have e3 : r.body = body := by rw [hrr]
      rw [e1, e2, e3]
      exact this) _ ⟨B0, rfl, h0⟩).calls w1 ?_ st2.has_of
  · refine ⟨w.heap.size, [], w1, ⟨.fn (.func gf) lb.toArray, (us ++ [Value.func (.yield (w.heap.size)) #[] #[]]).toArray⟩, w1, gf, (us ++ [Value.func (.yield (w.heap.size)) #[] #[]] ++ lb).toArray, w1, ?_, ?_, fun _ _ => trivial, ?_, fun h => by simp [FR, Fence.wide] at h, ?_⟩
    · rw [hw1, hrr]; exact run_enterLoop_inner hl0 _ _ _ _ _
    · simp only [resolve, hgv]
      simp [go_sem, Deferred.ofValue]
    · have := it.enters (us ++ [Value.func (.yield (w.heap.size)) #[] #[]] ++ lb).toArray w1
      simpa [invoke] using this
    · refine CallsIn.mono (calls_FR hcall) fun e w3 he => ?_
      obtain ⟨v, S', rfl, ⟨S1, B', rfl, hIS, hB⟩, hst⟩ := he.out
      have st3 := st2.comp hst
      have perm3 : ∀ (x : Nat × Obj) (B1 : Hp), (S1 ++ x :: B1 ++ R).Perm (x :: (S1 ++ B1 ++ R)) := by
        intro x B1
        rw [List.append_assoc, List.append_assoc]
        exact List.perm_middle
      rcases hB with ⟨B1, rfl, hi⟩ | ⟨p, hpx, c, B1, rfl, hi⟩
      · have st4 := st3.perm (perm3 _ _)
        refine ⟨none, w3.putObj (w.heap.size) (.loop (recAt r .exhausted none)), run_endLoop (r := recAt r .ready none) (st4.has _ _ List.mem_cons_self) (by simp [recAt]), ?_⟩
        have st5 := (st4.obj (o' := .loop (recAt r .exhausted none)) .here).sub (HSub.skip (HSub.refl _))
        exact (hdone S1 B1 hIS hi).out _ _ ⟨ok.fr, st5⟩
      · have st4 := st3.perm (perm3 _ _)
        refine ⟨some c, w3.putObj (w.heap.size) (.loop (recAt r .exhausted (some c))), run_endLoop (r := recAt r .done (some c)) (st4.has _ _ List.mem_cons_self) (by simp [recAt]), ?_⟩
        have st5 := (st4.obj (o' := .loop (recAt r .exhausted (some c))) .here).sub (HSub.skip (HSub.refl _))
        exact (hstop S1 c p B1 hIS hpx hi).out _ _ ⟨ok.fr, st5⟩
  · exact hpre _ _ _ st2 (HSub.of_pick .here)

end
end Go.HL
namespace Go.HL
open Go
/-! loops over a function whose iterator reads what the rounds' heap bears -/
structure It2 (P : Program) (gf : FuncId) (us lb : List Value) {α : Type} (encs : α → List Value) (xs : List α) (good : Hp → Prop) (S : Hp) (IS : Hp → Prop) : Prop where
  enters : Enters P gf
  out : ∀ (l : Nat) (HS HX : List α → Hp → Prop), (∀ p B, HS p B → good B) → (∀ pre x B, HS pre B → pre ++ [x] <+: xs → Yd P l (encs x) B (fun v B' => (v = .bool true ∧ HS (pre ++ [x]) B') ∨ (v = .bool false ∧ HX (pre ++ [x]) B'))) →
    ∀ B, HS [] B → Fn P gf (us ++ [.func (.yield l) #[] #[]] ++ lb) (fun _ => True) (S ++ B) (fun _ S' => ∃ S1 B', S' = S1 ++ B' ∧ IS S1 ∧ (HS xs B' ∨ ∃ p, p <+: xs ∧ HX p B'))
section
variable {P : Program} {κ : Cx} {Q : Pst} {L L' : Loc} {H H' : Hp} {l0 : Nat}
theorem c_range2 {α : Type} {g : Operand} {ps : Array Tmp} {assign body : Code} {gf : FuncId} {us lb : List Value} {encs : α → List Value} {xs : List α} {good : Hp → Prop} {S B0 R : Hp} {IS : Hp → Prop} (I : List α → Hp → Prop) (Ix : Code → List α → Hp → Prop)
    (hg : ev L g = some (.func (.func gf) us.toArray lb.toArray)) (it : It2 P gf us lb encs xs good S IS) (hpk : Pick H (S ++ B0) R) (hgood : ∀ (q : Nat × Obj) p B, I p B → good (q :: B)) (h0 : I [] B0) (hps : (ps.toList.all fun p => Nat.blt p κ.n) = true) (hlen : ∀ x, ps.toList.length = (encs x).length) (hda : noDefC assign = true)
    (hround : ∀ (l : Nat) (r : Loop) (p : List α) (x : α) (B : Hp) (W : World), r.assign = assign → r.body = body → I p B → p ++ [x] <+: xs → ∀ post : Value → Hp → Prop,
      (∀ B', I (p ++ [x]) B' → post (.bool true) ((l, .loop (recAt r .ready none)) :: B')) → (∀ c B', Ix c (p ++ [x]) B' → post (.bool false) ((l, .loop (recAt r .done (some c))) :: B')) →
      C P ⟨κ.n, [], W, keys ((l, .loop (recAt r .ready none)) :: B)⟩ (Exit.then (Begin P l body (roundPost P l (Post W (keys ((l, .loop (recAt r .ready none)) :: B)) post))) fun _ _ _ => False) assign ((ps.toList.zip (encs x)).reverse ++ L) ((l, .loop (recAt r .ready none)) :: B))
    (hdone : ∀ D S1 B, IS S1 → I xs B → X ⟨κ.n, ⟨.collected D, #[]⟩ :: κ.ds, κ.w0, κ.M⟩ (Q .normal) L ((D, .deferred (some [])) :: (S1 ++ B ++ R)))
    (hstop : ∀ D S1 c p B, IS S1 → p <+: xs → Ix c p B → C P ⟨κ.n, ⟨.collected D, #[]⟩ :: κ.ds, κ.w0, κ.M⟩ Q c L ((D, .deferred (some [])) :: (S1 ++ B ++ R))) :
    C P κ Q (.rangeFunc g ps assign body) L H := by
  refine ⟨fun ro a w hr ok => ?_⟩
  have hro : ro = none := by
    rcases hr with h | h
    · exact h
    · simp [noDefC] at h
  subst hro
  refine wpIn_rangeFunc fun fn _ => ?_
  have hgv := ok.fr.ev hg
  obtain ⟨r, hrr⟩ : ∃ r : Loop, r = { state := .ready, pending := none, fn, tmps := a.tmps, params := ps, assign, body, defers := w.heap.size } := ⟨_, rfl⟩
  have er : recAt r .ready none = r := by rw [hrr]; rfl
  obtain ⟨w1, hw1⟩ : ∃ w1, w1 = (w.alloc (.deferred (some []))).alloc (.loop r) := ⟨_, rfl⟩
  have st1 : St κ.w0 w1 κ.M ((w.heap.size + 1, .loop r) :: (w.heap.size, .deferred (some [])) :: H) := by
    have := (ok.st.alloc (.deferred (some []))).alloc (.loop r)
    rw [hw1]; simpa using this
  have hp1 : ((w.heap.size + 1, Obj.loop r) :: (w.heap.size, Obj.deferred (some [])) :: H).Perm ((S ++ ((w.heap.size + 1, Obj.loop (recAt r .ready none)) :: B0)) ++ ((w.heap.size, Obj.deferred (some [])) :: R)) := by
    rw [er]
    have e1 := hpk.perm
    refine (List.Perm.swap _ _ _).trans ?_
    have e2 : (S ++ (w.heap.size + 1, Obj.loop r) :: B0 ++ (w.heap.size, Obj.deferred (some [])) :: R).Perm ((w.heap.size, Obj.deferred (some [])) :: (w.heap.size + 1, Obj.loop r) :: (S ++ B0 ++ R)) := by
      refine List.perm_middle.trans ?_
      refine List.Perm.cons _ ?_
      rw [List.append_assoc, List.append_assoc]
      exact List.perm_middle
    exact ((e1.cons _).cons _).trans e2.symm
  have st2 := st1.perm hp1
  have hcall := (it.out (w.heap.size + 1) (fun p B => ∃ B1, B = (w.heap.size + 1, Obj.loop (recAt r .ready none)) :: B1 ∧ I p B1) (fun p B => ∃ c B1, B = (w.heap.size + 1, Obj.loop (recAt r .done (some c))) :: B1 ∧ Ix c p B1)
    (fun p B hB => by obtain ⟨B1, rfl, hi⟩ := hB; exact hgood _ p B1 hi)
    (fun p x B hB hx => by
      obtain ⟨B1, rfl, hi⟩ := hB
      refine yd_of ok.fr (by rw [hrr]) (by rw [hrr]; exact fun p hp => List.all_eq_true.1 hps p hp) (by rw [hrr]; exact hlen x) (by rw [hrr]; exact hda) fun W => ?_
      have := hround (w.heap.size + 1) r p x B1 W (by rw [hrr]) (by rw [hrr]) hi hx (fun v B' => (v = .bool true ∧ ∃ B1, B' = (w.heap.size + 1, Obj.loop (recAt r .ready none)) :: B1 ∧ I (p ++ [x]) B1) ∨ (v = .bool false ∧ ∃ c B1, B' = (w.heap.size + 1, Obj.loop (recAt r .done (some c))) :: B1 ∧ Ix c (p ++ [x]) B1))
        (fun B' hb => .inl ⟨rfl, B', rfl, hb⟩) (fun c B' hb => .inr ⟨rfl, c, B', rfl, hb⟩)
      have e1 : r.params = ps := by rw [hrr]
      have e2 : r.assign = assign := by rw [hrr]
      have e3 : r.body = body := by rw [hrr]
      rw [e1, e2, e3]
      exact this) _ ⟨B0, rfl, h0⟩).calls w1 ?_ st2.has_of
  · refine ⟨w.heap.size + 1, [⟨.collected w.heap.size, #[]⟩], w1, ⟨.fn (.func gf) lb.toArray, (us ++ [Value.func (.yield (w.heap.size + 1)) #[] #[]]).toArray⟩, w1, gf, (us ++ [Value.func (.yield (w.heap.size + 1)) #[] #[]] ++ lb).toArray, w1, ?_, ?_, fun _ _ => trivial, ?_, fun h => by simp [FR, Fence.wide] at h, ?_⟩
    · rw [hw1, hrr]; exact run_enterLoop_outer _ _ _ _ _
    · simp only [resolve, hgv]
      simp [go_sem, Deferred.ofValue]
    · have := it.enters (us ++ [Value.func (.yield (w.heap.size + 1)) #[] #[]] ++ lb).toArray w1
      simpa [invoke] using this
    · refine CallsIn.mono (calls_FR hcall) fun e w3 he => ?_
      obtain ⟨v, S', rfl, ⟨S1, B', rfl, hIS, hB⟩, hst⟩ := he.out
      have st3 := st2.comp hst
      have fr' : Fr { tmps := a.tmps, defers := ⟨.collected w.heap.size, #[]⟩ :: a.defers } κ.n (⟨.collected w.heap.size, #[]⟩ :: κ.ds) L := ⟨ok.fr.size, by simp [ok.fr.defers], ok.fr.get⟩
      have perm3 : ∀ (x : Nat × Obj) (B1 : Hp), (S1 ++ x :: B1 ++ (w.heap.size, Obj.deferred (some [])) :: R).Perm (x :: (w.heap.size, Obj.deferred (some [])) :: (S1 ++ B1 ++ R)) := by
        intro x B1
        refine List.perm_middle.trans ?_
        refine (List.Perm.cons _ ?_).trans (List.Perm.swap _ _ _)
        rw [List.append_assoc, List.append_assoc]
        exact List.perm_middle
      rcases hB with ⟨B1, rfl, hi⟩ | ⟨p, hpx, c, B1, rfl, hi⟩
      · have st4 := st3.perm (perm3 _ _)
        refine ⟨none, w3.putObj (w.heap.size + 1) (.loop (recAt r .exhausted none)), run_endLoop (r := recAt r .ready none) (st4.has _ _ List.mem_cons_self) (by simp [recAt]), ?_⟩
        have st5 := (st4.obj (o' := .loop (recAt r .exhausted none)) .here).sub (HSub.skip (HSub.refl _))
        exact (hdone w.heap.size S1 B1 hIS hi).out _ _ ⟨fr', st5⟩
      · have st4 := st3.perm (perm3 _ _)
        refine ⟨some c, w3.putObj (w.heap.size + 1) (.loop (recAt r .exhausted (some c))), run_endLoop (r := recAt r .done (some c)) (st4.has _ _ List.mem_cons_self) (by simp [recAt]), ?_⟩
        have st5 := (st4.obj (o' := .loop (recAt r .exhausted (some c))) .here).sub (HSub.skip (HSub.refl _))
        exact (hstop w.heap.size S1 c p B1 hIS hpx hi).out none _ _ (.inl rfl) ⟨fr', st5⟩
  · trivial

theorem ci_range2 {l0 : Nat} {r0 : Loop} {α : Type} {g : Operand} {ps : Array Tmp} {assign body : Code} {gf : FuncId} {us lb : List Value} {encs : α → List Value} {xs : List α} {good : Hp → Prop} {S B0 R : Hp} {IS : Hp → Prop} (I : List α → Hp → Prop) (Ix : Code → List α → Hp → Prop)
    (hin : (l0, .loop r0) ∈ H) (hg : ev L g = some (.func (.func gf) us.toArray lb.toArray)) (it : It2 P gf us lb encs xs good S IS) (hpk : Pick H (S ++ B0) R) (hgood : ∀ (q : Nat × Obj) p B, I p B → good (q :: B)) (h0 : I [] B0) (hps : (ps.toList.all fun p => Nat.blt p κ.n) = true) (hlen : ∀ x, ps.toList.length = (encs x).length) (hda : noDefC assign = true)
    (hround : ∀ (l : Nat) (r : Loop) (p : List α) (x : α) (B : Hp) (W : World), r.assign = assign → r.body = body → I p B → p ++ [x] <+: xs → ∀ post : Value → Hp → Prop,
      (∀ B', I (p ++ [x]) B' → post (.bool true) ((l, .loop (recAt r .ready none)) :: B')) → (∀ c B', Ix c (p ++ [x]) B' → post (.bool false) ((l, .loop (recAt r .done (some c))) :: B')) →
      C P ⟨κ.n, [], W, keys ((l, .loop (recAt r .ready none)) :: B)⟩ (Exit.then (Begin P l body (roundPost P l (Post W (keys ((l, .loop (recAt r .ready none)) :: B)) post))) fun _ _ _ => False) assign ((ps.toList.zip (encs x)).reverse ++ L) ((l, .loop (recAt r .ready none)) :: B))
    (hdone : ∀ S1 B, IS S1 → I xs B → X κ (Q .normal) L (S1 ++ B ++ R))
    (hstop : ∀ S1 c p B, IS S1 → p <+: xs → Ix c p B → CI P l0 κ Q c L (S1 ++ B ++ R)) :
    CI P l0 κ Q (.rangeFunc g ps assign body) L H := by
  refine ⟨fun a w ok => ?_⟩
  have hl0 := ok.st.has _ _ hin
  refine wpIn_rangeFunc fun fn _ => ?_
  have hgv := ok.fr.ev hg
  obtain ⟨r, hrr⟩ : ∃ r : Loop, r = { state := .ready, pending := none, fn, tmps := a.tmps, params := ps, assign, body, defers := r0.defers } := ⟨_, rfl⟩
  have er : recAt r .ready none = r := by rw [hrr]; rfl
  obtain ⟨w1, hw1⟩ : ∃ w1, w1 = w.alloc (.loop r) := ⟨_, rfl⟩
  have st1 : St κ.w0 w1 κ.M ((w.heap.size, .loop r) :: H) := by
    have := ok.st.alloc (.loop r)
    rw [hw1]; simpa using this
  have hp1 : ((w.heap.size, Obj.loop r) :: H).Perm ((S ++ ((w.heap.size, Obj.loop (recAt r .ready none)) :: B0)) ++ R) := by
    rw [er]
    refine List.Perm.trans (hpk.perm.cons _) ?_
    rw [List.append_assoc, List.append_assoc]
    exact List.perm_middle.symm
  have st2 := st1.perm hp1
  have hcall := (it.out (w.heap.size) (fun p B => ∃ B1, B = (w.heap.size, Obj.loop (recAt r .ready none)) :: B1 ∧ I p B1) (fun p B => ∃ c B1, B = (w.heap.size, Obj.loop (recAt r .done (some c))) :: B1 ∧ Ix c p B1)
    (fun p B hB => by obtain ⟨B1, rfl, hi⟩ := hB; exact hgood _ p B1 hi)
    (fun p x B hB hx => by
      obtain ⟨B1, rfl, hi⟩ := hB
      refine yd_of ok.fr (by rw [hrr]) (by rw [hrr]; exact fun p hp => List.all_eq_true.1 hps p hp) (by rw [hrr]; exact hlen x) (by rw [hrr]; exact hda) fun W => ?_
      have := hround (w.heap.size) r p x B1 W (by rw [hrr]) (by rw [hrr]) hi hx (fun v B' => (v = .bool true ∧ ∃ B1, B' = (w.heap.size, Obj.loop (recAt r .ready none)) :: B1 ∧ I (p ++ [x]) B1) ∨ (v = .bool false ∧ ∃ c B1, B' = (w.heap.size, Obj.loop (recAt r .done (some c))) :: B1 ∧ Ix c (p ++ [x]) B1))
        (fun B' hb => .inl ⟨rfl, B', rfl, hb⟩) (fun c B' hb => .inr ⟨rfl, c, B', rfl, hb⟩)
      have e1 : r.params = ps := by rw [hrr]
      have e2 : r.assign = assign := by rw [hrr]
      have e3 : r.body = body := by rw [hrr]
      rw [e1, e2, e3]
      exact this) _ ⟨B0, rfl, h0⟩).calls w1 ?_ st2.has_of
  · refine ⟨w.heap.size, [], w1, ⟨.fn (.func gf) lb.toArray, (us ++ [Value.func (.yield (w.heap.size)) #[] #[]]).toArray⟩, w1, gf, (us ++ [Value.func (.yield (w.heap.size)) #[] #[]] ++ lb).toArray, w1, ?_, ?_, fun _ _ => trivial, ?_, fun h => by simp [FR, Fence.wide] at h, ?_⟩
    · rw [hw1, hrr]; exact run_enterLoop_inner hl0 _ _ _ _ _
    · simp only [resolve, hgv]
      simp [go_sem, Deferred.ofValue]
    · have := it.enters (us ++ [Value.func (.yield (w.heap.size)) #[] #[]] ++ lb).toArray w1
      simpa [invoke] using this
    · refine CallsIn.mono (calls_FR hcall) fun e w3 he => ?_
      obtain ⟨v, S', rfl, ⟨S1, B', rfl, hIS, hB⟩, hst⟩ := he.out
      have st3 := st2.comp hst
      have perm3 : ∀ (x : Nat × Obj) (B1 : Hp), (S1 ++ x :: B1 ++ R).Perm (x :: (S1 ++ B1 ++ R)) := by
        intro x B1
        rw [List.append_assoc, List.append_assoc]
        exact List.perm_middle
      rcases hB with ⟨B1, rfl, hi⟩ | ⟨p, hpx, c, B1, rfl, hi⟩
      · have st4 := st3.perm (perm3 _ _)
        refine ⟨none, w3.putObj (w.heap.size) (.loop (recAt r .exhausted none)), run_endLoop (r := recAt r .ready none) (st4.has _ _ List.mem_cons_self) (by simp [recAt]), ?_⟩
        have st5 := (st4.obj (o' := .loop (recAt r .exhausted none)) .here).sub (HSub.skip (HSub.refl _))
        exact (hdone S1 B1 hIS hi).out _ _ ⟨ok.fr, st5⟩
      · have st4 := st3.perm (perm3 _ _)
        refine ⟨some c, w3.putObj (w.heap.size) (.loop (recAt r .exhausted (some c))), run_endLoop (r := recAt r .done (some c)) (st4.has _ _ List.mem_cons_self) (by simp [recAt]), ?_⟩
        have st5 := (st4.obj (o' := .loop (recAt r .exhausted (some c))) .here).sub (HSub.skip (HSub.refl _))
        exact (hstop S1 c p B1 hIS hpx hi).out _ _ ⟨ok.fr, st5⟩
  · trivial

end
end Go.HL
