/- QueueFlushes: the law. Conditions: none. -/
import Derived.Test.YtmmajabfmhipeaaDoorFP3Z
import Derived.Test.YtmmajabfmhipeaaDoorTG2Z
import Derived.Test.YtmmajabfmhipeaaDoorFM14Z
namespace Go.Proofs.YtmmajabfmhipeaaDoor
open Go Go.HL Go.Proofs Go.Tab
theorem rd_nil {w : World} : Rd Eb w (.slice none 0 0) ([] : List UInt8) := Rd.nil Eb w
def PArr (L : List (Sl UInt8)) : Nat → Value → Value → Hp → Prop
  | 0, c0, c1, S => c0 = .pointer none ∧ c1 = .pointer none ∧ S = []
  | 1, c0, c1, S => ∃ b0, c0 = .pointer (some ⟨b0, 0, none⟩) ∧ c1 = .pointer none ∧ PairH L b0 0 S
  | _, c0, c1, S => ∃ b0 b1 S0 S1, c0 = .pointer (some ⟨b0, 0, none⟩) ∧ c1 = .pointer (some ⟨b1, 0, none⟩) ∧ S = S0 ++ S1 ∧ PairH L b0 0 S0 ∧ PairH L b1 0 S1
theorem PArr.one {L : List (Sl UInt8)} {b0 : Nat} {S : Hp} (h : PairH L b0 0 S) : PArr L 1 (.pointer (some ⟨b0, 0, none⟩)) (.pointer none) S := by
  show ∃ b, _ ∧ _ ∧ _
  exact ⟨b0, rfl, rfl, h⟩
theorem PArr.two {L : List (Sl UInt8)} {b0 b1 : Nat} {S0 S1 : Hp} (h : PairH L b0 0 S0) (h1 : PairH L b1 0 S1) : PArr L 2 (.pointer (some ⟨b0, 0, none⟩)) (.pointer (some ⟨b1, 0, none⟩)) (S0 ++ S1) := by
  show ∃ b b' T T', _ ∧ _ ∧ _ ∧ _ ∧ _
  exact ⟨b0, b1, S0, S1, rfl, rfl, rfl, h, h1⟩
theorem pair_new {L : List (Sl UInt8)} (hL : (⟨none, 0, []⟩ : Sl UInt8) ∈ L) (bp bq br bs bw : Nat) : PairH L bp 0 [(bp, .cells [.pointer (some ⟨bq, 0, none⟩), .pointer (some ⟨br, 0, none⟩), .pointer (some ⟨bs, 0, none⟩), .pointer (some ⟨bw, 0, none⟩)].toArray 33 (0, 0)), (bs, .cells [.slice none 0 0, .pointer none, .pointer none, .pointer none, .slice none 0 0, .int .i64 0, .int .i64 0, .int .i64 0, .int .i64 0, .pointer none, .slice none 0 0, .string ⟨#[]⟩, .bool false, .bool false, .bool false, .bool false, .int .i64 0, .int .i64 0, .int .i64 0, .slice none 0 0, .string ⟨#[]⟩, .slice none 0 0, .slice none 0 0, .slice none 0 0, .slice none 0 0, .pointer (some ⟨bq, 0, none⟩), .int .i64 0, .slice none 0 0, .string ⟨#[]⟩, .slice none 0 0].toArray 45 (0, 0)), (bq, .cells [.bool true, .slice none 0 0].toArray 109 (0, 0)), (bw, .cells [.slice none 0 0, .pointer none, .pointer none, .pointer none, .slice none 0 0, .int .i64 0, .int .i64 0, .int .i64 0, .int .i64 0, .pointer (some ⟨br, 0, none⟩), .slice none 0 0, .string ⟨#[]⟩, .bool false, .bool false, .bool false, .bool false, .int .i64 0, .int .i64 0, .int .i64 0, .slice none 0 0, .string ⟨#[]⟩, .slice none 0 0, .slice none 0 0, .slice none 0 0, .slice none 0 0].toArray 43 (0, 0)), (br, .cells [.slice none 0 0].toArray 112 (0, 0))] :=
  ⟨⟨bs, bq, 0, 0, 0, ⟨none, 0, []⟩, ⟨#[]⟩⟩, br, bw, [], 0, 0, ⟨[], 0, []⟩, ⟨none, 0, [], 0, none, 0, [], [], none, 0, [], [], none, 0, [], [], [], none, 0, [], [], [], none, 0, [], [], none, 0, [], [], none, 0, [], [], [], []⟩, ⟨none, 0, [], 0, none, 0, [], [], none, 0, [], [], none, 0, [], [], none, 0, [], [], none, 0, [], [], none, 0, [], [], []⟩,
    List.Perm.refl _, ⟨fun _ h => (by cases h), fun _ h => (by cases h), hL, Nat.zero_le _, Nat.le_refl _, fun _ h => (by cases h), Nat.le_refl _, Nat.le_refl _⟩,
    ⟨.nil, ⟨by decide, by decide⟩, .nil, Nat.le_refl _, .nil, .nil, .nil, OwnL.nil, Nat.le_refl _, fun _ h => (by cases h), .nil, OwnL.nil, Nat.zero_le _, fun _ h => (by cases h), .nil, rfl, fun _ h => (by cases h), .nil, rfl, fun _ h => (by cases h), .nil, ⟨rfl, fun _ _ h => by simp at h⟩⟩,
    ⟨.nil, ⟨by decide, by decide⟩, .nil, Nat.le_refl _, .nil, .nil, .nil, Nat.le_refl _, .nil, Nat.zero_le _, .nil, rfl, .nil, rfl, fun _ h => (by cases h)⟩⟩
/-- behind the scripts: how far the lists that out was handed are gathered -/
def Fin2 (L : List (Sl UInt8)) (n b0 b1 : Nat) : Nat → List (Sl UInt8) → Hp → Prop
  | 0, gl, S => gl = [] ∧ ∃ T0 T1, S = T0 ++ T1 ∧ PairH L b0 n T0 ∧ PairH L b1 n T1
  | 1, gl, S => ∃ S0 T1, S = S0 ++ T1 ∧ (OwnL Eb 1 5 gl (gl.map Sl.xs) S0 ∧ ∀ x ∈ gl, x.xs.length ≤ 1048577) ∧ PairH L b1 n T1
  | _, gl, S => OwnL Eb 1 5 gl (gl.map Sl.xs) S ∧ ∀ x ∈ gl, x.xs.length ≤ 1048577
structure BagI (cs : List Value) (oa : Option Addr) (oc : Nat) (So : Hp) (sls : List (Sl UInt8)) : Prop where
  hb : cs[0]? = some (.slice oa sls.length oc)
  hz : ∀ i, i < 19 → i ≠ 0 → cs[i]? = some (.slice none 0 0)
  hO : OwnS Esl 1 40 (.slice oa sls.length oc) sls So
  hN : sls.length ≤ 400
theorem OwnL.app {α : Type} {E : α → List Value} {k : Nat} {T : TypeId} {sls sls' : List (Sl α)} {xss xss' : List (List α)} {S S' : Hp} (h : OwnL E k T sls xss S) (h' : OwnL E k T sls' xss' S') : OwnL E k T (sls ++ sls') (xss ++ xss') (S ++ S') := by
  induction h with
  | nil => exact h'
  | cons h1 h2 ih => rw [List.append_assoc]; exact .cons h1 ih
theorem OwnL.takeN {α : Type} {E : α → List Value} {k : Nat} {T : TypeId} {sls : List (Sl α)} {xss : List (List α)} {S : Hp} (h : OwnL E k T sls xss S) : ∀ n, ∃ S1 S2, S = S1 ++ S2 ∧ OwnL E k T (sls.take n) (xss.take n) S1 := by
  induction h with
  | nil => exact fun n => ⟨[], [], rfl, by simpa using (OwnL.nil : OwnL E k T [] [] [])⟩
  | cons h1 h2 ih =>
    intro n
    cases n with
    | zero => exact ⟨[], _, rfl, by simpa using (OwnL.nil : OwnL E k T [] [] [])⟩
    | succ n =>
      obtain ⟨S1, S2, rfl, h3⟩ := ih n
      exact ⟨_, S2, (List.append_assoc _ _ _).symm, .cons h1 h3⟩
theorem take_snoc {α : Type} {l : List α} {x : α} {n : Nat} : (l.take n ++ [x]).take n = (l ++ [x]).take n := by
  rcases Nat.lt_or_ge n l.length with h | h
  · rw [List.take_append_of_le_length (by rw [List.length_take]; omega), List.take_append_of_le_length (by omega), List.take_take, Nat.min_self]
  · rw [List.take_of_length_le h]
theorem addFull_fn (b : Nat) (cs : List Value) (sls : List (Sl UInt8)) (s : Sl UInt8) (oa : Option Addr) (oc : Nat) (So : Hp) (hb : cs[0]? = some (.slice oa sls.length oc)) (hN : 400 ≤ sls.length) : HL.Fn Tryd.prog 11 [.pointer (some ⟨b, 0, none⟩), .slice s.a s.xs.length s.c] (fun _ => True) ((b, .cells cs.toArray 70 (0, 0)) :: So) (fun _ S' => S' = (b, .cells cs.toArray 70 (0, 0)) :: So) := by
  refine fn_of Tryd.func11 rfl rfl rfl fun w0 hw => ?_
  refine c_seq fun _ hK1 => ?_
  refine c_region ?_
  refine o_step rfl (s_move rfl) ?_
  refine o_step rfl (s_nil rfl) ?_
  refine o_step rfl (s_field rfl rfl (by decide)) ?_
  refine o_step rfl (s_ld rfl (.own meA hb)) ?_
  refine o_step rfl (s_len rfl) ?_
  refine o_step rfl (s_lss_f rfl rfl (by omega)) ?_
  refine o_nil ?_
  refine x_then (hK1 _ _ ?_)
  refine c_false rfl ?_
  refine c_skip ?_
  refine x_sub (Sub.refl _) (H' := (b, .cells cs.toArray 70 (0, 0)) :: So) hzB ?_
  exact x_end rfl (.nil) (rfl)
theorem addB_fn (b : Nat) (cs : List Value) (oa : Option Addr) (oc : Nat) (So : Hp) (sls : List (Sl UInt8)) (s : Sl UInt8) (h : BagI cs oa oc So sls) : HL.Fn Tryd.prog 11 [.pointer (some ⟨b, 0, none⟩), .slice s.a s.xs.length s.c] (fun _ => True) ((b, .cells cs.toArray 70 (0, 0)) :: So) (fun _ S' => ∃ cs' oa' oc' So', S' = (b, .cells cs'.toArray 70 (0, 0)) :: So' ∧ BagI cs' oa' oc' So' ((sls ++ [s]).take 400)) := by
  by_cases hl : sls.length < 400
  · refine (addBytes_fn b cs sls s oa oc So h.hb hl h.hO).weaken (fun _ h => h) fun v S' ⟨cs', oa', oc', So', h1, h2, h3, h4⟩ => ⟨cs', oa', oc', So', h1, ?_⟩
    rw [List.take_of_length_le (by rw [List.length_append, List.length_singleton]; omega)]
    exact ⟨h2, fun i hi hi0 => (h3 i hi0).trans (h.hz i hi hi0), h4, by rw [List.length_append, List.length_singleton]; omega⟩
  · refine (addFull_fn b cs sls s oa oc So h.hb (by omega)).weaken (fun _ h => h) fun v S' h1 => ⟨cs, oa, oc, So, h1, ?_⟩
    have hN := h.hN
    rw [List.take_append_of_le_length (by omega), List.take_of_length_le (by omega)]
    exact h
theorem bag0 : BagI (List.replicate 19 (Value.slice none 0 0)) none 0 [] (([] : List (Sl UInt8)).take 400) := ⟨by rfl, fun i h _ => by rw [List.getElem?_replicate, if_pos h], .nil, by simp⟩
def LL (one two : List OpQ) : List (Sl UInt8) := ⟨none, 0, []⟩ :: (one.map OpQ.b ++ two.map OpQ.b)
set_option maxHeartbeats 16000000 in
theorem queueFlushes_fn (a a2 : Option Addr) (c c2 : Nat) (one two : List OpQ) (h1l : one.length ≤ 1048576) (h2l : two.length ≤ 1048576) (h1b : ∀ o ∈ one, o.b.xs.length ≤ 1048576 ∧ o.n.size ≤ 140737488355328) (h2b : ∀ o ∈ two, o.b.xs.length ≤ 1048576 ∧ o.n.size ≤ 140737488355328) : HL.Fn Tryd.prog 3 [.slice a one.length c, .slice a2 two.length c2] (fun w => (Rd Eopq w (.slice a one.length c) one ∧ ∀ o ∈ one, Rd Eb w o.b.v o.b.xs) ∧ (Rd Eopq w (.slice a2 two.length c2) two ∧ ∀ o ∈ two, Rd Eb w o.b.v o.b.xs)) [] (fun v _ => v = .bool true) := by
  refine fn_of Tryd.func3 rfl rfl rfl fun w0 hw => ?_
  have hs1 := hw.1.1.sl
  have hs2 := hw.2.1.sl
  have hL0 : (⟨none, 0, []⟩ : Sl UInt8) ∈ LL one two := List.mem_cons_self
  have hLr : ∀ p ∈ LL one two, Rd Eb w0 p.v p.xs := fun p hp => by
    rcases List.mem_cons.1 hp with rfl | hp
    · exact rd_nil
    · rcases List.mem_append.1 hp with hp | hp
      · obtain ⟨o, ho, rfl⟩ := List.mem_map.1 hp; exact hw.1.2 o ho
      · obtain ⟨o, ho, rfl⟩ := List.mem_map.1 hp; exact hw.2.2 o ho
  refine c_seq fun _ hK1 => ?_
  refine c_region ?_
  refine o_step rfl (s_assign rfl) ?_
  refine o_nil ?_
  refine x_then (hK1 _ _ ?_)
  refine c_seq fun _ hK2 => ?_
  refine c_seq fun _ hK3 => ?_
  refine c_region ?_
  refine o_step rfl (s_move rfl) ?_
  refine o_callP (beyondQ_fn a c one (fun o ho => ⟨by have := h1b o ho; omega, (h1b o ho).2⟩)) rfl rfl rfl (fun w st => (RdK.old0 hw.1.1).out w st) (fun v16 hv16 => ?_)
  obtain ⟨q16, rfl⟩ := hv16
  cases q16
  ·
   refine o_step rfl (s_move rfl) ?_
   refine o_yes rfl rfl ?_
   refine o_step rfl (s_move rfl) ?_
   refine o_yes rfl rfl ?_
   refine o_callP (beyondQ_fn a2 c2 two (fun o ho => ⟨by have := h2b o ho; omega, (h2b o ho).2⟩)) rfl rfl rfl (fun w st => (RdK.old0 hw.2.1).out w st) (fun v19 hv19 => ?_)
   obtain ⟨q19, rfl⟩ := hv19
   cases q19
   ·
    refine o_step rfl (s_pick_f rfl rfl) ?_
    refine o_nil ?_
    refine x_then (hK3 _ _ ?_)
    refine c_false rfl ?_
    refine c_skip ?_
    refine x_then (hK2 _ _ ?_)
    refine c_seq fun _ hK4 => ?_
    refine c_region ?_
    refine o_alloc rfl rfl fun b5 => ?_
    refine o_nil ?_
    refine x_then (hK4 _ _ ?_)
    refine c_seq fun _ hK5 => ?_
    refine c_seq fun _ hK6 => ?_
    refine c_region ?_
    refine o_step rfl (s_assign rfl) ?_
    refine o_nil ?_
    refine x_then (hK6 _ _ ?_)
    refine c_block ?_
    -- not carried: 4
    refine c_loop4 (fun (k : Nat) (c0 : Value) (c1 : Value) (SP : Hp) => k ≤ 2 ∧ PArr (LL one two) k c0 c1 SP) (fun (k : Nat) (c0 : Value) (c1 : Value) (SP : Hp) => [(6, .int .i64 k)]) [(0, _), (1, _), (5, _)] (fun (k : Nat) (c0 : Value) (c1 : Value) (SP : Hp) => (b5, .cells [c0, c1].toArray 25 (0, 0)) :: SP) (fun (k : Nat) (c0 : Value) (c1 : Value) (SP : Hp) => 2 - k) 0 (.pointer none) (.pointer none) [] ⟨by omega, rfl, rfl, rfl⟩ sbA sbA hzB ?_
    rintro k c0 c1 SP ⟨hk, hP⟩
    refine c_seq fun _ hK7 => ?_
    refine c_seq fun _ hK8 => ?_
    refine c_region ?_
    refine o_step rfl (s_move rfl) ?_
    refine o_step rfl (s_lss rfl rfl) ?_
    refine o_nil ?_
    refine x_then (hK8 _ _ ?_)
    refine c_if rfl (fun hlt => ?_) (fun hlt => ?_)
    ·
     have hk01 : k = 0 ∨ k = 1 := by omega
     rcases hk01 with rfl | rfl
     ·
      obtain ⟨rfl, rfl, rfl⟩ := hP
      refine c_skip ?_
      refine x_then (hK7 _ _ ?_)
      refine c_seq fun _ hK9 => ?_
      refine c_block ?_
      refine c_seq fun _ hK10 => ?_
      refine c_region ?_
      refine o_call (queueNew_fn) rfl rfl rfl (by exact .nil) (fun _ _ => trivial) (fun v25 S25 ⟨bq, hv25, hS25⟩ => ?_)
      subst hv25
      subst hS25
      refine o_call (rqNew_fn) rfl rfl rfl (by exact .nil) (fun _ _ => trivial) (fun v26 S26 ⟨br, hv26, hS26⟩ => ?_)
      subst hv26
      subst hS26
      refine o_step rfl (step_cast (v' := .agg [.pointer (some ⟨bq, 0, none⟩), .pointer (some ⟨br, 0, none⟩), .pointer none, .pointer none].toArray) (s_build (cs := [_, _, _, _]) (vs := [_, _]) rfl rfl (.cons rfl rfl rfl rfl rfl (.cons rfl rfl rfl rfl rfl (.nil)))) rfl) ?_
      refine o_box rfl rfl rfl fun b28 => ?_
      refine o_step rfl (s_assign rfl) ?_
      refine o_nil ?_
      refine x_then (hK10 _ _ ?_)
      refine c_seq fun _ hK11 => ?_
      refine c_seq fun _ hK12 => ?_
      refine c_region ?_
      refine o_step rfl (s_move rfl) ?_
      refine o_step rfl (s_nil rfl) ?_
      refine o_step rfl (s_field rfl rfl (by decide)) ?_
      refine o_step rfl (s_ld rfl (.own meA rfl)) ?_
      refine o_step rfl (step_cast (v' := .bool false) (s_eql_nilp rfl rfl) rfl) ?_
      refine o_nil ?_
      refine x_then (hK12 _ _ ?_)
      refine c_false rfl ?_
      refine c_skip ?_
      refine x_then (hK11 _ _ ?_)
      refine c_seq fun _ hK13 => ?_
      refine c_region ?_
      refine o_step rfl (s_move rfl) ?_
      refine o_step rfl (s_move rfl) ?_
      refine o_step rfl (s_nil rfl) ?_
      refine o_step rfl (s_field rfl rfl (by decide)) ?_
      refine o_step rfl (s_ld rfl (.own meA rfl)) ?_
      refine o_step rfl (step_cast (v' := .agg [.slice none 0 0, .pointer none, .pointer none, .pointer none, .slice none 0 0, .int .i64 0, .int .i64 0, .int .i64 0, .int .i64 0, .pointer none, .slice none 0 0, .string ⟨#[]⟩, .bool false, .bool false, .bool false, .bool false, .int .i64 0, .int .i64 0, .int .i64 0, .slice none 0 0, .string ⟨#[]⟩, .slice none 0 0, .slice none 0 0, .slice none 0 0, .slice none 0 0, .pointer (some ⟨bq, 0, none⟩), .int .i64 0, .slice none 0 0, .string ⟨#[]⟩, .slice none 0 0].toArray) (s_build (cs := [_, _, _, _, _, _, _, _, _, _, _, _, _, _, _, _, _, _, _, _, _, _, _, _, _, _, _, _, _, _]) (vs := [_]) rfl rfl (.cons rfl rfl rfl rfl rfl (.nil))) rfl) ?_
      refine o_box rfl rfl rfl fun b40 => ?_
      refine o_step rfl (s_nil rfl) ?_
      refine o_step rfl (s_field rfl rfl (by decide)) ?_
      refine o_store rfl rfl rfl upA (by first | decide | omega | (simp; done) | (simp; omega)) rfl ?_
      refine o_nil ?_
      refine x_then (hK13 _ _ ?_)
      refine c_seq fun _ hK14 => ?_
      refine c_region ?_
      refine o_step rfl (s_move rfl) ?_
      refine o_step rfl (s_move rfl) ?_
      refine o_step rfl (s_nil rfl) ?_
      refine o_step rfl (s_field rfl rfl (by decide)) ?_
      refine o_step rfl (s_ld rfl (.own meA rfl)) ?_
      refine o_step rfl (step_cast (v' := .agg [.slice none 0 0, .pointer none, .pointer none, .pointer none, .slice none 0 0, .int .i64 0, .int .i64 0, .int .i64 0, .int .i64 0, .pointer (some ⟨br, 0, none⟩), .slice none 0 0, .string ⟨#[]⟩, .bool false, .bool false, .bool false, .bool false, .int .i64 0, .int .i64 0, .int .i64 0, .slice none 0 0, .string ⟨#[]⟩, .slice none 0 0, .slice none 0 0, .slice none 0 0, .slice none 0 0].toArray) (s_build (cs := [_, _, _, _, _, _, _, _, _, _, _, _, _, _, _, _, _, _, _, _, _, _, _, _, _]) (vs := [_]) rfl rfl (.cons rfl rfl rfl rfl rfl (.nil))) rfl) ?_
      refine o_box rfl rfl rfl fun b49 => ?_
      refine o_step rfl (s_nil rfl) ?_
      refine o_step rfl (s_field rfl rfl (by decide)) ?_
      refine o_store rfl rfl rfl upA (by first | decide | omega | (simp; done) | (simp; omega)) rfl ?_
      refine o_nil ?_
      refine x_then (hK14 _ _ ?_)
      refine c_region ?_
      refine o_step rfl (s_move rfl) ?_
      refine o_step rfl (s_move rfl) ?_
      refine o_step rfl (s_indexA rfl rfl (by omega)) ?_
      refine o_store rfl rfl rfl upA (by first | decide | omega | (simp; done) | (simp; omega)) rfl ?_
      refine o_nil ?_
      refine x_block ?_
      refine x_then (hK9 _ _ ?_)
      refine c_region ?_
      refine o_step rfl (s_move rfl) ?_
      refine o_step rfl (s_add rfl rfl (by omega)) ?_
      refine o_step rfl (s_assign rfl) ?_
      refine o_nil ?_
      exact x_then (x_inv (1, .pointer (some ⟨b28, 0, none⟩), .pointer none, [(b28, .cells [.pointer (some ⟨bq, 0, none⟩), .pointer (some ⟨br, 0, none⟩), .pointer (some ⟨b40, 0, none⟩), .pointer (some ⟨b49, 0, none⟩)].toArray 33 (0, 0)), (b40, .cells [.slice none 0 0, .pointer none, .pointer none, .pointer none, .slice none 0 0, .int .i64 0, .int .i64 0, .int .i64 0, .int .i64 0, .pointer none, .slice none 0 0, .string ⟨#[]⟩, .bool false, .bool false, .bool false, .bool false, .int .i64 0, .int .i64 0, .int .i64 0, .slice none 0 0, .string ⟨#[]⟩, .slice none 0 0, .slice none 0 0, .slice none 0 0, .slice none 0 0, .pointer (some ⟨bq, 0, none⟩), .int .i64 0, .slice none 0 0, .string ⟨#[]⟩, .slice none 0 0].toArray 45 (0, 0)), (bq, .cells [.bool true, .slice none 0 0].toArray 109 (0, 0)), (b49, .cells [.slice none 0 0, .pointer none, .pointer none, .pointer none, .slice none 0 0, .int .i64 0, .int .i64 0, .int .i64 0, .int .i64 0, .pointer (some ⟨br, 0, none⟩), .slice none 0 0, .string ⟨#[]⟩, .bool false, .bool false, .bool false, .bool false, .int .i64 0, .int .i64 0, .int .i64 0, .slice none 0 0, .string ⟨#[]⟩, .slice none 0 0, .slice none 0 0, .slice none 0 0, .slice none 0 0].toArray 43 (0, 0)), (br, .cells [.slice none 0 0].toArray 112 (0, 0))]) ⟨by omega, PArr.one (pair_new hL0 _ _ _ _ _)⟩ (by first | omega | (dsimp only; omega)) sbA hzB)
     ·
      obtain ⟨b0, rfl, rfl, hP0⟩ := hP
      refine c_skip ?_
      refine x_then (hK7 _ _ ?_)
      refine c_seq fun _ hK15 => ?_
      refine c_block ?_
      refine c_seq fun _ hK16 => ?_
      refine c_region ?_
      refine o_call (queueNew_fn) rfl rfl rfl (by exact .nil) (fun _ _ => trivial) (fun v25 S25 ⟨bq, hv25, hS25⟩ => ?_)
      subst hv25
      subst hS25
      refine o_call (rqNew_fn) rfl rfl rfl (by exact .nil) (fun _ _ => trivial) (fun v26 S26 ⟨br, hv26, hS26⟩ => ?_)
      subst hv26
      subst hS26
      refine o_step rfl (step_cast (v' := .agg [.pointer (some ⟨bq, 0, none⟩), .pointer (some ⟨br, 0, none⟩), .pointer none, .pointer none].toArray) (s_build (cs := [_, _, _, _]) (vs := [_, _]) rfl rfl (.cons rfl rfl rfl rfl rfl (.cons rfl rfl rfl rfl rfl (.nil)))) rfl) ?_
      refine o_box rfl rfl rfl fun b28 => ?_
      refine o_step rfl (s_assign rfl) ?_
      refine o_nil ?_
      refine x_then (hK16 _ _ ?_)
      refine c_seq fun _ hK17 => ?_
      refine c_seq fun _ hK18 => ?_
      refine c_region ?_
      refine o_step rfl (s_move rfl) ?_
      refine o_step rfl (s_nil rfl) ?_
      refine o_step rfl (s_field rfl rfl (by decide)) ?_
      refine o_step rfl (s_ld rfl (.own meA rfl)) ?_
      refine o_step rfl (step_cast (v' := .bool false) (s_eql_nilp rfl rfl) rfl) ?_
      refine o_nil ?_
      refine x_then (hK18 _ _ ?_)
      refine c_false rfl ?_
      refine c_skip ?_
      refine x_then (hK17 _ _ ?_)
      refine c_seq fun _ hK19 => ?_
      refine c_region ?_
      refine o_step rfl (s_move rfl) ?_
      refine o_step rfl (s_move rfl) ?_
      refine o_step rfl (s_nil rfl) ?_
      refine o_step rfl (s_field rfl rfl (by decide)) ?_
      refine o_step rfl (s_ld rfl (.own meA rfl)) ?_
      refine o_step rfl (step_cast (v' := .agg [.slice none 0 0, .pointer none, .pointer none, .pointer none, .slice none 0 0, .int .i64 0, .int .i64 0, .int .i64 0, .int .i64 0, .pointer none, .slice none 0 0, .string ⟨#[]⟩, .bool false, .bool false, .bool false, .bool false, .int .i64 0, .int .i64 0, .int .i64 0, .slice none 0 0, .string ⟨#[]⟩, .slice none 0 0, .slice none 0 0, .slice none 0 0, .slice none 0 0, .pointer (some ⟨bq, 0, none⟩), .int .i64 0, .slice none 0 0, .string ⟨#[]⟩, .slice none 0 0].toArray) (s_build (cs := [_, _, _, _, _, _, _, _, _, _, _, _, _, _, _, _, _, _, _, _, _, _, _, _, _, _, _, _, _, _]) (vs := [_]) rfl rfl (.cons rfl rfl rfl rfl rfl (.nil))) rfl) ?_
      refine o_box rfl rfl rfl fun b40 => ?_
      refine o_step rfl (s_nil rfl) ?_
      refine o_step rfl (s_field rfl rfl (by decide)) ?_
      refine o_store rfl rfl rfl upA (by first | decide | omega | (simp; done) | (simp; omega)) rfl ?_
      refine o_nil ?_
      refine x_then (hK19 _ _ ?_)
      refine c_seq fun _ hK20 => ?_
      refine c_region ?_
      refine o_step rfl (s_move rfl) ?_
      refine o_step rfl (s_move rfl) ?_
      refine o_step rfl (s_nil rfl) ?_
      refine o_step rfl (s_field rfl rfl (by decide)) ?_
      refine o_step rfl (s_ld rfl (.own meA rfl)) ?_
      refine o_step rfl (step_cast (v' := .agg [.slice none 0 0, .pointer none, .pointer none, .pointer none, .slice none 0 0, .int .i64 0, .int .i64 0, .int .i64 0, .int .i64 0, .pointer (some ⟨br, 0, none⟩), .slice none 0 0, .string ⟨#[]⟩, .bool false, .bool false, .bool false, .bool false, .int .i64 0, .int .i64 0, .int .i64 0, .slice none 0 0, .string ⟨#[]⟩, .slice none 0 0, .slice none 0 0, .slice none 0 0, .slice none 0 0].toArray) (s_build (cs := [_, _, _, _, _, _, _, _, _, _, _, _, _, _, _, _, _, _, _, _, _, _, _, _, _]) (vs := [_]) rfl rfl (.cons rfl rfl rfl rfl rfl (.nil))) rfl) ?_
      refine o_box rfl rfl rfl fun b49 => ?_
      refine o_step rfl (s_nil rfl) ?_
      refine o_step rfl (s_field rfl rfl (by decide)) ?_
      refine o_store rfl rfl rfl upA (by first | decide | omega | (simp; done) | (simp; omega)) rfl ?_
      refine o_nil ?_
      refine x_then (hK20 _ _ ?_)
      refine c_region ?_
      refine o_step rfl (s_move rfl) ?_
      refine o_step rfl (s_move rfl) ?_
      refine o_step rfl (s_indexA rfl rfl (by omega)) ?_
      refine o_store rfl rfl rfl upA (by first | decide | omega | (simp; done) | (simp; omega)) rfl ?_
      refine o_nil ?_
      refine x_block ?_
      refine x_then (hK15 _ _ ?_)
      refine c_region ?_
      refine o_step rfl (s_move rfl) ?_
      refine o_step rfl (s_add rfl rfl (by omega)) ?_
      refine o_step rfl (s_assign rfl) ?_
      refine o_nil ?_
      exact x_then (x_inv (2, .pointer (some ⟨b0, 0, none⟩), .pointer (some ⟨b28, 0, none⟩), SP ++ [(b28, .cells [.pointer (some ⟨bq, 0, none⟩), .pointer (some ⟨br, 0, none⟩), .pointer (some ⟨b40, 0, none⟩), .pointer (some ⟨b49, 0, none⟩)].toArray 33 (0, 0)), (b40, .cells [.slice none 0 0, .pointer none, .pointer none, .pointer none, .slice none 0 0, .int .i64 0, .int .i64 0, .int .i64 0, .int .i64 0, .pointer none, .slice none 0 0, .string ⟨#[]⟩, .bool false, .bool false, .bool false, .bool false, .int .i64 0, .int .i64 0, .int .i64 0, .slice none 0 0, .string ⟨#[]⟩, .slice none 0 0, .slice none 0 0, .slice none 0 0, .slice none 0 0, .pointer (some ⟨bq, 0, none⟩), .int .i64 0, .slice none 0 0, .string ⟨#[]⟩, .slice none 0 0].toArray 45 (0, 0)), (bq, .cells [.bool true, .slice none 0 0].toArray 109 (0, 0)), (b49, .cells [.slice none 0 0, .pointer none, .pointer none, .pointer none, .slice none 0 0, .int .i64 0, .int .i64 0, .int .i64 0, .int .i64 0, .pointer (some ⟨br, 0, none⟩), .slice none 0 0, .string ⟨#[]⟩, .bool false, .bool false, .bool false, .bool false, .int .i64 0, .int .i64 0, .int .i64 0, .slice none 0 0, .string ⟨#[]⟩, .slice none 0 0, .slice none 0 0, .slice none 0 0, .slice none 0 0].toArray 43 (0, 0)), (br, .cells [.slice none 0 0].toArray 112 (0, 0))]) ⟨by omega, PArr.two hP0 (pair_new hL0 _ _ _ _ _)⟩ (by first | omega | (dsimp only; omega)) sbA hzB)
    ·
     obtain rfl : k = 2 := by omega
     obtain ⟨b0, b1, S0, S1, rfl, rfl, rfl, hp0, hp1⟩ := hP
     refine c_exit ?_
     refine x_then_exit ?_
     refine x_then_exit ?_
     refine x_block_exit ?_
     refine x_then (hK5 _ _ ?_)
     refine c_seq fun _ hK21 => ?_
     refine c_seq fun _ hK22 => ?_
     refine c_region ?_
     refine o_step rfl (s_assign rfl) ?_
     refine o_nil ?_
     refine x_then (hK22 _ _ ?_)
     refine c_block ?_
     refine c_loop3 (fun (i : Nat) (T0 : Hp) (T1 : Hp) => i ≤ max one.length two.length ∧ PairH (LL one two) b0 i T0 ∧ PairH (LL one two) b1 i T1) (fun (i : Nat) (T0 : Hp) (T1 : Hp) => [(8, .int .i64 i)]) [(0, _), (1, _), (5, _)] (fun (i : Nat) (T0 : Hp) (T1 : Hp) => (b5, .cells [.pointer (some ⟨b0, 0, none⟩), .pointer (some ⟨b1, 0, none⟩)].toArray 25 (0, 0)) :: (T0 ++ T1)) (fun (i : Nat) (T0 : Hp) (T1 : Hp) => max one.length two.length - i) 0 S0 S1 ⟨Nat.zero_le _, hp0, hp1⟩ sbA sbA hzB ?_
     rintro i T0 T1 ⟨hi, hp0, hp1⟩
     refine c_seq fun _ hK23 => ?_
     refine c_seq fun _ hK24 => ?_
     refine c_region ?_
     refine o_step rfl (s_move rfl) ?_
     refine o_step rfl (s_move rfl) ?_
     refine o_step rfl (s_len rfl) ?_
     by_cases h1 : i < one.length
     ·
      refine o_step rfl (step_cast (v' := .bool true) (s_lss rfl rfl) (by rw [decide_eq_true (by omega)])) ?_
      refine o_step rfl (s_move rfl) ?_
      refine o_no rfl rfl rfl rfl ?_
      refine o_no rfl rfl rfl rfl ?_
      refine o_no rfl rfl rfl rfl ?_
      refine o_no rfl rfl rfl rfl ?_
      refine o_step rfl (s_pick_t rfl rfl) ?_
      refine o_nil ?_
      refine x_then (hK24 _ _ ?_)
      refine c_true rfl ?_
      refine c_skip ?_
      refine x_then (hK23 _ _ ?_)
      refine c_seq fun _ hK25 => ?_
      refine c_block ?_
      refine c_seq fun _ hK26 => ?_
      refine c_region ?_
      refine o_step rfl (s_assign rfl) ?_
      refine o_nil ?_
      refine x_then (hK26 _ _ ?_)
      refine c_seq fun _ hK27 => ?_
      refine c_seq fun _ hK28 => ?_
      refine c_region ?_
      refine o_step rfl (s_move rfl) ?_
      refine o_step rfl (s_move rfl) ?_
      refine o_step rfl (s_len rfl) ?_
      by_cases h1c : i < one.length
      ·
       refine o_step rfl (step_cast (v' := .bool true) (s_lss rfl rfl) (by rw [decide_eq_true (by omega)])) ?_
       refine o_nil ?_
       refine x_then (hK28 _ _ ?_)
       refine c_true rfl ?_
       refine c_drawE ([(b5, .cells [.pointer (some ⟨b0, 0, none⟩), .pointer (some ⟨b1, 0, none⟩)].toArray 25 (0, 0))]) (fun i => false) ?_
       refine e_take 0 rfl (by kernel_rfl) (by kernel_rfl) (by kernel_rfl) (by kernel_rfl) (fun _ _ => rfl) rfl hzB (s_indexA rfl rfl (by omega)) ?_
       refine e_take 1 rfl (by kernel_rfl) (by kernel_rfl) (by kernel_rfl) (by kernel_rfl) (fun _ _ => rfl) rfl hzB (s_ld rfl (.own meA rfl)) ?_
       refine e_take 2 rfl (by kernel_rfl) (by kernel_rfl) (by kernel_rfl) (by kernel_rfl) (fun _ _ => rfl) rfl hzB (s_move rfl) ?_
       refine e_take 3 rfl (by kernel_rfl) (by kernel_rfl) (by kernel_rfl) (by kernel_rfl) (fun _ _ => rfl) rfl hzB (s_move rfl) ?_
       refine e_take 4 rfl (by kernel_rfl) (by kernel_rfl) (by kernel_rfl) (by kernel_rfl) (fun _ _ => rfl) rfl hzB (s_idx rfl rfl hs1 (by omega)) ?_
       refine e_take 5 rfl (by kernel_rfl) (by kernel_rfl) (by kernel_rfl) (by kernel_rfl) (fun _ _ => rfl) rfl hzB (s_ldB rfl ((RdK.old0 hw.1.1).lds i (gd_get (d := oz) (by omega)) rfl) (by rfl)) ?_
       refine e_one 6 rfl (by kernel_rfl) ?_
       refine o_call (does_fn (LL one two) b0 i T0 (one.getD i oz) hp0 (List.mem_cons_of_mem _ (List.mem_append_left _ (List.mem_map_of_mem (gd_mem (d := oz) (by omega))))) (h1b _ (gd_mem (d := oz) (by omega))).1 (by omega)) rfl rfl rfl (pkA) (fun w st => OldL.top hLr st hiA) (fun v77 S77 ⟨hv77, hp77⟩ => ?_)
       subst hv77
       refine o_nil ?_
       refine x_oneS hzB ?_
       refine e_take 7 rfl (by kernel_rfl) (by kernel_rfl) (by kernel_rfl) (by kernel_rfl) (fun _ _ => rfl) rfl hzB (s_assign rfl) ?_
       refine e_done (by kernel_rfl) ?_
       refine x_then (hK27 _ _ ?_)
       refine c_seq fun _ hK29 => ?_
       refine c_seq fun _ hK30 => ?_
       refine c_region ?_
       refine o_step rfl (s_move rfl) ?_
       refine o_step rfl (s_move rfl) ?_
       refine o_step rfl (s_len rfl) ?_
       by_cases h2c : i < two.length
       ·
        refine o_step rfl (step_cast (v' := .bool true) (s_lss rfl rfl) (by rw [decide_eq_true (by omega)])) ?_
        refine o_nil ?_
        refine x_then (hK30 _ _ ?_)
        refine c_true rfl ?_
        refine c_drawE ([(b5, .cells [.pointer (some ⟨b0, 0, none⟩), .pointer (some ⟨b1, 0, none⟩)].toArray 25 (0, 0))]) (fun i => false) ?_
        refine e_take 0 rfl (by kernel_rfl) (by kernel_rfl) (by kernel_rfl) (by kernel_rfl) (fun _ _ => rfl) rfl hzB (s_indexA rfl rfl (by omega)) ?_
        refine e_take 1 rfl (by kernel_rfl) (by kernel_rfl) (by kernel_rfl) (by kernel_rfl) (fun _ _ => rfl) rfl hzB (s_ld rfl (.own meA rfl)) ?_
        refine e_take 2 rfl (by kernel_rfl) (by kernel_rfl) (by kernel_rfl) (by kernel_rfl) (fun _ _ => rfl) rfl hzB (s_move rfl) ?_
        refine e_take 3 rfl (by kernel_rfl) (by kernel_rfl) (by kernel_rfl) (by kernel_rfl) (fun _ _ => rfl) rfl hzB (s_move rfl) ?_
        refine e_take 4 rfl (by kernel_rfl) (by kernel_rfl) (by kernel_rfl) (by kernel_rfl) (fun _ _ => rfl) rfl hzB (s_idx rfl rfl hs2 (by omega)) ?_
        refine e_take 5 rfl (by kernel_rfl) (by kernel_rfl) (by kernel_rfl) (by kernel_rfl) (fun _ _ => rfl) rfl hzB (s_ldB rfl ((RdK.old0 hw.2.1).lds i (gd_get (d := oz) (by omega)) rfl) (by rfl)) ?_
        refine e_one 6 rfl (by kernel_rfl) ?_
        refine o_call (does_fn (LL one two) b1 i T1 (two.getD i oz) hp1 (List.mem_cons_of_mem _ (List.mem_append_right _ (List.mem_map_of_mem (gd_mem (d := oz) (by omega))))) (h2b _ (gd_mem (d := oz) (by omega))).1 (by omega)) rfl rfl rfl (pkA) (fun w st => OldL.top hLr st hiA) (fun v88 S88 ⟨hv88, hp88⟩ => ?_)
        subst hv88
        refine o_nil ?_
        refine x_oneS hzB ?_
        refine e_take 7 rfl (by kernel_rfl) (by kernel_rfl) (by kernel_rfl) (by kernel_rfl) (fun _ _ => rfl) rfl hzB (s_move rfl) ?_
        refine e_take 8 rfl (by kernel_rfl) (by kernel_rfl) (by kernel_rfl) (by kernel_rfl) (fun _ fr => by rw [wanted_of fr rfl rfl rfl]; rfl) rfl hzB (s_move rfl) ?_
        refine e_take 9 rfl (by kernel_rfl) (by kernel_rfl) (by kernel_rfl) (by kernel_rfl) (fun _ _ => rfl) rfl hzB (s_pick_t rfl rfl) ?_
        refine e_take 10 rfl (by kernel_rfl) (by kernel_rfl) (by kernel_rfl) (by kernel_rfl) (fun _ _ => rfl) rfl hzB (s_assign rfl) ?_
        refine e_done (by kernel_rfl) ?_
        refine x_then (hK29 _ _ ?_)
        refine c_seq fun _ hK31 => ?_
        refine c_region ?_
        refine o_step rfl (s_move rfl) ?_
        refine o_step rfl (step_cast (v' := .bool false) (s_not rfl) rfl) ?_
        refine o_nil ?_
        refine x_then (hK31 _ _ ?_)
        refine c_false rfl ?_
        refine c_skip ?_
        refine x_block ?_
        refine x_then (hK25 _ _ ?_)
        refine c_region ?_
        refine o_step rfl (s_move rfl) ?_
        refine o_step rfl (s_add rfl rfl (by omega)) ?_
        refine o_step rfl (s_assign rfl) ?_
        refine o_nil ?_
        exact x_then (x_inv (i + 1, S77, S88) ⟨by dsimp only; omega, hp77, hp88⟩ (by first | omega | (dsimp only; omega)) sbA hzB)
       ·
        refine o_step rfl (step_cast (v' := .bool false) (s_lss rfl rfl) (by rw [decide_eq_false (by omega)])) ?_
        refine o_nil ?_
        refine x_then (hK30 _ _ ?_)
        refine c_false rfl ?_
        refine c_skip ?_
        refine x_then (hK29 _ _ ?_)
        refine c_seq fun _ hK32 => ?_
        refine c_region ?_
        refine o_step rfl (s_move rfl) ?_
        refine o_step rfl (step_cast (v' := .bool false) (s_not rfl) rfl) ?_
        refine o_nil ?_
        refine x_then (hK32 _ _ ?_)
        refine c_false rfl ?_
        refine c_skip ?_
        refine x_block ?_
        refine x_then (hK25 _ _ ?_)
        refine c_region ?_
        refine o_step rfl (s_move rfl) ?_
        refine o_step rfl (s_add rfl rfl (by omega)) ?_
        refine o_step rfl (s_assign rfl) ?_
        refine o_nil ?_
        exact x_then (x_inv (i + 1, S77, T1) ⟨by dsimp only; omega, hp77, hp1.mono⟩ (by first | omega | (dsimp only; omega)) sbA hzB)
      ·
       refine o_step rfl (step_cast (v' := .bool false) (s_lss rfl rfl) (by rw [decide_eq_false (by omega)])) ?_
       refine o_nil ?_
       refine x_then (hK28 _ _ ?_)
       refine c_false rfl ?_
       refine c_skip ?_
       refine x_then (hK27 _ _ ?_)
       refine c_seq fun _ hK33 => ?_
       refine c_seq fun _ hK34 => ?_
       refine c_region ?_
       refine o_step rfl (s_move rfl) ?_
       refine o_step rfl (s_move rfl) ?_
       refine o_step rfl (s_len rfl) ?_
       by_cases h2c : i < two.length
       ·
        refine o_step rfl (step_cast (v' := .bool true) (s_lss rfl rfl) (by rw [decide_eq_true (by omega)])) ?_
        refine o_nil ?_
        refine x_then (hK34 _ _ ?_)
        refine c_true rfl ?_
        refine c_drawE ([(b5, .cells [.pointer (some ⟨b0, 0, none⟩), .pointer (some ⟨b1, 0, none⟩)].toArray 25 (0, 0))]) (fun i => false) ?_
        refine e_take 0 rfl (by kernel_rfl) (by kernel_rfl) (by kernel_rfl) (by kernel_rfl) (fun _ _ => rfl) rfl hzB (s_indexA rfl rfl (by omega)) ?_
        refine e_take 1 rfl (by kernel_rfl) (by kernel_rfl) (by kernel_rfl) (by kernel_rfl) (fun _ _ => rfl) rfl hzB (s_ld rfl (.own meA rfl)) ?_
        refine e_take 2 rfl (by kernel_rfl) (by kernel_rfl) (by kernel_rfl) (by kernel_rfl) (fun _ _ => rfl) rfl hzB (s_move rfl) ?_
        refine e_take 3 rfl (by kernel_rfl) (by kernel_rfl) (by kernel_rfl) (by kernel_rfl) (fun _ _ => rfl) rfl hzB (s_move rfl) ?_
        refine e_take 4 rfl (by kernel_rfl) (by kernel_rfl) (by kernel_rfl) (by kernel_rfl) (fun _ _ => rfl) rfl hzB (s_idx rfl rfl hs2 (by omega)) ?_
        refine e_take 5 rfl (by kernel_rfl) (by kernel_rfl) (by kernel_rfl) (by kernel_rfl) (fun _ _ => rfl) rfl hzB (s_ldB rfl ((RdK.old0 hw.2.1).lds i (gd_get (d := oz) (by omega)) rfl) (by rfl)) ?_
        refine e_one 6 rfl (by kernel_rfl) ?_
        refine o_call (does_fn (LL one two) b1 i T1 (two.getD i oz) hp1 (List.mem_cons_of_mem _ (List.mem_append_right _ (List.mem_map_of_mem (gd_mem (d := oz) (by omega))))) (h2b _ (gd_mem (d := oz) (by omega))).1 (by omega)) rfl rfl rfl (pkA) (fun w st => OldL.top hLr st hiA) (fun v88 S88 ⟨hv88, hp88⟩ => ?_)
        subst hv88
        refine o_nil ?_
        refine x_oneS hzB ?_
        refine e_take 7 rfl (by kernel_rfl) (by kernel_rfl) (by kernel_rfl) (by kernel_rfl) (fun _ _ => rfl) rfl hzB (s_move rfl) ?_
        refine e_take 8 rfl (by kernel_rfl) (by kernel_rfl) (by kernel_rfl) (by kernel_rfl) (fun _ fr => by rw [wanted_of fr rfl rfl rfl]; rfl) rfl hzB (s_move rfl) ?_
        refine e_take 9 rfl (by kernel_rfl) (by kernel_rfl) (by kernel_rfl) (by kernel_rfl) (fun _ _ => rfl) rfl hzB (s_pick_t rfl rfl) ?_
        refine e_take 10 rfl (by kernel_rfl) (by kernel_rfl) (by kernel_rfl) (by kernel_rfl) (fun _ _ => rfl) rfl hzB (s_assign rfl) ?_
        refine e_done (by kernel_rfl) ?_
        refine x_then (hK33 _ _ ?_)
        refine c_seq fun _ hK35 => ?_
        refine c_region ?_
        refine o_step rfl (s_move rfl) ?_
        refine o_step rfl (step_cast (v' := .bool false) (s_not rfl) rfl) ?_
        refine o_nil ?_
        refine x_then (hK35 _ _ ?_)
        refine c_false rfl ?_
        refine c_skip ?_
        refine x_block ?_
        refine x_then (hK25 _ _ ?_)
        refine c_region ?_
        refine o_step rfl (s_move rfl) ?_
        refine o_step rfl (s_add rfl rfl (by omega)) ?_
        refine o_step rfl (s_assign rfl) ?_
        refine o_nil ?_
        exact x_then (x_inv (i + 1, T0, S88) ⟨by dsimp only; omega, hp0.mono, hp88⟩ (by first | omega | (dsimp only; omega)) sbA hzB)
       ·
        refine o_step rfl (step_cast (v' := .bool false) (s_lss rfl rfl) (by rw [decide_eq_false (by omega)])) ?_
        refine o_nil ?_
        refine x_then (hK34 _ _ ?_)
        refine c_false rfl ?_
        refine c_skip ?_
        refine x_then (hK33 _ _ ?_)
        refine c_seq fun _ hK36 => ?_
        refine c_region ?_
        refine o_step rfl (s_move rfl) ?_
        refine o_step rfl (step_cast (v' := .bool false) (s_not rfl) rfl) ?_
        refine o_nil ?_
        refine x_then (hK36 _ _ ?_)
        refine c_false rfl ?_
        refine c_skip ?_
        refine x_block ?_
        refine x_then (hK25 _ _ ?_)
        refine c_region ?_
        refine o_step rfl (s_move rfl) ?_
        refine o_step rfl (s_add rfl rfl (by omega)) ?_
        refine o_step rfl (s_assign rfl) ?_
        refine o_nil ?_
        exact x_then (x_inv (i + 1, T0, T1) ⟨by dsimp only; omega, hp0.mono, hp1.mono⟩ (by first | omega | (dsimp only; omega)) sbA hzB)
     ·
      refine o_step rfl (step_cast (v' := .bool false) (s_lss rfl rfl) (by rw [decide_eq_false (by omega)])) ?_
      refine o_step rfl (s_move rfl) ?_
      refine o_yes rfl rfl ?_
      refine o_step rfl (s_move rfl) ?_
      refine o_yes rfl rfl ?_
      refine o_step rfl (s_move rfl) ?_
      refine o_yes rfl rfl ?_
      refine o_step rfl (s_len rfl) ?_
      refine o_yes rfl rfl ?_
      by_cases h2 : i < two.length
      ·
       refine o_step rfl (step_cast (v' := .bool true) (s_lss rfl rfl) (by rw [decide_eq_true (by omega)])) ?_
       refine o_step rfl (s_pick_f rfl rfl) ?_
       refine o_nil ?_
       refine x_then (hK24 _ _ ?_)
       refine c_true rfl ?_
       refine c_skip ?_
       refine x_then (hK23 _ _ ?_)
       refine c_seq fun _ hK37 => ?_
       refine c_block ?_
       refine c_seq fun _ hK38 => ?_
       refine c_region ?_
       refine o_step rfl (s_assign rfl) ?_
       refine o_nil ?_
       refine x_then (hK38 _ _ ?_)
       refine c_seq fun _ hK39 => ?_
       refine c_seq fun _ hK40 => ?_
       refine c_region ?_
       refine o_step rfl (s_move rfl) ?_
       refine o_step rfl (s_move rfl) ?_
       refine o_step rfl (s_len rfl) ?_
       by_cases h1c : i < one.length
       ·
        refine o_step rfl (step_cast (v' := .bool true) (s_lss rfl rfl) (by rw [decide_eq_true (by omega)])) ?_
        refine o_nil ?_
        refine x_then (hK40 _ _ ?_)
        refine c_true rfl ?_
        refine c_drawE ([(b5, .cells [.pointer (some ⟨b0, 0, none⟩), .pointer (some ⟨b1, 0, none⟩)].toArray 25 (0, 0))]) (fun i => false) ?_
        refine e_take 0 rfl (by kernel_rfl) (by kernel_rfl) (by kernel_rfl) (by kernel_rfl) (fun _ _ => rfl) rfl hzB (s_indexA rfl rfl (by omega)) ?_
        refine e_take 1 rfl (by kernel_rfl) (by kernel_rfl) (by kernel_rfl) (by kernel_rfl) (fun _ _ => rfl) rfl hzB (s_ld rfl (.own meA rfl)) ?_
        refine e_take 2 rfl (by kernel_rfl) (by kernel_rfl) (by kernel_rfl) (by kernel_rfl) (fun _ _ => rfl) rfl hzB (s_move rfl) ?_
        refine e_take 3 rfl (by kernel_rfl) (by kernel_rfl) (by kernel_rfl) (by kernel_rfl) (fun _ _ => rfl) rfl hzB (s_move rfl) ?_
        refine e_take 4 rfl (by kernel_rfl) (by kernel_rfl) (by kernel_rfl) (by kernel_rfl) (fun _ _ => rfl) rfl hzB (s_idx rfl rfl hs1 (by omega)) ?_
        refine e_take 5 rfl (by kernel_rfl) (by kernel_rfl) (by kernel_rfl) (by kernel_rfl) (fun _ _ => rfl) rfl hzB (s_ldB rfl ((RdK.old0 hw.1.1).lds i (gd_get (d := oz) (by omega)) rfl) (by rfl)) ?_
        refine e_one 6 rfl (by kernel_rfl) ?_
        refine o_call (does_fn (LL one two) b0 i T0 (one.getD i oz) hp0 (List.mem_cons_of_mem _ (List.mem_append_left _ (List.mem_map_of_mem (gd_mem (d := oz) (by omega))))) (h1b _ (gd_mem (d := oz) (by omega))).1 (by omega)) rfl rfl rfl (pkA) (fun w st => OldL.top hLr st hiA) (fun v77 S77 ⟨hv77, hp77⟩ => ?_)
        subst hv77
        refine o_nil ?_
        refine x_oneS hzB ?_
        refine e_take 7 rfl (by kernel_rfl) (by kernel_rfl) (by kernel_rfl) (by kernel_rfl) (fun _ _ => rfl) rfl hzB (s_assign rfl) ?_
        refine e_done (by kernel_rfl) ?_
        refine x_then (hK39 _ _ ?_)
        refine c_seq fun _ hK41 => ?_
        refine c_seq fun _ hK42 => ?_
        refine c_region ?_
        refine o_step rfl (s_move rfl) ?_
        refine o_step rfl (s_move rfl) ?_
        refine o_step rfl (s_len rfl) ?_
        by_cases h2c : i < two.length
        ·
         refine o_step rfl (step_cast (v' := .bool true) (s_lss rfl rfl) (by rw [decide_eq_true (by omega)])) ?_
         refine o_nil ?_
         refine x_then (hK42 _ _ ?_)
         refine c_true rfl ?_
         refine c_drawE ([(b5, .cells [.pointer (some ⟨b0, 0, none⟩), .pointer (some ⟨b1, 0, none⟩)].toArray 25 (0, 0))]) (fun i => false) ?_
         refine e_take 0 rfl (by kernel_rfl) (by kernel_rfl) (by kernel_rfl) (by kernel_rfl) (fun _ _ => rfl) rfl hzB (s_indexA rfl rfl (by omega)) ?_
         refine e_take 1 rfl (by kernel_rfl) (by kernel_rfl) (by kernel_rfl) (by kernel_rfl) (fun _ _ => rfl) rfl hzB (s_ld rfl (.own meA rfl)) ?_
         refine e_take 2 rfl (by kernel_rfl) (by kernel_rfl) (by kernel_rfl) (by kernel_rfl) (fun _ _ => rfl) rfl hzB (s_move rfl) ?_
         refine e_take 3 rfl (by kernel_rfl) (by kernel_rfl) (by kernel_rfl) (by kernel_rfl) (fun _ _ => rfl) rfl hzB (s_move rfl) ?_
         refine e_take 4 rfl (by kernel_rfl) (by kernel_rfl) (by kernel_rfl) (by kernel_rfl) (fun _ _ => rfl) rfl hzB (s_idx rfl rfl hs2 (by omega)) ?_
         refine e_take 5 rfl (by kernel_rfl) (by kernel_rfl) (by kernel_rfl) (by kernel_rfl) (fun _ _ => rfl) rfl hzB (s_ldB rfl ((RdK.old0 hw.2.1).lds i (gd_get (d := oz) (by omega)) rfl) (by rfl)) ?_
         refine e_one 6 rfl (by kernel_rfl) ?_
         refine o_call (does_fn (LL one two) b1 i T1 (two.getD i oz) hp1 (List.mem_cons_of_mem _ (List.mem_append_right _ (List.mem_map_of_mem (gd_mem (d := oz) (by omega))))) (h2b _ (gd_mem (d := oz) (by omega))).1 (by omega)) rfl rfl rfl (pkA) (fun w st => OldL.top hLr st hiA) (fun v88 S88 ⟨hv88, hp88⟩ => ?_)
         subst hv88
         refine o_nil ?_
         refine x_oneS hzB ?_
         refine e_take 7 rfl (by kernel_rfl) (by kernel_rfl) (by kernel_rfl) (by kernel_rfl) (fun _ _ => rfl) rfl hzB (s_move rfl) ?_
         refine e_take 8 rfl (by kernel_rfl) (by kernel_rfl) (by kernel_rfl) (by kernel_rfl) (fun _ fr => by rw [wanted_of fr rfl rfl rfl]; rfl) rfl hzB (s_move rfl) ?_
         refine e_take 9 rfl (by kernel_rfl) (by kernel_rfl) (by kernel_rfl) (by kernel_rfl) (fun _ _ => rfl) rfl hzB (s_pick_t rfl rfl) ?_
         refine e_take 10 rfl (by kernel_rfl) (by kernel_rfl) (by kernel_rfl) (by kernel_rfl) (fun _ _ => rfl) rfl hzB (s_assign rfl) ?_
         refine e_done (by kernel_rfl) ?_
         refine x_then (hK41 _ _ ?_)
         refine c_seq fun _ hK43 => ?_
         refine c_region ?_
         refine o_step rfl (s_move rfl) ?_
         refine o_step rfl (step_cast (v' := .bool false) (s_not rfl) rfl) ?_
         refine o_nil ?_
         refine x_then (hK43 _ _ ?_)
         refine c_false rfl ?_
         refine c_skip ?_
         refine x_block ?_
         refine x_then (hK37 _ _ ?_)
         refine c_region ?_
         refine o_step rfl (s_move rfl) ?_
         refine o_step rfl (s_add rfl rfl (by omega)) ?_
         refine o_step rfl (s_assign rfl) ?_
         refine o_nil ?_
         exact x_then (x_inv (i + 1, S77, S88) ⟨by dsimp only; omega, hp77, hp88⟩ (by first | omega | (dsimp only; omega)) sbA hzB)
        ·
         refine o_step rfl (step_cast (v' := .bool false) (s_lss rfl rfl) (by rw [decide_eq_false (by omega)])) ?_
         refine o_nil ?_
         refine x_then (hK42 _ _ ?_)
         refine c_false rfl ?_
         refine c_skip ?_
         refine x_then (hK41 _ _ ?_)
         refine c_seq fun _ hK44 => ?_
         refine c_region ?_
         refine o_step rfl (s_move rfl) ?_
         refine o_step rfl (step_cast (v' := .bool false) (s_not rfl) rfl) ?_
         refine o_nil ?_
         refine x_then (hK44 _ _ ?_)
         refine c_false rfl ?_
         refine c_skip ?_
         refine x_block ?_
         refine x_then (hK37 _ _ ?_)
         refine c_region ?_
         refine o_step rfl (s_move rfl) ?_
         refine o_step rfl (s_add rfl rfl (by omega)) ?_
         refine o_step rfl (s_assign rfl) ?_
         refine o_nil ?_
         exact x_then (x_inv (i + 1, S77, T1) ⟨by dsimp only; omega, hp77, hp1.mono⟩ (by first | omega | (dsimp only; omega)) sbA hzB)
       ·
        refine o_step rfl (step_cast (v' := .bool false) (s_lss rfl rfl) (by rw [decide_eq_false (by omega)])) ?_
        refine o_nil ?_
        refine x_then (hK40 _ _ ?_)
        refine c_false rfl ?_
        refine c_skip ?_
        refine x_then (hK39 _ _ ?_)
        refine c_seq fun _ hK45 => ?_
        refine c_seq fun _ hK46 => ?_
        refine c_region ?_
        refine o_step rfl (s_move rfl) ?_
        refine o_step rfl (s_move rfl) ?_
        refine o_step rfl (s_len rfl) ?_
        by_cases h2c : i < two.length
        ·
         refine o_step rfl (step_cast (v' := .bool true) (s_lss rfl rfl) (by rw [decide_eq_true (by omega)])) ?_
         refine o_nil ?_
         refine x_then (hK46 _ _ ?_)
         refine c_true rfl ?_
         refine c_drawE ([(b5, .cells [.pointer (some ⟨b0, 0, none⟩), .pointer (some ⟨b1, 0, none⟩)].toArray 25 (0, 0))]) (fun i => false) ?_
         refine e_take 0 rfl (by kernel_rfl) (by kernel_rfl) (by kernel_rfl) (by kernel_rfl) (fun _ _ => rfl) rfl hzB (s_indexA rfl rfl (by omega)) ?_
         refine e_take 1 rfl (by kernel_rfl) (by kernel_rfl) (by kernel_rfl) (by kernel_rfl) (fun _ _ => rfl) rfl hzB (s_ld rfl (.own meA rfl)) ?_
         refine e_take 2 rfl (by kernel_rfl) (by kernel_rfl) (by kernel_rfl) (by kernel_rfl) (fun _ _ => rfl) rfl hzB (s_move rfl) ?_
         refine e_take 3 rfl (by kernel_rfl) (by kernel_rfl) (by kernel_rfl) (by kernel_rfl) (fun _ _ => rfl) rfl hzB (s_move rfl) ?_
         refine e_take 4 rfl (by kernel_rfl) (by kernel_rfl) (by kernel_rfl) (by kernel_rfl) (fun _ _ => rfl) rfl hzB (s_idx rfl rfl hs2 (by omega)) ?_
         refine e_take 5 rfl (by kernel_rfl) (by kernel_rfl) (by kernel_rfl) (by kernel_rfl) (fun _ _ => rfl) rfl hzB (s_ldB rfl ((RdK.old0 hw.2.1).lds i (gd_get (d := oz) (by omega)) rfl) (by rfl)) ?_
         refine e_one 6 rfl (by kernel_rfl) ?_
         refine o_call (does_fn (LL one two) b1 i T1 (two.getD i oz) hp1 (List.mem_cons_of_mem _ (List.mem_append_right _ (List.mem_map_of_mem (gd_mem (d := oz) (by omega))))) (h2b _ (gd_mem (d := oz) (by omega))).1 (by omega)) rfl rfl rfl (pkA) (fun w st => OldL.top hLr st hiA) (fun v88 S88 ⟨hv88, hp88⟩ => ?_)
         subst hv88
         refine o_nil ?_
         refine x_oneS hzB ?_
         refine e_take 7 rfl (by kernel_rfl) (by kernel_rfl) (by kernel_rfl) (by kernel_rfl) (fun _ _ => rfl) rfl hzB (s_move rfl) ?_
         refine e_take 8 rfl (by kernel_rfl) (by kernel_rfl) (by kernel_rfl) (by kernel_rfl) (fun _ fr => by rw [wanted_of fr rfl rfl rfl]; rfl) rfl hzB (s_move rfl) ?_
         refine e_take 9 rfl (by kernel_rfl) (by kernel_rfl) (by kernel_rfl) (by kernel_rfl) (fun _ _ => rfl) rfl hzB (s_pick_t rfl rfl) ?_
         refine e_take 10 rfl (by kernel_rfl) (by kernel_rfl) (by kernel_rfl) (by kernel_rfl) (fun _ _ => rfl) rfl hzB (s_assign rfl) ?_
         refine e_done (by kernel_rfl) ?_
         refine x_then (hK45 _ _ ?_)
         refine c_seq fun _ hK47 => ?_
         refine c_region ?_
         refine o_step rfl (s_move rfl) ?_
         refine o_step rfl (step_cast (v' := .bool false) (s_not rfl) rfl) ?_
         refine o_nil ?_
         refine x_then (hK47 _ _ ?_)
         refine c_false rfl ?_
         refine c_skip ?_
         refine x_block ?_
         refine x_then (hK37 _ _ ?_)
         refine c_region ?_
         refine o_step rfl (s_move rfl) ?_
         refine o_step rfl (s_add rfl rfl (by omega)) ?_
         refine o_step rfl (s_assign rfl) ?_
         refine o_nil ?_
         exact x_then (x_inv (i + 1, T0, S88) ⟨by dsimp only; omega, hp0.mono, hp88⟩ (by first | omega | (dsimp only; omega)) sbA hzB)
        ·
         refine o_step rfl (step_cast (v' := .bool false) (s_lss rfl rfl) (by rw [decide_eq_false (by omega)])) ?_
         refine o_nil ?_
         refine x_then (hK46 _ _ ?_)
         refine c_false rfl ?_
         refine c_skip ?_
         refine x_then (hK45 _ _ ?_)
         refine c_seq fun _ hK48 => ?_
         refine c_region ?_
         refine o_step rfl (s_move rfl) ?_
         refine o_step rfl (step_cast (v' := .bool false) (s_not rfl) rfl) ?_
         refine o_nil ?_
         refine x_then (hK48 _ _ ?_)
         refine c_false rfl ?_
         refine c_skip ?_
         refine x_block ?_
         refine x_then (hK37 _ _ ?_)
         refine c_region ?_
         refine o_step rfl (s_move rfl) ?_
         refine o_step rfl (s_add rfl rfl (by omega)) ?_
         refine o_step rfl (s_assign rfl) ?_
         refine o_nil ?_
         exact x_then (x_inv (i + 1, T0, T1) ⟨by dsimp only; omega, hp0.mono, hp1.mono⟩ (by first | omega | (dsimp only; omega)) sbA hzB)
      ·
       refine o_step rfl (step_cast (v' := .bool false) (s_lss rfl rfl) (by rw [decide_eq_false (by omega)])) ?_
       refine o_step rfl (s_pick_f rfl rfl) ?_
       refine o_nil ?_
       refine x_then (hK24 _ _ ?_)
       refine c_false rfl ?_
       refine c_exit ?_
       refine x_then_exit ?_
       refine x_then_exit ?_
       refine x_block_exit ?_
       refine x_then (hK21 _ _ ?_)
       refine c_seq fun _ hK49 => ?_
       refine c_region ?_
       refine o_callP (qlives_fn) rfl rfl rfl (fun _ _ => trivial) (fun v94 hv94 => ?_)
       subst hv94
       refine o_step rfl (s_assign rfl) ?_
       refine o_nil ?_
       refine x_then (hK49 _ _ ?_)
       refine c_seq fun _ hK50 => ?_
       refine c_region ?_
       refine o_step rfl (step_cast (v' := .agg (List.replicate 19 (Value.slice none 0 0)).toArray) (s_build (cs := [_, _, _, _, _, _, _, _, _, _, _, _, _, _, _, _, _, _, _]) (vs := []) rfl rfl (.nil)) rfl) ?_
       refine o_box rfl rfl rfl fun b96 => ?_
       refine o_step rfl (s_assign rfl) ?_
       refine o_nil ?_
       refine x_then (hK50 _ _ ?_)
       refine c_seq fun _ hK51 => ?_
       refine c_seq fun _ hK52 => ?_
       refine c_region ?_
       refine o_step rfl (s_assign rfl) ?_
       refine o_nil ?_
       refine x_then (hK52 _ _ ?_)
       refine c_block ?_
       refine c_loop7 (fun (k : Nat) (gl : List (Sl UInt8)) (S : Hp) (cs : List Value) (oa : Option Addr) (oc : Nat) (So : Hp) => k ≤ 2 ∧ Fin2 (LL one two) i b0 b1 k gl S ∧ BagI cs oa oc So (gl.take 400)) (fun (k : Nat) (gl : List (Sl UInt8)) (S : Hp) (cs : List Value) (oa : Option Addr) (oc : Nat) (So : Hp) => [(12, .int .i64 k)]) [(5, _), (10, _), (11, _)] (fun (k : Nat) (gl : List (Sl UInt8)) (S : Hp) (cs : List Value) (oa : Option Addr) (oc : Nat) (So : Hp) => (b5, .cells [.pointer (some ⟨b0, 0, none⟩), .pointer (some ⟨b1, 0, none⟩)].toArray 25 (0, 0)) :: (b96, .cells cs.toArray 70 (0, 0)) :: (So ++ S)) (fun (k : Nat) (gl : List (Sl UInt8)) (S : Hp) (cs : List Value) (oa : Option Addr) (oc : Nat) (So : Hp) => 2 - k) 0 [] (T0 ++ T1) (List.replicate 19 (Value.slice none 0 0)) none 0 [] ⟨by omega, ⟨rfl, T0, T1, rfl, hp0, hp1⟩, bag0⟩ sbA sbA hzB ?_
       rintro k gl S cs oa oc So ⟨hk, hF, hBg⟩
       refine c_seq fun _ hK53 => ?_
       refine c_seq fun _ hK54 => ?_
       refine c_region ?_
       refine o_step rfl (s_move rfl) ?_
       refine o_step rfl (s_lss rfl rfl) ?_
       refine o_nil ?_
       refine x_then (hK54 _ _ ?_)
       refine c_if rfl (fun hlt => ?_) (fun hlt => ?_)
       ·
        have hk01 : k = 0 ∨ k = 1 := by omega
        rcases hk01 with rfl | rfl
        ·
         obtain ⟨hgl0, TK, SR, rfl, hpk, hRb⟩ := hF
         have hgl0 : ∀ l : List (Sl UInt8), gl ++ l = l := fun l => by rw [hgl0]; rfl
         refine c_skip ?_
         refine x_then (hK53 _ _ ?_)
         refine c_seq fun _ hK55 => ?_
         refine c_block ?_
         refine c_seq fun _ hK56 => ?_
         refine c_region ?_
         refine o_step rfl (s_move rfl) ?_
         refine o_step rfl (s_indexA rfl rfl (by omega)) ?_
         refine o_step rfl (s_ld rfl (.own meA rfl)) ?_
         refine o_step rfl (step_cast (v' := .agg (Eopq (⟨2, ⟨none, 0, []⟩, ⟨#[]⟩, 0, 0, 0⟩ : OpQ)).toArray) (s_build (cs := [_, _, _, _, _, _]) (vs := [_]) rfl rfl (.cons rfl rfl rfl rfl rfl (.nil))) rfl) ?_
         refine o_call (does_fn (LL one two) b0 i TK (⟨2, ⟨none, 0, []⟩, ⟨#[]⟩, 0, 0, 0⟩ : OpQ) hpk List.mem_cons_self (by simp) (by omega)) rfl rfl rfl (pkA) (fun w st => OldL.top hLr st hiA) (fun v105 S105 ⟨hv105, hp105⟩ => ?_)
         subst hv105
         refine o_step rfl (s_move rfl) ?_
         refine o_yes rfl rfl ?_
         refine o_step rfl (s_move rfl) ?_
         refine o_yes rfl rfl ?_
         refine o_step rfl (s_indexA rfl rfl (by omega)) ?_
         refine o_yes rfl rfl ?_
         refine o_step rfl (s_ld rfl (.own meA rfl)) ?_
         refine o_yes rfl rfl ?_
         refine o_step rfl (step_cast (v' := .agg (Eopq (⟨3, ⟨none, 0, []⟩, ⟨#[]⟩, 0, 0, 0⟩ : OpQ)).toArray) (s_build (cs := [_, _, _, _, _, _]) (vs := [_]) rfl rfl (.cons rfl rfl rfl rfl rfl (.nil))) rfl) ?_
         refine o_yes rfl rfl ?_
         refine o_call (does_fn (LL one two) b0 (i + 1) S105 (⟨3, ⟨none, 0, []⟩, ⟨#[]⟩, 0, 0, 0⟩ : OpQ) hp105 List.mem_cons_self (by simp) (by omega)) rfl rfl rfl (pkA) (fun w st => OldL.top hLr st hiA) (fun v111 S111 ⟨hv111, hp111⟩ => ?_)
         subst hv111
         refine o_step rfl (s_pick_t rfl rfl) ?_
         refine o_step rfl (s_move rfl) ?_
         refine o_yes rfl rfl ?_
         refine o_step rfl (s_move rfl) ?_
         refine o_yes rfl rfl ?_
         refine o_step rfl (s_indexA rfl rfl (by omega)) ?_
         refine o_yes rfl rfl ?_
         refine o_step rfl (s_ld rfl (.own meA rfl)) ?_
         refine o_yes rfl rfl ?_
         refine o_step rfl (step_cast (v' := .agg (Eopq (⟨2, ⟨none, 0, []⟩, ⟨#[]⟩, 0, 0, 0⟩ : OpQ)).toArray) (s_build (cs := [_, _, _, _, _, _]) (vs := [_]) rfl rfl (.cons rfl rfl rfl rfl rfl (.nil))) rfl) ?_
         refine o_yes rfl rfl ?_
         refine o_call (does_fn (LL one two) b0 (i + 1 + 1) S111 (⟨2, ⟨none, 0, []⟩, ⟨#[]⟩, 0, 0, 0⟩ : OpQ) hp111 List.mem_cons_self (by simp) (by omega)) rfl rfl rfl (pkA) (fun w st => OldL.top hLr st hiA) (fun v118 S118 ⟨hv118, hp118⟩ => ?_)
         subst hv118
         obtain ⟨p, br, bw, fs, g0, z, s, d, e, hSp, hIp, okd, oke⟩ := hp118
         have hgs := okd.hg.sl
         have hgbl := hgs.le
         refine o_sk (H' := (b5, .cells [.pointer (some ⟨b0, 0, none⟩), .pointer (some ⟨b1, 0, none⟩)].toArray 25 (0, 0)) :: (b96, .cells cs.toArray 70 (0, 0)) :: (b0, .cells [.pointer (some ⟨p.bq, 0, none⟩), .pointer (some ⟨br, 0, none⟩), .pointer (some ⟨p.bs, 0, none⟩), .pointer (some ⟨bw, 0, none⟩)].toArray 33 (0, 0)) :: (p.bs, .cells [.slice none 0 0, .pointer none, .pointer none, .pointer none, .slice d.fa fs.length d.fc, .int .i64 p.fail, .int .i64 p.err, .int .i64 0, .int .i64 0, .pointer none, .slice none 0 0, .string ⟨#[]⟩, .bool false, .bool false, .bool false, .bool false, .int .i64 0, .int .i64 (s.outs : Nat), .int .i64 d.sum, .slice d.aa d.al.length d.ac, .string ⟨#[]⟩, .slice d.ca d.cl.length d.cc, .slice d.ga d.gl.length d.gc, .slice d.la d.ll.length d.lc, .slice d.wa d.wl.length d.wc, .pointer (some ⟨p.bq, 0, none⟩), .int .i64 p.dur, .slice p.B.a p.B.xs.length p.B.c, .string p.N, .slice d.sa d.sl.length d.sc].toArray 45 (0, 0)) :: (d.Sg ++ (d.SG ++ (So ++ SR)))) (by classical exact hsub_count fun x => by have h1 := hSp.count_eq x; simp only [AD.heap, AD.rest, BD.heap, BD.rest, List.count_append, List.count_cons, List.cons_append, List.nil_append, List.count_nil] at h1 ⊢; omega) ?_
         refine o_step rfl (s_pick_t rfl rfl) ?_
         refine o_step rfl (s_assign rfl) ?_
         refine o_nil ?_
         refine x_then (hK56 _ _ ?_)
         refine c_seq fun _ hK57 => ?_
         refine c_seq fun _ hK58 => ?_
         refine c_region ?_
         refine o_step rfl (s_move rfl) ?_
         refine o_step rfl (step_cast (v' := .bool false) (s_not rfl) rfl) ?_
         refine o_nil ?_
         refine x_then (hK58 _ _ ?_)
         refine c_false rfl ?_
         refine c_skip ?_
         refine x_then (hK57 _ _ ?_)
         refine c_seq fun _ hK59 => ?_
         refine c_region ?_
         refine o_step rfl (s_assign rfl) ?_
         refine o_nil ?_
         refine x_then (hK59 _ _ ?_)
         refine c_block ?_
         refine c_loop5 (fun (j : Nat) (cs : List Value) (oa : Option Addr) (oc : Nat) (So : Hp) => j ≤ d.gl.length ∧ BagI cs oa oc So ((gl ++ d.gl.take j).take 400)) (fun (j : Nat) (cs : List Value) (oa : Option Addr) (oc : Nat) (So : Hp) => [(14, .int .i64 j)]) [(5, _), (10, _), (11, _), (12, _), (13, _), (97, _), (98, _), (101, _), (102, _), (103, _), (104, _), (105, _), (106, _), (107, _), (108, _), (109, _), (110, _), (111, _), (112, _), (113, _), (114, _), (115, _), (116, _), (117, _), (118, _), (119, _), (120, _), (121, _)] (fun (j : Nat) (cs : List Value) (oa : Option Addr) (oc : Nat) (So : Hp) => (b5, .cells [.pointer (some ⟨b0, 0, none⟩), .pointer (some ⟨b1, 0, none⟩)].toArray 25 (0, 0)) :: (b96, .cells cs.toArray 70 (0, 0)) :: (b0, .cells [.pointer (some ⟨p.bq, 0, none⟩), .pointer (some ⟨br, 0, none⟩), .pointer (some ⟨p.bs, 0, none⟩), .pointer (some ⟨bw, 0, none⟩)].toArray 33 (0, 0)) :: (p.bs, .cells [.slice none 0 0, .pointer none, .pointer none, .pointer none, .slice d.fa fs.length d.fc, .int .i64 p.fail, .int .i64 p.err, .int .i64 0, .int .i64 0, .pointer none, .slice none 0 0, .string ⟨#[]⟩, .bool false, .bool false, .bool false, .bool false, .int .i64 0, .int .i64 (s.outs : Nat), .int .i64 d.sum, .slice d.aa d.al.length d.ac, .string ⟨#[]⟩, .slice d.ca d.cl.length d.cc, .slice d.ga d.gl.length d.gc, .slice d.la d.ll.length d.lc, .slice d.wa d.wl.length d.wc, .pointer (some ⟨p.bq, 0, none⟩), .int .i64 p.dur, .slice p.B.a p.B.xs.length p.B.c, .string p.N, .slice d.sa d.sl.length d.sc].toArray 45 (0, 0)) :: (d.Sg ++ (d.SG ++ (So ++ SR)))) (fun (j : Nat) (cs : List Value) (oa : Option Addr) (oc : Nat) (So : Hp) => d.gl.length - j) 0 cs oa oc So ⟨Nat.zero_le _, by simpa using hBg⟩ sbA sbA hzB ?_
         rintro j cs oa oc So ⟨hj, hBg⟩
         refine c_seq fun _ hK60 => ?_
         refine c_seq fun _ hK61 => ?_
         refine c_region ?_
         refine o_step rfl (s_move rfl) ?_
         refine o_step rfl (s_move rfl) ?_
         refine o_step rfl (s_indexA rfl rfl (by omega)) ?_
         refine o_step rfl (s_ld rfl (.own meA rfl)) ?_
         refine o_step rfl (s_nil rfl) ?_
         refine o_step rfl (s_field rfl rfl (by decide)) ?_
         refine o_step rfl (s_ld rfl (.own meA rfl)) ?_
         refine o_step rfl (s_nil rfl) ?_
         refine o_step rfl (s_field rfl rfl (by decide)) ?_
         refine o_step rfl (s_field rfl rfl (by decide)) ?_
         refine o_step rfl (s_ld rfl (.own meA rfl)) ?_
         refine o_step rfl (s_len rfl) ?_
         by_cases hjl : j < d.gl.length
         ·
          obtain ⟨x, hx⟩ : ∃ x, d.gl[j]? = some x := ⟨_, List.getElem?_eq_getElem hjl⟩
          refine o_step rfl (step_cast (v' := .bool true) (s_lss rfl rfl) (by rw [decide_eq_true (by omega)])) ?_
          refine o_nil ?_
          refine x_then (hK61 _ _ ?_)
          refine c_true rfl ?_
          refine c_skip ?_
          refine x_then (hK60 _ _ ?_)
          refine c_seq fun _ hK62 => ?_
          refine c_block ?_
          refine c_region ?_
          refine o_step rfl (s_move rfl) ?_
          refine o_step rfl (s_move rfl) ?_
          refine o_step rfl (s_indexA rfl rfl (by omega)) ?_
          refine o_step rfl (s_ld rfl (.own meA rfl)) ?_
          refine o_step rfl (s_nil rfl) ?_
          refine o_step rfl (s_field rfl rfl (by decide)) ?_
          refine o_step rfl (s_ld rfl (.own meA rfl)) ?_
          refine o_step rfl (s_nil rfl) ?_
          refine o_step rfl (s_field rfl rfl (by decide)) ?_
          refine o_step rfl (s_field rfl rfl (by decide)) ?_
          refine o_step rfl (s_ld rfl (.own meA rfl)) ?_
          refine o_step rfl (s_move rfl) ?_
          refine o_step rfl (s_idx rfl rfl hgs (by omega)) ?_
          refine o_step rfl (s_ld rfl ((okd.hg.rdk hiA).ld j 0 hx rfl (by decide) (by omega))) ?_
          refine o_call (addB_fn b96 cs oa oc So _ x hBg) rfl rfl rfl ((Pick.takeC pkA pkA)) (fun _ _ => trivial) (fun v151 S151 ⟨cs151, oa151, oc151, So151, hS151, hB151⟩ => ?_)
          subst hS151
          refine o_nil ?_
          refine x_block ?_
          refine x_then (hK62 _ _ ?_)
          refine c_region ?_
          refine o_step rfl (s_move rfl) ?_
          refine o_step rfl (s_add rfl rfl (by omega)) ?_
          refine o_step rfl (s_assign rfl) ?_
          refine o_nil ?_
          exact x_then (x_inv (j + 1, cs151, oa151, oc151, So151) ⟨by dsimp only; omega, by dsimp only; rw [show d.gl.take (j + 1) = d.gl.take j ++ [x] by rw [List.take_add_one, hx]; rfl, ← List.append_assoc, ← take_snoc]; exact hB151⟩ (by first | omega | (dsimp only; omega)) sbA hzB)
         ·
          obtain rfl : j = d.gl.length := by omega
          refine o_step rfl (step_cast (v' := .bool false) (s_lss rfl rfl) (by rw [decide_eq_false (by omega)])) ?_
          refine o_nil ?_
          refine x_then (hK61 _ _ ?_)
          refine c_false rfl ?_
          refine c_exit ?_
          refine x_then_exit ?_
          refine x_then_exit ?_
          refine x_block_exit ?_
          refine x_block ?_
          refine x_then (hK55 _ _ ?_)
          refine c_region ?_
          refine o_step rfl (s_move rfl) ?_
          refine o_step rfl (s_add rfl rfl (by omega)) ?_
          refine o_step rfl (s_assign rfl) ?_
          refine o_nil ?_
          exact x_then (x_inv (1, gl ++ d.gl, d.SG ++ SR, cs, oa, oc, So) ⟨by omega, ⟨d.SG, SR, rfl, ⟨by rw [hgl0]; exact okd.hgo, by rw [hgl0]; exact okd.hgb⟩, hRb⟩, by rw [List.take_length] at hBg; exact hBg⟩ (by first | omega | (dsimp only; omega)) sbA hzB)
        ·
         obtain ⟨SR, TK, rfl, hR, hpk⟩ := hF
         refine c_skip ?_
         refine x_then (hK53 _ _ ?_)
         refine c_seq fun _ hK63 => ?_
         refine c_block ?_
         refine c_seq fun _ hK64 => ?_
         refine c_region ?_
         refine o_step rfl (s_move rfl) ?_
         refine o_step rfl (s_indexA rfl rfl (by omega)) ?_
         refine o_step rfl (s_ld rfl (.own meA rfl)) ?_
         refine o_step rfl (step_cast (v' := .agg (Eopq (⟨2, ⟨none, 0, []⟩, ⟨#[]⟩, 0, 0, 0⟩ : OpQ)).toArray) (s_build (cs := [_, _, _, _, _, _]) (vs := [_]) rfl rfl (.cons rfl rfl rfl rfl rfl (.nil))) rfl) ?_
         refine o_call (does_fn (LL one two) b1 i TK (⟨2, ⟨none, 0, []⟩, ⟨#[]⟩, 0, 0, 0⟩ : OpQ) hpk List.mem_cons_self (by simp) (by omega)) rfl rfl rfl (pkA) (fun w st => OldL.top hLr st hiA) (fun v105 S105 ⟨hv105, hp105⟩ => ?_)
         subst hv105
         refine o_step rfl (s_move rfl) ?_
         refine o_yes rfl rfl ?_
         refine o_step rfl (s_move rfl) ?_
         refine o_yes rfl rfl ?_
         refine o_step rfl (s_indexA rfl rfl (by omega)) ?_
         refine o_yes rfl rfl ?_
         refine o_step rfl (s_ld rfl (.own meA rfl)) ?_
         refine o_yes rfl rfl ?_
         refine o_step rfl (step_cast (v' := .agg (Eopq (⟨3, ⟨none, 0, []⟩, ⟨#[]⟩, 0, 0, 0⟩ : OpQ)).toArray) (s_build (cs := [_, _, _, _, _, _]) (vs := [_]) rfl rfl (.cons rfl rfl rfl rfl rfl (.nil))) rfl) ?_
         refine o_yes rfl rfl ?_
         refine o_call (does_fn (LL one two) b1 (i + 1) S105 (⟨3, ⟨none, 0, []⟩, ⟨#[]⟩, 0, 0, 0⟩ : OpQ) hp105 List.mem_cons_self (by simp) (by omega)) rfl rfl rfl (pkA) (fun w st => OldL.top hLr st hiA) (fun v111 S111 ⟨hv111, hp111⟩ => ?_)
         subst hv111
         refine o_step rfl (s_pick_t rfl rfl) ?_
         refine o_step rfl (s_move rfl) ?_
         refine o_yes rfl rfl ?_
         refine o_step rfl (s_move rfl) ?_
         refine o_yes rfl rfl ?_
         refine o_step rfl (s_indexA rfl rfl (by omega)) ?_
         refine o_yes rfl rfl ?_
         refine o_step rfl (s_ld rfl (.own meA rfl)) ?_
         refine o_yes rfl rfl ?_
         refine o_step rfl (step_cast (v' := .agg (Eopq (⟨2, ⟨none, 0, []⟩, ⟨#[]⟩, 0, 0, 0⟩ : OpQ)).toArray) (s_build (cs := [_, _, _, _, _, _]) (vs := [_]) rfl rfl (.cons rfl rfl rfl rfl rfl (.nil))) rfl) ?_
         refine o_yes rfl rfl ?_
         refine o_call (does_fn (LL one two) b1 (i + 1 + 1) S111 (⟨2, ⟨none, 0, []⟩, ⟨#[]⟩, 0, 0, 0⟩ : OpQ) hp111 List.mem_cons_self (by simp) (by omega)) rfl rfl rfl (pkA) (fun w st => OldL.top hLr st hiA) (fun v118 S118 ⟨hv118, hp118⟩ => ?_)
         subst hv118
         obtain ⟨p, br, bw, fs, g0, z, s, d, e, hSp, hIp, okd, oke⟩ := hp118
         have hgs := okd.hg.sl
         have hgbl := hgs.le
         refine o_sk (H' := (b5, .cells [.pointer (some ⟨b0, 0, none⟩), .pointer (some ⟨b1, 0, none⟩)].toArray 25 (0, 0)) :: (b96, .cells cs.toArray 70 (0, 0)) :: (b1, .cells [.pointer (some ⟨p.bq, 0, none⟩), .pointer (some ⟨br, 0, none⟩), .pointer (some ⟨p.bs, 0, none⟩), .pointer (some ⟨bw, 0, none⟩)].toArray 33 (0, 0)) :: (p.bs, .cells [.slice none 0 0, .pointer none, .pointer none, .pointer none, .slice d.fa fs.length d.fc, .int .i64 p.fail, .int .i64 p.err, .int .i64 0, .int .i64 0, .pointer none, .slice none 0 0, .string ⟨#[]⟩, .bool false, .bool false, .bool false, .bool false, .int .i64 0, .int .i64 (s.outs : Nat), .int .i64 d.sum, .slice d.aa d.al.length d.ac, .string ⟨#[]⟩, .slice d.ca d.cl.length d.cc, .slice d.ga d.gl.length d.gc, .slice d.la d.ll.length d.lc, .slice d.wa d.wl.length d.wc, .pointer (some ⟨p.bq, 0, none⟩), .int .i64 p.dur, .slice p.B.a p.B.xs.length p.B.c, .string p.N, .slice d.sa d.sl.length d.sc].toArray 45 (0, 0)) :: (d.Sg ++ (d.SG ++ (So ++ SR)))) (by classical exact hsub_count fun x => by have h1 := hSp.count_eq x; simp only [AD.heap, AD.rest, BD.heap, BD.rest, List.count_append, List.count_cons, List.cons_append, List.nil_append, List.count_nil] at h1 ⊢; omega) ?_
         refine o_step rfl (s_pick_t rfl rfl) ?_
         refine o_step rfl (s_assign rfl) ?_
         refine o_nil ?_
         refine x_then (hK64 _ _ ?_)
         refine c_seq fun _ hK65 => ?_
         refine c_seq fun _ hK66 => ?_
         refine c_region ?_
         refine o_step rfl (s_move rfl) ?_
         refine o_step rfl (step_cast (v' := .bool false) (s_not rfl) rfl) ?_
         refine o_nil ?_
         refine x_then (hK66 _ _ ?_)
         refine c_false rfl ?_
         refine c_skip ?_
         refine x_then (hK65 _ _ ?_)
         refine c_seq fun _ hK67 => ?_
         refine c_region ?_
         refine o_step rfl (s_assign rfl) ?_
         refine o_nil ?_
         refine x_then (hK67 _ _ ?_)
         refine c_block ?_
         refine c_loop5 (fun (j : Nat) (cs : List Value) (oa : Option Addr) (oc : Nat) (So : Hp) => j ≤ d.gl.length ∧ BagI cs oa oc So ((gl ++ d.gl.take j).take 400)) (fun (j : Nat) (cs : List Value) (oa : Option Addr) (oc : Nat) (So : Hp) => [(14, .int .i64 j)]) [(5, _), (10, _), (11, _), (12, _), (13, _), (97, _), (98, _), (101, _), (102, _), (103, _), (104, _), (105, _), (106, _), (107, _), (108, _), (109, _), (110, _), (111, _), (112, _), (113, _), (114, _), (115, _), (116, _), (117, _), (118, _), (119, _), (120, _), (121, _)] (fun (j : Nat) (cs : List Value) (oa : Option Addr) (oc : Nat) (So : Hp) => (b5, .cells [.pointer (some ⟨b0, 0, none⟩), .pointer (some ⟨b1, 0, none⟩)].toArray 25 (0, 0)) :: (b96, .cells cs.toArray 70 (0, 0)) :: (b1, .cells [.pointer (some ⟨p.bq, 0, none⟩), .pointer (some ⟨br, 0, none⟩), .pointer (some ⟨p.bs, 0, none⟩), .pointer (some ⟨bw, 0, none⟩)].toArray 33 (0, 0)) :: (p.bs, .cells [.slice none 0 0, .pointer none, .pointer none, .pointer none, .slice d.fa fs.length d.fc, .int .i64 p.fail, .int .i64 p.err, .int .i64 0, .int .i64 0, .pointer none, .slice none 0 0, .string ⟨#[]⟩, .bool false, .bool false, .bool false, .bool false, .int .i64 0, .int .i64 (s.outs : Nat), .int .i64 d.sum, .slice d.aa d.al.length d.ac, .string ⟨#[]⟩, .slice d.ca d.cl.length d.cc, .slice d.ga d.gl.length d.gc, .slice d.la d.ll.length d.lc, .slice d.wa d.wl.length d.wc, .pointer (some ⟨p.bq, 0, none⟩), .int .i64 p.dur, .slice p.B.a p.B.xs.length p.B.c, .string p.N, .slice d.sa d.sl.length d.sc].toArray 45 (0, 0)) :: (d.Sg ++ (d.SG ++ (So ++ SR)))) (fun (j : Nat) (cs : List Value) (oa : Option Addr) (oc : Nat) (So : Hp) => d.gl.length - j) 0 cs oa oc So ⟨Nat.zero_le _, by simpa using hBg⟩ sbA sbA hzB ?_
         rintro j cs oa oc So ⟨hj, hBg⟩
         refine c_seq fun _ hK68 => ?_
         refine c_seq fun _ hK69 => ?_
         refine c_region ?_
         refine o_step rfl (s_move rfl) ?_
         refine o_step rfl (s_move rfl) ?_
         refine o_step rfl (s_indexA rfl rfl (by omega)) ?_
         refine o_step rfl (s_ld rfl (.own meA rfl)) ?_
         refine o_step rfl (s_nil rfl) ?_
         refine o_step rfl (s_field rfl rfl (by decide)) ?_
         refine o_step rfl (s_ld rfl (.own meA rfl)) ?_
         refine o_step rfl (s_nil rfl) ?_
         refine o_step rfl (s_field rfl rfl (by decide)) ?_
         refine o_step rfl (s_field rfl rfl (by decide)) ?_
         refine o_step rfl (s_ld rfl (.own meA rfl)) ?_
         refine o_step rfl (s_len rfl) ?_
         by_cases hjl : j < d.gl.length
         ·
          obtain ⟨x, hx⟩ : ∃ x, d.gl[j]? = some x := ⟨_, List.getElem?_eq_getElem hjl⟩
          refine o_step rfl (step_cast (v' := .bool true) (s_lss rfl rfl) (by rw [decide_eq_true (by omega)])) ?_
          refine o_nil ?_
          refine x_then (hK69 _ _ ?_)
          refine c_true rfl ?_
          refine c_skip ?_
          refine x_then (hK68 _ _ ?_)
          refine c_seq fun _ hK70 => ?_
          refine c_block ?_
          refine c_region ?_
          refine o_step rfl (s_move rfl) ?_
          refine o_step rfl (s_move rfl) ?_
          refine o_step rfl (s_indexA rfl rfl (by omega)) ?_
          refine o_step rfl (s_ld rfl (.own meA rfl)) ?_
          refine o_step rfl (s_nil rfl) ?_
          refine o_step rfl (s_field rfl rfl (by decide)) ?_
          refine o_step rfl (s_ld rfl (.own meA rfl)) ?_
          refine o_step rfl (s_nil rfl) ?_
          refine o_step rfl (s_field rfl rfl (by decide)) ?_
          refine o_step rfl (s_field rfl rfl (by decide)) ?_
          refine o_step rfl (s_ld rfl (.own meA rfl)) ?_
          refine o_step rfl (s_move rfl) ?_
          refine o_step rfl (s_idx rfl rfl hgs (by omega)) ?_
          refine o_step rfl (s_ld rfl ((okd.hg.rdk hiA).ld j 0 hx rfl (by decide) (by omega))) ?_
          refine o_call (addB_fn b96 cs oa oc So _ x hBg) rfl rfl rfl ((Pick.takeC pkA pkA)) (fun _ _ => trivial) (fun v151 S151 ⟨cs151, oa151, oc151, So151, hS151, hB151⟩ => ?_)
          subst hS151
          refine o_nil ?_
          refine x_block ?_
          refine x_then (hK70 _ _ ?_)
          refine c_region ?_
          refine o_step rfl (s_move rfl) ?_
          refine o_step rfl (s_add rfl rfl (by omega)) ?_
          refine o_step rfl (s_assign rfl) ?_
          refine o_nil ?_
          exact x_then (x_inv (j + 1, cs151, oa151, oc151, So151) ⟨by dsimp only; omega, by dsimp only; rw [show d.gl.take (j + 1) = d.gl.take j ++ [x] by rw [List.take_add_one, hx]; rfl, ← List.append_assoc, ← take_snoc]; exact hB151⟩ (by first | omega | (dsimp only; omega)) sbA hzB)
         ·
          obtain rfl : j = d.gl.length := by omega
          refine o_step rfl (step_cast (v' := .bool false) (s_lss rfl rfl) (by rw [decide_eq_false (by omega)])) ?_
          refine o_nil ?_
          refine x_then (hK69 _ _ ?_)
          refine c_false rfl ?_
          refine c_exit ?_
          refine x_then_exit ?_
          refine x_then_exit ?_
          refine x_block_exit ?_
          refine x_block ?_
          refine x_then (hK63 _ _ ?_)
          refine c_region ?_
          refine o_step rfl (s_move rfl) ?_
          refine o_step rfl (s_add rfl rfl (by omega)) ?_
          refine o_step rfl (s_assign rfl) ?_
          refine o_nil ?_
          exact x_then (x_inv (2, gl ++ d.gl, SR ++ d.SG, cs, oa, oc, So) ⟨by omega, ⟨by rw [List.map_append]; exact OwnL.app hR.1 okd.hgo, fun x hx => (List.mem_append.1 hx).elim (hR.2 x) (okd.hgb x)⟩, by rw [List.take_length] at hBg; exact hBg⟩ (by first | omega | (dsimp only; omega)) sbA hzB)
       ·
        obtain rfl : k = 2 := by omega
        obtain ⟨SI1, SI2, rfl, hIt⟩ := OwnL.takeN hF.1 400
        refine c_exit ?_
        refine x_then_exit ?_
        refine x_then_exit ?_
        refine x_block_exit ?_
        refine x_then (hK51 _ _ ?_)
        refine c_seq fun _ hK71 => ?_
        refine c_region ?_
        refine o_step rfl (s_move rfl) ?_
        refine o_step rfl (s_move rfl) ?_
        refine o_yes rfl rfl ?_
        refine o_step rfl (s_move rfl) ?_
        refine o_yes rfl rfl ?_
        refine o_call (apart_fn b96 cs (gl.take 400) oa oc So SI1 hBg.hb hBg.hz hBg.hN (fun j s hs => by have := hF.2 s (List.mem_of_mem_take (List.mem_of_getElem? hs)); omega) hBg.hO _ hIt) rfl rfl rfl ((Pick.takeC pkA (Pick.takeA pkA pkA))) (fun _ _ => trivial) (fun v155 S155 ⟨hv155, hS155⟩ => ?_)
        subst hv155
        subst hS155
        refine o_step rfl (s_pick_t rfl rfl) ?_
        refine o_step rfl (s_assign rfl) ?_
        refine o_nil ?_
        refine x_then (hK71 _ _ ?_)
        refine c_ret ?_
        refine ?_
        exact x_ret rfl (.tmp rfl (.nil)) (rfl)
   ·
    refine o_step rfl (s_pick_f rfl rfl) ?_
    refine o_nil ?_
    refine x_then (hK3 _ _ ?_)
    refine c_true rfl ?_
    refine c_seq fun _ hK72 => ?_
    refine c_region ?_
    refine o_step rfl (s_assign rfl) ?_
    refine o_nil ?_
    refine x_then (hK72 _ _ ?_)
    refine c_ret ?_
    refine x_then_ret (?_)
    exact x_ret rfl (.tmp rfl (.nil)) (rfl)
  ·
   refine o_step rfl (s_move rfl) ?_
   refine o_no rfl rfl rfl rfl ?_
   refine o_no rfl rfl rfl rfl ?_
   refine o_step rfl (s_pick_t rfl rfl) ?_
   refine o_nil ?_
   refine x_then (hK3 _ _ ?_)
   refine c_true rfl ?_
   refine c_seq fun _ hK73 => ?_
   refine c_region ?_
   refine o_step rfl (s_assign rfl) ?_
   refine o_nil ?_
   refine x_then (hK73 _ _ ?_)
   refine c_ret ?_
   refine x_then_ret (?_)
   exact x_ret rfl (.tmp rfl (.nil)) (rfl)
end Go.Proofs.YtmmajabfmhipeaaDoor
