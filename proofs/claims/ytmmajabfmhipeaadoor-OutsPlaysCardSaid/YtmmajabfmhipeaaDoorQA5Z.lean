/- Part of the proofs over this seat: see the text that holds the theorem. Conditions: each theorem bears its own. -/
import Derived.Test.YtmmajabfmhipeaaDoorQA4
import Derived.Test.YtmmajabfmhipeaaDoorHlB
import Derived.Test.YtmmajabfmhipeaaDoorTF1
import Derived.Test.YtmmajabfmhipeaaDoorRows
import Derived.ProofKit
import Derived.LaidMore
import Derived.Stop.Joined
import Derived.Lib.LaidTab
namespace Go.Proofs.YtmmajabfmhipeaaDoor
open Go Go.HL Go.Proofs Go.Tab

theorem SinkG.rd {bs : Nat} {fail serr : Int} {said : List (List UInt8)} {S : Hp} (h : SinkG bs fail serr said S) : ∃ (sa ga : Option Addr) (sc gc : Nat) (sl gl : List (Sl UInt8)), sl.map Sl.xs = said ∧ gl.length = sl.length ∧
    (∀ κ H, HIn S H → RdPK κ H bs 0 [.pointer none, .string ⟨#[]⟩, .int .i64 fail, .int .i64 serr, .int .i64 sl.length, .slice sa sl.length sc, .slice ga gl.length gc]) ∧ RdS Esl (.slice sa sl.length sc) sl S ∧ IsSl (.slice sa sl.length sc) sl.length ∧ ∀ x ∈ sl, RdS Eb x.v x.xs S := by
  rcases h with @⟨sa, ga, sc, gc, sl, gl, gx, So, Si, Sg, Gc, hm, hO', hin, hg, hgl, hG, hgb⟩
  refine ⟨sa, ga, sc, gc, sl, gl, hm, hgl, fun κ H hH => .own (hH _ List.mem_cons_self), ?_, hO'.sl, fun x hx => ?_⟩
  · exact hO'.rds.mono fun p hp => List.mem_cons_of_mem _ (List.mem_append_left _ hp)
  · exact (hin x hx).mono fun p hp => List.mem_cons_of_mem _ (List.mem_append_right _ (List.mem_append_left _ hp))
theorem StG.sinkRd {bo bs : Nat} {lim fail serr : Int} {s : OS} {S : Hp} (h : StG bo bs lim fail serr s S) : ∃ (sa ga : Option Addr) (sc gc : Nat) (sl gl : List (Sl UInt8)), sl.map Sl.xs = s.said ∧ gl.length = sl.length ∧
    (∀ κ H, HIn S H → RdPK κ H bs 0 [.pointer none, .string ⟨#[]⟩, .int .i64 fail, .int .i64 serr, .int .i64 sl.length, .slice sa sl.length sc, .slice ga gl.length gc]) ∧ RdS Esl (.slice sa sl.length sc) sl S ∧ IsSl (.slice sa sl.length sc) sl.length ∧ ∀ x ∈ sl, RdS Eb x.v x.xs S := by
  obtain ⟨S1, S2, rfl, hO, hS⟩ := h
  obtain ⟨sa, ga, sc, gc, sl, gl, h1, h2, h3, h4, h5, h6⟩ := hS.rd
  exact ⟨sa, ga, sc, gc, sl, gl, h1, h2, fun κ H hH => h3 κ H fun p hp => hH p (List.mem_append_right _ hp), h4.mono HIn.appR, h5, fun x hx => (h6 x hx).mono HIn.appR⟩
theorem StR.sinkRd {bo bs : Nat} {lim fail serr : Int} {s : OS} {S : Hp} (h : StR bo bs lim fail serr s S) : ∃ (sa ga : Option Addr) (sc gc : Nat) (sl gl : List (Sl UInt8)), sl.map Sl.xs = s.said ∧ gl.length = sl.length ∧
    (∀ κ H, HIn S H → RdPK κ H bs 0 [.pointer none, .string ⟨#[]⟩, .int .i64 fail, .int .i64 serr, .int .i64 sl.length, .slice sa sl.length sc, .slice ga gl.length gc]) ∧ RdS Esl (.slice sa sl.length sc) sl S ∧ IsSl (.slice sa sl.length sc) sl.length ∧ ∀ x ∈ sl, RdS Eb x.v x.xs S := by
  obtain ⟨S1, S2, rfl, hO, hS⟩ := h
  obtain ⟨sa, ga, sc, gc, sl, gl, h1, h2, h3, h4, h5, h6⟩ := hS.rd
  exact ⟨sa, ga, sc, gc, sl, gl, h1, h2, fun κ H hH => h3 κ H fun p hp => hH p (List.mem_append_right _ hp), h4.mono HIn.appR, h5, fun x hx => (h6 x hx).mono HIn.appR⟩
theorem StG.outRd {bo bs : Nat} {lim fail serr : Int} {s : OS} {S : Hp} (h : StG bo bs lim fail serr s S) : ∃ kv, ∀ κ H, HIn S H → RdPK κ H bo 0 [.int .i64 lim, sinkF bs, kv, .int .i64 s.err, .int .i64 s.cnt] := by
  obtain ⟨S1, S2, rfl, hO, hS⟩ := h
  rcases hO with @⟨ka, kc, Sk, hk⟩
  exact ⟨_, fun κ H hH => .own (hH _ (List.mem_append_left _ List.mem_cons_self))⟩
theorem StR.outRd {bo bs : Nat} {lim fail serr : Int} {s : OS} {S : Hp} (h : StR bo bs lim fail serr s S) : ∃ kv, ∀ κ H, HIn S H → RdPK κ H bo 0 [.bool true, .int .i64 lim, .pointer (some ⟨bs, 0, none⟩), kv, .int .i64 s.err, .int .i64 s.cnt] := by
  obtain ⟨S1, S2, rfl, hO, hS⟩ := h
  rcases hO with @⟨ka, kc, Sk, hk⟩
  exact ⟨_, fun κ H hH => .own (hH _ (List.mem_append_left _ List.mem_cons_self))⟩
theorem flat_mem {xs : List (Sl UInt8)} {s : Sl UInt8} (h : s ∈ xs) : s.xs.length ≤ ((xs.map Sl.xs).flatten).length := by
  induction xs with
  | nil => cases h
  | cons x xs ih =>
    simp only [List.map_cons, List.flatten_cons, List.length_append]
    rcases List.mem_cons.1 h with rfl | h
    · omega
    · have := ih h; omega
theorem OwnL.take {sls : List (Sl UInt8)} {xss : List (List UInt8)} {S : Hp} (h : OwnL Eb 1 5 sls xss S) : ∀ m : Nat, ∃ xs2 S1 S2, S = S1 ++ S2 ∧ OwnL Eb 1 5 (sls.take m) xs2 S1 := by
  induction h with
  | nil => intro m; exact ⟨[], [], [], rfl, by rw [List.take_nil]; exact .nil⟩
  | @cons s xs sls xss S R h hs ih =>
    intro m
    cases m with
    | zero => exact ⟨[], [], S ++ R, rfl, .nil⟩
    | succ m =>
      obtain ⟨xs2, S1, S2, rfl, h2⟩ := ih m
      exact ⟨xs :: xs2, S ++ S1, S2, by rw [List.append_assoc], .cons h h2⟩
theorem WideR.out {sls : List (Sl UInt8)} {v : Value} {S' : Hp} (h : WideR sls v S') : ∃ (a : Option Addr) (l ws : List (Sl UInt8)) (Sh Sf Sm : Hp), v = .slice a ws.length (ws.length + 64) ∧ S' = Sh ++ (Sf ++ Sm) ∧ l.length = ws.length + 64 ∧ ws.length = sls.length ∧ ws.map Sl.xs = sls.map Sl.xs ∧ l.take ws.length = ws ∧
    RdS Esl (.slice a (ws.length + 64) (ws.length + 64)) l Sh ∧ RdS Esl (.slice a ws.length (ws.length + 64)) ws Sh ∧ IsSl (.slice a ws.length (ws.length + 64)) ws.length ∧ OwnL Eb 1 5 ws (ws.map Sl.xs) Sf ∧ (∀ s ∈ ws, RdS Eb (.slice s.a (wide s.xs).length s.c) (wide s.xs) Sf) ∧
    ∀ k m, ws.length ≤ k → l[k]? = some m → RdS Eb m.v m.xs Sm ∧ m.xs = mk4 k := by
  obtain ⟨a, l, ws, Sh, Sf, Sm, rfl, rfl, h1, h2, h3, h4, h5, h6⟩ := h
  have hl : ws.length = sls.length := by simpa using congrArg List.length h4
  rw [← hl] at h1 h2 h3 h6 ⊢
  have h7 := h2.pre ws.length (by omega)
  rw [h3] at h7
  exact ⟨a, l, ws, Sh, Sf, Sm, rfl, rfl, h1, rfl, h4, h3, h2.rds, h7.rds, h7.sl, h5.ownl, h5.rds, h6⟩
theorem bag_add {gl : List (Sl UInt8)} {i : Nat} {s : Sl UInt8} (hs : gl[i]? = some s) : gl.take (min (i + 1) 400) = if (gl.take (min i 400)).length < 400 then gl.take (min i 400) ++ [s] else gl.take (min i 400) := by
  have hi := (List.getElem?_eq_some_iff.1 hs).1
  have hl : (gl.take (min i 400)).length = min i 400 := by rw [List.length_take]; omega
  rw [hl]
  by_cases h : i < 400
  · rw [if_pos (by omega), Nat.min_eq_left (by omega), Nat.min_eq_left (by omega), List.take_add_one, hs]; rfl
  · rw [if_neg (by omega), Nat.min_eq_right (by omega), Nat.min_eq_right (by omega)]
theorem addFull_fn (b : Nat) (cs : List Value) (sls : List (Sl UInt8)) (s : Sl UInt8) (oa : Option Addr) (oc : Nat) (So : Hp) (hb : cs[0]? = some (.slice oa sls.length oc)) (hN : 400 ≤ sls.length) : HL.Fn Tryd.prog 11 [.pointer (some ⟨b, 0, none⟩), .slice s.a s.xs.length s.c] (fun _ => True) ((b, .cells cs.toArray 70 (0, 0)) :: So) (fun _ S' => S' = (b, .cells cs.toArray 70 (0, 0)) :: So) := by
  refine fn_of Tryd.func11 rfl rfl rfl fun w0 hw => ?_
  refine c_seq fun _ hK1 => ?_
  refine c_region ?_
  refine o_step rfl (s_move rfl) ?_
  refine o_step rfl (s_nil rfl) ?_
  refine o_step rfl (s_field rfl rfl (by decide)) ?_
  refine o_step rfl (s_ld rfl (.own meA hb)) ?_
  refine o_step rfl (s_len rfl) ?_
  refine o_step rfl (s_lss_f rfl rfl (by omega)) ?_
  refine o_nil ?_
  refine x_then (hK1 _ _ ?_)
  refine c_false rfl ?_
  refine c_skip ?_
  exact x_end rfl (.nil) (rfl)
theorem addAny_fn (b : Nat) (cs : List Value) (sls : List (Sl UInt8)) (s : Sl UInt8) (oa : Option Addr) (oc : Nat) (So : Hp) (hb : cs[0]? = some (.slice oa sls.length oc)) (hO : OwnS Esl 1 40 (.slice oa sls.length oc) sls So) :
    HL.Fn Tryd.prog 11 [.pointer (some ⟨b, 0, none⟩), .slice s.a s.xs.length s.c] (fun _ => True) ((b, .cells cs.toArray 70 (0, 0)) :: So) (fun _ S' => ∃ (cs' : List Value) (oa' : Option Addr) (oc' : Nat) (So' : Hp) (l : List (Sl UInt8)), l = (if sls.length < 400 then sls ++ [s] else sls) ∧ S' = (b, .cells cs'.toArray 70 (0, 0)) :: So' ∧ cs'[0]? = some (.slice oa' l.length oc') ∧ (∀ i, i ≠ 0 → cs'[i]? = cs[i]?) ∧ OwnS Esl 1 40 (.slice oa' l.length oc') l So') := by
  by_cases hN : sls.length < 400
  · exact HL.Fn.weak (addBytes_fn b cs sls s oa oc So hb hN hO) fun v S' ⟨cs', oa', oc', So', h1, h2, h3, h4⟩ => ⟨cs', oa', oc', So', sls ++ [s], (if_pos hN).symm, h1, h2, h3, h4⟩
  · exact HL.Fn.weak (addFull_fn b cs sls s oa oc So hb (by omega)) fun v S' h1 => ⟨cs, oa, oc, So, sls, (if_neg hN).symm, h1, hb, fun _ _ => rfl, hO⟩
theorem outsPlays_neg (sz fl er : Int) (hz : sz < 0) (a : Option Addr) (c : Nat) (sc : List OpV) : HL.Fn Tryd.prog 4 [.agg [.int .i64 sz, .int .i64 fl, .int .i64 er, .slice a sc.length c].toArray] (fun w => Rd Eop w (.slice a sc.length c) sc ∧ ∀ o ∈ sc, Rd Esl w o.p.v o.p.xs ∧ ∀ s ∈ o.p.xs, Rd Eb w s.v s.xs) [] (fun v _ => v = .bool true) := by
  refine fn_of Tryd.func4 rfl rfl rfl fun w0 hw => ?_
  obtain ⟨h1, h2⟩ := hw
  refine c_seq fun _ hK1 => ?_
  refine c_region ?_
  refine o_box rfl rfl rfl fun b1 => ?_
  refine o_step rfl (s_assign rfl) ?_
  refine o_nil ?_
  refine x_then (hK1 _ _ ?_)
  refine c_seq fun _ hK2 => ?_
  refine c_region ?_
  refine o_step rfl (s_field rfl rfl (by decide)) ?_
  refine o_step rfl (s_ld rfl (.own meA rfl)) ?_
  refine o_step rfl (s_assign rfl) ?_
  refine o_nil ?_
  refine x_then (hK2 _ _ ?_)
  refine c_seq fun _ hK3 => ?_
  refine c_seq fun _ hK4 => ?_
  refine c_region ?_
  refine o_step rfl (s_move rfl) ?_
  refine o_callP (scriptLong_fn a c sc) rfl rfl rfl (fun w st => ⟨(RdK.old0 h1).out w st, fun o ho => ⟨(RdK.old0 (h2 o ho).1).out w st, fun s hs => (RdK.old0 ((h2 o ho).2 s hs)).out w st⟩⟩) (fun v23 hv23 => ?_)
  obtain ⟨bl, hv23, hlong⟩ := hv23
  subst hv23
  cases bl
  ·
   have htot := hlong rfl
   refine o_nil ?_
   refine x_then (hK4 _ _ ?_)
   refine c_false rfl ?_
   refine c_skip ?_
   refine x_then (hK3 _ _ ?_)
   refine c_seq fun _ hK5 => ?_
   refine c_region ?_
   refine o_step rfl (s_field rfl rfl (by decide)) ?_
   refine o_step rfl (s_ld rfl (.own meA rfl)) ?_
   refine o_step rfl (s_field rfl rfl (by decide)) ?_
   refine o_step rfl (s_ld rfl (.own meA rfl)) ?_
   refine o_step rfl (s_build (cs := [_, _, _, _, _, _, _]) (vs := [_, _]) rfl rfl (.cons rfl rfl rfl rfl rfl (.cons rfl rfl rfl rfl rfl (.nil)))) ?_
   refine o_box rfl rfl rfl fun b29 => ?_
   refine o_step rfl (s_assign rfl) ?_
   refine o_nil ?_
   refine x_then (hK5 _ _ ?_)
   refine c_seq fun _ hK6 => ?_
   refine c_region ?_
   refine o_step rfl (s_field rfl rfl (by decide)) ?_
   refine o_step rfl (s_ld rfl (.own meA rfl)) ?_
   refine o_step rfl (s_field rfl rfl (by decide)) ?_
   refine o_step rfl (s_ld rfl (.own meA rfl)) ?_
   refine o_step rfl (s_build (cs := [_, _, _, _, _, _, _]) (vs := [_, _]) rfl rfl (.cons rfl rfl rfl rfl rfl (.cons rfl rfl rfl rfl rfl (.nil)))) ?_
   refine o_box rfl rfl rfl fun b35 => ?_
   refine o_step rfl (s_assign rfl) ?_
   refine o_nil ?_
   refine x_then (hK6 _ _ ?_)
   refine c_seq fun _ hK7 => ?_
   refine c_region ?_
   refine o_step rfl (s_field rfl rfl (by decide)) ?_
   refine o_step rfl (s_ld rfl (.own meA rfl)) ?_
   refine o_step rfl (s_move rfl) ?_
   refine o_step rfl (s_func (us := [_]) (vs := []) rfl rfl) ?_
   refine o_callP (outNew_neg sz (.func 15) [.pointer (some ⟨b29, 0, none⟩)].toArray [].toArray (by omega)) rfl rfl rfl (fun _ _ => trivial) (fun v41 hv41 => ?_)
   subst hv41
   refine o_step rfl (s_move rfl) ?_
   refine o_step rfl (s_extract rfl rfl) ?_
   refine o_step rfl (s_extract rfl rfl) ?_
   refine o_step rfl (s_assign rfl) ?_
   refine o_step rfl (s_assign rfl) ?_
   refine o_nil ?_
   refine x_then (hK7 _ _ ?_)
   refine c_seq fun _ hK8 => ?_
   refine c_region ?_
   refine o_step rfl (s_field rfl rfl (by decide)) ?_
   refine o_step rfl (s_ld rfl (.own meA rfl)) ?_
   refine o_step rfl (s_move rfl) ?_
   refine o_callP (rNew_neg sz b35 (by omega)) rfl rfl rfl (fun _ _ => trivial) (fun v48 hv48 => ?_)
   subst hv48
   refine o_step rfl (s_move rfl) ?_
   refine o_step rfl (s_extract rfl rfl) ?_
   refine o_step rfl (s_extract rfl rfl) ?_
   refine o_step rfl (s_assign rfl) ?_
   refine o_step rfl (s_assign rfl) ?_
   refine o_nil ?_
   refine x_then (hK8 _ _ ?_)
   refine c_seq fun _ hK9 => ?_
   refine c_seq fun _ hK10 => ?_
   refine c_region ?_
   refine o_step rfl (s_move rfl) ?_
   refine o_step rfl (s_move rfl) ?_
   refine o_step rfl (s_neq_f rfl rfl rfl) ?_
   refine o_step rfl (s_move rfl) ?_
   refine o_yes rfl rfl ?_
   refine o_step rfl (s_move rfl) ?_
   refine o_yes rfl rfl ?_
   refine o_step rfl (step_cast (v' := .bool true) (s_eql_nilp rfl rfl) rfl) ?_
   refine o_yes rfl rfl ?_
   refine o_step rfl (s_move rfl) ?_
   refine o_yes rfl rfl ?_
   refine o_step rfl (step_cast (v' := .bool true) (s_eql_nilp rfl rfl) rfl) ?_
   refine o_yes rfl rfl ?_
   refine o_step rfl (step_cast (v' := .bool false) (s_neq_bool rfl rfl) rfl) ?_
   refine o_step rfl (s_pick_f rfl rfl) ?_
   refine o_nil ?_
   refine x_then (hK10 _ _ ?_)
   refine c_false rfl ?_
   refine c_skip ?_
   refine x_then (hK9 _ _ ?_)
   refine c_seq fun _ hK11 => ?_
   refine c_seq fun _ hK12 => ?_
   refine c_region ?_
   refine o_step rfl (s_move rfl) ?_
   refine o_step rfl (step_cast (v' := .bool true) (s_eql_nilp rfl rfl) rfl) ?_
   refine o_nil ?_
   refine x_then (hK12 _ _ ?_)
   refine c_true rfl ?_
   refine c_seq fun _ hK13 => ?_
   refine c_region ?_
   refine o_callP (works_fn) rfl rfl rfl (fun _ _ => trivial) (fun v63 hv63 => ?_)
   subst hv63
   refine o_step rfl (s_assign rfl) ?_
   refine o_nil ?_
   refine x_then (hK13 _ _ ?_)
   refine c_ret ?_
   refine x_then_ret (?_)
   exact x_ret rfl (.tmp rfl (.nil)) (rfl)
  ·
   refine o_nil ?_
   refine x_then (hK4 _ _ ?_)
   refine c_true rfl ?_
   refine c_seq fun _ hK14 => ?_
   refine c_region ?_
   refine o_step rfl (s_assign rfl) ?_
   refine o_nil ?_
   refine x_then (hK14 _ _ ?_)
   refine c_ret ?_
   refine x_then_ret (?_)
   exact x_ret rfl (.tmp rfl (.nil)) (rfl)

set_option maxHeartbeats 4000000 in
theorem outsPlays_pos (sz fl er : Int) (hz : 0 ≤ sz) (a : Option Addr) (c : Nat) (sc : List OpV) (hb : ∀ o ∈ sc, o.p.xs.length * 24 ≤ 140737488355328) : HL.Fn Tryd.prog 4 [.agg [.int .i64 sz, .int .i64 fl, .int .i64 er, .slice a sc.length c].toArray] (fun w => Rd Eop w (.slice a sc.length c) sc ∧ ∀ o ∈ sc, Rd Esl w o.p.v o.p.xs ∧ ∀ s ∈ o.p.xs, Rd Eb w s.v s.xs) [] (fun v _ => v = .bool true) := by
  refine fn_of Tryd.func4 rfl rfl rfl fun w0 hw => ?_
  obtain ⟨h1, h2⟩ := hw
  have hsx := h1.sl
  have hbx := hsx.le
  refine c_seq fun _ hK1 => ?_
  refine c_region ?_
  refine o_box rfl rfl rfl fun b1 => ?_
  refine o_step rfl (s_assign rfl) ?_
  refine o_nil ?_
  refine x_then (hK1 _ _ ?_)
  refine c_seq fun _ hK2 => ?_
  refine c_region ?_
  refine o_step rfl (s_field rfl rfl (by decide)) ?_
  refine o_step rfl (s_ld rfl (.own meA rfl)) ?_
  refine o_step rfl (s_assign rfl) ?_
  refine o_nil ?_
  refine x_then (hK2 _ _ ?_)
  refine c_seq fun _ hK3 => ?_
  refine c_seq fun _ hK4 => ?_
  refine c_region ?_
  refine o_step rfl (s_move rfl) ?_
  refine o_callP (scriptLong_fn a c sc) rfl rfl rfl (fun w st => ⟨(RdK.old0 h1).out w st, fun o ho => ⟨(RdK.old0 (h2 o ho).1).out w st, fun s hs => (RdK.old0 ((h2 o ho).2 s hs)).out w st⟩⟩) (fun v23 hv23 => ?_)
  obtain ⟨bl, hv23, hlong⟩ := hv23
  subst hv23
  cases bl
  ·
   have htot := hlong rfl
   refine o_nil ?_
   refine x_then (hK4 _ _ ?_)
   refine c_false rfl ?_
   refine c_skip ?_
   refine x_then (hK3 _ _ ?_)
   refine c_seq fun _ hK5 => ?_
   refine c_region ?_
   refine o_step rfl (s_field rfl rfl (by decide)) ?_
   refine o_step rfl (s_ld rfl (.own meA rfl)) ?_
   refine o_step rfl (s_field rfl rfl (by decide)) ?_
   refine o_step rfl (s_ld rfl (.own meA rfl)) ?_
   refine o_step rfl (s_build (cs := [_, _, _, _, _, _, _]) (vs := [_, _]) rfl rfl (.cons rfl rfl rfl rfl rfl (.cons rfl rfl rfl rfl rfl (.nil)))) ?_
   refine o_box rfl rfl rfl fun b29 => ?_
   refine o_step rfl (s_assign rfl) ?_
   refine o_nil ?_
   refine x_then (hK5 _ _ ?_)
   refine c_seq fun _ hK6 => ?_
   refine c_region ?_
   refine o_step rfl (s_field rfl rfl (by decide)) ?_
   refine o_step rfl (s_ld rfl (.own meA rfl)) ?_
   refine o_step rfl (s_field rfl rfl (by decide)) ?_
   refine o_step rfl (s_ld rfl (.own meA rfl)) ?_
   refine o_step rfl (s_build (cs := [_, _, _, _, _, _, _]) (vs := [_, _]) rfl rfl (.cons rfl rfl rfl rfl rfl (.cons rfl rfl rfl rfl rfl (.nil)))) ?_
   refine o_box rfl rfl rfl fun b35 => ?_
   refine o_step rfl (s_assign rfl) ?_
   refine o_nil ?_
   refine x_then (hK6 _ _ ?_)
   refine c_seq fun _ hK7 => ?_
   refine c_region ?_
   refine o_step rfl (s_field rfl rfl (by decide)) ?_
   refine o_step rfl (s_ld rfl (.own meA rfl)) ?_
   refine o_step rfl (s_move rfl) ?_
   refine o_step rfl (s_func (us := [_]) (vs := []) rfl rfl) ?_
   refine o_call (outNew_pos sz (.func 15) [.pointer (some ⟨b29, 0, none⟩)].toArray [].toArray hz) rfl rfl rfl (by exact .nil) (fun _ _ => trivial) (fun v41 S41 ⟨bo, hv41, hS41⟩ => ?_)
   subst hv41
   subst hS41
   refine o_step rfl (s_move rfl) ?_
   refine o_step rfl (s_extract rfl rfl) ?_
   refine o_step rfl (s_extract rfl rfl) ?_
   refine o_step rfl (s_assign rfl) ?_
   refine o_step rfl (s_assign rfl) ?_
   refine o_nil ?_
   refine x_then (hK7 _ _ ?_)
   refine c_seq fun _ hK8 => ?_
   refine c_region ?_
   refine o_step rfl (s_field rfl rfl (by decide)) ?_
   refine o_step rfl (s_ld rfl (.own meA rfl)) ?_
   refine o_step rfl (s_move rfl) ?_
   refine o_call (rNew_pos sz b35 hz) rfl rfl rfl (by exact .nil) (fun _ _ => trivial) (fun v48 S48 ⟨bp, hv48, hS48⟩ => ?_)
   subst hv48
   subst hS48
   have hst1 := stG_new (bo := bo) (bs := b29) (lim := sz) (fail := fl) (serr := er)
   have hst2 := stR_new (bo := bp) (bs := b35) (lim := sz) (fail := fl) (serr := er)
   refine o_sk (H' := (b1, .cells [.int .i64 sz, .int .i64 fl, .int .i64 er, .slice a sc.length c].toArray 75 (0, 0)) :: (newH bo b29 sz fl er ++ newR bp b35 sz fl er)) (HSub.trans (B := [(b1, _), (bo, _), (b29, _), (bp, _), (b35, _)]) hzB (HSub.refl _)) ?_
   generalize newH bo b29 sz fl er = Z1 at hst1 ⊢
   generalize newR bp b35 sz fl er = Z2 at hst2 ⊢
   refine o_step rfl (s_move rfl) ?_
   refine o_step rfl (s_extract rfl rfl) ?_
   refine o_step rfl (s_extract rfl rfl) ?_
   refine o_step rfl (s_assign rfl) ?_
   refine o_step rfl (s_assign rfl) ?_
   refine o_nil ?_
   refine x_then (hK8 _ _ ?_)
   refine c_seq fun _ hK9 => ?_
   refine c_seq fun _ hK10 => ?_
   refine c_region ?_
   refine o_step rfl (s_move rfl) ?_
   refine o_step rfl (s_move rfl) ?_
   refine o_step rfl (s_neq_f rfl rfl rfl) ?_
   refine o_step rfl (s_move rfl) ?_
   refine o_yes rfl rfl ?_
   refine o_step rfl (s_move rfl) ?_
   refine o_yes rfl rfl ?_
   refine o_step rfl (step_cast (v' := .bool false) (s_eql_nilp rfl rfl) rfl) ?_
   refine o_yes rfl rfl ?_
   refine o_step rfl (s_move rfl) ?_
   refine o_yes rfl rfl ?_
   refine o_step rfl (step_cast (v' := .bool false) (s_eql_nilp rfl rfl) rfl) ?_
   refine o_yes rfl rfl ?_
   refine o_step rfl (step_cast (v' := .bool false) (s_neq_bool rfl rfl) rfl) ?_
   refine o_step rfl (s_pick_f rfl rfl) ?_
   refine o_nil ?_
   refine x_then (hK10 _ _ ?_)
   refine c_false rfl ?_
   refine c_skip ?_
   refine x_then (hK9 _ _ ?_)
   refine c_seq fun _ hK11 => ?_
   refine c_seq fun _ hK12 => ?_
   refine c_region ?_
   refine o_step rfl (s_move rfl) ?_
   refine o_step rfl (step_cast (v' := .bool false) (s_eql_nilp rfl rfl) rfl) ?_
   refine o_nil ?_
   refine x_then (hK12 _ _ ?_)
   refine c_false rfl ?_
   refine c_skip ?_
   refine x_then (hK11 _ _ ?_)
   refine c_seq fun _ hK13 => ?_
   refine c_seq fun _ hK14 => ?_
   refine c_region ?_
   refine o_step rfl (s_assign rfl) ?_
   refine o_nil ?_
   refine x_then (hK14 _ _ ?_)
   refine c_block ?_
   -- not carried: 2
   refine c_loop4 (fun (j : Nat) (u : OS) (S1 : Hp) (S2 : Hp) => j ≤ sc.length ∧ StG bo b29 sz fl er u S1 ∧ StR bp b35 sz fl er u S2 ∧ BdG u (tot sc j) j) (fun (j : Nat) (u : OS) (S1 : Hp) (S2 : Hp) => [(10, .int .i64 j)]) [(3, _), (4, _), (5, _), (6, _), (8, _)] (fun (j : Nat) (u : OS) (S1 : Hp) (S2 : Hp) => (b1, .cells [.int .i64 sz, .int .i64 fl, .int .i64 er, .slice a sc.length c].toArray 75 (0, 0)) :: (S1 ++ S2)) (fun (j : Nat) (u : OS) (S1 : Hp) (S2 : Hp) => sc.length - j) 0 ⟨[], 0, 0, []⟩ Z1 Z2 ⟨by omega, hst1, hst2, BdG.new⟩ sbA sbA (by exact HSub.refl _) ?_
   rintro j u S1 S2 ⟨hj, hA, hB, hu⟩
   obtain ⟨hc1, hk1, hs1⟩ := id hu
   refine c_seq fun _ hK15 => ?_
   refine c_seq fun _ hK16 => ?_
   refine c_region ?_
   refine o_step rfl (s_move rfl) ?_
   refine o_step rfl (s_move rfl) ?_
   refine o_step rfl (s_len rfl) ?_
   refine o_step rfl (s_lss rfl rfl) ?_
   refine o_nil ?_
   refine x_then (hK16 _ _ ?_)
   refine c_if rfl (fun hlt => ?_) (fun hlt => ?_)
   ·
    have hlt2 : j < sc.length := by omega
    have hmem := op0_mem hlt2
    have hrow : Rd Esl w0 (.slice (op0 sc j).p.a (op0 sc j).p.xs.length (op0 sc j).p.c) (op0 sc j).p.xs := (h2 _ hmem).1
    have hcost := tot_succ hlt2
    have hce : cost (op0 sc j) = (op0 sc j).p.xs.length + ((op0 sc j).p.xs.map Sl.xs).flatten.length := rfl
    have hjt := tot_mono (sc := sc) (j := j + 1)
    refine c_skip ?_
    refine x_then (hK15 _ _ ?_)
    refine c_seq fun _ hK17 => ?_
    refine c_block ?_
    refine c_seq fun _ hK18 => ?_
    refine c_region ?_
    refine o_step rfl (s_move rfl) ?_
    refine o_step rfl (s_move rfl) ?_
    refine o_step rfl (s_idx rfl rfl (by assumption) (by omega)) ?_
    refine o_step rfl (s_field rfl rfl (by decide)) ?_
    refine o_step rfl (s_ld rfl ((RdK.old0 h1).ld j 1 (op0_get (by omega)) rfl (by decide) (by omega))) ?_
    refine o_call (wideRows_fn (op0 sc j).p.a (op0 sc j).p.c (op0 sc j).p.xs (by omega) (fun s hs => by have := flat_mem hs; omega)) rfl rfl rfl (by exact .nil) (fun w st => ⟨(RdK.old0 hrow).out w st, fun s hs => (RdK.old0 ((h2 _ hmem).2 s hs)).out w st⟩) (fun v75 S75 hv75 => ?_)
    obtain ⟨pa, pl, ws, Sh, Sf, Sm, hv75, hS75, hpl, hwn, hpe, hpt, hPl, hPw, hPs, hWl, hWr, hmk⟩ := hv75.out
    subst hv75
    subst hS75
    refine o_step rfl (s_assign rfl) ?_
    refine o_nil ?_
    refine x_then (hK18 _ _ ?_)
    refine c_seq fun _ hK19 => ?_
    refine c_region ?_
    refine o_step rfl (s_assign rfl) ?_
    refine o_step rfl (s_assign rfl) ?_
    refine o_nil ?_
    refine x_then (hK19 _ _ ?_)
    refine c_seqJ (ι := OS × Int × Hp × Hp) (fun g => StG bo b29 sz fl er g.1 g.2.2.1 ∧ StR bp b35 sz fl er g.1 g.2.2.2 ∧ BdG g.1 (tot sc (j + 1)) (j + 1)) (fun g => [(12, .int .i64 g.2.1), (13, .int .i64 g.2.1)]) [(3, _), (4, _), (5, _), (6, _), (8, _), (10, _), (11, _), (64, _), (65, _), (66, _), (67, _), (70, _), (71, _), (72, _), (73, _), (74, _), (75, _)] (fun g => (b1, .cells [.int .i64 sz, .int .i64 fl, .int .i64 er, .slice a sc.length c].toArray 75 (0, 0)) :: (g.2.2.1 ++ (g.2.2.2 ++ (Sh ++ (Sf ++ Sm))))) sbA ?_ ?_
    ·
     rintro ⟨u2, e2, T1, T2⟩ ⟨hA2, hB2, hu2⟩
     dsimp only at hA2 hB2 hu2
     dsimp only
     obtain ⟨saA, gaA, scA, gcA, slA, glA, hmA, hglA, hcA, hrA, hsA, hxA⟩ := hA2.sinkRd
     obtain ⟨saB, gaB, scB, gcB, slB, glB, hmB, hglB, hcB, hrB, hsB, hxB⟩ := hB2.sinkRd
     obtain ⟨kvA, hoA⟩ := hA2.outRd
     obtain ⟨kvB, hoB⟩ := hB2.outRd
     refine c_seq fun _ hK21 => ?_
     refine c_seq fun _ hK22 => ?_
     refine c_quiet (by kernel_rfl) ?_
     refine .op rfl (s_move rfl) ?_
     refine .op rfl (s_move rfl) ?_
     refine .op rfl (s_neq_f rfl rfl rfl) ?_
     refine .op rfl (s_move rfl) ?_
     refine .yes rfl rfl rfl (s_move rfl) ?_
     refine .call (fun _ fr => by rw [wanted_of fr rfl rfl rfl]; rfl) rfl rfl rfl (err_fn bo sz u2.err u2.cnt (.func 15) [Value.pointer (some (⟨b29, 0, none⟩ : Addr))].toArray [].toArray kvA) (fun w st => (hoA _ _ hiA).out w st) ?_
     refine .yes rfl rfl rfl (s_move rfl) ?_
     refine .call (fun _ fr => by rw [wanted_of fr rfl rfl rfl]; rfl) rfl rfl rfl (rErr_fn bp sz u2.err u2.cnt (.pointer (some ⟨b35, 0, none⟩)) kvB) (fun w st => (hoB _ _ hiA).out w st) ?_
     refine .yes rfl rfl rfl (s_neq_f rfl rfl rfl) ?_
     refine .op rfl (s_pick_f rfl rfl) ?_
     refine .op rfl (s_move rfl) ?_
     refine .yes rfl rfl rfl (s_move rfl) ?_
     refine .call (fun _ fr => by rw [wanted_of fr rfl rfl rfl]; rfl) rfl rfl rfl (count_fn bo sz u2.err u2.cnt (sinkF b29) kvA) (fun w st => (hoA _ _ hiA).out w st) ?_
     refine .yes rfl rfl rfl (s_move rfl) ?_
     refine .call (fun _ fr => by rw [wanted_of fr rfl rfl rfl]; rfl) rfl rfl rfl (rCount_fn bp sz u2.err u2.cnt (.pointer (some ⟨b35, 0, none⟩)) kvB) (fun w st => (hoB _ _ hiA).out w st) ?_
     refine .yes rfl rfl rfl (s_neq_f rfl rfl rfl) ?_
     refine .op rfl (s_pick_f rfl rfl) ?_
     refine .op rfl (s_move rfl) ?_
     refine .yes rfl rfl rfl (s_move rfl) ?_
     refine .yes rfl rfl rfl (s_nil rfl) ?_
     refine .yes rfl rfl rfl (s_field rfl rfl (by decide)) ?_
     refine .yes rfl rfl rfl (s_ld rfl ((hcA _ _ hiA).cel (j := 5) rfl rfl)) ?_
     refine .yes rfl rfl rfl (s_move rfl) ?_
     refine .yes rfl rfl rfl (s_nil rfl) ?_
     refine .yes rfl rfl rfl (s_field rfl rfl (by decide)) ?_
     refine .yes rfl rfl rfl (s_ld rfl ((hcB _ _ hiA).cel (j := 5) rfl rfl)) ?_
     refine .call (fun _ fr => by rw [wanted_of fr rfl rfl rfl]; rfl) rfl rfl rfl (eqRows_true saA saB scA scB slA slB (by rw [hmA, hmB])) (fun w st => ⟨⟨(hrA.rdk hiA).out w st, fun s hs => ((hxA s hs).rdk hiA).out w st⟩, (hrB.rdk hiA).out w st, fun s hs => ((hxB s hs).rdk hiA).out w st⟩) ?_
     refine .yes rfl rfl rfl (s_not rfl) ?_
     refine .op rfl (s_pick_f rfl rfl) ?_
     refine .nil ?_
     refine x_then (hK22 _ _ ?_)
     refine c_false rfl ?_
     refine c_skip ?_
     refine x_then (hK21 _ _ ?_)
     refine c_seq fun _ hK23 => ?_
     refine c_seq fun _ hK24 => ?_
     refine c_region ?_
     refine o_step rfl (s_move rfl) ?_
     refine o_step rfl (s_move rfl) ?_
     refine o_step rfl (s_move rfl) ?_
     refine o_step rfl (s_idx rfl rfl (by assumption) (by omega)) ?_
     refine o_step rfl (s_field rfl rfl (by decide)) ?_
     refine o_step rfl (s_ld rfl ((RdK.old0 h1).ld j 1 (op0_get (by omega)) rfl (by decide) (by omega))) ?_
     refine o_callP (eqRows_true pa (op0 sc j).p.a (ws.length + 64) (op0 sc j).p.c ws (op0 sc j).p.xs hpe) rfl rfl rfl (fun w st => ⟨⟨(hPw.rdk hiA).out w st, fun s hs => ((OwnL.rdm hWl s hs).rdk hiA).out w st⟩, (RdK.old0 hrow).out w st, fun s hs => (RdK.old0 ((h2 _ hmem).2 s hs)).out w st⟩) (fun v130 hv130 => ?_)
     subst hv130
     refine o_step rfl (s_not rfl) ?_
     refine o_step rfl (s_move rfl) ?_
     refine o_yes rfl rfl ?_
     refine o_step rfl (s_move rfl) ?_
     refine o_yes rfl rfl ?_
     refine o_callP (spareRows_fn pa ws.length pl (by omega) hpl (fun s hs => by rw [hpt] at hs; have h5 := List.mem_map_of_mem (f := Sl.xs) hs; rw [hpe] at h5; obtain ⟨s2, h6, h7⟩ := List.mem_map.1 h5; have := flat_mem h6; rw [← h7]; omega)) rfl rfl rfl (fun w st => ⟨(hPl.rdk hiA).out w st, fun s hs => ((hWr s (by rw [hpt] at hs; exact hs)).rdk hiA).out w st, fun k m hk hm => ⟨((hmk k m hk hm).1.rdk hiA).out w st, (hmk k m hk hm).2⟩⟩) (fun v134 hv134 => ?_)
     subst hv134
     refine o_yes rfl rfl ?_
     refine o_step rfl (s_not rfl) ?_
     refine o_step rfl (s_pick_f rfl rfl) ?_
     refine o_nil ?_
     refine x_then (hK24 _ _ ?_)
     refine c_false rfl ?_
     refine c_skip ?_
     refine x_then (hK23 _ _ ?_)
     refine c_seq fun _ hK25 => ?_
     refine c_seq fun _ hK26 => ?_
     refine c_region ?_
     refine o_step rfl (s_assign rfl) ?_
     refine o_nil ?_
     refine x_then (hK26 _ _ ?_)
     refine c_block ?_
     refine c_loop3 (fun (k : Nat) (xss : List (List UInt8)) (Sx : Hp) => k ≤ ws.length ∧ OwnL Eb 1 5 ws xss Sx) (fun (k : Nat) (xss : List (List UInt8)) (Sx : Hp) => [(14, .int .i64 k)]) [(3, _), (4, _), (5, _), (6, _), (8, _), (10, _), (11, _), (12, _), (13, _), (64, _), (65, _), (66, _), (67, _), (70, _), (71, _), (72, _), (73, _), (74, _), (75, _), (95, _), (96, _), (97, _), (98, _), (99, _), (100, _), (101, _), (102, _), (103, _), (104, _), (105, _), (106, _), (107, _), (108, _), (109, _), (110, _), (111, _), (112, _), (113, _), (114, _), (115, _), (116, _), (117, _), (118, _), (119, _), (120, _), (121, _), (122, _), (123, _), (124, _), (125, _), (126, _), (127, _), (128, _), (129, _), (130, _), (131, _), (132, _), (133, _), (134, _), (135, _), (136, _)] (fun (k : Nat) (xss : List (List UInt8)) (Sx : Hp) => (b1, .cells [.int .i64 sz, .int .i64 fl, .int .i64 er, .slice a sc.length c].toArray 75 (0, 0)) :: (T1 ++ (T2 ++ (Sh ++ Sx)))) (fun (k : Nat) (xss : List (List UInt8)) (Sx : Hp) => ws.length - k) 0 _ Sf ⟨Nat.zero_le _, hWl⟩ sbA sbA hzB ?_
     rintro k xss Sx ⟨hk, hX⟩
     refine c_seq fun _ hK27 => ?_
     refine c_seq fun _ hK28 => ?_
     refine c_region ?_
     refine o_step rfl (s_move rfl) ?_
     refine o_step rfl (s_move rfl) ?_
     refine o_step rfl (s_len rfl) ?_
     refine o_step rfl (s_lss rfl rfl) ?_
     refine o_nil ?_
     refine x_then (hK28 _ _ ?_)
     refine c_if rfl (fun hkl => ?_) (fun hkl => ?_)
     ·
      obtain ⟨s, hs⟩ := sl_get (sls := ws) (n := k) (by omega)
      obtain ⟨xs, R1, Rn0, R2, hx, rfl, hx0, hput⟩ := hX.at hs
      have hxl := hx0.lenv
      have hsn : s.xs.length ≤ 2147483647 := by have h5 := List.mem_map_of_mem (f := Sl.xs) (List.mem_of_getElem? hs); rw [hpe] at h5; obtain ⟨s2, h6, h7⟩ := List.mem_map.1 h5; have := flat_mem h6; rw [← h7]; omega
      refine c_skip ?_
      refine x_then (hK27 _ _ ?_)
      refine c_seq fun _ hK29 => ?_
      refine c_block ?_
      refine c_seq fun _ hK30 => ?_
      refine c_region ?_
      refine o_step rfl (s_assign rfl) ?_
      refine o_nil ?_
      refine x_then (hK30 _ _ ?_)
      refine c_block ?_
      refine c_loop3 (fun (i : Nat) (l : List UInt8) (Sn : Hp) => i ≤ s.xs.length ∧ OwnS Eb 1 5 s.v l Sn) (fun (i : Nat) (l : List UInt8) (Sn : Hp) => [(15, .int .i64 i)]) [(3, _), (4, _), (5, _), (6, _), (8, _), (10, _), (11, _), (12, _), (13, _), (14, _), (64, _), (65, _), (66, _), (67, _), (70, _), (71, _), (72, _), (73, _), (74, _), (75, _), (95, _), (96, _), (97, _), (98, _), (99, _), (100, _), (101, _), (102, _), (103, _), (104, _), (105, _), (106, _), (107, _), (108, _), (109, _), (110, _), (111, _), (112, _), (113, _), (114, _), (115, _), (116, _), (117, _), (118, _), (119, _), (120, _), (121, _), (122, _), (123, _), (124, _), (125, _), (126, _), (127, _), (128, _), (129, _), (130, _), (131, _), (132, _), (133, _), (134, _), (135, _), (136, _), (137, _), (138, _), (139, _), (140, _)] (fun (i : Nat) (l : List UInt8) (Sn : Hp) => (b1, .cells [.int .i64 sz, .int .i64 fl, .int .i64 er, .slice a sc.length c].toArray 75 (0, 0)) :: (T1 ++ (T2 ++ (Sh ++ (R1 ++ (Sn ++ R2)))))) (fun (i : Nat) (l : List UInt8) (Sn : Hp) => s.xs.length - i) 0 _ Rn0 ⟨Nat.zero_le _, hx0⟩ sbA sbA hzB ?_
      rintro i l Sn ⟨hi, hln⟩
      have hll := hln.lenv
      have hlsl := hln.sl
      rw [hll] at hlsl
      refine c_seq fun _ hK31 => ?_
      refine c_seq fun _ hK32 => ?_
      refine c_region ?_
      refine o_step rfl (s_move rfl) ?_
      refine o_step rfl (s_move rfl) ?_
      refine o_step rfl (s_move rfl) ?_
      refine o_step rfl (s_idx rfl rfl hPs (by omega)) ?_
      refine o_step rfl (s_ld rfl ((hPw.rdk hiA).ld k 0 hs rfl (by decide) (by omega))) ?_
      refine o_step rfl (s_len rfl) ?_
      refine o_step rfl (s_lss rfl rfl) ?_
      refine o_nil ?_
      refine x_then (hK32 _ _ ?_)
      refine c_if rfl (fun hil => ?_) (fun hil => ?_)
      ·
       refine c_skip ?_
       refine x_then (hK31 _ _ ?_)
       refine c_seq fun _ hK33 => ?_
       refine c_block ?_
       refine c_tail 13 (by kernel_rfl) ?_
       refine .op rfl (s_move rfl) ?_
       refine .op rfl (s_move rfl) ?_
       refine .op rfl (s_idx rfl rfl hPs (by omega)) ?_
       refine .op rfl (s_ld rfl ((hPw.rdk hiA).ld k 0 hs rfl (by decide) (by omega))) ?_
       refine .op rfl (s_move rfl) ?_
       refine .op rfl (s_move rfl) ?_
       refine .op rfl (s_move rfl) ?_
       refine .op rfl (s_idx rfl rfl hPs (by omega)) ?_
       refine .op rfl (s_ld rfl ((hPw.rdk hiA).ld k 0 hs rfl (by decide) (by omega))) ?_
       refine .op rfl (s_move rfl) ?_
       refine .op rfl (s_idx rfl rfl hlsl (by omega)) ?_
       refine .op rfl (s_ld rfl ((hln.rdk hiA).ld i 0 (at0_get (by omega)) rfl (by decide) (by simp only [soff, Sl.v]; omega))) ?_
       refine .op rfl (step_cast (v' := .int .u8 (UInt8.ofNat ((at0 l i).toNat + 1)).toNat) (s_addw rfl rfl) (congrArg (Value.int .u8) (wrap_u8 ((at0 l i).toNat + 1)))) ?_
       refine .nil ?_
       refine o_step rfl (s_idx rfl rfl hlsl (by omega)) ?_
       refine o_stS1 i (UInt8.ofNat ((at0 l i).toNat + 1)) hln pkA rfl rfl rfl (by omega) (by rw [Int.toNat_natCast, Nat.mul_one]; rfl) fun S' hS' => ?_
       refine o_nil ?_
       refine x_block ?_
       refine x_then (hK33 _ _ ?_)
       refine c_region ?_
       refine o_step rfl (s_move rfl) ?_
       refine o_step rfl (s_add rfl rfl (by omega)) ?_
       refine o_step rfl (s_assign rfl) ?_
       refine o_nil ?_
       exact x_then (x_inv (i + 1, _, _) ⟨by dsimp only; omega, hS'⟩ (by first | omega | (dsimp only; omega)) sbA hzB)
      ·
       refine c_exit ?_
       refine x_then_exit ?_
       refine x_then_exit ?_
       refine x_block_exit ?_
       refine x_block ?_
       refine x_then (hK29 _ _ ?_)
       refine c_region ?_
       refine o_step rfl (s_move rfl) ?_
       refine o_step rfl (s_add rfl rfl (by omega)) ?_
       refine o_step rfl (s_assign rfl) ?_
       refine o_nil ?_
       exact x_then (x_inv (k + 1, _, _) ⟨by dsimp only; omega, hput _ _ hln⟩ (by first | omega | (dsimp only; omega)) sbA hzB)
     ·
      refine c_exit ?_
      refine x_then_exit ?_
      refine x_then_exit ?_
      refine x_block_exit ?_
      refine x_then (hK25 _ _ ?_)
      refine c_seq fun _ hK34 => ?_
      obtain ⟨V1, V2, rfl, hOA, hKA⟩ := hA2
      rcases hKA with @⟨sa3, ga3, sc3, gc3, sl3, gl3, gx3, So3, Si3, Sg3, Gc3, hm3, hO3, hin3, hg3, hgl3, hG3, hgb3⟩
      refine c_region ?_
      refine o_step rfl (s_move rfl) ?_
      refine o_step rfl (s_rem rfl rfl (by omega)) ?_
      by_cases hev : (j : Int).tmod 2 = 0
      ·
       refine o_step rfl (step_cast (v' := .bool true) (s_eql rfl rfl) (by rw [decide_eq_true hev])) ?_
       refine o_step rfl (s_move rfl) ?_
       refine o_yes rfl rfl ?_
       refine o_step rfl (s_move rfl) ?_
       refine o_yes rfl rfl ?_
       refine o_step rfl (s_nil rfl) ?_
       refine o_yes rfl rfl ?_
       refine o_step rfl (s_field rfl rfl (by decide)) ?_
       refine o_yes rfl rfl ?_
       refine o_step rfl (s_ld rfl (.own meA rfl)) ?_
       refine o_yes rfl rfl ?_
       refine o_step rfl (s_len rfl) ?_
       refine o_yes rfl rfl ?_
       by_cases hgp : (gl3.length : Int) > 0
       ·
        refine o_step rfl (step_cast (v' := .bool true) (s_gtr rfl rfl) (by rw [decide_eq_true (by omega)])) ?_
        refine o_step rfl (s_pick_t rfl rfl) ?_
        refine o_nil ?_
        refine x_then (hK34 _ _ ?_)
        refine c_true rfl ?_
        refine c_seq fun _ hK35 => ?_
        obtain ⟨s, hs⟩ := sl_get (sls := gl3) (n := gl3.length - 1) (by omega)
        obtain ⟨xs, R1, Rn0, R2, hx, rfl, hx0, hput⟩ := hG3.at hs
        have hg3s := hg3.sl
        have hg3b := hg3s.le
        have hsn := hgb3 s (List.mem_of_getElem? hs)
        refine c_quiet (by kernel_rfl) ?_
        refine .op rfl (s_move rfl) ?_
        refine .op rfl (s_nil rfl) ?_
        refine .op rfl (s_field rfl rfl (by decide)) ?_
        refine .op rfl (s_ld rfl (.own meA rfl)) ?_
        refine .op rfl (s_move rfl) ?_
        refine .op rfl (s_nil rfl) ?_
        refine .op rfl (s_field rfl rfl (by decide)) ?_
        refine .op rfl (s_ld rfl (.own meA rfl)) ?_
        refine .op rfl (s_len rfl) ?_
        refine .op rfl (s_sub rfl rfl (by omega)) ?_
        refine .op rfl (s_idx rfl rfl hg3s (by omega)) ?_
        refine .op rfl (s_ld rfl ((hg3.rdk hiA).ld (gl3.length - 1) 0 hs rfl (by decide) (by omega))) ?_
        refine .op rfl (s_assign rfl) ?_
        refine .nil ?_
        refine x_then (hK35 _ _ ?_)
        refine c_seq fun _ hK36 => ?_
        refine c_region ?_
        refine o_step rfl (s_assign rfl) ?_
        refine o_nil ?_
        refine x_then (hK36 _ _ ?_)
        refine c_block ?_
        refine c_loop3 (fun (i : Nat) (l : List UInt8) (Sn : Hp) => i ≤ s.xs.length ∧ OwnS Eb 1 5 s.v l Sn) (fun (i : Nat) (l : List UInt8) (Sn : Hp) => [(17, .int .i64 i)]) [(3, _), (4, _), (5, _), (6, _), (8, _), (10, _), (11, _), (12, _), (13, _), (14, _), (16, _), (64, _), (65, _), (66, _), (67, _), (70, _), (71, _), (72, _), (73, _), (74, _), (75, _), (95, _), (96, _), (97, _), (98, _), (99, _), (100, _), (101, _), (102, _), (103, _), (104, _), (105, _), (106, _), (107, _), (108, _), (109, _), (110, _), (111, _), (112, _), (113, _), (114, _), (115, _), (116, _), (117, _), (118, _), (119, _), (120, _), (121, _), (122, _), (123, _), (124, _), (125, _), (126, _), (127, _), (128, _), (129, _), (130, _), (131, _), (132, _), (133, _), (134, _), (135, _), (136, _), (137, _), (138, _), (139, _), (140, _), (166, _), (167, _), (168, _), (169, _), (170, _), (171, _), (172, _), (173, _), (174, _), (175, _), (176, _), (177, _), (178, _), (179, _), (180, _), (181, _), (182, _), (183, _), (184, _), (185, _), (186, _), (187, _), (188, _)] (fun (i : Nat) (l : List UInt8) (Sn : Hp) => (b1, .cells [.int .i64 sz, .int .i64 fl, .int .i64 er, .slice a sc.length c].toArray 75 (0, 0)) :: (V1 ++ ((b29, .cells [.pointer none, .string ⟨#[]⟩, .int .i64 fl, .int .i64 er, .int .i64 sl3.length, .slice sa3 sl3.length sc3, .slice ga3 gl3.length gc3].toArray 79 (0, 0)) :: (So3 ++ (Si3 ++ (Sg3 ++ (R1 ++ (Sn ++ (R2 ++ T2))))))))) (fun (i : Nat) (l : List UInt8) (Sn : Hp) => s.xs.length - i) 0 _ Rn0 ⟨Nat.zero_le _, hx0⟩ sbA sbA (by simp only [List.append_assoc, List.cons_append]; exact hzB) ?_
        rintro i l Sn ⟨hi, hln⟩
        have hll := hln.lenv
        have hlsl := hln.sl
        rw [hll] at hlsl
        refine c_seq fun _ hK37 => ?_
        refine c_seq fun _ hK38 => ?_
        refine c_region ?_
        refine o_step rfl (s_move rfl) ?_
        refine o_step rfl (s_move rfl) ?_
        refine o_step rfl (s_len rfl) ?_
        refine o_step rfl (s_lss rfl rfl) ?_
        refine o_nil ?_
        refine x_then (hK38 _ _ ?_)
        refine c_if rfl (fun hil => ?_) (fun hil => ?_)
        ·
         refine c_skip ?_
         refine x_then (hK37 _ _ ?_)
         refine c_seq fun _ hK39 => ?_
         refine c_block ?_
         refine c_region ?_
         refine o_step rfl (s_move rfl) ?_
         refine o_step rfl (s_move rfl) ?_
         refine o_step rfl (s_idx rfl rfl hlsl (by omega)) ?_
         refine o_stS1 i (7 : UInt8) hln pkA rfl rfl rfl (by omega) (by rw [Int.toNat_natCast, Nat.mul_one]; rfl) fun S' hS' => ?_
         refine o_nil ?_
         refine x_block ?_
         refine x_then (hK39 _ _ ?_)
         refine c_region ?_
         refine o_step rfl (s_move rfl) ?_
         refine o_step rfl (s_add rfl rfl (by omega)) ?_
         refine o_step rfl (s_assign rfl) ?_
         refine o_nil ?_
         exact x_then (x_inv (i + 1, _, _) ⟨by dsimp only; omega, hS'⟩ (by first | omega | (dsimp only; omega)) sbA hzB)
        ·
         refine c_exit ?_
         refine x_then_exit ?_
         refine x_then_exit ?_
         refine x_block_exit ?_
         refine x_block ?_
         refine x_then (hK17 _ _ ?_)
         refine c_region ?_
         refine o_step rfl (s_move rfl) ?_
         refine o_step rfl (s_add rfl rfl (by omega)) ?_
         refine o_step rfl (s_assign rfl) ?_
         refine o_nil ?_
         exact x_then (x_inv (j + 1, u2, _, T2) ⟨by dsimp only; omega, ⟨V1, _, rfl, hOA, .mk hm3 hO3 hin3 hg3 hgl3 (hput _ _ hln) hgb3⟩, hB2, hu2⟩ (by first | omega | (dsimp only; omega)) sbA (by simp only [List.append_assoc, List.cons_append]; exact hzB))
       ·
        refine o_step rfl (step_cast (v' := .bool false) (s_gtr rfl rfl) (by rw [decide_eq_false (by omega)])) ?_
        refine o_step rfl (s_pick_t rfl rfl) ?_
        refine o_nil ?_
        refine x_then (hK34 _ _ ?_)
        refine c_false rfl ?_
        refine c_skip ?_
        refine x_block ?_
        refine x_then (hK17 _ _ ?_)
        refine c_region ?_
        refine o_step rfl (s_move rfl) ?_
        refine o_step rfl (s_add rfl rfl (by omega)) ?_
        refine o_step rfl (s_assign rfl) ?_
        refine o_nil ?_
        exact x_then (x_inv (j + 1, u2, _, T2) ⟨by dsimp only; omega, ⟨V1, _, rfl, hOA, .mk hm3 hO3 hin3 hg3 hgl3 hG3 hgb3⟩, hB2, hu2⟩ (by first | omega | (dsimp only; omega)) sbA (by simp only [List.append_assoc, List.cons_append]; exact hzB))
      ·
       refine o_step rfl (step_cast (v' := .bool false) (s_eql rfl rfl) (by rw [decide_eq_false hev])) ?_
       refine o_step rfl (s_move rfl) ?_
       refine o_no rfl rfl rfl rfl ?_
       refine o_no rfl rfl rfl rfl ?_
       refine o_no rfl rfl rfl rfl ?_
       refine o_no rfl rfl rfl rfl ?_
       refine o_no rfl rfl rfl rfl ?_
       refine o_no rfl rfl rfl rfl ?_
       refine o_step rfl (s_pick_f rfl rfl) ?_
       refine o_nil ?_
       refine x_then (hK34 _ _ ?_)
       refine c_false rfl ?_
       refine c_skip ?_
       refine x_block ?_
       refine x_then (hK17 _ _ ?_)
       refine c_region ?_
       refine o_step rfl (s_move rfl) ?_
       refine o_step rfl (s_add rfl rfl (by omega)) ?_
       refine o_step rfl (s_assign rfl) ?_
       refine o_nil ?_
       exact x_then (x_inv (j + 1, u2, _, T2) ⟨by dsimp only; omega, ⟨V1, _, rfl, hOA, .mk hm3 hO3 hin3 hg3 hgl3 hG3 hgb3⟩, hB2, hu2⟩ (by first | omega | (dsimp only; omega)) sbA (by simp only [List.append_assoc, List.cons_append]; exact hzB))
    ·
     intro _ hJ20
     refine c_seq fun _ hK40 => ?_
     refine c_region ?_
     refine o_step rfl (s_move rfl) ?_
     refine o_step rfl (s_move rfl) ?_
     refine o_step rfl (s_idx rfl rfl (by assumption) (by omega)) ?_
     refine o_step rfl (s_field rfl rfl (by decide)) ?_
     by_cases hf : (op0 sc j).f = true
     ·
      refine o_step rfl (step_cast (v' := .bool true) (s_ld rfl ((RdK.old0 h1).ld j 0 (op0_get (by omega)) rfl (by decide) (by omega))) (by rw [hf])) ?_
      refine o_nil ?_
      refine x_then (hK40 _ _ ?_)
      refine c_true rfl ?_
      refine c_seq fun _ hK41 => ?_
      refine c_region ?_
      refine o_step rfl (s_move rfl) ?_
      refine o_call (flush_fn hA (by omega) (by omega) (by omega)) rfl rfl rfl pkA (fun _ _ => trivial) (fun v82 S82 ⟨hv82, hA2⟩ => ?_)
      subst hv82
      refine o_step rfl (s_assign rfl) ?_
      refine o_nil ?_
      refine x_then (hK41 _ _ ?_)
      refine c_region ?_
      refine o_step rfl (s_move rfl) ?_
      refine o_call (rFlush_fn hB (by omega) (by omega) (by omega)) rfl rfl rfl pkA (fun _ _ => trivial) (fun v84 S84 ⟨hv84, hB2⟩ => ?_)
      subst hv84
      refine o_step rfl (s_assign rfl) ?_
      refine o_nil ?_
      exact x_then (hJ20 (_, _, S82, S84) _ _ ⟨hA2, hB2, (hu.flush (fail := fl) (serr := er)).mono (by omega) (Nat.le_refl _)⟩ sbA sbA hzB)
     ·
      have hf2 : (op0 sc j).f = false := by simpa using hf
      refine o_step rfl (step_cast (v' := .bool false) (s_ld rfl ((RdK.old0 h1).ld j 0 (op0_get (by omega)) rfl (by decide) (by omega))) (by rw [hf2])) ?_
      refine o_nil ?_
      refine x_then (hK40 _ _ ?_)
      refine c_false rfl ?_
      refine c_seq fun _ hK42 => ?_
      refine c_region ?_
      refine o_step rfl (s_move rfl) ?_
      refine o_step rfl (s_move rfl) ?_
      refine o_call (write_fn hA pa (ws.length + 64) ws (Sh ++ (Sf ++ Sm)) hPs (hPw.mono HIn.appL) (fun s hs => (OwnL.rdm hWl s hs).mono (fun p hp => List.mem_append_right _ (List.mem_append_left _ hp))) (by omega) (by rw [hpe, List.length_append]; omega) (by omega)) rfl rfl rfl ((Pick.takeA pkA (Pick.takeA pkA (Pick.takeA pkA pkA)))) (fun _ _ => trivial) (fun v87 S87x ⟨hv87, S87, hSe87, hA2⟩ => ?_)
      subst hv87
      subst hSe87
      rw [hpe] at hA2 ⊢
      refine o_sk (H' := (b1, .cells [.int .i64 sz, .int .i64 fl, .int .i64 er, .slice a sc.length c].toArray 75 (0, 0)) :: (S87 ++ (S2 ++ (Sh ++ (Sf ++ Sm))))) hzB ?_
      refine o_step rfl (s_assign rfl) ?_
      refine o_nil ?_
      refine x_then (hK42 _ _ ?_)
      refine c_region ?_
      refine o_step rfl (s_move rfl) ?_
      refine o_step rfl (s_move rfl) ?_
      refine o_step rfl (s_move rfl) ?_
      refine o_step rfl (s_idx rfl rfl (by assumption) (by omega)) ?_
      refine o_step rfl (s_field rfl rfl (by decide)) ?_
      refine o_step rfl (s_ld rfl ((RdK.old0 h1).ld j 1 (op0_get (by omega)) rfl (by decide) (by omega))) ?_
      refine o_call (rWrite_fn hB (op0 sc j).p.a (op0 sc j).p.c (op0 sc j).p.xs (by omega) (by rw [List.length_append]; omega) (by omega)) rfl rfl rfl pkA (fun w st => ⟨⟨(RdK.old0 hrow).out w st, st.apart_old (S := S2) hiA hrow (by decide)⟩, fun s hs => ⟨(RdK.old0 ((h2 _ hmem).2 s hs)).out w st, st.apart_old (S := S2) hiA ((h2 _ hmem).2 s hs) (by decide)⟩⟩) (fun v94 S94 ⟨hv94, hB2⟩ => ?_)
      subst hv94
      refine o_step rfl (s_assign rfl) ?_
      refine o_nil ?_
      exact x_then (hJ20 (_, _, S87, S94) _ _ ⟨hA2, hB2, (hu.write (lim := sz) (fail := fl) (serr := er) (b := ((op0 sc j).p.xs.map Sl.xs).flatten)).mono (by omega) (Nat.le_refl _)⟩ sbA sbA hzB)
   ·
    obtain ⟨V1, V2, rfl, hOA, hKA⟩ := hA
    rcases hKA with @⟨sa3, ga3, sc3, gc3, sl3, gl3, gx3, So3, Si3, Sg3, Gc3, hm3, hO3, hin3, hg3, hgl3, hG3, hgb3⟩
    refine c_exit ?_
    refine x_then_exit ?_
    refine x_then_exit ?_
    refine x_block_exit ?_
    refine x_then (hK13 _ _ ?_)
    refine c_seq fun _ hK43 => ?_
    refine c_region ?_
    refine o_step rfl (step_cast (v' := .agg (List.replicate 19 (Value.slice none 0 0)).toArray) (s_build (cs := [_, _, _, _, _, _, _, _, _, _, _, _, _, _, _, _, _, _, _]) (vs := []) rfl rfl .nil) rfl) ?_
    refine o_box rfl rfl rfl fun b199 => ?_
    refine o_step rfl (s_assign rfl) ?_
    refine o_nil ?_
    refine x_then (hK43 _ _ ?_)
    refine c_seq fun _ hK44 => ?_
    refine c_seq fun _ hK45 => ?_
    refine c_region ?_
    refine o_step rfl (s_assign rfl) ?_
    refine o_nil ?_
    refine x_then (hK45 _ _ ?_)
    refine c_block ?_
    refine c_loop5 (fun (i : Nat) (cs : List Value) (oa : Option Addr) (oc : Nat) (So : Hp) => i ≤ gl3.length ∧ cs[0]? = some (.slice oa (gl3.take (min i 400)).length oc) ∧ (∀ q, q < 19 → q ≠ 0 → cs[q]? = some (.slice none 0 0)) ∧ OwnS Esl 1 40 (.slice oa (gl3.take (min i 400)).length oc) (gl3.take (min i 400)) So) (fun (i : Nat) (cs : List Value) (oa : Option Addr) (oc : Nat) (So : Hp) => [(19, .int .i64 i)]) [(4, _), (18, _)] (fun (i : Nat) (cs : List Value) (oa : Option Addr) (oc : Nat) (So : Hp) => (b199, .cells cs.toArray 70 (0, 0)) :: (So ++ ((b29, .cells [.pointer none, .string ⟨#[]⟩, .int .i64 fl, .int .i64 er, .int .i64 sl3.length, .slice sa3 sl3.length sc3, .slice ga3 gl3.length gc3].toArray 79 (0, 0)) :: (Sg3 ++ Gc3)))) (fun (i : Nat) (cs : List Value) (oa : Option Addr) (oc : Nat) (So : Hp) => gl3.length - i) 0 (List.replicate 19 (Value.slice none 0 0)) none 0 [] ⟨Nat.zero_le _, rfl, fun q h5 _ => by rw [List.getElem?_replicate, if_pos h5], .nil⟩ sbA sbA hzB ?_
    rintro i cs oa oc So ⟨hi, hb, hz, hO⟩
    refine c_seq fun _ hK46 => ?_
    refine c_seq fun _ hK47 => ?_
    refine c_region ?_
    refine o_step rfl (s_move rfl) ?_
    refine o_step rfl (s_move rfl) ?_
    refine o_step rfl (s_nil rfl) ?_
    refine o_step rfl (s_field rfl rfl (by decide)) ?_
    refine o_step rfl (s_ld rfl (.own meA rfl)) ?_
    refine o_step rfl (s_len rfl) ?_
    refine o_step rfl (s_lss rfl rfl) ?_
    refine o_nil ?_
    refine x_then (hK47 _ _ ?_)
    refine c_if rfl (fun hil => ?_) (fun hil => ?_)
    ·
     have hg3b := hg3.sl.le
     obtain ⟨s, hs⟩ := sl_get (sls := gl3) (n := i) (by omega)
     refine c_skip ?_
     refine x_then (hK46 _ _ ?_)
     refine c_seq fun _ hK48 => ?_
     refine c_block ?_
     refine c_region ?_
     refine o_step rfl (s_move rfl) ?_
     refine o_step rfl (s_move rfl) ?_
     refine o_step rfl (s_nil rfl) ?_
     refine o_step rfl (s_field rfl rfl (by decide)) ?_
     refine o_step rfl (s_ld rfl (.own meA rfl)) ?_
     refine o_step rfl (s_move rfl) ?_
     refine o_step rfl (s_idx rfl rfl hg3.sl (by omega)) ?_
     refine o_step rfl (s_ld rfl ((hg3.rdk hiA).ld i 0 hs rfl (by decide) (by omega))) ?_
     refine o_call (addAny_fn b199 cs (gl3.take (min i 400)) s oa oc So hb hO) rfl rfl rfl ((Pick.takeC pkA pkA)) (fun _ _ => trivial) (fun v217 S217 ⟨cs2, oa2, oc2, So2, l2, hl2, hS217, hb2, hc2, hO2⟩ => ?_)
     subst hS217
     rw [← bag_add hs] at hl2
     subst hl2
     refine o_nil ?_
     refine x_block ?_
     refine x_then (hK48 _ _ ?_)
     refine c_region ?_
     refine o_step rfl (s_move rfl) ?_
     refine o_step rfl (s_add rfl rfl (by omega)) ?_
     refine o_step rfl (s_assign rfl) ?_
     refine o_nil ?_
     exact x_then (x_inv (i + 1, cs2, oa2, oc2, So2) ⟨by dsimp only; omega, hb2, fun q h5 h6 => (hc2 q h6).trans (hz q h5 h6), hO2⟩ (by first | omega | (dsimp only; omega)) sbA hzB)
    ·
     obtain rfl : i = gl3.length := by omega
     obtain ⟨Gx, Gx1, Gx2, hGe, hGt⟩ := OwnL.take hG3 (min gl3.length 400)
     subst hGe
     refine c_exit ?_
     refine x_then_exit ?_
     refine x_then_exit ?_
     refine x_block_exit ?_
     refine x_then (hK44 _ _ ?_)
     refine c_seq fun _ hK49 => ?_
     refine c_region ?_
     refine o_step rfl (s_move rfl) ?_
     refine o_call (apart_fn b199 cs (gl3.take (min gl3.length 400)) oa oc So Gx1 hb hz (by rw [List.length_take]; omega) (sl_all (fun s hs => hgb3 s (List.mem_of_mem_take hs))) hO _ hGt) rfl rfl rfl ((Pick.takeC pkA (Pick.takeA pkA pkA))) (fun _ _ => trivial) (fun v219 S219 ⟨hv219, hS219⟩ => ?_)
     subst hv219
     subst hS219
     refine o_step rfl (s_move rfl) ?_
     refine o_yes rfl rfl ?_
     refine o_callP (works_fn) rfl rfl rfl (fun _ _ => trivial) (fun v221 hv221 => ?_)
     subst hv221
     refine o_step rfl (s_pick_t rfl rfl) ?_
     refine o_step rfl (s_assign rfl) ?_
     refine o_nil ?_
     refine x_then (hK49 _ _ ?_)
     refine c_ret ?_
     refine ?_
     exact x_ret rfl (.tmp rfl (.nil)) (rfl)
  ·
   refine o_nil ?_
   refine x_then (hK4 _ _ ?_)
   refine c_true rfl ?_
   refine c_seq fun _ hK50 => ?_
   refine c_region ?_
   refine o_step rfl (s_assign rfl) ?_
   refine o_nil ?_
   refine x_then (hK50 _ _ ?_)
   refine c_ret ?_
   refine x_then_ret (?_)
   exact x_ret rfl (.tmp rfl (.nil)) (rfl)

theorem outsPlays_fn (sz fl er : Int) (a : Option Addr) (c : Nat) (sc : List OpV) (hb : ∀ o ∈ sc, o.p.xs.length * 24 ≤ 140737488355328) : HL.Fn Tryd.prog 4 [.agg [.int .i64 sz, .int .i64 fl, .int .i64 er, .slice a sc.length c].toArray] (fun w => Rd Eop w (.slice a sc.length c) sc ∧ ∀ o ∈ sc, Rd Esl w o.p.v o.p.xs ∧ ∀ s ∈ o.p.xs, Rd Eb w s.v s.xs) [] (fun v _ => v = .bool true) := by
  by_cases hz : sz < 0
  · exact outsPlays_neg sz fl er hz a c sc
  · exact outsPlays_pos sz fl er (by omega) a c sc hb
end Go.Proofs.YtmmajabfmhipeaaDoor

/- Part of the proofs over this seat: see the text that holds the theorem. Conditions: each theorem bears its own. -/
namespace Go.Proofs.YtmmajabfmhipeaaDoor
open Go Go.HL Go.Proofs
theorem own : ownKnob Tryd.prog.godebug = none := by kernel_rfl
theorem laidOut : laidOutB Tryd.prog = true := by kernel_rfl
/-- the door's own heap meets the condition -/
theorem door_met (os : Os) (args : Array Value) : laidMetH Tryd.prog Rows.tableAppliesRow.laid ((World.doorLaid Tryd.prog 400 os).forCall (fun _ _ => 0) ⟨#[], args, []⟩).memory :=
  laidMetH_of_parts3 (fuel := 8) (laidMet_of_run' 8 (by kernel_rfl) (by kernel_rfl)) (by kernel_rfl) (by kernel_rfl)
end Go.Proofs.YtmmajabfmhipeaaDoor
