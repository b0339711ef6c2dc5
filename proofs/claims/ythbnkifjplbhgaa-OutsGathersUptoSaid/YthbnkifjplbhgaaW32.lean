/- Part of the proofs over this seat: see the text that holds the theorem. Conditions: each theorem bears its own. -/
import Derived.Test.YthbnkifjplbhgaaW20
import Derived.Test.YthbnkifjplbhgaaM12
import Derived.Test.YthbnkifjplbhgaaM17
namespace Go.Proofs.Ythbnkifjplbhgaa
open Go Go.HL Go.Proofs
theorem outsGathers_neg (x : Int) (hx : x < 0) (a : Option Addr) (c : Nat) (sc : List OpV) : HL.Fn Try.prog 9 [.int .i64 x, .slice a sc.length c] (fun w => Rd Eop w (.slice a sc.length c) sc ∧ ∀ o ∈ sc, Rd Esl w o.p.v o.p.xs ∧ ∀ s ∈ o.p.xs, Rd Eb w s.v s.xs) [] (fun v _ => v = .bool true) := by
  refine fn_of Try.func9 rfl rfl rfl fun w0 hw => ?_
  obtain ⟨h1, h2⟩ := hw
  refine c_seq fun _ hK1 => ?_
  refine c_region ?_
  refine o_step rfl (s_assign rfl) ?_
  refine o_nil ?_
  refine x_then (hK1 _ _ ?_)
  refine c_seq fun _ hK2 => ?_
  refine c_seq fun _ hK3 => ?_
  refine c_region ?_
  refine o_step rfl (s_move rfl) ?_
  refine o_callP (scriptLong_fn a c sc) rfl rfl rfl (fun w st => ⟨(RdK.old0 h1).out w st, fun o ho => ⟨(RdK.old0 (h2 o ho).1).out w st, fun s hs => (RdK.old0 ((h2 o ho).2 s hs)).out w st⟩⟩) (fun v23 hv23 => ?_)
  obtain ⟨bl, hv23, hlong⟩ := hv23
  subst hv23
  cases bl
  · skip
    have htot := hlong rfl
    refine o_nil ?_
    refine x_then (hK3 _ _ ?_)
    refine c_false rfl ?_
    refine c_skip ?_
    refine x_then (hK2 _ _ ?_)
    refine c_seq fun _ hK4 => ?_
    refine c_region ?_
    refine o_step rfl (s_build (cs := [_, _, _, _, _, _, _]) (vs := []) rfl rfl (.nil)) ?_
    refine o_box rfl rfl rfl fun b25 => ?_
    refine o_step rfl (s_assign rfl) ?_
    refine o_nil ?_
    refine x_then (hK4 _ _ ?_)
    refine c_seq fun _ hK5 => ?_
    refine c_region ?_
    refine o_step rfl (s_move rfl) ?_
    refine o_step rfl (s_move rfl) ?_
    refine o_step rfl (s_func (us := [_]) (vs := []) rfl rfl) ?_
    refine o_callP (outNew_neg x (.func 43) [.pointer (some ⟨b25, 0, none⟩)].toArray [].toArray (by omega)) rfl rfl rfl (fun _ _ => trivial) (fun v30 hv30 => ?_)
    subst hv30
    refine o_step rfl (s_move rfl) ?_
    refine o_step rfl (s_extract rfl rfl) ?_
    refine o_step rfl (s_extract rfl rfl) ?_
    refine o_step rfl (s_assign rfl) ?_
    refine o_step rfl (s_assign rfl) ?_
    refine o_nil ?_
    refine x_then (hK5 _ _ ?_)
    refine c_seq fun _ hK6 => ?_
    refine c_seq fun _ hK7 => ?_
    refine c_region ?_
    refine o_step rfl (s_move rfl) ?_
    refine o_step rfl (s_lss_t rfl rfl (by omega)) ?_
    refine o_nil ?_
    refine x_then (hK7 _ _ ?_)
    refine c_true rfl ?_
    refine c_seq fun _ hK8 => ?_
    refine c_region ?_
    refine o_step rfl (s_move rfl) ?_
    refine o_step rfl (s_eql_t rfl rfl rfl) ?_
    refine o_step rfl (s_move rfl) ?_
    refine o_yes rfl rfl ?_
    refine o_step rfl (s_move rfl) ?_
    refine o_yes rfl rfl ?_
    refine o_step rfl (step_cast (v' := .bool true) (s_eql_nilp rfl rfl) rfl) ?_
    refine o_step rfl (s_pick_t rfl rfl) ?_
    refine o_step rfl (s_move rfl) ?_
    refine o_yes rfl rfl ?_
    refine o_callP (works_fn) rfl rfl rfl (fun _ _ => trivial) (fun v42 hv42 => ?_)
    subst hv42
    refine o_step rfl (s_pick_t rfl rfl) ?_
    refine o_step rfl (s_assign rfl) ?_
    refine o_nil ?_
    refine x_then (hK8 _ _ ?_)
    refine c_ret ?_
    refine x_then_ret (?_)
    exact x_ret rfl (.tmp rfl (.nil)) (rfl)
  · skip
    refine o_nil ?_
    refine x_then (hK3 _ _ ?_)
    refine c_true rfl ?_
    refine c_seq fun _ hK9 => ?_
    refine c_region ?_
    refine o_step rfl (s_assign rfl) ?_
    refine o_nil ?_
    refine x_then (hK9 _ _ ?_)
    refine c_ret ?_
    refine x_then_ret (?_)
    exact x_ret rfl (.tmp rfl (.nil)) (rfl)

set_option maxHeartbeats 4000000 in
theorem outsGathers_pos (x : Int) (hx : 0 ≤ x) (a : Option Addr) (c : Nat) (sc : List OpV) (hb : ∀ o ∈ sc, o.p.xs.length * 24 ≤ 140737488355328) : HL.Fn Try.prog 9 [.int .i64 x, .slice a sc.length c] (fun w => Rd Eop w (.slice a sc.length c) sc ∧ ∀ o ∈ sc, Rd Esl w o.p.v o.p.xs ∧ ∀ s ∈ o.p.xs, Rd Eb w s.v s.xs) [] (fun v _ => v = .bool true) := by
  refine fn_of Try.func9 rfl rfl rfl fun w0 hw => ?_
  obtain ⟨h1, h2⟩ := hw
  have hsx := h1.sl
  have hbx := hsx.le
  refine c_seq fun _ hK1 => ?_
  refine c_region ?_
  refine o_step rfl (s_assign rfl) ?_
  refine o_nil ?_
  refine x_then (hK1 _ _ ?_)
  refine c_seq fun _ hK2 => ?_
  refine c_seq fun _ hK3 => ?_
  refine c_region ?_
  refine o_step rfl (s_move rfl) ?_
  refine o_callP (scriptLong_fn a c sc) rfl rfl rfl (fun w st => ⟨(RdK.old0 h1).out w st, fun o ho => ⟨(RdK.old0 (h2 o ho).1).out w st, fun s hs => (RdK.old0 ((h2 o ho).2 s hs)).out w st⟩⟩) (fun v23 hv23 => ?_)
  obtain ⟨bl, hv23, hlong⟩ := hv23
  subst hv23
  cases bl
  · skip
    have htot := hlong rfl
    refine o_nil ?_
    refine x_then (hK3 _ _ ?_)
    refine c_false rfl ?_
    refine c_skip ?_
    refine x_then (hK2 _ _ ?_)
    refine c_seq fun _ hK4 => ?_
    refine c_region ?_
    refine o_step rfl (s_build (cs := [_, _, _, _, _, _, _]) (vs := []) rfl rfl (.nil)) ?_
    refine o_box rfl rfl rfl fun b25 => ?_
    refine o_step rfl (s_assign rfl) ?_
    refine o_nil ?_
    refine x_then (hK4 _ _ ?_)
    refine c_seq fun _ hK5 => ?_
    refine c_region ?_
    refine o_step rfl (s_move rfl) ?_
    refine o_step rfl (s_move rfl) ?_
    refine o_step rfl (s_func (us := [_]) (vs := []) rfl rfl) ?_
    refine o_call (outNew_pos x (.func 43) [.pointer (some ⟨b25, 0, none⟩)].toArray [].toArray (by omega)) rfl rfl rfl (by exact .nil) (fun _ _ => trivial) (fun v30 S30 ⟨bo, hv30, hS30⟩ => ?_)
    subst hv30
    subst hS30
    have hst1 := stH_new (bo := bo) (bs := b25) (lim := x) (fail := 0) (serr := 0)
    refine o_sk (H' := newH bo b25 x 0 0) (HSub.trans (B := [(bo, _), (b25, _)]) (by repeat (first | exact HSub.refl _ | exact HSub.nil | refine HSub.takeC (by first | ((repeat (first | exact .one | exact .here | exact .all | apply Pick.cons | apply Pick.app)); done) | ((repeat (first | exact .one | exact .here | exact .all | apply Pick.cons | apply Pick.assoc | apply Pick.app)); done) | exact Pick.takeA (by repeat (first | exact .one | exact .here | exact .all | apply Pick.cons | apply Pick.assoc | apply Pick.app)) (by repeat (first | exact .one | exact .here | exact .all | apply Pick.cons | apply Pick.assoc | apply Pick.app))) ?_ | refine HSub.take (by first | ((repeat (first | exact .one | exact .here | exact .all | apply Pick.cons | apply Pick.app)); done) | ((repeat (first | exact .one | exact .here | exact .all | apply Pick.cons | apply Pick.assoc | apply Pick.app)); done) | exact Pick.takeA (by repeat (first | exact .one | exact .here | exact .all | apply Pick.cons | apply Pick.assoc | apply Pick.app)) (by repeat (first | exact .one | exact .here | exact .all | apply Pick.cons | apply Pick.assoc | apply Pick.app))) ?_ | exact HSub.of_pick (by first | ((repeat (first | exact .one | exact .here | exact .all | apply Pick.cons | apply Pick.app)); done) | ((repeat (first | exact .one | exact .here | exact .all | apply Pick.cons | apply Pick.assoc | apply Pick.app)); done) | exact Pick.takeA (by repeat (first | exact .one | exact .here | exact .all | apply Pick.cons | apply Pick.assoc | apply Pick.app)) (by repeat (first | exact .one | exact .here | exact .all | apply Pick.cons | apply Pick.assoc | apply Pick.app))))) (HSub.refl _)) ?_
    generalize newH bo b25 x 0 0 = Z1 at hst1 ⊢
    refine o_step rfl (s_move rfl) ?_
    refine o_step rfl (s_extract rfl rfl) ?_
    refine o_step rfl (s_extract rfl rfl) ?_
    refine o_step rfl (s_assign rfl) ?_
    refine o_step rfl (s_assign rfl) ?_
    refine o_nil ?_
    refine x_then (hK5 _ _ ?_)
    refine c_seq fun _ hK6 => ?_
    refine c_seq fun _ hK7 => ?_
    refine c_region ?_
    refine o_step rfl (s_move rfl) ?_
    refine o_step rfl (s_lss_f rfl rfl (by omega)) ?_
    refine o_nil ?_
    refine x_then (hK7 _ _ ?_)
    refine c_false rfl ?_
    refine c_skip ?_
    refine x_then (hK6 _ _ ?_)
    refine c_seq fun _ hK8 => ?_
    refine c_seq fun _ hK9 => ?_
    refine c_region ?_
    refine o_step rfl (s_move rfl) ?_
    refine o_step rfl (s_neq_f rfl rfl (by omega)) ?_
    refine o_step rfl (s_move rfl) ?_
    refine o_yes rfl rfl ?_
    refine o_step rfl (s_move rfl) ?_
    refine o_yes rfl rfl ?_
    refine o_step rfl (step_cast (v' := .bool false) (s_eql_nilp rfl rfl) rfl) ?_
    refine o_step rfl (s_pick_f rfl rfl) ?_
    refine o_nil ?_
    refine x_then (hK9 _ _ ?_)
    refine c_false rfl ?_
    refine c_skip ?_
    refine x_then (hK8 _ _ ?_)
    refine c_seq fun _ hK10 => ?_
    refine c_region ?_
    refine o_step rfl (s_assign rfl) ?_
    refine o_nil ?_
    refine x_then (hK10 _ _ ?_)
    refine c_seq fun _ hK11 => ?_
    refine c_region ?_
    refine o_step rfl (s_assign rfl) ?_
    refine o_nil ?_
    refine x_then (hK11 _ _ ?_)
    refine c_seq fun _ hK12 => ?_
    refine c_region ?_
    refine o_step rfl (s_assign rfl) ?_
    refine o_nil ?_
    refine x_then (hK12 _ _ ?_)
    refine c_seq fun _ hK13 => ?_
    refine c_seq fun _ hK14 => ?_
    refine c_region ?_
    refine o_step rfl (s_assign rfl) ?_
    refine o_nil ?_
    refine x_then (hK14 _ _ ?_)
    refine c_block ?_
    -- not carried: 4 7
    refine c_loop3 (fun (j : Nat) (u : OS) (S1 : Hp) => j ≤ sc.length ∧ StH bo b25 x 0 0 u S1 ∧ Bd u (tot sc j) j ∧ GInv u (allB (sc.take j)) j) (fun (j : Nat) (u : OS) (S1 : Hp) => [(11, .int .i64 j), (8, .int .i64 u.kept.length), (9, .int .i64 u.said.length), (10, .int .i64 u.cnt)]) [(0, _), (1, _), (5, _), (6, _)] (fun (j : Nat) (u : OS) (S1 : Hp) => S1) (fun (j : Nat) (u : OS) (S1 : Hp) => sc.length - j) 0 ⟨[], 0, 0, []⟩ Z1 ⟨by omega, hst1, Bd.new, GInv.new⟩ (by repeat (first | exact Sub.nil | refine Sub.cons rfl ?_)) (by repeat (first | exact Sub.nil | refine Sub.cons rfl ?_)) (by exact HSub.refl _) ?_
    rintro j u S1 ⟨hj, hA, hu, hg⟩
    obtain ⟨he1, hc1, hk1, hs1⟩ := id hu
    have hjt0 := tot_mono (sc := sc) (j := j)
    refine c_seq fun _ hK15 => ?_
    refine c_seq fun _ hK16 => ?_
    refine c_region ?_
    refine o_step rfl (s_move rfl) ?_
    refine o_step rfl (s_move rfl) ?_
    refine o_step rfl (s_len rfl) ?_
    refine o_step rfl (s_lss rfl rfl) ?_
    refine o_nil ?_
    refine x_then (hK16 _ _ ?_)
    refine c_if rfl (fun hlt => ?_) (fun hlt => ?_)
    · skip
      have hlt2 : j < sc.length := by omega
      have hmem := op0_mem hlt2
      have hrow : Rd Esl w0 (.slice (op0 sc j).p.a (op0 sc j).p.xs.length (op0 sc j).p.c) (op0 sc j).p.xs := (h2 _ hmem).1
      have hrs := hrow.sl
      have hrb := hrs.le
      have hcost := tot_succ hlt2
      have hce : cost (op0 sc j) = (op0 sc j).p.xs.length + ((op0 sc j).p.xs.map Sl.xs).flatten.length := rfl
      have hca := catK_all (kept := []) (sls := (op0 sc j).p.xs)
      have hcl : (catK [] (op0 sc j).p.xs (op0 sc j).p.xs.length).length = ((op0 sc j).p.xs.map Sl.xs).flatten.length := by rw [hca]; rfl
      have hjt := tot_mono (sc := sc) (j := j + 1)
      refine c_skip ?_
      refine x_then (hK15 _ _ ?_)
      refine c_seq fun _ hK17 => ?_
      refine c_block ?_
      refine c_seq fun _ hK18 => ?_
      refine c_region ?_
      refine o_step rfl (s_assign rfl) ?_
      refine o_nil ?_
      refine x_then (hK18 _ _ ?_)
      refine c_seq fun _ hK19 => ?_
      refine c_seq fun _ hK20 => ?_
      refine c_region ?_
      refine o_step rfl (s_move rfl) ?_
      refine o_step rfl (s_move rfl) ?_
      refine o_step rfl (s_idx rfl rfl (by assumption) (by omega)) ?_
      refine o_step rfl (s_field rfl rfl (by decide)) ?_
      by_cases hf : (op0 sc j).f = true
      · skip
        refine o_step rfl (step_cast (v' := .bool true) (s_ld rfl ((RdK.old0 h1).ld j 0 (op0_get (by omega)) rfl (by decide) (by omega))) (by rw [hf])) ?_
        refine o_nil ?_
        refine x_then (hK20 _ _ ?_)
        refine c_true rfl ?_
        refine c_region ?_
        refine o_step rfl (s_move rfl) ?_
        refine o_call (flush_fn hA (by omega) (by omega) (by omega)) rfl rfl rfl (by first | ((repeat (first | exact .one | exact .here | exact .all | apply Pick.cons | apply Pick.app)); done) | ((repeat (first | exact .one | exact .here | exact .all | apply Pick.cons | apply Pick.assoc | apply Pick.app)); done) | exact Pick.takeA (by repeat (first | exact .one | exact .here | exact .all | apply Pick.cons | apply Pick.assoc | apply Pick.app)) (by repeat (first | exact .one | exact .here | exact .all | apply Pick.cons | apply Pick.assoc | apply Pick.app))) (fun _ _ => trivial) (fun v62 S62 ⟨hv62, hA2⟩ => ?_)
        subst hv62
        obtain ⟨b, hb0⟩ : ∃ b : List UInt8, b = [] := ⟨_, rfl⟩
        have hbl : b.length = 0 := by rw [hb0]; rfl
        have hst : GStep x (op0 sc j).f b u (flushS 0 0 u) (flushE 0 0 u) := by rw [hb0, hf]; exact gFlush he1
        have hg2 : GInv (flushS 0 0 u) (allB (sc.take (j + 1))) (j + 1) := by rw [allB_take hlt2, bytesO, if_pos hf, ← hb0]; exact hst.inv hg
        have hu2 : Bd (flushS 0 0 u) (tot sc (j + 1)) (j + 1) := hu.flush.mono (by omega) (Nat.le_refl _)
        refine o_sk (H' := S62) (by repeat (first | exact HSub.refl _ | exact HSub.nil | refine HSub.takeC (by first | ((repeat (first | exact .one | exact .here | exact .all | apply Pick.cons | apply Pick.app)); done) | ((repeat (first | exact .one | exact .here | exact .all | apply Pick.cons | apply Pick.assoc | apply Pick.app)); done) | exact Pick.takeA (by repeat (first | exact .one | exact .here | exact .all | apply Pick.cons | apply Pick.assoc | apply Pick.app)) (by repeat (first | exact .one | exact .here | exact .all | apply Pick.cons | apply Pick.assoc | apply Pick.app))) ?_ | refine HSub.take (by first | ((repeat (first | exact .one | exact .here | exact .all | apply Pick.cons | apply Pick.app)); done) | ((repeat (first | exact .one | exact .here | exact .all | apply Pick.cons | apply Pick.assoc | apply Pick.app)); done) | exact Pick.takeA (by repeat (first | exact .one | exact .here | exact .all | apply Pick.cons | apply Pick.assoc | apply Pick.app)) (by repeat (first | exact .one | exact .here | exact .all | apply Pick.cons | apply Pick.assoc | apply Pick.app))) ?_ | exact HSub.of_pick (by first | ((repeat (first | exact .one | exact .here | exact .all | apply Pick.cons | apply Pick.app)); done) | ((repeat (first | exact .one | exact .here | exact .all | apply Pick.cons | apply Pick.assoc | apply Pick.app)); done) | exact Pick.takeA (by repeat (first | exact .one | exact .here | exact .all | apply Pick.cons | apply Pick.assoc | apply Pick.app)) (by repeat (first | exact .one | exact .here | exact .all | apply Pick.cons | apply Pick.assoc | apply Pick.app))))) ?_
        generalize flushE 0 0 u = ee at hst ⊢
        generalize flushS 0 0 u = u2 at hst hu2 hg2 hA2
        obtain ⟨kp, e2, cn, sd⟩ := u2
        obtain ⟨saB, gaB, scB, gcB, slB, glB, hmB, hglB, hcB, hrB, hsB, hxB⟩ := hA2.sinkRd
        obtain ⟨kvB, hoB⟩ := hA2.outRd
        have hlB : slB.length = sd.length := by rw [show sd = _ from hmB.symm, List.length_map]
        rcases hst with ⟨h1, h2, h3, h4, h5, hd⟩ | ⟨h1, h2, h3, h4, h5, hd⟩
        · skip
          simp only at h1 h2 h3 h4
          subst h1
          subst h2
          subst h3
          subst h4
          subst h5
          have hdd : ¬ 0 < (u.kept.length : Int) + b.length := fun h => hd ⟨h, .inl hf⟩
          refine o_step rfl (s_assign rfl) ?_
          refine o_nil ?_
          refine x_then (hK19 _ _ ?_)
          refine c_seq fun _ hK21 => ?_
          refine c_region ?_
          refine o_step rfl (s_move rfl) ?_
          refine o_step rfl (s_move rfl) ?_
          refine o_step rfl (s_add rfl rfl (by omega)) ?_
          refine o_step rfl (s_gtr_f rfl rfl (by omega)) ?_
          refine o_step rfl (s_move rfl) ?_
          refine o_no rfl rfl rfl rfl ?_
          refine o_no rfl rfl rfl rfl ?_
          refine o_no rfl rfl rfl rfl ?_
          refine o_no rfl rfl rfl rfl ?_
          refine o_no rfl rfl rfl rfl ?_
          refine o_no rfl rfl rfl rfl ?_
          refine o_noU rfl rfl rfl ?_
          refine o_noU rfl rfl rfl ?_
          refine o_noU rfl rfl rfl ?_
          refine o_noU rfl rfl rfl ?_
          refine o_noU rfl rfl rfl ?_
          refine o_no rfl rfl rfl rfl ?_
          refine o_step rfl (s_pick_f rfl rfl) ?_
          refine o_step rfl (s_assign rfl) ?_
          refine o_nil ?_
          refine x_then (hK21 _ _ ?_)
          refine c_seq fun _ hK22 => ?_
          refine c_region ?_
          refine o_step rfl (s_move rfl) ?_
          refine o_step rfl (s_nil rfl) ?_
          refine o_step rfl (s_field rfl rfl (by decide)) ?_
          refine o_step rfl (s_ld rfl ((hcB _ _ (by repeat (first | exact HIn.here | exact HIn.all | exact HIn.one | apply HIn.cons | apply HIn.assoc | apply HIn.app))).cel (j := 5) rfl rfl)) ?_
          refine o_step rfl (s_len rfl) ?_
          refine o_step rfl (s_move rfl) ?_
          refine o_step rfl (s_sub rfl rfl (by omega)) ?_
          refine o_step rfl (s_assign rfl) ?_
          refine o_nil ?_
          refine x_then (hK22 _ _ ?_)
          refine c_seq fun _ hK23 => ?_
          refine c_seq fun _ hK24 => ?_
          refine c_region ?_
          refine o_step rfl (s_move rfl) ?_
          refine o_step rfl (s_neq_f rfl rfl (by omega)) ?_
          refine o_step rfl (s_move rfl) ?_
          refine o_yes rfl rfl ?_
          refine o_step rfl (s_move rfl) ?_
          refine o_yes rfl rfl ?_
          refine o_callP (err_fn bo x _ _ (.func 43) [Value.pointer (some (⟨b25, 0, none⟩ : Addr))].toArray [].toArray kvB) rfl rfl rfl (fun w st => (hoB _ _ (by repeat (first | exact HIn.here | exact HIn.all | exact HIn.one | apply HIn.cons | apply HIn.assoc | apply HIn.app))).out w st) (fun v121 hv121 => ?_)
          subst hv121
          refine o_yes rfl rfl ?_
          refine o_step rfl (s_neq_f rfl rfl (by first | rfl | omega | (dsimp only; omega))) ?_
          refine o_step rfl (s_pick_f rfl rfl) ?_
          refine o_step rfl (s_move rfl) ?_
          refine o_yes rfl rfl ?_
          refine o_step rfl (s_move rfl) ?_
          refine o_yes rfl rfl ?_
          refine o_step rfl (s_move rfl) ?_
          refine o_yes rfl rfl ?_
          refine o_step rfl (s_eql_f rfl rfl (by omega)) ?_
          refine o_yes rfl rfl ?_
          refine o_step rfl (step_cast (v' := .bool false) (s_neq_bool rfl rfl) rfl) ?_
          refine o_step rfl (s_pick_f rfl rfl) ?_
          refine o_step rfl (s_move rfl) ?_
          refine o_yes rfl rfl ?_
          refine o_step rfl (s_move rfl) ?_
          refine o_yes rfl rfl ?_
          refine o_step rfl (s_lss_f rfl rfl (by omega)) ?_
          refine o_step rfl (s_pick_f rfl rfl) ?_
          refine o_step rfl (s_move rfl) ?_
          refine o_yes rfl rfl ?_
          refine o_step rfl (s_move rfl) ?_
          refine o_yes rfl rfl ?_
          refine o_step rfl (s_gtr_f rfl rfl (by omega)) ?_
          refine o_step rfl (s_pick_f rfl rfl) ?_
          refine o_nil ?_
          refine x_then (hK24 _ _ ?_)
          refine c_false rfl ?_
          refine c_skip ?_
          refine x_then (hK23 _ _ ?_)
          refine c_seq fun _ hK25 => ?_
          refine c_region ?_
          refine o_step rfl (s_move rfl) ?_
          refine o_step rfl (s_move rfl) ?_
          refine o_step rfl (step_cast (v' := .int .i64 ((u.kept ++ b).length : Nat)) (s_add rfl rfl (by omega)) (congrArg (Value.int .i64) (by rw [List.length_append]; omega))) ?_
          refine o_step rfl (s_assign rfl) ?_
          refine o_nil ?_
          refine x_then (hK25 _ _ ?_)
          refine c_seq fun _ hK26 => ?_
          refine c_seq fun _ hK27 => ?_
          refine c_region ?_
          refine o_step rfl (s_move rfl) ?_
          refine o_nil ?_
          refine x_then (hK27 _ _ ?_)
          refine c_false rfl ?_
          refine c_skip ?_
          refine x_then (hK26 _ _ ?_)
          refine c_seq fun _ hK28 => ?_
          refine c_region ?_
          refine o_step rfl (s_move rfl) ?_
          refine o_step rfl (s_nil rfl) ?_
          refine o_step rfl (s_field rfl rfl (by decide)) ?_
          refine o_step rfl (s_ld rfl ((hcB _ _ (by repeat (first | exact HIn.here | exact HIn.all | exact HIn.one | apply HIn.cons | apply HIn.assoc | apply HIn.app))).cel (j := 5) rfl rfl)) ?_
          refine o_step rfl (step_cast (v' := .int .i64 (u.said.length : Nat)) (s_len rfl) (by rw [hlB])) ?_
          refine o_step rfl (s_assign rfl) ?_
          refine o_nil ?_
          refine x_then (hK28 _ _ ?_)
          refine c_seq fun _ hK29 => ?_
          refine c_region ?_
          refine o_step rfl (s_move rfl) ?_
          refine o_callP (count_fn bo x _ _ _ kvB) rfl rfl rfl (fun w st => (hoB _ _ (by repeat (first | exact HIn.here | exact HIn.all | exact HIn.one | apply HIn.cons | apply HIn.assoc | apply HIn.app))).out w st) (fun v161 hv161 => ?_)
          subst hv161
          refine o_step rfl (s_move rfl) ?_
          refine o_step rfl (s_neq_f rfl rfl (by first | rfl | omega | (dsimp only; omega))) ?_
          refine o_nil ?_
          refine x_then (hK29 _ _ ?_)
          refine c_false rfl ?_
          refine c_skip ?_
          refine x_block ?_
          refine x_then (hK17 _ _ ?_)
          refine c_region ?_
          refine o_step rfl (s_move rfl) ?_
          refine o_step rfl (s_add rfl rfl (by omega)) ?_
          refine o_step rfl (s_assign rfl) ?_
          refine o_nil ?_
          exact x_then (x_inv (j + 1, _, _) ⟨by omega, hA2, hu2, hg2⟩ (by first | omega | (dsimp only; omega)) (by repeat (first | exact Sub.nil | refine Sub.cons rfl ?_)) (by repeat (first | exact HSub.refl _ | exact HSub.nil | refine HSub.takeC (by first | ((repeat (first | exact .one | exact .here | exact .all | apply Pick.cons | apply Pick.app)); done) | ((repeat (first | exact .one | exact .here | exact .all | apply Pick.cons | apply Pick.assoc | apply Pick.app)); done) | exact Pick.takeA (by repeat (first | exact .one | exact .here | exact .all | apply Pick.cons | apply Pick.assoc | apply Pick.app)) (by repeat (first | exact .one | exact .here | exact .all | apply Pick.cons | apply Pick.assoc | apply Pick.app))) ?_ | refine HSub.take (by first | ((repeat (first | exact .one | exact .here | exact .all | apply Pick.cons | apply Pick.app)); done) | ((repeat (first | exact .one | exact .here | exact .all | apply Pick.cons | apply Pick.assoc | apply Pick.app)); done) | exact Pick.takeA (by repeat (first | exact .one | exact .here | exact .all | apply Pick.cons | apply Pick.assoc | apply Pick.app)) (by repeat (first | exact .one | exact .here | exact .all | apply Pick.cons | apply Pick.assoc | apply Pick.app))) ?_ | exact HSub.of_pick (by first | ((repeat (first | exact .one | exact .here | exact .all | apply Pick.cons | apply Pick.app)); done) | ((repeat (first | exact .one | exact .here | exact .all | apply Pick.cons | apply Pick.assoc | apply Pick.app)); done) | exact Pick.takeA (by repeat (first | exact .one | exact .here | exact .all | apply Pick.cons | apply Pick.assoc | apply Pick.app)) (by repeat (first | exact .one | exact .here | exact .all | apply Pick.cons | apply Pick.assoc | apply Pick.app))))))
        · skip
          simp only at h1 h2 h3 h4
          subst h1
          subst h2
          subst h3
          subst h4
          subst h5
          have hkx : (row0 slB u.said.length).xs = u.kept ++ b := row_snoc hmB rfl
          have hkx2 : (row0 slB u.said.length).xs.length = u.kept.length + b.length := by rw [hkx, List.length_append]
          have hsl1 : slB.length = u.said.length + 1 := by rw [hlB]; simp
          have hdd := hd.1
          refine o_step rfl (s_assign rfl) ?_
          refine o_nil ?_
          refine x_then (hK19 _ _ ?_)
          refine c_seq fun _ hK30 => ?_
          refine c_region ?_
          refine o_step rfl (s_move rfl) ?_
          refine o_step rfl (s_move rfl) ?_
          refine o_step rfl (s_add rfl rfl (by omega)) ?_
          refine o_step rfl (s_gtr_t rfl rfl (by omega)) ?_
          refine o_step rfl (s_move rfl) ?_
          refine o_yes rfl rfl ?_
          refine o_step rfl (s_move rfl) ?_
          refine o_yes rfl rfl ?_
          refine o_step rfl (s_move rfl) ?_
          refine o_yes rfl rfl ?_
          refine o_step rfl (s_idx rfl rfl (by assumption) (by omega)) ?_
          refine o_yes rfl rfl ?_
          refine o_step rfl (s_field rfl rfl (by decide)) ?_
          refine o_yes rfl rfl ?_
          refine o_step rfl (step_cast (v' := .bool true) (s_ld rfl ((RdK.old0 h1).ld j 0 (op0_get (by omega)) rfl (by decide) (by omega))) (by rw [hf])) ?_
          refine o_yes rfl rfl ?_
          refine o_step rfl (s_move rfl) ?_
          refine o_no rfl rfl rfl rfl ?_
          refine o_no rfl rfl rfl rfl ?_
          refine o_no rfl rfl rfl rfl ?_
          refine o_no rfl rfl rfl rfl ?_
          refine o_no rfl rfl rfl rfl ?_
          refine o_yes rfl rfl ?_
          refine o_step rfl (s_pick_t rfl rfl) ?_
          refine o_step rfl (s_pick_t rfl rfl) ?_
          refine o_step rfl (s_assign rfl) ?_
          refine o_nil ?_
          refine x_then (hK30 _ _ ?_)
          refine c_seq fun _ hK31 => ?_
          refine c_region ?_
          refine o_step rfl (s_move rfl) ?_
          refine o_step rfl (s_nil rfl) ?_
          refine o_step rfl (s_field rfl rfl (by decide)) ?_
          refine o_step rfl (s_ld rfl ((hcB _ _ (by repeat (first | exact HIn.here | exact HIn.all | exact HIn.one | apply HIn.cons | apply HIn.assoc | apply HIn.app))).cel (j := 5) rfl rfl)) ?_
          refine o_step rfl (s_len rfl) ?_
          refine o_step rfl (s_move rfl) ?_
          refine o_step rfl (s_sub rfl rfl (by omega)) ?_
          refine o_step rfl (s_assign rfl) ?_
          refine o_nil ?_
          refine x_then (hK31 _ _ ?_)
          refine c_seq fun _ hK32 => ?_
          refine c_seq fun _ hK33 => ?_
          refine c_region ?_
          refine o_step rfl (s_move rfl) ?_
          refine o_step rfl (s_neq_f rfl rfl (by omega)) ?_
          refine o_step rfl (s_move rfl) ?_
          refine o_yes rfl rfl ?_
          refine o_step rfl (s_move rfl) ?_
          refine o_yes rfl rfl ?_
          refine o_callP (err_fn bo x _ _ (.func 43) [Value.pointer (some (⟨b25, 0, none⟩ : Addr))].toArray [].toArray kvB) rfl rfl rfl (fun w st => (hoB _ _ (by repeat (first | exact HIn.here | exact HIn.all | exact HIn.one | apply HIn.cons | apply HIn.assoc | apply HIn.app))).out w st) (fun v121 hv121 => ?_)
          subst hv121
          refine o_yes rfl rfl ?_
          refine o_step rfl (s_neq_f rfl rfl (by first | rfl | omega | (dsimp only; omega))) ?_
          refine o_step rfl (s_pick_f rfl rfl) ?_
          refine o_step rfl (s_move rfl) ?_
          refine o_yes rfl rfl ?_
          refine o_step rfl (s_move rfl) ?_
          refine o_yes rfl rfl ?_
          refine o_step rfl (s_move rfl) ?_
          refine o_yes rfl rfl ?_
          refine o_step rfl (s_eql_t rfl rfl (by omega)) ?_
          refine o_yes rfl rfl ?_
          refine o_step rfl (step_cast (v' := .bool false) (s_neq_bool rfl rfl) rfl) ?_
          refine o_step rfl (s_pick_f rfl rfl) ?_
          refine o_step rfl (s_move rfl) ?_
          refine o_yes rfl rfl ?_
          refine o_step rfl (s_move rfl) ?_
          refine o_yes rfl rfl ?_
          refine o_step rfl (s_lss_f rfl rfl (by omega)) ?_
          refine o_step rfl (s_pick_f rfl rfl) ?_
          refine o_step rfl (s_move rfl) ?_
          refine o_yes rfl rfl ?_
          refine o_step rfl (s_move rfl) ?_
          refine o_yes rfl rfl ?_
          refine o_step rfl (s_gtr_f rfl rfl (by omega)) ?_
          refine o_step rfl (s_pick_f rfl rfl) ?_
          refine o_nil ?_
          refine x_then (hK33 _ _ ?_)
          refine c_false rfl ?_
          refine c_skip ?_
          refine x_then (hK32 _ _ ?_)
          refine c_seq fun _ hK34 => ?_
          refine c_region ?_
          refine o_step rfl (s_move rfl) ?_
          refine o_step rfl (s_move rfl) ?_
          refine o_step rfl (s_add rfl rfl (by omega)) ?_
          refine o_step rfl (s_assign rfl) ?_
          refine o_nil ?_
          refine x_then (hK34 _ _ ?_)
          refine c_seq fun _ hK35 => ?_
          refine c_seq fun _ hK36 => ?_
          refine c_region ?_
          refine o_step rfl (s_move rfl) ?_
          refine o_nil ?_
          refine x_then (hK36 _ _ ?_)
          refine c_true rfl ?_
          refine c_seq fun _ hK37 => ?_
          refine c_seq fun _ hK38 => ?_
          refine c_region ?_
          refine o_step rfl (s_move rfl) ?_
          refine o_step rfl (s_nil rfl) ?_
          refine o_step rfl (s_field rfl rfl (by decide)) ?_
          refine o_step rfl (s_ld rfl ((hcB _ _ (by repeat (first | exact HIn.here | exact HIn.all | exact HIn.one | apply HIn.cons | apply HIn.assoc | apply HIn.app))).cel (j := 5) rfl rfl)) ?_
          refine o_step rfl (s_move rfl) ?_
          refine o_step rfl (s_idx rfl rfl hsB (by omega)) ?_
          refine o_step rfl (s_ld rfl ((hrB.rdk (by repeat (first | exact HIn.here | exact HIn.all | exact HIn.one | apply HIn.cons | apply HIn.assoc | apply HIn.app))).ld u.said.length 0 (row0_get (by omega)) rfl (by decide) (by omega))) ?_
          refine o_step rfl (s_len rfl) ?_
          refine o_step rfl (s_move rfl) ?_
          refine o_step rfl (s_neq_f rfl rfl (by omega)) ?_
          refine o_nil ?_
          refine x_then (hK38 _ _ ?_)
          refine c_false rfl ?_
          refine c_skip ?_
          refine x_then (hK37 _ _ ?_)
          refine c_seq fun _ hK39 => ?_
          refine c_region ?_
          refine o_step rfl (s_move rfl) ?_
          refine o_step rfl (s_move rfl) ?_
          refine o_step rfl (step_cast (v' := .int .i64 (u.cnt + ((u.kept.length : Int) + b.length))) (s_add rfl rfl (by omega)) (congrArg (Value.int .i64) (by omega))) ?_
          refine o_step rfl (s_assign rfl) ?_
          refine o_nil ?_
          refine x_then (hK39 _ _ ?_)
          refine c_region ?_
          refine o_step rfl (s_assign rfl) ?_
          refine o_nil ?_
          refine x_then (hK35 _ _ ?_)
          refine c_seq fun _ hK40 => ?_
          refine c_region ?_
          refine o_step rfl (s_move rfl) ?_
          refine o_step rfl (s_nil rfl) ?_
          refine o_step rfl (s_field rfl rfl (by decide)) ?_
          refine o_step rfl (s_ld rfl ((hcB _ _ (by repeat (first | exact HIn.here | exact HIn.all | exact HIn.one | apply HIn.cons | apply HIn.assoc | apply HIn.app))).cel (j := 5) rfl rfl)) ?_
          refine o_step rfl (step_cast (v' := .int .i64 ((u.said ++ [u.kept ++ b]).length : Nat)) (s_len rfl) (by rw [hlB])) ?_
          refine o_step rfl (s_assign rfl) ?_
          refine o_nil ?_
          refine x_then (hK40 _ _ ?_)
          refine c_seq fun _ hK41 => ?_
          refine c_region ?_
          refine o_step rfl (s_move rfl) ?_
          refine o_callP (count_fn bo x _ _ _ kvB) rfl rfl rfl (fun w st => (hoB _ _ (by repeat (first | exact HIn.here | exact HIn.all | exact HIn.one | apply HIn.cons | apply HIn.assoc | apply HIn.app))).out w st) (fun v161 hv161 => ?_)
          subst hv161
          refine o_step rfl (s_move rfl) ?_
          refine o_step rfl (s_neq_f rfl rfl (by first | rfl | omega | (dsimp only; omega))) ?_
          refine o_nil ?_
          refine x_then (hK41 _ _ ?_)
          refine c_false rfl ?_
          refine c_skip ?_
          refine x_block ?_
          refine x_then (hK17 _ _ ?_)
          refine c_region ?_
          refine o_step rfl (s_move rfl) ?_
          refine o_step rfl (s_add rfl rfl (by omega)) ?_
          refine o_step rfl (s_assign rfl) ?_
          refine o_nil ?_
          exact x_then (x_inv (j + 1, _, _) ⟨by omega, hA2, hu2, hg2⟩ (by first | omega | (dsimp only; omega)) (by repeat (first | exact Sub.nil | refine Sub.cons rfl ?_)) (by repeat (first | exact HSub.refl _ | exact HSub.nil | refine HSub.takeC (by first | ((repeat (first | exact .one | exact .here | exact .all | apply Pick.cons | apply Pick.app)); done) | ((repeat (first | exact .one | exact .here | exact .all | apply Pick.cons | apply Pick.assoc | apply Pick.app)); done) | exact Pick.takeA (by repeat (first | exact .one | exact .here | exact .all | apply Pick.cons | apply Pick.assoc | apply Pick.app)) (by repeat (first | exact .one | exact .here | exact .all | apply Pick.cons | apply Pick.assoc | apply Pick.app))) ?_ | refine HSub.take (by first | ((repeat (first | exact .one | exact .here | exact .all | apply Pick.cons | apply Pick.app)); done) | ((repeat (first | exact .one | exact .here | exact .all | apply Pick.cons | apply Pick.assoc | apply Pick.app)); done) | exact Pick.takeA (by repeat (first | exact .one | exact .here | exact .all | apply Pick.cons | apply Pick.assoc | apply Pick.app)) (by repeat (first | exact .one | exact .here | exact .all | apply Pick.cons | apply Pick.assoc | apply Pick.app))) ?_ | exact HSub.of_pick (by first | ((repeat (first | exact .one | exact .here | exact .all | apply Pick.cons | apply Pick.app)); done) | ((repeat (first | exact .one | exact .here | exact .all | apply Pick.cons | apply Pick.assoc | apply Pick.app)); done) | exact Pick.takeA (by repeat (first | exact .one | exact .here | exact .all | apply Pick.cons | apply Pick.assoc | apply Pick.app)) (by repeat (first | exact .one | exact .here | exact .all | apply Pick.cons | apply Pick.assoc | apply Pick.app))))))
      · skip
        have hf2 : (op0 sc j).f = false := by simpa using hf
        refine o_step rfl (step_cast (v' := .bool false) (s_ld rfl ((RdK.old0 h1).ld j 0 (op0_get (by omega)) rfl (by decide) (by omega))) (by rw [hf2])) ?_
        refine o_nil ?_
        refine x_then (hK20 _ _ ?_)
        refine c_false rfl ?_
        refine c_seq fun _ hK42 => ?_
        refine c_seq fun _ hK43 => ?_
        refine c_region ?_
        refine o_step rfl (s_assign rfl) ?_
        refine o_nil ?_
        refine x_then (hK43 _ _ ?_)
        refine c_block ?_
        refine c_loopB (fun (k : Nat) => k ≤ (op0 sc j).p.xs.length) (fun (k : Nat) => [(13, .int .i64 k), (12, .int .i64 (catK [] (op0 sc j).p.xs k).length)]) [(0, _), (1, _), (5, _), (6, _), (8, _), (9, _), (10, _), (11, _), (50, _), (51, _), (52, _), (53, _), (56, _), (57, _), (58, _), (59, _), (60, _)] (fun (k : Nat) => S1) (fun (k : Nat) => (op0 sc j).p.xs.length - k) 0 (by omega) (by repeat (first | exact Sub.nil | refine Sub.cons rfl ?_)) (by repeat (first | exact Sub.nil | refine Sub.cons rfl ?_)) (by repeat (first | exact HSub.refl _ | exact HSub.nil | refine HSub.takeC (by first | ((repeat (first | exact .one | exact .here | exact .all | apply Pick.cons | apply Pick.app)); done) | ((repeat (first | exact .one | exact .here | exact .all | apply Pick.cons | apply Pick.assoc | apply Pick.app)); done) | exact Pick.takeA (by repeat (first | exact .one | exact .here | exact .all | apply Pick.cons | apply Pick.assoc | apply Pick.app)) (by repeat (first | exact .one | exact .here | exact .all | apply Pick.cons | apply Pick.assoc | apply Pick.app))) ?_ | refine HSub.take (by first | ((repeat (first | exact .one | exact .here | exact .all | apply Pick.cons | apply Pick.app)); done) | ((repeat (first | exact .one | exact .here | exact .all | apply Pick.cons | apply Pick.assoc | apply Pick.app)); done) | exact Pick.takeA (by repeat (first | exact .one | exact .here | exact .all | apply Pick.cons | apply Pick.assoc | apply Pick.app)) (by repeat (first | exact .one | exact .here | exact .all | apply Pick.cons | apply Pick.assoc | apply Pick.app))) ?_ | exact HSub.of_pick (by first | ((repeat (first | exact .one | exact .here | exact .all | apply Pick.cons | apply Pick.app)); done) | ((repeat (first | exact .one | exact .here | exact .all | apply Pick.cons | apply Pick.assoc | apply Pick.app)); done) | exact Pick.takeA (by repeat (first | exact .one | exact .here | exact .all | apply Pick.cons | apply Pick.assoc | apply Pick.app)) (by repeat (first | exact .one | exact .here | exact .all | apply Pick.cons | apply Pick.assoc | apply Pick.app))))) ?_
        rintro k hk
        refine c_seq fun _ hK44 => ?_
        refine c_seq fun _ hK45 => ?_
        refine c_region ?_
        refine o_step rfl (s_move rfl) ?_
        refine o_step rfl (s_move rfl) ?_
        refine o_step rfl (s_move rfl) ?_
        refine o_step rfl (s_idx rfl rfl (by assumption) (by omega)) ?_
        refine o_step rfl (s_field rfl rfl (by decide)) ?_
        refine o_step rfl (s_ld rfl ((RdK.old0 h1).ld j 1 (op0_get (by omega)) rfl (by decide) (by omega))) ?_
        refine o_step rfl (s_len rfl) ?_
        refine o_step rfl (s_lss rfl rfl) ?_
        refine o_nil ?_
        refine x_then (hK45 _ _ ?_)
        refine c_if rfl (fun hk2 => ?_) (fun hk2 => ?_)
        · skip
          have hkr : k < (op0 sc j).p.xs.length := by omega
          have hcm1 := catK_mono (kept := []) (sls := (op0 sc j).p.xs) (i := k + 1) (by omega)
          have hcs := catK_succ (kept := []) hkr
          have hcs2 := congrArg List.length hcs
          rw [List.length_append] at hcs2
          refine c_skip ?_
          refine x_then (hK44 _ _ ?_)
          refine c_seq fun _ hK46 => ?_
          refine c_block ?_
          refine c_region ?_
          refine o_step rfl (s_move rfl) ?_
          refine o_step rfl (s_move rfl) ?_
          refine o_step rfl (s_move rfl) ?_
          refine o_step rfl (s_idx rfl rfl (by assumption) (by omega)) ?_
          refine o_step rfl (s_field rfl rfl (by decide)) ?_
          refine o_step rfl (s_ld rfl ((RdK.old0 h1).ld j 1 (op0_get (by omega)) rfl (by decide) (by omega))) ?_
          refine o_step rfl (s_move rfl) ?_
          refine o_step rfl (s_idx rfl rfl hrs (by omega)) ?_
          refine o_step rfl (s_ld rfl ((RdK.old0 hrow).ld k 0 (row0_get (by omega)) rfl (by decide) (by omega))) ?_
          refine o_step rfl (s_len rfl) ?_
          refine o_step rfl (step_cast (v' := .int .i64 ((catK [] (op0 sc j).p.xs (k + 1)).length : Nat)) (s_add rfl rfl (by omega)) (congrArg (Value.int .i64) (by omega))) ?_
          refine o_step rfl (s_assign rfl) ?_
          refine o_nil ?_
          refine x_block ?_
          refine x_then (hK46 _ _ ?_)
          refine c_region ?_
          refine o_step rfl (s_move rfl) ?_
          refine o_step rfl (s_add rfl rfl (by omega)) ?_
          refine o_step rfl (s_assign rfl) ?_
          refine o_nil ?_
          exact x_then (x_inv (k + 1) (by omega) (by first | omega | (dsimp only; omega)) (by repeat (first | exact Sub.nil | refine Sub.cons rfl ?_)) (by repeat (first | exact HSub.refl _ | exact HSub.nil | refine HSub.takeC (by first | ((repeat (first | exact .one | exact .here | exact .all | apply Pick.cons | apply Pick.app)); done) | ((repeat (first | exact .one | exact .here | exact .all | apply Pick.cons | apply Pick.assoc | apply Pick.app)); done) | exact Pick.takeA (by repeat (first | exact .one | exact .here | exact .all | apply Pick.cons | apply Pick.assoc | apply Pick.app)) (by repeat (first | exact .one | exact .here | exact .all | apply Pick.cons | apply Pick.assoc | apply Pick.app))) ?_ | refine HSub.take (by first | ((repeat (first | exact .one | exact .here | exact .all | apply Pick.cons | apply Pick.app)); done) | ((repeat (first | exact .one | exact .here | exact .all | apply Pick.cons | apply Pick.assoc | apply Pick.app)); done) | exact Pick.takeA (by repeat (first | exact .one | exact .here | exact .all | apply Pick.cons | apply Pick.assoc | apply Pick.app)) (by repeat (first | exact .one | exact .here | exact .all | apply Pick.cons | apply Pick.assoc | apply Pick.app))) ?_ | exact HSub.of_pick (by first | ((repeat (first | exact .one | exact .here | exact .all | apply Pick.cons | apply Pick.app)); done) | ((repeat (first | exact .one | exact .here | exact .all | apply Pick.cons | apply Pick.assoc | apply Pick.app)); done) | exact Pick.takeA (by repeat (first | exact .one | exact .here | exact .all | apply Pick.cons | apply Pick.assoc | apply Pick.app)) (by repeat (first | exact .one | exact .here | exact .all | apply Pick.cons | apply Pick.assoc | apply Pick.app))))))
        · skip
          have hkl : k = (op0 sc j).p.xs.length := by omega
          subst hkl
          refine c_exit ?_
          refine x_then_exit ?_
          refine x_then_exit ?_
          refine x_block_exit ?_
          refine x_then (hK42 _ _ ?_)
          refine c_region ?_
          refine o_step rfl (s_move rfl) ?_
          refine o_step rfl (s_move rfl) ?_
          refine o_step rfl (s_move rfl) ?_
          refine o_step rfl (s_idx rfl rfl (by assumption) (by omega)) ?_
          refine o_step rfl (s_field rfl rfl (by decide)) ?_
          refine o_step rfl (s_ld rfl ((RdK.old0 h1).ld j 1 (op0_get (by omega)) rfl (by decide) (by omega))) ?_
          refine o_call (copyRows2_fn (op0 sc j).p.a (op0 sc j).p.c (op0 sc j).p.xs (hb _ hmem)) rfl rfl rfl (by exact .nil) (fun w st => ⟨(RdK.old0 hrow).out w st, fun s hs => (RdK.old0 ((h2 _ hmem).2 s hs)).out w st⟩) (fun v90 S90 ⟨a90, c90, sl90, So90, Si90, hv90, hm90, hO90, hI90, hS90⟩ => ?_)
          subst hv90
          subst hS90
          refine o_call (write_fn hA a90 c90 sl90 (So90 ++ Si90) hO90.sl (hO90.rds.mono HIn.appL) (fun s hs => (hI90 s hs).mono HIn.appR) (by omega) (by rw [hm90, List.length_append]; omega) (by omega)) rfl rfl rfl ((Pick.takeA (by first | ((repeat (first | exact .one | exact .here | exact .all | apply Pick.cons | apply Pick.app)); done) | ((repeat (first | exact .one | exact .here | exact .all | apply Pick.cons | apply Pick.assoc | apply Pick.app)); done) | exact Pick.takeA (by repeat (first | exact .one | exact .here | exact .all | apply Pick.cons | apply Pick.assoc | apply Pick.app)) (by repeat (first | exact .one | exact .here | exact .all | apply Pick.cons | apply Pick.assoc | apply Pick.app))) (by first | ((repeat (first | exact .one | exact .here | exact .all | apply Pick.cons | apply Pick.app)); done) | ((repeat (first | exact .one | exact .here | exact .all | apply Pick.cons | apply Pick.assoc | apply Pick.app)); done) | exact Pick.takeA (by repeat (first | exact .one | exact .here | exact .all | apply Pick.cons | apply Pick.assoc | apply Pick.app)) (by repeat (first | exact .one | exact .here | exact .all | apply Pick.cons | apply Pick.assoc | apply Pick.app))))) (fun _ _ => trivial) (fun v91 S91 ⟨hv91, hA2⟩ => ?_)
          subst hv91
          rw [hm90] at hA2 ⊢
          have hbl : ((op0 sc j).p.xs.map Sl.xs).flatten.length = (catK [] (op0 sc j).p.xs (op0 sc j).p.xs.length).length := by rw [catK_all]; rfl
          have hst : GStep x (op0 sc j).f ((op0 sc j).p.xs.map Sl.xs).flatten u (writeS x 0 0 u ((op0 sc j).p.xs.map Sl.xs).flatten) (writeE x 0 0 u ((op0 sc j).p.xs.map Sl.xs).flatten) := by rw [hf2]; exact gWrite he1
          have hg2 : GInv (writeS x 0 0 u ((op0 sc j).p.xs.map Sl.xs).flatten) (allB (sc.take (j + 1))) (j + 1) := by rw [allB_take hlt2, bytesO, if_neg hf]; exact hst.inv hg
          have hu2 : Bd (writeS x 0 0 u ((op0 sc j).p.xs.map Sl.xs).flatten) (tot sc (j + 1)) (j + 1) := (hu.write (lim := x) (b := ((op0 sc j).p.xs.map Sl.xs).flatten)).mono (by omega) (Nat.le_refl _)
          generalize hb1 : ((op0 sc j).p.xs.map Sl.xs).flatten = b at hst hg2 hu2 hA2 hbl ⊢
          refine o_sk (H' := S91) (by repeat (first | exact HSub.refl _ | exact HSub.nil | refine HSub.takeC (by first | ((repeat (first | exact .one | exact .here | exact .all | apply Pick.cons | apply Pick.app)); done) | ((repeat (first | exact .one | exact .here | exact .all | apply Pick.cons | apply Pick.assoc | apply Pick.app)); done) | exact Pick.takeA (by repeat (first | exact .one | exact .here | exact .all | apply Pick.cons | apply Pick.assoc | apply Pick.app)) (by repeat (first | exact .one | exact .here | exact .all | apply Pick.cons | apply Pick.assoc | apply Pick.app))) ?_ | refine HSub.take (by first | ((repeat (first | exact .one | exact .here | exact .all | apply Pick.cons | apply Pick.app)); done) | ((repeat (first | exact .one | exact .here | exact .all | apply Pick.cons | apply Pick.assoc | apply Pick.app)); done) | exact Pick.takeA (by repeat (first | exact .one | exact .here | exact .all | apply Pick.cons | apply Pick.assoc | apply Pick.app)) (by repeat (first | exact .one | exact .here | exact .all | apply Pick.cons | apply Pick.assoc | apply Pick.app))) ?_ | exact HSub.of_pick (by first | ((repeat (first | exact .one | exact .here | exact .all | apply Pick.cons | apply Pick.app)); done) | ((repeat (first | exact .one | exact .here | exact .all | apply Pick.cons | apply Pick.assoc | apply Pick.app)); done) | exact Pick.takeA (by repeat (first | exact .one | exact .here | exact .all | apply Pick.cons | apply Pick.assoc | apply Pick.app)) (by repeat (first | exact .one | exact .here | exact .all | apply Pick.cons | apply Pick.assoc | apply Pick.app))))) ?_
          generalize writeE x 0 0 u b = ee at hst ⊢
          generalize writeS x 0 0 u b = u2 at hst hu2 hg2 hA2
          obtain ⟨kp, e2, cn, sd⟩ := u2
          obtain ⟨saB, gaB, scB, gcB, slB, glB, hmB, hglB, hcB, hrB, hsB, hxB⟩ := hA2.sinkRd
          obtain ⟨kvB, hoB⟩ := hA2.outRd
          have hlB : slB.length = sd.length := by rw [show sd = _ from hmB.symm, List.length_map]
          rcases hst with ⟨h1, h2, h3, h4, h5, hd⟩ | ⟨h1, h2, h3, h4, h5, hd⟩
          · skip
            simp only at h1 h2 h3 h4
            subst h1
            subst h2
            subst h3
            subst h4
            subst h5
            refine o_step rfl (s_assign rfl) ?_
            refine o_nil ?_
            refine x_then (hK19 _ _ ?_)
            refine c_seq fun _ hK47 => ?_
            refine c_region ?_
            refine o_step rfl (s_move rfl) ?_
            refine o_step rfl (s_move rfl) ?_
            refine o_step rfl (s_add rfl rfl (by omega)) ?_
            by_cases hps : 0 < (u.kept.length : Int) + (catK [] (op0 sc j).p.xs (op0 sc j).p.xs.length).length
            · skip
              have hdd : ¬ x ≤ (u.kept.length : Int) + b.length := fun h => hd ⟨by omega, .inr h⟩
              refine o_step rfl (step_cast (v' := .bool true) (s_gtr rfl rfl) (by rw [decide_eq_true (by omega)])) ?_
              refine o_step rfl (s_move rfl) ?_
              refine o_yes rfl rfl ?_
              refine o_step rfl (s_move rfl) ?_
              refine o_yes rfl rfl ?_
              refine o_step rfl (s_move rfl) ?_
              refine o_yes rfl rfl ?_
              refine o_step rfl (s_idx rfl rfl (by assumption) (by omega)) ?_
              refine o_yes rfl rfl ?_
              refine o_step rfl (s_field rfl rfl (by decide)) ?_
              refine o_yes rfl rfl ?_
              refine o_step rfl (step_cast (v' := .bool false) (s_ld rfl ((RdK.old0 h1).ld j 0 (op0_get (by omega)) rfl (by decide) (by omega))) (by rw [hf2])) ?_
              refine o_yes rfl rfl ?_
              refine o_step rfl (s_move rfl) ?_
              refine o_yes rfl rfl ?_
              refine o_step rfl (s_move rfl) ?_
              refine o_yes rfl rfl ?_
              refine o_step rfl (s_move rfl) ?_
              refine o_yes rfl rfl ?_
              refine o_step rfl (s_add rfl rfl (by omega)) ?_
              refine o_yes rfl rfl ?_
              refine o_step rfl (s_move rfl) ?_
              refine o_yes rfl rfl ?_
              refine o_step rfl (s_geq_f rfl rfl (by omega)) ?_
              refine o_yes rfl rfl ?_
              refine o_step rfl (s_pick_f rfl rfl) ?_
              refine o_step rfl (s_pick_t rfl rfl) ?_
              refine o_step rfl (s_assign rfl) ?_
              refine o_nil ?_
              refine x_then (hK47 _ _ ?_)
              refine c_seq fun _ hK48 => ?_
              refine c_region ?_
              refine o_step rfl (s_move rfl) ?_
              refine o_step rfl (s_nil rfl) ?_
              refine o_step rfl (s_field rfl rfl (by decide)) ?_
              refine o_step rfl (s_ld rfl ((hcB _ _ (by repeat (first | exact HIn.here | exact HIn.all | exact HIn.one | apply HIn.cons | apply HIn.assoc | apply HIn.app))).cel (j := 5) rfl rfl)) ?_
              refine o_step rfl (s_len rfl) ?_
              refine o_step rfl (s_move rfl) ?_
              refine o_step rfl (s_sub rfl rfl (by omega)) ?_
              refine o_step rfl (s_assign rfl) ?_
              refine o_nil ?_
              refine x_then (hK48 _ _ ?_)
              refine c_seq fun _ hK49 => ?_
              refine c_seq fun _ hK50 => ?_
              refine c_region ?_
              refine o_step rfl (s_move rfl) ?_
              refine o_step rfl (s_neq_f rfl rfl (by omega)) ?_
              refine o_step rfl (s_move rfl) ?_
              refine o_yes rfl rfl ?_
              refine o_step rfl (s_move rfl) ?_
              refine o_yes rfl rfl ?_
              refine o_callP (err_fn bo x _ _ (.func 43) [Value.pointer (some (⟨b25, 0, none⟩ : Addr))].toArray [].toArray kvB) rfl rfl rfl (fun w st => (hoB _ _ (by repeat (first | exact HIn.here | exact HIn.all | exact HIn.one | apply HIn.cons | apply HIn.assoc | apply HIn.app))).out w st) (fun v121 hv121 => ?_)
              subst hv121
              refine o_yes rfl rfl ?_
              refine o_step rfl (s_neq_f rfl rfl (by first | rfl | omega | (dsimp only; omega))) ?_
              refine o_step rfl (s_pick_f rfl rfl) ?_
              refine o_step rfl (s_move rfl) ?_
              refine o_yes rfl rfl ?_
              refine o_step rfl (s_move rfl) ?_
              refine o_yes rfl rfl ?_
              refine o_step rfl (s_move rfl) ?_
              refine o_yes rfl rfl ?_
              refine o_step rfl (s_eql_f rfl rfl (by omega)) ?_
              refine o_yes rfl rfl ?_
              refine o_step rfl (step_cast (v' := .bool false) (s_neq_bool rfl rfl) rfl) ?_
              refine o_step rfl (s_pick_f rfl rfl) ?_
              refine o_step rfl (s_move rfl) ?_
              refine o_yes rfl rfl ?_
              refine o_step rfl (s_move rfl) ?_
              refine o_yes rfl rfl ?_
              refine o_step rfl (s_lss_f rfl rfl (by omega)) ?_
              refine o_step rfl (s_pick_f rfl rfl) ?_
              refine o_step rfl (s_move rfl) ?_
              refine o_yes rfl rfl ?_
              refine o_step rfl (s_move rfl) ?_
              refine o_yes rfl rfl ?_
              refine o_step rfl (s_gtr_f rfl rfl (by omega)) ?_
              refine o_step rfl (s_pick_f rfl rfl) ?_
              refine o_nil ?_
              refine x_then (hK50 _ _ ?_)
              refine c_false rfl ?_
              refine c_skip ?_
              refine x_then (hK49 _ _ ?_)
              refine c_seq fun _ hK51 => ?_
              refine c_region ?_
              refine o_step rfl (s_move rfl) ?_
              refine o_step rfl (s_move rfl) ?_
              refine o_step rfl (step_cast (v' := .int .i64 ((u.kept ++ b).length : Nat)) (s_add rfl rfl (by omega)) (congrArg (Value.int .i64) (by rw [List.length_append]; omega))) ?_
              refine o_step rfl (s_assign rfl) ?_
              refine o_nil ?_
              refine x_then (hK51 _ _ ?_)
              refine c_seq fun _ hK52 => ?_
              refine c_seq fun _ hK53 => ?_
              refine c_region ?_
              refine o_step rfl (s_move rfl) ?_
              refine o_nil ?_
              refine x_then (hK53 _ _ ?_)
              refine c_false rfl ?_
              refine c_skip ?_
              refine x_then (hK52 _ _ ?_)
              refine c_seq fun _ hK54 => ?_
              refine c_region ?_
              refine o_step rfl (s_move rfl) ?_
              refine o_step rfl (s_nil rfl) ?_
              refine o_step rfl (s_field rfl rfl (by decide)) ?_
              refine o_step rfl (s_ld rfl ((hcB _ _ (by repeat (first | exact HIn.here | exact HIn.all | exact HIn.one | apply HIn.cons | apply HIn.assoc | apply HIn.app))).cel (j := 5) rfl rfl)) ?_
              refine o_step rfl (step_cast (v' := .int .i64 (u.said.length : Nat)) (s_len rfl) (by rw [hlB])) ?_
              refine o_step rfl (s_assign rfl) ?_
              refine o_nil ?_
              refine x_then (hK54 _ _ ?_)
              refine c_seq fun _ hK55 => ?_
              refine c_region ?_
              refine o_step rfl (s_move rfl) ?_
              refine o_callP (count_fn bo x _ _ _ kvB) rfl rfl rfl (fun w st => (hoB _ _ (by repeat (first | exact HIn.here | exact HIn.all | exact HIn.one | apply HIn.cons | apply HIn.assoc | apply HIn.app))).out w st) (fun v161 hv161 => ?_)
              subst hv161
              refine o_step rfl (s_move rfl) ?_
              refine o_step rfl (s_neq_f rfl rfl (by first | rfl | omega | (dsimp only; omega))) ?_
              refine o_nil ?_
              refine x_then (hK55 _ _ ?_)
              refine c_false rfl ?_
              refine c_skip ?_
              refine x_block ?_
              refine x_then (hK17 _ _ ?_)
              refine c_region ?_
              refine o_step rfl (s_move rfl) ?_
              refine o_step rfl (s_add rfl rfl (by omega)) ?_
              refine o_step rfl (s_assign rfl) ?_
              refine o_nil ?_
              exact x_then (x_inv (j + 1, _, _) ⟨by omega, hA2, hu2, hg2⟩ (by first | omega | (dsimp only; omega)) (by repeat (first | exact Sub.nil | refine Sub.cons rfl ?_)) (by repeat (first | exact HSub.refl _ | exact HSub.nil | refine HSub.takeC (by first | ((repeat (first | exact .one | exact .here | exact .all | apply Pick.cons | apply Pick.app)); done) | ((repeat (first | exact .one | exact .here | exact .all | apply Pick.cons | apply Pick.assoc | apply Pick.app)); done) | exact Pick.takeA (by repeat (first | exact .one | exact .here | exact .all | apply Pick.cons | apply Pick.assoc | apply Pick.app)) (by repeat (first | exact .one | exact .here | exact .all | apply Pick.cons | apply Pick.assoc | apply Pick.app))) ?_ | refine HSub.take (by first | ((repeat (first | exact .one | exact .here | exact .all | apply Pick.cons | apply Pick.app)); done) | ((repeat (first | exact .one | exact .here | exact .all | apply Pick.cons | apply Pick.assoc | apply Pick.app)); done) | exact Pick.takeA (by repeat (first | exact .one | exact .here | exact .all | apply Pick.cons | apply Pick.assoc | apply Pick.app)) (by repeat (first | exact .one | exact .here | exact .all | apply Pick.cons | apply Pick.assoc | apply Pick.app))) ?_ | exact HSub.of_pick (by first | ((repeat (first | exact .one | exact .here | exact .all | apply Pick.cons | apply Pick.app)); done) | ((repeat (first | exact .one | exact .here | exact .all | apply Pick.cons | apply Pick.assoc | apply Pick.app)); done) | exact Pick.takeA (by repeat (first | exact .one | exact .here | exact .all | apply Pick.cons | apply Pick.assoc | apply Pick.app)) (by repeat (first | exact .one | exact .here | exact .all | apply Pick.cons | apply Pick.assoc | apply Pick.app))))))
            · skip
              refine o_step rfl (step_cast (v' := .bool false) (s_gtr rfl rfl) (by rw [decide_eq_false (by omega)])) ?_
              refine o_step rfl (s_move rfl) ?_
              refine o_no rfl rfl rfl rfl ?_
              refine o_no rfl rfl rfl rfl ?_
              refine o_no rfl rfl rfl rfl ?_
              refine o_no rfl rfl rfl rfl ?_
              refine o_no rfl rfl rfl rfl ?_
              refine o_no rfl rfl rfl rfl ?_
              refine o_noU rfl rfl rfl ?_
              refine o_noU rfl rfl rfl ?_
              refine o_noU rfl rfl rfl ?_
              refine o_noU rfl rfl rfl ?_
              refine o_noU rfl rfl rfl ?_
              refine o_no rfl rfl rfl rfl ?_
              refine o_step rfl (s_pick_f rfl rfl) ?_
              refine o_step rfl (s_assign rfl) ?_
              refine o_nil ?_
              refine x_then (hK47 _ _ ?_)
              refine c_seq fun _ hK56 => ?_
              refine c_region ?_
              refine o_step rfl (s_move rfl) ?_
              refine o_step rfl (s_nil rfl) ?_
              refine o_step rfl (s_field rfl rfl (by decide)) ?_
              refine o_step rfl (s_ld rfl ((hcB _ _ (by repeat (first | exact HIn.here | exact HIn.all | exact HIn.one | apply HIn.cons | apply HIn.assoc | apply HIn.app))).cel (j := 5) rfl rfl)) ?_
              refine o_step rfl (s_len rfl) ?_
              refine o_step rfl (s_move rfl) ?_
              refine o_step rfl (s_sub rfl rfl (by omega)) ?_
              refine o_step rfl (s_assign rfl) ?_
              refine o_nil ?_
              refine x_then (hK56 _ _ ?_)
              refine c_seq fun _ hK57 => ?_
              refine c_seq fun _ hK58 => ?_
              refine c_region ?_
              refine o_step rfl (s_move rfl) ?_
              refine o_step rfl (s_neq_f rfl rfl (by omega)) ?_
              refine o_step rfl (s_move rfl) ?_
              refine o_yes rfl rfl ?_
              refine o_step rfl (s_move rfl) ?_
              refine o_yes rfl rfl ?_
              refine o_callP (err_fn bo x _ _ (.func 43) [Value.pointer (some (⟨b25, 0, none⟩ : Addr))].toArray [].toArray kvB) rfl rfl rfl (fun w st => (hoB _ _ (by repeat (first | exact HIn.here | exact HIn.all | exact HIn.one | apply HIn.cons | apply HIn.assoc | apply HIn.app))).out w st) (fun v121 hv121 => ?_)
              subst hv121
              refine o_yes rfl rfl ?_
              refine o_step rfl (s_neq_f rfl rfl (by first | rfl | omega | (dsimp only; omega))) ?_
              refine o_step rfl (s_pick_f rfl rfl) ?_
              refine o_step rfl (s_move rfl) ?_
              refine o_yes rfl rfl ?_
              refine o_step rfl (s_move rfl) ?_
              refine o_yes rfl rfl ?_
              refine o_step rfl (s_move rfl) ?_
              refine o_yes rfl rfl ?_
              refine o_step rfl (s_eql_f rfl rfl (by omega)) ?_
              refine o_yes rfl rfl ?_
              refine o_step rfl (step_cast (v' := .bool false) (s_neq_bool rfl rfl) rfl) ?_
              refine o_step rfl (s_pick_f rfl rfl) ?_
              refine o_step rfl (s_move rfl) ?_
              refine o_yes rfl rfl ?_
              refine o_step rfl (s_move rfl) ?_
              refine o_yes rfl rfl ?_
              refine o_step rfl (s_lss_f rfl rfl (by omega)) ?_
              refine o_step rfl (s_pick_f rfl rfl) ?_
              refine o_step rfl (s_move rfl) ?_
              refine o_yes rfl rfl ?_
              refine o_step rfl (s_move rfl) ?_
              refine o_yes rfl rfl ?_
              refine o_step rfl (s_gtr_f rfl rfl (by omega)) ?_
              refine o_step rfl (s_pick_f rfl rfl) ?_
              refine o_nil ?_
              refine x_then (hK58 _ _ ?_)
              refine c_false rfl ?_
              refine c_skip ?_
              refine x_then (hK57 _ _ ?_)
              refine c_seq fun _ hK59 => ?_
              refine c_region ?_
              refine o_step rfl (s_move rfl) ?_
              refine o_step rfl (s_move rfl) ?_
              refine o_step rfl (step_cast (v' := .int .i64 ((u.kept ++ b).length : Nat)) (s_add rfl rfl (by omega)) (congrArg (Value.int .i64) (by rw [List.length_append]; omega))) ?_
              refine o_step rfl (s_assign rfl) ?_
              refine o_nil ?_
              refine x_then (hK59 _ _ ?_)
              refine c_seq fun _ hK60 => ?_
              refine c_seq fun _ hK61 => ?_
              refine c_region ?_
              refine o_step rfl (s_move rfl) ?_
              refine o_nil ?_
              refine x_then (hK61 _ _ ?_)
              refine c_false rfl ?_
              refine c_skip ?_
              refine x_then (hK60 _ _ ?_)
              refine c_seq fun _ hK62 => ?_
              refine c_region ?_
              refine o_step rfl (s_move rfl) ?_
              refine o_step rfl (s_nil rfl) ?_
              refine o_step rfl (s_field rfl rfl (by decide)) ?_
              refine o_step rfl (s_ld rfl ((hcB _ _ (by repeat (first | exact HIn.here | exact HIn.all | exact HIn.one | apply HIn.cons | apply HIn.assoc | apply HIn.app))).cel (j := 5) rfl rfl)) ?_
              refine o_step rfl (step_cast (v' := .int .i64 (u.said.length : Nat)) (s_len rfl) (by rw [hlB])) ?_
              refine o_step rfl (s_assign rfl) ?_
              refine o_nil ?_
              refine x_then (hK62 _ _ ?_)
              refine c_seq fun _ hK63 => ?_
              refine c_region ?_
              refine o_step rfl (s_move rfl) ?_
              refine o_callP (count_fn bo x _ _ _ kvB) rfl rfl rfl (fun w st => (hoB _ _ (by repeat (first | exact HIn.here | exact HIn.all | exact HIn.one | apply HIn.cons | apply HIn.assoc | apply HIn.app))).out w st) (fun v161 hv161 => ?_)
              subst hv161
              refine o_step rfl (s_move rfl) ?_
              refine o_step rfl (s_neq_f rfl rfl (by first | rfl | omega | (dsimp only; omega))) ?_
              refine o_nil ?_
              refine x_then (hK63 _ _ ?_)
              refine c_false rfl ?_
              refine c_skip ?_
              refine x_block ?_
              refine x_then (hK17 _ _ ?_)
              refine c_region ?_
              refine o_step rfl (s_move rfl) ?_
              refine o_step rfl (s_add rfl rfl (by omega)) ?_
              refine o_step rfl (s_assign rfl) ?_
              refine o_nil ?_
              exact x_then (x_inv (j + 1, _, _) ⟨by omega, hA2, hu2, hg2⟩ (by first | omega | (dsimp only; omega)) (by repeat (first | exact Sub.nil | refine Sub.cons rfl ?_)) (by repeat (first | exact HSub.refl _ | exact HSub.nil | refine HSub.takeC (by first | ((repeat (first | exact .one | exact .here | exact .all | apply Pick.cons | apply Pick.app)); done) | ((repeat (first | exact .one | exact .here | exact .all | apply Pick.cons | apply Pick.assoc | apply Pick.app)); done) | exact Pick.takeA (by repeat (first | exact .one | exact .here | exact .all | apply Pick.cons | apply Pick.assoc | apply Pick.app)) (by repeat (first | exact .one | exact .here | exact .all | apply Pick.cons | apply Pick.assoc | apply Pick.app))) ?_ | refine HSub.take (by first | ((repeat (first | exact .one | exact .here | exact .all | apply Pick.cons | apply Pick.app)); done) | ((repeat (first | exact .one | exact .here | exact .all | apply Pick.cons | apply Pick.assoc | apply Pick.app)); done) | exact Pick.takeA (by repeat (first | exact .one | exact .here | exact .all | apply Pick.cons | apply Pick.assoc | apply Pick.app)) (by repeat (first | exact .one | exact .here | exact .all | apply Pick.cons | apply Pick.assoc | apply Pick.app))) ?_ | exact HSub.of_pick (by first | ((repeat (first | exact .one | exact .here | exact .all | apply Pick.cons | apply Pick.app)); done) | ((repeat (first | exact .one | exact .here | exact .all | apply Pick.cons | apply Pick.assoc | apply Pick.app)); done) | exact Pick.takeA (by repeat (first | exact .one | exact .here | exact .all | apply Pick.cons | apply Pick.assoc | apply Pick.app)) (by repeat (first | exact .one | exact .here | exact .all | apply Pick.cons | apply Pick.assoc | apply Pick.app))))))
          · skip
            simp only at h1 h2 h3 h4
            subst h1
            subst h2
            subst h3
            subst h4
            subst h5
            have hkx : (row0 slB u.said.length).xs = u.kept ++ b := row_snoc hmB rfl
            have hkx2 : (row0 slB u.said.length).xs.length = u.kept.length + b.length := by rw [hkx, List.length_append]
            have hsl1 : slB.length = u.said.length + 1 := by rw [hlB]; simp
            have hdd := hd.1
            have hdx : x ≤ (u.kept.length : Int) + b.length := hd.2.resolve_left (by rw [hf2]; decide)
            refine o_step rfl (s_assign rfl) ?_
            refine o_nil ?_
            refine x_then (hK19 _ _ ?_)
            refine c_seq fun _ hK64 => ?_
            refine c_region ?_
            refine o_step rfl (s_move rfl) ?_
            refine o_step rfl (s_move rfl) ?_
            refine o_step rfl (s_add rfl rfl (by omega)) ?_
            refine o_step rfl (s_gtr_t rfl rfl (by omega)) ?_
            refine o_step rfl (s_move rfl) ?_
            refine o_yes rfl rfl ?_
            refine o_step rfl (s_move rfl) ?_
            refine o_yes rfl rfl ?_
            refine o_step rfl (s_move rfl) ?_
            refine o_yes rfl rfl ?_
            refine o_step rfl (s_idx rfl rfl (by assumption) (by omega)) ?_
            refine o_yes rfl rfl ?_
            refine o_step rfl (s_field rfl rfl (by decide)) ?_
            refine o_yes rfl rfl ?_
            refine o_step rfl (step_cast (v' := .bool false) (s_ld rfl ((RdK.old0 h1).ld j 0 (op0_get (by omega)) rfl (by decide) (by omega))) (by rw [hf2])) ?_
            refine o_yes rfl rfl ?_
            refine o_step rfl (s_move rfl) ?_
            refine o_yes rfl rfl ?_
            refine o_step rfl (s_move rfl) ?_
            refine o_yes rfl rfl ?_
            refine o_step rfl (s_move rfl) ?_
            refine o_yes rfl rfl ?_
            refine o_step rfl (s_add rfl rfl (by omega)) ?_
            refine o_yes rfl rfl ?_
            refine o_step rfl (s_move rfl) ?_
            refine o_yes rfl rfl ?_
            refine o_step rfl (s_geq_t rfl rfl (by omega)) ?_
            refine o_yes rfl rfl ?_
            refine o_step rfl (s_pick_f rfl rfl) ?_
            refine o_step rfl (s_pick_t rfl rfl) ?_
            refine o_step rfl (s_assign rfl) ?_
            refine o_nil ?_
            refine x_then (hK64 _ _ ?_)
            refine c_seq fun _ hK65 => ?_
            refine c_region ?_
            refine o_step rfl (s_move rfl) ?_
            refine o_step rfl (s_nil rfl) ?_
            refine o_step rfl (s_field rfl rfl (by decide)) ?_
            refine o_step rfl (s_ld rfl ((hcB _ _ (by repeat (first | exact HIn.here | exact HIn.all | exact HIn.one | apply HIn.cons | apply HIn.assoc | apply HIn.app))).cel (j := 5) rfl rfl)) ?_
            refine o_step rfl (s_len rfl) ?_
            refine o_step rfl (s_move rfl) ?_
            refine o_step rfl (s_sub rfl rfl (by omega)) ?_
            refine o_step rfl (s_assign rfl) ?_
            refine o_nil ?_
            refine x_then (hK65 _ _ ?_)
            refine c_seq fun _ hK66 => ?_
            refine c_seq fun _ hK67 => ?_
            refine c_region ?_
            refine o_step rfl (s_move rfl) ?_
            refine o_step rfl (s_neq_f rfl rfl (by omega)) ?_
            refine o_step rfl (s_move rfl) ?_
            refine o_yes rfl rfl ?_
            refine o_step rfl (s_move rfl) ?_
            refine o_yes rfl rfl ?_
            refine o_callP (err_fn bo x _ _ (.func 43) [Value.pointer (some (⟨b25, 0, none⟩ : Addr))].toArray [].toArray kvB) rfl rfl rfl (fun w st => (hoB _ _ (by repeat (first | exact HIn.here | exact HIn.all | exact HIn.one | apply HIn.cons | apply HIn.assoc | apply HIn.app))).out w st) (fun v121 hv121 => ?_)
            subst hv121
            refine o_yes rfl rfl ?_
            refine o_step rfl (s_neq_f rfl rfl (by first | rfl | omega | (dsimp only; omega))) ?_
            refine o_step rfl (s_pick_f rfl rfl) ?_
            refine o_step rfl (s_move rfl) ?_
            refine o_yes rfl rfl ?_
            refine o_step rfl (s_move rfl) ?_
            refine o_yes rfl rfl ?_
            refine o_step rfl (s_move rfl) ?_
            refine o_yes rfl rfl ?_
            refine o_step rfl (s_eql_t rfl rfl (by omega)) ?_
            refine o_yes rfl rfl ?_
            refine o_step rfl (step_cast (v' := .bool false) (s_neq_bool rfl rfl) rfl) ?_
            refine o_step rfl (s_pick_f rfl rfl) ?_
            refine o_step rfl (s_move rfl) ?_
            refine o_yes rfl rfl ?_
            refine o_step rfl (s_move rfl) ?_
            refine o_yes rfl rfl ?_
            refine o_step rfl (s_lss_f rfl rfl (by omega)) ?_
            refine o_step rfl (s_pick_f rfl rfl) ?_
            refine o_step rfl (s_move rfl) ?_
            refine o_yes rfl rfl ?_
            refine o_step rfl (s_move rfl) ?_
            refine o_yes rfl rfl ?_
            refine o_step rfl (s_gtr_f rfl rfl (by omega)) ?_
            refine o_step rfl (s_pick_f rfl rfl) ?_
            refine o_nil ?_
            refine x_then (hK67 _ _ ?_)
            refine c_false rfl ?_
            refine c_skip ?_
            refine x_then (hK66 _ _ ?_)
            refine c_seq fun _ hK68 => ?_
            refine c_region ?_
            refine o_step rfl (s_move rfl) ?_
            refine o_step rfl (s_move rfl) ?_
            refine o_step rfl (s_add rfl rfl (by omega)) ?_
            refine o_step rfl (s_assign rfl) ?_
            refine o_nil ?_
            refine x_then (hK68 _ _ ?_)
            refine c_seq fun _ hK69 => ?_
            refine c_seq fun _ hK70 => ?_
            refine c_region ?_
            refine o_step rfl (s_move rfl) ?_
            refine o_nil ?_
            refine x_then (hK70 _ _ ?_)
            refine c_true rfl ?_
            refine c_seq fun _ hK71 => ?_
            refine c_seq fun _ hK72 => ?_
            refine c_region ?_
            refine o_step rfl (s_move rfl) ?_
            refine o_step rfl (s_nil rfl) ?_
            refine o_step rfl (s_field rfl rfl (by decide)) ?_
            refine o_step rfl (s_ld rfl ((hcB _ _ (by repeat (first | exact HIn.here | exact HIn.all | exact HIn.one | apply HIn.cons | apply HIn.assoc | apply HIn.app))).cel (j := 5) rfl rfl)) ?_
            refine o_step rfl (s_move rfl) ?_
            refine o_step rfl (s_idx rfl rfl hsB (by omega)) ?_
            refine o_step rfl (s_ld rfl ((hrB.rdk (by repeat (first | exact HIn.here | exact HIn.all | exact HIn.one | apply HIn.cons | apply HIn.assoc | apply HIn.app))).ld u.said.length 0 (row0_get (by omega)) rfl (by decide) (by omega))) ?_
            refine o_step rfl (s_len rfl) ?_
            refine o_step rfl (s_move rfl) ?_
            refine o_step rfl (s_neq_f rfl rfl (by omega)) ?_
            refine o_nil ?_
            refine x_then (hK72 _ _ ?_)
            refine c_false rfl ?_
            refine c_skip ?_
            refine x_then (hK71 _ _ ?_)
            refine c_seq fun _ hK73 => ?_
            refine c_region ?_
            refine o_step rfl (s_move rfl) ?_
            refine o_step rfl (s_move rfl) ?_
            refine o_step rfl (step_cast (v' := .int .i64 (u.cnt + ((u.kept.length : Int) + b.length))) (s_add rfl rfl (by omega)) (congrArg (Value.int .i64) (by omega))) ?_
            refine o_step rfl (s_assign rfl) ?_
            refine o_nil ?_
            refine x_then (hK73 _ _ ?_)
            refine c_region ?_
            refine o_step rfl (s_assign rfl) ?_
            refine o_nil ?_
            refine x_then (hK69 _ _ ?_)
            refine c_seq fun _ hK74 => ?_
            refine c_region ?_
            refine o_step rfl (s_move rfl) ?_
            refine o_step rfl (s_nil rfl) ?_
            refine o_step rfl (s_field rfl rfl (by decide)) ?_
            refine o_step rfl (s_ld rfl ((hcB _ _ (by repeat (first | exact HIn.here | exact HIn.all | exact HIn.one | apply HIn.cons | apply HIn.assoc | apply HIn.app))).cel (j := 5) rfl rfl)) ?_
            refine o_step rfl (step_cast (v' := .int .i64 ((u.said ++ [u.kept ++ b]).length : Nat)) (s_len rfl) (by rw [hlB])) ?_
            refine o_step rfl (s_assign rfl) ?_
            refine o_nil ?_
            refine x_then (hK74 _ _ ?_)
            refine c_seq fun _ hK75 => ?_
            refine c_region ?_
            refine o_step rfl (s_move rfl) ?_
            refine o_callP (count_fn bo x _ _ _ kvB) rfl rfl rfl (fun w st => (hoB _ _ (by repeat (first | exact HIn.here | exact HIn.all | exact HIn.one | apply HIn.cons | apply HIn.assoc | apply HIn.app))).out w st) (fun v161 hv161 => ?_)
            subst hv161
            refine o_step rfl (s_move rfl) ?_
            refine o_step rfl (s_neq_f rfl rfl (by first | rfl | omega | (dsimp only; omega))) ?_
            refine o_nil ?_
            refine x_then (hK75 _ _ ?_)
            refine c_false rfl ?_
            refine c_skip ?_
            refine x_block ?_
            refine x_then (hK17 _ _ ?_)
            refine c_region ?_
            refine o_step rfl (s_move rfl) ?_
            refine o_step rfl (s_add rfl rfl (by omega)) ?_
            refine o_step rfl (s_assign rfl) ?_
            refine o_nil ?_
            exact x_then (x_inv (j + 1, _, _) ⟨by omega, hA2, hu2, hg2⟩ (by first | omega | (dsimp only; omega)) (by repeat (first | exact Sub.nil | refine Sub.cons rfl ?_)) (by repeat (first | exact HSub.refl _ | exact HSub.nil | refine HSub.takeC (by first | ((repeat (first | exact .one | exact .here | exact .all | apply Pick.cons | apply Pick.app)); done) | ((repeat (first | exact .one | exact .here | exact .all | apply Pick.cons | apply Pick.assoc | apply Pick.app)); done) | exact Pick.takeA (by repeat (first | exact .one | exact .here | exact .all | apply Pick.cons | apply Pick.assoc | apply Pick.app)) (by repeat (first | exact .one | exact .here | exact .all | apply Pick.cons | apply Pick.assoc | apply Pick.app))) ?_ | refine HSub.take (by first | ((repeat (first | exact .one | exact .here | exact .all | apply Pick.cons | apply Pick.app)); done) | ((repeat (first | exact .one | exact .here | exact .all | apply Pick.cons | apply Pick.assoc | apply Pick.app)); done) | exact Pick.takeA (by repeat (first | exact .one | exact .here | exact .all | apply Pick.cons | apply Pick.assoc | apply Pick.app)) (by repeat (first | exact .one | exact .here | exact .all | apply Pick.cons | apply Pick.assoc | apply Pick.app))) ?_ | exact HSub.of_pick (by first | ((repeat (first | exact .one | exact .here | exact .all | apply Pick.cons | apply Pick.app)); done) | ((repeat (first | exact .one | exact .here | exact .all | apply Pick.cons | apply Pick.assoc | apply Pick.app)); done) | exact Pick.takeA (by repeat (first | exact .one | exact .here | exact .all | apply Pick.cons | apply Pick.assoc | apply Pick.app)) (by repeat (first | exact .one | exact .here | exact .all | apply Pick.cons | apply Pick.assoc | apply Pick.app))))))
    · skip
      have ej : sc.take j = sc := List.take_of_length_le (by omega)
      rw [ej] at hg
      refine c_exit ?_
      refine x_then_exit ?_
      refine x_then_exit ?_
      refine x_block_exit ?_
      refine x_then (hK13 _ _ ?_)
      refine c_seq fun _ hK76 => ?_
      refine c_seq fun _ hK77 => ?_
      refine c_region ?_
      refine o_step rfl (s_move rfl) ?_
      refine o_call (flush_fn hA (by omega) (by omega) (by omega)) rfl rfl rfl (by first | ((repeat (first | exact .one | exact .here | exact .all | apply Pick.cons | apply Pick.app)); done) | ((repeat (first | exact .one | exact .here | exact .all | apply Pick.cons | apply Pick.assoc | apply Pick.app)); done) | exact Pick.takeA (by repeat (first | exact .one | exact .here | exact .all | apply Pick.cons | apply Pick.assoc | apply Pick.app)) (by repeat (first | exact .one | exact .here | exact .all | apply Pick.cons | apply Pick.assoc | apply Pick.app))) (fun _ _ => trivial) (fun v165 S165 ⟨hv165, hA2⟩ => ?_)
      rw [(gFlush (lim := 0) he1).e0] at hv165
      subst hv165
      have hu2 := hu.flush
      have hg2 := hg.flush
      obtain ⟨he2, hc2, hk2, hs2⟩ := id hu2
      refine o_step rfl (s_neq_f rfl rfl (by omega)) ?_
      refine o_step rfl (s_move rfl) ?_
      refine o_yes rfl rfl ?_
      refine o_step rfl (s_move rfl) ?_
      refine o_yes rfl rfl ?_
      refine o_call (flush_fn hA2 (by omega) (by omega) (by omega)) rfl rfl rfl (by first | ((repeat (first | exact .one | exact .here | exact .all | apply Pick.cons | apply Pick.app)); done) | ((repeat (first | exact .one | exact .here | exact .all | apply Pick.cons | apply Pick.assoc | apply Pick.app)); done) | exact Pick.takeA (by repeat (first | exact .one | exact .here | exact .all | apply Pick.cons | apply Pick.assoc | apply Pick.app)) (by repeat (first | exact .one | exact .here | exact .all | apply Pick.cons | apply Pick.assoc | apply Pick.app))) (fun _ _ => trivial) (fun v169 S169 ⟨hv169, hA3⟩ => ?_)
      rw [(gFlush (lim := 0) he2).e0] at hv169
      subst hv169
      have hg3 := hg2.flush
      have hkp := flush_kept he2
      generalize flushS 0 0 (flushS 0 0 u) = u3 at hA3 hg3 hkp
      obtain ⟨_, hg4, hgn, hgk⟩ := hg3
      rw [hkp, List.append_nil] at hg4
      obtain ⟨saB, gaB, scB, gcB, slB, glB, hmB, hglB, hcB, hrB, hsB, hxB⟩ := hA3.sinkRd
      have hlB : slB.length = u3.said.length := by rw [← hmB, List.length_map]
      refine o_sk (H' := S169) (by repeat (first | exact HSub.refl _ | exact HSub.nil | refine HSub.takeC (by first | ((repeat (first | exact .one | exact .here | exact .all | apply Pick.cons | apply Pick.app)); done) | ((repeat (first | exact .one | exact .here | exact .all | apply Pick.cons | apply Pick.assoc | apply Pick.app)); done) | exact Pick.takeA (by repeat (first | exact .one | exact .here | exact .all | apply Pick.cons | apply Pick.assoc | apply Pick.app)) (by repeat (first | exact .one | exact .here | exact .all | apply Pick.cons | apply Pick.assoc | apply Pick.app))) ?_ | refine HSub.take (by first | ((repeat (first | exact .one | exact .here | exact .all | apply Pick.cons | apply Pick.app)); done) | ((repeat (first | exact .one | exact .here | exact .all | apply Pick.cons | apply Pick.assoc | apply Pick.app)); done) | exact Pick.takeA (by repeat (first | exact .one | exact .here | exact .all | apply Pick.cons | apply Pick.assoc | apply Pick.app)) (by repeat (first | exact .one | exact .here | exact .all | apply Pick.cons | apply Pick.assoc | apply Pick.app))) ?_ | exact HSub.of_pick (by first | ((repeat (first | exact .one | exact .here | exact .all | apply Pick.cons | apply Pick.app)); done) | ((repeat (first | exact .one | exact .here | exact .all | apply Pick.cons | apply Pick.assoc | apply Pick.app)); done) | exact Pick.takeA (by repeat (first | exact .one | exact .here | exact .all | apply Pick.cons | apply Pick.assoc | apply Pick.app)) (by repeat (first | exact .one | exact .here | exact .all | apply Pick.cons | apply Pick.assoc | apply Pick.app))))) ?_
      refine o_yes rfl rfl ?_
      refine o_step rfl (s_neq_f rfl rfl (by omega)) ?_
      refine o_step rfl (s_pick_f rfl rfl) ?_
      refine o_nil ?_
      refine x_then (hK77 _ _ ?_)
      refine c_false rfl ?_
      refine c_skip ?_
      refine x_then (hK76 _ _ ?_)
      refine c_seq fun _ hK78 => ?_
      refine c_region ?_
      refine o_step rfl (s_assign rfl) ?_
      refine o_nil ?_
      refine x_then (hK78 _ _ ?_)
      refine c_seq fun _ hK79 => ?_
      refine c_region ?_
      refine o_step rfl (s_assign rfl) ?_
      refine o_nil ?_
      refine x_then (hK79 _ _ ?_)
      refine c_seq fun _ hK80 => ?_
      refine c_seq fun _ hK81 => ?_
      refine c_region ?_
      refine o_step rfl (s_assign rfl) ?_
      refine o_nil ?_
      refine x_then (hK81 _ _ ?_)
      refine c_block ?_
      refine c_know (p := ∀ y ∈ slB, IsSl (.slice y.a y.xs.length y.c) y.xs.length) (fun w st y hy => (((hxB y hy).rdk (by repeat (first | exact HIn.here | exact HIn.all | exact HIn.one | apply HIn.cons | apply HIn.assoc | apply HIn.app))).out w st).sl) fun hsx2 => ?_
      refine c_loop3 (fun (j : Nat) (ca : Nat) (pa : Nat) => j ≤ sc.length ∧ At u3.said ca pa (allB (sc.take j)).length) (fun (j : Nat) (ca : Nat) (pa : Nat) => [(18, .int .i64 j), (16, .int .i64 ca), (17, .int .i64 pa)]) [(1, _), (5, _)] (fun (j : Nat) (ca : Nat) (pa : Nat) => S169) (fun (j : Nat) (ca : Nat) (pa : Nat) => sc.length - j) 0 0 0 ⟨by omega, At.zero⟩ (by repeat (first | exact Sub.nil | refine Sub.cons rfl ?_)) (by repeat (first | exact Sub.nil | refine Sub.cons rfl ?_)) (by repeat (first | exact HSub.refl _ | exact HSub.nil | refine HSub.takeC (by first | ((repeat (first | exact .one | exact .here | exact .all | apply Pick.cons | apply Pick.app)); done) | ((repeat (first | exact .one | exact .here | exact .all | apply Pick.cons | apply Pick.assoc | apply Pick.app)); done) | exact Pick.takeA (by repeat (first | exact .one | exact .here | exact .all | apply Pick.cons | apply Pick.assoc | apply Pick.app)) (by repeat (first | exact .one | exact .here | exact .all | apply Pick.cons | apply Pick.assoc | apply Pick.app))) ?_ | refine HSub.take (by first | ((repeat (first | exact .one | exact .here | exact .all | apply Pick.cons | apply Pick.app)); done) | ((repeat (first | exact .one | exact .here | exact .all | apply Pick.cons | apply Pick.assoc | apply Pick.app)); done) | exact Pick.takeA (by repeat (first | exact .one | exact .here | exact .all | apply Pick.cons | apply Pick.assoc | apply Pick.app)) (by repeat (first | exact .one | exact .here | exact .all | apply Pick.cons | apply Pick.assoc | apply Pick.app))) ?_ | exact HSub.of_pick (by first | ((repeat (first | exact .one | exact .here | exact .all | apply Pick.cons | apply Pick.app)); done) | ((repeat (first | exact .one | exact .here | exact .all | apply Pick.cons | apply Pick.assoc | apply Pick.app)); done) | exact Pick.takeA (by repeat (first | exact .one | exact .here | exact .all | apply Pick.cons | apply Pick.assoc | apply Pick.app)) (by repeat (first | exact .one | exact .here | exact .all | apply Pick.cons | apply Pick.assoc | apply Pick.app))))) ?_
      rintro j ca pa ⟨hj, hat⟩
      refine c_seq fun _ hK82 => ?_
      refine c_seq fun _ hK83 => ?_
      refine c_region ?_
      refine o_step rfl (s_move rfl) ?_
      refine o_step rfl (s_move rfl) ?_
      refine o_step rfl (s_len rfl) ?_
      refine o_step rfl (s_lss rfl rfl) ?_
      refine o_nil ?_
      refine x_then (hK83 _ _ ?_)
      refine c_if rfl (fun hlt => ?_) (fun hlt => ?_)
      · skip
        have hlt2 : j < sc.length := by omega
        have hmem := op0_mem hlt2
        have hrow : Rd Esl w0 (.slice (op0 sc j).p.a (op0 sc j).p.xs.length (op0 sc j).p.c) (op0 sc j).p.xs := (h2 _ hmem).1
        have hrs := hrow.sl
        have hrb := hrs.le
        have hcost := tot_succ hlt2
        have hce : cost (op0 sc j) = (op0 sc j).p.xs.length + ((op0 sc j).p.xs.map Sl.xs).flatten.length := rfl
        have hca := catK_all (kept := []) (sls := (op0 sc j).p.xs)
        have hcl : (catK [] (op0 sc j).p.xs (op0 sc j).p.xs.length).length = ((op0 sc j).p.xs.map Sl.xs).flatten.length := by rw [hca]; rfl
        have hjt := tot_mono (sc := sc) (j := j + 1)
        refine c_skip ?_
        refine x_then (hK82 _ _ ?_)
        refine c_seq fun _ hK84 => ?_
        refine c_block ?_
        refine c_seq fun _ hK85 => ?_
        refine c_region ?_
        refine o_step rfl (s_assign rfl) ?_
        refine o_nil ?_
        refine x_then (hK85 _ _ ?_)
        refine c_block ?_
        refine c_loop3 (fun (k : Nat) (ca : Nat) (pa : Nat) => k ≤ (op0 sc j).p.xs.length ∧ At u3.said ca pa ((allB (sc.take j)).length + (catK [] (op0 sc j).p.xs k).length) ∧ ((op0 sc j).f = true → k = 0)) (fun (k : Nat) (ca : Nat) (pa : Nat) => [(19, .int .i64 k), (16, .int .i64 ca), (17, .int .i64 pa)]) [(1, _), (5, _), (18, _), (172, _), (173, _), (174, _), (175, _)] (fun (k : Nat) (ca : Nat) (pa : Nat) => S169) (fun (k : Nat) (ca : Nat) (pa : Nat) => (op0 sc j).p.xs.length - k) 0 ca pa ⟨by omega, by rw [catK_zero]; exact hat, fun _ => rfl⟩ (by repeat (first | exact Sub.nil | refine Sub.cons rfl ?_)) (by repeat (first | exact Sub.nil | refine Sub.cons rfl ?_)) (by repeat (first | exact HSub.refl _ | exact HSub.nil | refine HSub.takeC (by first | ((repeat (first | exact .one | exact .here | exact .all | apply Pick.cons | apply Pick.app)); done) | ((repeat (first | exact .one | exact .here | exact .all | apply Pick.cons | apply Pick.assoc | apply Pick.app)); done) | exact Pick.takeA (by repeat (first | exact .one | exact .here | exact .all | apply Pick.cons | apply Pick.assoc | apply Pick.app)) (by repeat (first | exact .one | exact .here | exact .all | apply Pick.cons | apply Pick.assoc | apply Pick.app))) ?_ | refine HSub.take (by first | ((repeat (first | exact .one | exact .here | exact .all | apply Pick.cons | apply Pick.app)); done) | ((repeat (first | exact .one | exact .here | exact .all | apply Pick.cons | apply Pick.assoc | apply Pick.app)); done) | exact Pick.takeA (by repeat (first | exact .one | exact .here | exact .all | apply Pick.cons | apply Pick.assoc | apply Pick.app)) (by repeat (first | exact .one | exact .here | exact .all | apply Pick.cons | apply Pick.assoc | apply Pick.app))) ?_ | exact HSub.of_pick (by first | ((repeat (first | exact .one | exact .here | exact .all | apply Pick.cons | apply Pick.app)); done) | ((repeat (first | exact .one | exact .here | exact .all | apply Pick.cons | apply Pick.assoc | apply Pick.app)); done) | exact Pick.takeA (by repeat (first | exact .one | exact .here | exact .all | apply Pick.cons | apply Pick.assoc | apply Pick.app)) (by repeat (first | exact .one | exact .here | exact .all | apply Pick.cons | apply Pick.assoc | apply Pick.app))))) ?_
        rintro k ca pa ⟨hk, hat, hkf⟩
        refine c_seq fun _ hK86 => ?_
        refine c_seq fun _ hK87 => ?_
        refine c_region ?_
        refine o_step rfl (s_move rfl) ?_
        refine o_step rfl (s_move rfl) ?_
        refine o_step rfl (s_move rfl) ?_
        refine o_step rfl (s_idx rfl rfl (by assumption) (by omega)) ?_
        refine o_step rfl (s_field rfl rfl (by decide)) ?_
        refine o_step rfl (s_ld rfl ((RdK.old0 h1).ld j 1 (op0_get (by omega)) rfl (by decide) (by omega))) ?_
        refine o_step rfl (s_len rfl) ?_
        by_cases hkr : k < (op0 sc j).p.xs.length
        · skip
          have hrm := row0_mem hkr
          have hrr : Rd Eb w0 (.slice (row0 (op0 sc j).p.xs k).a (row0 (op0 sc j).p.xs k).xs.length (row0 (op0 sc j).p.xs k).c) (row0 (op0 sc j).p.xs k).xs := (h2 _ hmem).2 _ hrm
          have hrrs := hrr.sl
          have hrrl := hrrs.le
          refine o_step rfl (step_cast (v' := .bool true) (s_lss rfl rfl) (by rw [decide_eq_true (by omega)])) ?_
          refine o_step rfl (s_move rfl) ?_
          refine o_yes rfl rfl ?_
          refine o_step rfl (s_move rfl) ?_
          refine o_yes rfl rfl ?_
          refine o_step rfl (s_move rfl) ?_
          refine o_yes rfl rfl ?_
          refine o_step rfl (s_idx rfl rfl (by assumption) (by omega)) ?_
          refine o_yes rfl rfl ?_
          refine o_step rfl (s_field rfl rfl (by decide)) ?_
          refine o_yes rfl rfl ?_
          by_cases hf : (op0 sc j).f = true
          · skip
            refine o_step rfl (step_cast (v' := .bool true) (s_ld rfl ((RdK.old0 h1).ld j 0 (op0_get (by omega)) rfl (by decide) (by omega))) (by rw [hf])) ?_
            refine o_yes rfl rfl ?_
            refine o_step rfl (s_not rfl) ?_
            refine o_step rfl (s_pick_t rfl rfl) ?_
            refine o_nil ?_
            refine x_then (hK87 _ _ ?_)
            refine c_false rfl ?_
            refine c_exit ?_
            refine x_then_exit ?_
            refine x_then_exit ?_
            refine x_block_exit ?_
            refine x_block ?_
            refine x_then (hK84 _ _ ?_)
            refine c_region ?_
            refine o_step rfl (s_move rfl) ?_
            refine o_step rfl (s_add rfl rfl (by omega)) ?_
            refine o_step rfl (s_assign rfl) ?_
            refine o_nil ?_
            exact x_then (x_inv (j + 1, ca, pa) ⟨by omega, by rw [allB_take hlt2, bytesO, if_pos hf, List.append_nil]; rw [hkf hf, catK_zero] at hat; exact hat⟩ (by first | omega | (dsimp only; omega)) (by repeat (first | exact Sub.nil | refine Sub.cons rfl ?_)) (by repeat (first | exact HSub.refl _ | exact HSub.nil | refine HSub.takeC (by first | ((repeat (first | exact .one | exact .here | exact .all | apply Pick.cons | apply Pick.app)); done) | ((repeat (first | exact .one | exact .here | exact .all | apply Pick.cons | apply Pick.assoc | apply Pick.app)); done) | exact Pick.takeA (by repeat (first | exact .one | exact .here | exact .all | apply Pick.cons | apply Pick.assoc | apply Pick.app)) (by repeat (first | exact .one | exact .here | exact .all | apply Pick.cons | apply Pick.assoc | apply Pick.app))) ?_ | refine HSub.take (by first | ((repeat (first | exact .one | exact .here | exact .all | apply Pick.cons | apply Pick.app)); done) | ((repeat (first | exact .one | exact .here | exact .all | apply Pick.cons | apply Pick.assoc | apply Pick.app)); done) | exact Pick.takeA (by repeat (first | exact .one | exact .here | exact .all | apply Pick.cons | apply Pick.assoc | apply Pick.app)) (by repeat (first | exact .one | exact .here | exact .all | apply Pick.cons | apply Pick.assoc | apply Pick.app))) ?_ | exact HSub.of_pick (by first | ((repeat (first | exact .one | exact .here | exact .all | apply Pick.cons | apply Pick.app)); done) | ((repeat (first | exact .one | exact .here | exact .all | apply Pick.cons | apply Pick.assoc | apply Pick.app)); done) | exact Pick.takeA (by repeat (first | exact .one | exact .here | exact .all | apply Pick.cons | apply Pick.assoc | apply Pick.app)) (by repeat (first | exact .one | exact .here | exact .all | apply Pick.cons | apply Pick.assoc | apply Pick.app))))))
          · skip
            have hf2 : (op0 sc j).f = false := by simpa using hf
            refine o_step rfl (step_cast (v' := .bool false) (s_ld rfl ((RdK.old0 h1).ld j 0 (op0_get (by omega)) rfl (by decide) (by omega))) (by rw [hf2])) ?_
            refine o_yes rfl rfl ?_
            refine o_step rfl (s_not rfl) ?_
            refine o_step rfl (s_pick_t rfl rfl) ?_
            refine o_nil ?_
            refine x_then (hK87 _ _ ?_)
            refine c_true rfl ?_
            refine c_skip ?_
            refine x_then (hK86 _ _ ?_)
            refine c_seq fun _ hK88 => ?_
            refine c_block ?_
            refine c_seq fun _ hK89 => ?_
            refine c_region ?_
            refine o_step rfl (s_move rfl) ?_
            refine o_step rfl (s_move rfl) ?_
            refine o_step rfl (s_idx rfl rfl (by assumption) (by omega)) ?_
            refine o_step rfl (s_field rfl rfl (by decide)) ?_
            refine o_step rfl (s_ld rfl ((RdK.old0 h1).ld j 1 (op0_get (by omega)) rfl (by decide) (by omega))) ?_
            refine o_step rfl (s_move rfl) ?_
            refine o_step rfl (s_idx rfl rfl hrs (by omega)) ?_
            refine o_step rfl (s_ld rfl ((RdK.old0 hrow).ld k 0 (row0_get (by omega)) rfl (by decide) (by omega))) ?_
            refine o_step rfl (s_assign rfl) ?_
            refine o_nil ?_
            refine x_then (hK89 _ _ ?_)
            refine c_seq fun _ hK90 => ?_
            refine c_region ?_
            refine o_step rfl (s_assign rfl) ?_
            refine o_nil ?_
            refine x_then (hK90 _ _ ?_)
            refine c_block ?_
            refine c_loop3 (fun (q : Nat) (ca : Nat) (pa : Nat) => q ≤ (row0 (op0 sc j).p.xs k).xs.length ∧ At u3.said ca pa ((allB (sc.take j)).length + (catK [] (op0 sc j).p.xs k).length + q)) (fun (q : Nat) (ca : Nat) (pa : Nat) => [(21, .int .i64 q), (16, .int .i64 ca), (17, .int .i64 pa)]) [(1, _), (5, _), (18, _), (19, _), (20, _), (172, _), (173, _), (174, _), (175, _), (178, _), (179, _), (180, _), (181, _), (182, _), (183, _), (184, _), (185, _), (186, _), (187, _), (188, _), (189, _), (190, _), (191, _), (192, _), (193, _), (196, _), (197, _), (198, _), (199, _), (200, _), (201, _), (202, _), (203, _)] (fun (q : Nat) (ca : Nat) (pa : Nat) => S169) (fun (q : Nat) (ca : Nat) (pa : Nat) => (row0 (op0 sc j).p.xs k).xs.length - q) 0 ca pa ⟨by omega, hat⟩ (by repeat (first | exact Sub.nil | refine Sub.cons rfl ?_)) (by repeat (first | exact Sub.nil | refine Sub.cons rfl ?_)) (by repeat (first | exact HSub.refl _ | exact HSub.nil | refine HSub.takeC (by first | ((repeat (first | exact .one | exact .here | exact .all | apply Pick.cons | apply Pick.app)); done) | ((repeat (first | exact .one | exact .here | exact .all | apply Pick.cons | apply Pick.assoc | apply Pick.app)); done) | exact Pick.takeA (by repeat (first | exact .one | exact .here | exact .all | apply Pick.cons | apply Pick.assoc | apply Pick.app)) (by repeat (first | exact .one | exact .here | exact .all | apply Pick.cons | apply Pick.assoc | apply Pick.app))) ?_ | refine HSub.take (by first | ((repeat (first | exact .one | exact .here | exact .all | apply Pick.cons | apply Pick.app)); done) | ((repeat (first | exact .one | exact .here | exact .all | apply Pick.cons | apply Pick.assoc | apply Pick.app)); done) | exact Pick.takeA (by repeat (first | exact .one | exact .here | exact .all | apply Pick.cons | apply Pick.assoc | apply Pick.app)) (by repeat (first | exact .one | exact .here | exact .all | apply Pick.cons | apply Pick.assoc | apply Pick.app))) ?_ | exact HSub.of_pick (by first | ((repeat (first | exact .one | exact .here | exact .all | apply Pick.cons | apply Pick.app)); done) | ((repeat (first | exact .one | exact .here | exact .all | apply Pick.cons | apply Pick.assoc | apply Pick.app)); done) | exact Pick.takeA (by repeat (first | exact .one | exact .here | exact .all | apply Pick.cons | apply Pick.assoc | apply Pick.app)) (by repeat (first | exact .one | exact .here | exact .all | apply Pick.cons | apply Pick.assoc | apply Pick.app))))) ?_
            rintro q ca pa ⟨hq, hat⟩
            refine c_seq fun _ hK91 => ?_
            refine c_seq fun _ hK92 => ?_
            refine c_region ?_
            refine o_step rfl (s_move rfl) ?_
            refine o_step rfl (s_move rfl) ?_
            refine o_step rfl (s_len rfl) ?_
            refine o_step rfl (s_lss rfl rfl) ?_
            refine o_nil ?_
            refine x_then (hK92 _ _ ?_)
            refine c_if rfl (fun hq2 => ?_) (fun hq2 => ?_)
            · skip
              have hqr : q < (row0 (op0 sc j).p.xs k).xs.length := by omega
              obtain ⟨hby, hmlt⟩ := byte_at hlt2 hf hkr hqr
              rw [← hg4] at hby hmlt
              refine c_skip ?_
              refine x_then (hK91 _ _ ?_)
              refine c_seq fun _ hK93 => ?_
              refine c_block ?_
              refine c_seq fun _ hK94 => ?_
              refine c_block ?_
              refine c_loop2 (fun (ca : Nat) (pa : Nat) => At u3.said ca pa ((allB (sc.take j)).length + (catK [] (op0 sc j).p.xs k).length + q)) (fun (ca : Nat) (pa : Nat) => [(16, .int .i64 ca), (17, .int .i64 pa)]) [(1, _), (5, _), (18, _), (19, _), (20, _), (21, _), (172, _), (173, _), (174, _), (175, _), (178, _), (179, _), (180, _), (181, _), (182, _), (183, _), (184, _), (185, _), (186, _), (187, _), (188, _), (189, _), (190, _), (191, _), (192, _), (193, _), (196, _), (197, _), (198, _), (199, _), (200, _), (201, _), (202, _), (203, _), (204, _), (205, _), (206, _), (207, _)] (fun (ca : Nat) (pa : Nat) => S169) (fun (ca : Nat) (pa : Nat) => u3.said.length - ca) ca pa hat (by repeat (first | exact Sub.nil | refine Sub.cons rfl ?_)) (by repeat (first | exact Sub.nil | refine Sub.cons rfl ?_)) (by repeat (first | exact HSub.refl _ | exact HSub.nil | refine HSub.takeC (by first | ((repeat (first | exact .one | exact .here | exact .all | apply Pick.cons | apply Pick.app)); done) | ((repeat (first | exact .one | exact .here | exact .all | apply Pick.cons | apply Pick.assoc | apply Pick.app)); done) | exact Pick.takeA (by repeat (first | exact .one | exact .here | exact .all | apply Pick.cons | apply Pick.assoc | apply Pick.app)) (by repeat (first | exact .one | exact .here | exact .all | apply Pick.cons | apply Pick.assoc | apply Pick.app))) ?_ | refine HSub.take (by first | ((repeat (first | exact .one | exact .here | exact .all | apply Pick.cons | apply Pick.app)); done) | ((repeat (first | exact .one | exact .here | exact .all | apply Pick.cons | apply Pick.assoc | apply Pick.app)); done) | exact Pick.takeA (by repeat (first | exact .one | exact .here | exact .all | apply Pick.cons | apply Pick.assoc | apply Pick.app)) (by repeat (first | exact .one | exact .here | exact .all | apply Pick.cons | apply Pick.assoc | apply Pick.app))) ?_ | exact HSub.of_pick (by first | ((repeat (first | exact .one | exact .here | exact .all | apply Pick.cons | apply Pick.app)); done) | ((repeat (first | exact .one | exact .here | exact .all | apply Pick.cons | apply Pick.assoc | apply Pick.app)); done) | exact Pick.takeA (by repeat (first | exact .one | exact .here | exact .all | apply Pick.cons | apply Pick.assoc | apply Pick.app)) (by repeat (first | exact .one | exact .here | exact .all | apply Pick.cons | apply Pick.assoc | apply Pick.app))))) ?_
              rintro ca pa hat
              have hcal0 := hat.inn hmlt
              have hcal : ca < slB.length := by omega
              have hrw : (row0 slB ca).xs = u3.said.getD ca [] := row_said hmB hcal
              have hpb := (hsx2 _ (row0_mem hcal)).le
              have hha := hat.ha
              rw [← hrw] at hha
              refine c_seq fun _ hK95 => ?_
              refine c_seq fun _ hK96 => ?_
              refine c_region ?_
              refine o_step rfl (s_move rfl) ?_
              refine o_step rfl (s_move rfl) ?_
              refine o_step rfl (s_nil rfl) ?_
              refine o_step rfl (s_field rfl rfl (by decide)) ?_
              refine o_step rfl (s_ld rfl ((hcB _ _ (by repeat (first | exact HIn.here | exact HIn.all | exact HIn.one | apply HIn.cons | apply HIn.assoc | apply HIn.app))).cel (j := 5) rfl rfl)) ?_
              refine o_step rfl (s_len rfl) ?_
              refine o_step rfl (s_lss_t rfl rfl (by omega)) ?_
              refine o_step rfl (s_move rfl) ?_
              refine o_yes rfl rfl ?_
              refine o_step rfl (s_move rfl) ?_
              refine o_yes rfl rfl ?_
              refine o_step rfl (s_move rfl) ?_
              refine o_yes rfl rfl ?_
              refine o_step rfl (s_nil rfl) ?_
              refine o_yes rfl rfl ?_
              refine o_step rfl (s_field rfl rfl (by decide)) ?_
              refine o_yes rfl rfl ?_
              refine o_step rfl (s_ld rfl ((hcB _ _ (by repeat (first | exact HIn.here | exact HIn.all | exact HIn.one | apply HIn.cons | apply HIn.assoc | apply HIn.app))).cel (j := 5) rfl rfl)) ?_
              refine o_yes rfl rfl ?_
              refine o_step rfl (s_move rfl) ?_
              refine o_yes rfl rfl ?_
              refine o_step rfl (s_idx rfl rfl hsB (by omega)) ?_
              refine o_yes rfl rfl ?_
              refine o_step rfl (s_ld rfl ((hrB.rdk (by repeat (first | exact HIn.here | exact HIn.all | exact HIn.one | apply HIn.cons | apply HIn.assoc | apply HIn.app))).ld ca 0 (row0_get (by omega)) rfl (by decide) (by omega))) ?_
              refine o_yes rfl rfl ?_
              refine o_step rfl (s_len rfl) ?_
              refine o_yes rfl rfl ?_
              refine o_step rfl (s_eql rfl rfl) ?_
              refine o_step rfl (s_pick_t rfl rfl) ?_
              refine o_nil ?_
              refine x_then (hK96 _ _ ?_)
              refine c_if rfl (fun hadv => ?_) (fun hadv => ?_)
              · skip
                refine c_skip ?_
                refine x_then (hK95 _ _ ?_)
                refine c_block ?_
                refine c_seq fun _ hK97 => ?_
                refine c_region ?_
                refine o_step rfl (s_move rfl) ?_
                refine o_step rfl (s_add rfl rfl (by omega)) ?_
                refine o_step rfl (s_assign rfl) ?_
                refine o_nil ?_
                refine x_then (hK97 _ _ ?_)
                refine c_region ?_
                refine o_step rfl (s_assign rfl) ?_
                refine o_nil ?_
                refine x_block ?_
                exact x_then (x_inv (ca + 1, 0) (hat.next hmlt (by rw [← hrw]; omega)) (by first | omega | (dsimp only; omega)) (by repeat (first | exact Sub.nil | refine Sub.cons rfl ?_)) (by repeat (first | exact HSub.refl _ | exact HSub.nil | refine HSub.takeC (by first | ((repeat (first | exact .one | exact .here | exact .all | apply Pick.cons | apply Pick.app)); done) | ((repeat (first | exact .one | exact .here | exact .all | apply Pick.cons | apply Pick.assoc | apply Pick.app)); done) | exact Pick.takeA (by repeat (first | exact .one | exact .here | exact .all | apply Pick.cons | apply Pick.assoc | apply Pick.app)) (by repeat (first | exact .one | exact .here | exact .all | apply Pick.cons | apply Pick.assoc | apply Pick.app))) ?_ | refine HSub.take (by first | ((repeat (first | exact .one | exact .here | exact .all | apply Pick.cons | apply Pick.app)); done) | ((repeat (first | exact .one | exact .here | exact .all | apply Pick.cons | apply Pick.assoc | apply Pick.app)); done) | exact Pick.takeA (by repeat (first | exact .one | exact .here | exact .all | apply Pick.cons | apply Pick.assoc | apply Pick.app)) (by repeat (first | exact .one | exact .here | exact .all | apply Pick.cons | apply Pick.assoc | apply Pick.app))) ?_ | exact HSub.of_pick (by first | ((repeat (first | exact .one | exact .here | exact .all | apply Pick.cons | apply Pick.app)); done) | ((repeat (first | exact .one | exact .here | exact .all | apply Pick.cons | apply Pick.assoc | apply Pick.app)); done) | exact Pick.takeA (by repeat (first | exact .one | exact .here | exact .all | apply Pick.cons | apply Pick.assoc | apply Pick.app)) (by repeat (first | exact .one | exact .here | exact .all | apply Pick.cons | apply Pick.assoc | apply Pick.app))))))
              · skip
                have hpa : pa < (u3.said.getD ca []).length := by have := hat.ha; rw [← hrw] at this ⊢; omega
                have hbe := hat.byte hmlt hpa
                rw [hby, ← hrw] at hbe
                have hbx2 := hsx2 _ (row0_mem hcal)
                have hpa2 : pa < (row0 slB ca).xs.length := by rw [hrw]; exact hpa
                have hbx3 : RdS Eb (.slice (row0 slB ca).a (row0 slB ca).xs.length (row0 slB ca).c) (row0 slB ca).xs S169 := hxB _ (row0_mem hcal)
                refine c_exit ?_
                refine x_then_exit ?_
                refine x_then_exit ?_
                refine x_block_exit ?_
                refine x_then (hK94 _ _ ?_)
                refine c_seq fun _ hK98 => ?_
                refine c_seq fun _ hK99 => ?_
                refine c_quiet (by kernel_rfl) ?_
                refine .op rfl (s_move rfl) ?_
                refine .op rfl (s_move rfl) ?_
                refine .op rfl (s_nil rfl) ?_
                refine .op rfl (s_field rfl rfl (by decide)) ?_
                refine .op rfl (s_ld rfl ((hcB _ _ (by repeat (first | exact HIn.here | exact HIn.all | exact HIn.one | apply HIn.cons | apply HIn.assoc | apply HIn.app))).cel (j := 5) rfl rfl)) ?_
                refine .op rfl (s_len rfl) ?_
                refine .op rfl (s_eql_f rfl rfl (by omega)) ?_
                refine .op rfl (s_move rfl) ?_
                refine .yes rfl rfl rfl (s_move rfl) ?_
                refine .yes rfl rfl rfl (s_nil rfl) ?_
                refine .yes rfl rfl rfl (s_field rfl rfl (by decide)) ?_
                refine .yes rfl rfl rfl (s_ld rfl ((hcB _ _ (by repeat (first | exact HIn.here | exact HIn.all | exact HIn.one | apply HIn.cons | apply HIn.assoc | apply HIn.app))).cel (j := 5) rfl rfl)) ?_
                refine .yes rfl rfl rfl (s_move rfl) ?_
                refine .yes rfl rfl rfl (s_idx rfl rfl hsB (by omega)) ?_
                refine .yes rfl rfl rfl (s_ld rfl ((hrB.rdk (by repeat (first | exact HIn.here | exact HIn.all | exact HIn.one | apply HIn.cons | apply HIn.assoc | apply HIn.app))).ld ca 0 (row0_get (by omega)) rfl (by decide) (by omega))) ?_
                refine .yes rfl rfl rfl (s_move rfl) ?_
                refine .yes rfl rfl rfl (s_idx rfl rfl hbx2 (by omega)) ?_
                refine .yes rfl rfl rfl (s_ld rfl ((hbx3.rdk (by repeat (first | exact HIn.here | exact HIn.all | exact HIn.one | apply HIn.cons | apply HIn.assoc | apply HIn.app))).ld pa 0 hbe.symm rfl (by decide) (by omega))) ?_
                refine .yes rfl rfl rfl (s_move rfl) ?_
                refine .yes rfl rfl rfl (s_move rfl) ?_
                refine .yes rfl rfl rfl (s_idx rfl rfl hrrs (by omega)) ?_
                refine .yes rfl rfl rfl (s_ld rfl ((RdK.old0 hrr).ld q 0 (List.getElem?_eq_getElem hqr) rfl (by decide) (by omega))) ?_
                refine .yes rfl rfl rfl (s_neq_f rfl rfl (by omega)) ?_
                refine .op rfl (s_pick_f rfl rfl) ?_
                refine .nil ?_
                refine x_then (hK99 _ _ ?_)
                refine c_false rfl ?_
                refine c_skip ?_
                refine x_then (hK98 _ _ ?_)
                refine c_region ?_
                refine o_step rfl (s_move rfl) ?_
                refine o_step rfl (s_add rfl rfl (by omega)) ?_
                refine o_step rfl (s_assign rfl) ?_
                refine o_nil ?_
                refine x_block ?_
                refine x_then (hK93 _ _ ?_)
                refine c_region ?_
                refine o_step rfl (s_move rfl) ?_
                refine o_step rfl (s_add rfl rfl (by omega)) ?_
                refine o_step rfl (s_assign rfl) ?_
                refine o_nil ?_
                exact x_then (x_inv (q + 1, ca, pa + 1) ⟨by omega, hat.step hpa⟩ (by first | omega | (dsimp only; omega)) (by repeat (first | exact Sub.nil | refine Sub.cons rfl ?_)) (by repeat (first | exact HSub.refl _ | exact HSub.nil | refine HSub.takeC (by first | ((repeat (first | exact .one | exact .here | exact .all | apply Pick.cons | apply Pick.app)); done) | ((repeat (first | exact .one | exact .here | exact .all | apply Pick.cons | apply Pick.assoc | apply Pick.app)); done) | exact Pick.takeA (by repeat (first | exact .one | exact .here | exact .all | apply Pick.cons | apply Pick.assoc | apply Pick.app)) (by repeat (first | exact .one | exact .here | exact .all | apply Pick.cons | apply Pick.assoc | apply Pick.app))) ?_ | refine HSub.take (by first | ((repeat (first | exact .one | exact .here | exact .all | apply Pick.cons | apply Pick.app)); done) | ((repeat (first | exact .one | exact .here | exact .all | apply Pick.cons | apply Pick.assoc | apply Pick.app)); done) | exact Pick.takeA (by repeat (first | exact .one | exact .here | exact .all | apply Pick.cons | apply Pick.assoc | apply Pick.app)) (by repeat (first | exact .one | exact .here | exact .all | apply Pick.cons | apply Pick.assoc | apply Pick.app))) ?_ | exact HSub.of_pick (by first | ((repeat (first | exact .one | exact .here | exact .all | apply Pick.cons | apply Pick.app)); done) | ((repeat (first | exact .one | exact .here | exact .all | apply Pick.cons | apply Pick.assoc | apply Pick.app)); done) | exact Pick.takeA (by repeat (first | exact .one | exact .here | exact .all | apply Pick.cons | apply Pick.assoc | apply Pick.app)) (by repeat (first | exact .one | exact .here | exact .all | apply Pick.cons | apply Pick.assoc | apply Pick.app))))))
            · skip
              have hql : q = (row0 (op0 sc j).p.xs k).xs.length := by omega
              have hcs2 := congrArg List.length (catK_succ (kept := []) hkr)
              rw [List.length_append] at hcs2
              refine c_exit ?_
              refine x_then_exit ?_
              refine x_then_exit ?_
              refine x_block_exit ?_
              refine x_block ?_
              refine x_then (hK88 _ _ ?_)
              refine c_region ?_
              refine o_step rfl (s_move rfl) ?_
              refine o_step rfl (s_add rfl rfl (by omega)) ?_
              refine o_step rfl (s_assign rfl) ?_
              refine o_nil ?_
              exact x_then (x_inv (k + 1, ca, pa) ⟨by omega, by rw [hcs2, ← hql, ← Nat.add_assoc]; exact hat, fun h => absurd h hf⟩ (by first | omega | (dsimp only; omega)) (by repeat (first | exact Sub.nil | refine Sub.cons rfl ?_)) (by repeat (first | exact HSub.refl _ | exact HSub.nil | refine HSub.takeC (by first | ((repeat (first | exact .one | exact .here | exact .all | apply Pick.cons | apply Pick.app)); done) | ((repeat (first | exact .one | exact .here | exact .all | apply Pick.cons | apply Pick.assoc | apply Pick.app)); done) | exact Pick.takeA (by repeat (first | exact .one | exact .here | exact .all | apply Pick.cons | apply Pick.assoc | apply Pick.app)) (by repeat (first | exact .one | exact .here | exact .all | apply Pick.cons | apply Pick.assoc | apply Pick.app))) ?_ | refine HSub.take (by first | ((repeat (first | exact .one | exact .here | exact .all | apply Pick.cons | apply Pick.app)); done) | ((repeat (first | exact .one | exact .here | exact .all | apply Pick.cons | apply Pick.assoc | apply Pick.app)); done) | exact Pick.takeA (by repeat (first | exact .one | exact .here | exact .all | apply Pick.cons | apply Pick.assoc | apply Pick.app)) (by repeat (first | exact .one | exact .here | exact .all | apply Pick.cons | apply Pick.assoc | apply Pick.app))) ?_ | exact HSub.of_pick (by first | ((repeat (first | exact .one | exact .here | exact .all | apply Pick.cons | apply Pick.app)); done) | ((repeat (first | exact .one | exact .here | exact .all | apply Pick.cons | apply Pick.assoc | apply Pick.app)); done) | exact Pick.takeA (by repeat (first | exact .one | exact .here | exact .all | apply Pick.cons | apply Pick.assoc | apply Pick.app)) (by repeat (first | exact .one | exact .here | exact .all | apply Pick.cons | apply Pick.assoc | apply Pick.app))))))
        · skip
          refine o_step rfl (step_cast (v' := .bool false) (s_lss rfl rfl) (by rw [decide_eq_false (by omega)])) ?_
          refine o_step rfl (s_move rfl) ?_
          refine o_no rfl rfl rfl rfl ?_
          refine o_no rfl rfl rfl rfl ?_
          refine o_no rfl rfl rfl rfl ?_
          refine o_no rfl rfl rfl rfl ?_
          refine o_no rfl rfl rfl rfl ?_
          refine o_no rfl rfl rfl rfl ?_
          refine o_step rfl (s_pick_f rfl rfl) ?_
          refine o_nil ?_
          refine x_then (hK87 _ _ ?_)
          refine c_false rfl ?_
          refine c_exit ?_
          refine x_then_exit ?_
          refine x_then_exit ?_
          refine x_block_exit ?_
          refine x_block ?_
          refine x_then (hK84 _ _ ?_)
          refine c_region ?_
          refine o_step rfl (s_move rfl) ?_
          refine o_step rfl (s_add rfl rfl (by omega)) ?_
          refine o_step rfl (s_assign rfl) ?_
          refine o_nil ?_
          exact x_then (x_inv (j + 1, ca, pa) ⟨by omega, if hf : (op0 sc j).f = true then (by rw [allB_take hlt2, bytesO, if_pos hf, List.append_nil]; rw [hkf hf, catK_zero] at hat; exact hat) else (by rw [allB_take hlt2, bytesO, if_neg hf, List.length_append]; rw [show k = (op0 sc j).p.xs.length by omega, hcl] at hat; exact hat)⟩ (by first | omega | (dsimp only; omega)) (by repeat (first | exact Sub.nil | refine Sub.cons rfl ?_)) (by repeat (first | exact HSub.refl _ | exact HSub.nil | refine HSub.takeC (by first | ((repeat (first | exact .one | exact .here | exact .all | apply Pick.cons | apply Pick.app)); done) | ((repeat (first | exact .one | exact .here | exact .all | apply Pick.cons | apply Pick.assoc | apply Pick.app)); done) | exact Pick.takeA (by repeat (first | exact .one | exact .here | exact .all | apply Pick.cons | apply Pick.assoc | apply Pick.app)) (by repeat (first | exact .one | exact .here | exact .all | apply Pick.cons | apply Pick.assoc | apply Pick.app))) ?_ | refine HSub.take (by first | ((repeat (first | exact .one | exact .here | exact .all | apply Pick.cons | apply Pick.app)); done) | ((repeat (first | exact .one | exact .here | exact .all | apply Pick.cons | apply Pick.assoc | apply Pick.app)); done) | exact Pick.takeA (by repeat (first | exact .one | exact .here | exact .all | apply Pick.cons | apply Pick.assoc | apply Pick.app)) (by repeat (first | exact .one | exact .here | exact .all | apply Pick.cons | apply Pick.assoc | apply Pick.app))) ?_ | exact HSub.of_pick (by first | ((repeat (first | exact .one | exact .here | exact .all | apply Pick.cons | apply Pick.app)); done) | ((repeat (first | exact .one | exact .here | exact .all | apply Pick.cons | apply Pick.assoc | apply Pick.app)); done) | exact Pick.takeA (by repeat (first | exact .one | exact .here | exact .all | apply Pick.cons | apply Pick.assoc | apply Pick.app)) (by repeat (first | exact .one | exact .here | exact .all | apply Pick.cons | apply Pick.assoc | apply Pick.app))))))
      · skip
        have ej : sc.take j = sc := List.take_of_length_le (by omega)
        rw [ej, ← hg4] at hat
        have hdone := fun h0 => hat.done hgn h0
        refine c_exit ?_
        refine x_then_exit ?_
        refine x_then_exit ?_
        refine x_block_exit ?_
        refine x_then (hK80 _ _ ?_)
        refine c_seq fun _ hK100 => ?_
        refine c_seq fun _ hK101 => ?_
        refine c_quiet (by kernel_rfl) ?_
        refine .op rfl (s_move rfl) ?_
        refine .op rfl (s_nil rfl) ?_
        refine .op rfl (s_field rfl rfl (by decide)) ?_
        refine .op rfl (s_ld rfl ((hcB _ _ (by repeat (first | exact HIn.here | exact HIn.all | exact HIn.one | apply HIn.cons | apply HIn.assoc | apply HIn.app))).cel (j := 5) rfl rfl)) ?_
        refine .op rfl (s_len rfl) ?_
        by_cases hne0 : 0 < slB.length
        · skip
          obtain ⟨hd1, hd2⟩ := hdone (by omega)
          have hd3 : (row0 slB (slB.length - 1)).xs = u3.said.getD (u3.said.length - 1) [] := by rw [← hlB]; exact row_said hmB (by omega)
          rw [← hd3] at hd2
          refine .op rfl (step_cast (v' := .bool true) (s_gtr rfl rfl) (by rw [decide_eq_true (by omega)])) ?_
          refine .op rfl (s_move rfl) ?_
          refine .yes rfl rfl rfl (s_move rfl) ?_
          refine .yes rfl rfl rfl (s_move rfl) ?_
          refine .yes rfl rfl rfl (s_nil rfl) ?_
          refine .yes rfl rfl rfl (s_field rfl rfl (by decide)) ?_
          refine .yes rfl rfl rfl (s_ld rfl ((hcB _ _ (by repeat (first | exact HIn.here | exact HIn.all | exact HIn.one | apply HIn.cons | apply HIn.assoc | apply HIn.app))).cel (j := 5) rfl rfl)) ?_
          refine .yes rfl rfl rfl (s_len rfl) ?_
          refine .yes rfl rfl rfl (s_sub rfl rfl (by omega)) ?_
          refine .yes rfl rfl rfl (s_lss_f rfl rfl (by omega)) ?_
          refine .yes rfl rfl rfl (s_move rfl) ?_
          refine .yes rfl rfl rfl (s_move rfl) ?_
          refine .yes rfl rfl rfl (s_move rfl) ?_
          refine .yes rfl rfl rfl (s_nil rfl) ?_
          refine .yes rfl rfl rfl (s_field rfl rfl (by decide)) ?_
          refine .yes rfl rfl rfl (s_ld rfl ((hcB _ _ (by repeat (first | exact HIn.here | exact HIn.all | exact HIn.one | apply HIn.cons | apply HIn.assoc | apply HIn.app))).cel (j := 5) rfl rfl)) ?_
          refine .yes rfl rfl rfl (s_move rfl) ?_
          refine .yes rfl rfl rfl (s_nil rfl) ?_
          refine .yes rfl rfl rfl (s_field rfl rfl (by decide)) ?_
          refine .yes rfl rfl rfl (s_ld rfl ((hcB _ _ (by repeat (first | exact HIn.here | exact HIn.all | exact HIn.one | apply HIn.cons | apply HIn.assoc | apply HIn.app))).cel (j := 5) rfl rfl)) ?_
          refine .yes rfl rfl rfl (s_len rfl) ?_
          refine .yes rfl rfl rfl (s_sub rfl rfl (by omega)) ?_
          refine .yes rfl rfl rfl (s_idx rfl rfl hsB (by omega)) ?_
          refine .yes rfl rfl rfl (s_ld rfl ((hrB.rdk (by repeat (first | exact HIn.here | exact HIn.all | exact HIn.one | apply HIn.cons | apply HIn.assoc | apply HIn.app))).ld (slB.length - 1) 0 (row0_get (by omega)) rfl (by decide) (by omega))) ?_
          refine .yes rfl rfl rfl (s_len rfl) ?_
          refine .yes rfl rfl rfl (s_lss_f rfl rfl (by omega)) ?_
          refine .yes rfl rfl rfl (s_pick_f rfl rfl) ?_
          refine .op rfl (s_pick_t rfl rfl) ?_
          refine .nil ?_
          refine x_then (hK101 _ _ ?_)
          refine c_false rfl ?_
          refine c_skip ?_
          refine x_then (hK100 _ _ ?_)
          refine c_seq fun _ hK102 => ?_
          refine c_region ?_
          refine o_callP (works_fn) rfl rfl rfl (fun _ _ => trivial) (fun v290 hv290 => ?_)
          subst hv290
          refine o_step rfl (s_assign rfl) ?_
          refine o_nil ?_
          refine x_then (hK102 _ _ ?_)
          refine c_ret ?_
          refine ?_
          exact x_ret rfl (.tmp rfl (.nil)) (rfl)
        · skip
          refine .op rfl (step_cast (v' := .bool false) (s_gtr rfl rfl) (by rw [decide_eq_false (by omega)])) ?_
          refine .op rfl (s_move rfl) ?_
          refine .no rfl rfl rfl rfl ?_
          refine .no rfl rfl rfl rfl ?_
          refine .no rfl rfl rfl rfl ?_
          refine .no rfl rfl rfl rfl ?_
          refine .no rfl rfl rfl rfl ?_
          refine .no rfl rfl rfl rfl ?_
          refine .no rfl rfl rfl rfl ?_
          refine .no rfl rfl rfl rfl ?_
          refine .no rfl rfl rfl rfl ?_
          refine .noU rfl rfl rfl ?_
          refine .noU rfl rfl rfl ?_
          refine .noU rfl rfl rfl ?_
          refine .noU rfl rfl rfl ?_
          refine .noU rfl rfl rfl ?_
          refine .noU rfl rfl rfl ?_
          refine .noU rfl rfl rfl ?_
          refine .noU rfl rfl rfl ?_
          refine .noU rfl rfl rfl ?_
          refine .noU rfl rfl rfl ?_
          refine .noU rfl rfl rfl ?_
          refine .noU rfl rfl rfl ?_
          refine .noU rfl rfl rfl ?_
          refine .noU rfl rfl rfl ?_
          refine .noU rfl rfl rfl ?_
          refine .no rfl rfl rfl rfl ?_
          refine .op rfl (s_pick_f rfl rfl) ?_
          refine .nil ?_
          refine x_then (hK101 _ _ ?_)
          refine c_false rfl ?_
          refine c_skip ?_
          refine x_then (hK100 _ _ ?_)
          refine c_seq fun _ hK103 => ?_
          refine c_region ?_
          refine o_callP (works_fn) rfl rfl rfl (fun _ _ => trivial) (fun v290 hv290 => ?_)
          subst hv290
          refine o_step rfl (s_assign rfl) ?_
          refine o_nil ?_
          refine x_then (hK103 _ _ ?_)
          refine c_ret ?_
          refine ?_
          exact x_ret rfl (.tmp rfl (.nil)) (rfl)
  · skip
    refine o_nil ?_
    refine x_then (hK3 _ _ ?_)
    refine c_true rfl ?_
    refine c_seq fun _ hK104 => ?_
    refine c_region ?_
    refine o_step rfl (s_assign rfl) ?_
    refine o_nil ?_
    refine x_then (hK104 _ _ ?_)
    refine c_ret ?_
    refine x_then_ret (?_)
    exact x_ret rfl (.tmp rfl (.nil)) (rfl)

theorem outsGathers_fn (x : Int) (a : Option Addr) (c : Nat) (sc : List OpV) (hb : ∀ o ∈ sc, o.p.xs.length * 24 ≤ 140737488355328) : HL.Fn Try.prog 9 [.int .i64 x, .slice a sc.length c] (fun w => Rd Eop w (.slice a sc.length c) sc ∧ ∀ o ∈ sc, Rd Esl w o.p.v o.p.xs ∧ ∀ s ∈ o.p.xs, Rd Eb w s.v s.xs) [] (fun v _ => v = .bool true) := by
  by_cases hx : x < 0
  · exact outsGathers_neg x hx a c sc
  · exact outsGathers_pos x (by omega) a c sc hb
end Go.Proofs.Ythbnkifjplbhgaa
