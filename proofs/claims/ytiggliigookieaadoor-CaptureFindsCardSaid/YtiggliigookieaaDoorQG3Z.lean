/- Part of the proofs over this seat: see the text that holds the theorem. Conditions: each theorem bears its own. -/
import Derived.Test.YtiggliigookieaaDoorQG1
import Derived.Test.YtiggliigookieaaDoorQG2
import Derived.Test.YtiggliigookieaaDoorQW15
import Derived.Test.YtiggliigookieaaDoorQF1Z
import Derived.Test.YtiggliigookieaaDoorHlB
import Derived.Test.YtiggliigookieaaDoorRows
import Derived.ProofKit
import Derived.LaidMore
import Derived.Stop.Joined
import Derived.Lib.LaidTab
namespace Go.Proofs.YtiggliigookieaaDoor
open Go Go.HL Go.Proofs Go.Tab Go.HL.Kl Go.HL.Kl.Mc
theorem addSpans_fn (b : Nat) (cs : List Value) (sls : List (Sl Sp)) (s : Sl Sp) (oa : Option Addr) (oc : Nat) (So : Hp) (hb : cs[5]? = some (.slice oa sls.length oc)) (hN : sls.length < 400) (hO : OwnS Esl 1 30 (.slice oa sls.length oc) sls So) : HL.Fn Tryd.prog 19 [.pointer (some ⟨b, 0, none⟩), .slice s.a s.xs.length s.c] (fun _ => True) ((b, .cells cs.toArray 58 (0, 0)) :: So) (fun _ S' => ∃ (cs' : List Value) (oa' : Option Addr) (oc' : Nat) (So' : Hp), S' = (b, .cells cs'.toArray 58 (0, 0)) :: So' ∧ cs'[5]? = some (.slice oa' (sls ++ [s]).length oc') ∧ (∀ i, i ≠ 5 → cs'[i]? = cs[i]?) ∧ OwnS Esl 1 30 (.slice oa' (sls ++ [s]).length oc') (sls ++ [s]) So') := by
  refine fn_of Tryd.func19 rfl rfl rfl fun w0 hw => ?_
  have hcl : 5 < cs.length := (List.getElem?_eq_some_iff.1 hb).1
  refine c_seq fun _ hK1 => ?_
  refine c_region ?_
  refine o_step rfl (s_move rfl) ?_
  refine o_step rfl (s_nil rfl) ?_
  refine o_step rfl (s_field rfl rfl (by decide)) ?_
  refine o_step rfl (s_ld rfl (.own meA hb)) ?_
  refine o_step rfl (s_len rfl) ?_
  refine o_step rfl (s_lss_t rfl rfl (by omega)) ?_
  refine o_nil ?_
  refine x_then (hK1 _ _ ?_)
  refine c_true rfl ?_
  refine c_region ?_
  refine o_step rfl (s_move rfl) ?_
  refine o_step rfl (s_move rfl) ?_
  refine o_step rfl (s_nil rfl) ?_
  refine o_step rfl (s_field rfl rfl (by decide)) ?_
  refine o_step rfl (s_ld rfl (.own meA hb)) ?_
  refine o_step rfl (s_move rfl) ?_
  refine o_bs (E := Esl) (xs := [s]) (vs := [_]) rfl rfl rfl rfl rfl (by decide) (by decide) fun b16 S16 hS16 => ?_
  refine o_app hO (hS16.rdk hiA) rfl rfl rfl rfl (by simp only [List.length_singleton]; omega) (by simp only [List.length_singleton]; omega) rfl pkA fun a17 c17 S17 hS17 => ?_
  refine o_step rfl (s_nil rfl) ?_
  refine o_step rfl (s_field rfl rfl (by decide)) ?_
  refine o_store rfl rfl rfl upA ltA rfl ?_
  refine o_nil ?_
  refine x_sub (Sub.refl _) (H' := (b, .cells (cs.set 5 (.slice a17 (sls ++ [s]).length c17)).toArray 58 (0, 0)) :: S17) hzB ?_
  exact x_end rfl (.nil) (⟨_, _, _, _, rfl, List.getElem?_set_self hcl, fun i hi => List.getElem?_set_ne (Ne.symm hi), hS17⟩)

theorem apart_fn (b : Nat) (cs : List Value) (sls : List (Sl Sp)) (oa : Option Addr) (oc : Nat) (So Si : Hp) (hb : cs[5]? = some (.slice oa sls.length oc)) (hz : ∀ i, i < 19 → i ≠ 5 → cs[i]? = some (.slice none 0 0)) (hN : sls.length ≤ 400) (hlen : ∀ (j : Nat) (s : Sl Sp), sls[j]? = some s → s.xs.length ≤ 4294967296) (hO : OwnS Esl 1 30 (.slice oa sls.length oc) sls So) (xss0 : List (List Sp)) (hI : OwnL Esp 2 62 sls xss0 Si) : HL.Fn Tryd.prog 20 [.pointer (some ⟨b, 0, none⟩)] (fun _ => True) ((b, .cells cs.toArray 58 (0, 0)) :: (So ++ Si)) (fun v S' => v = .bool true ∧ S' = (b, .cells cs.toArray 58 (0, 0)) :: So) := by
  refine fn_of Tryd.func20 rfl rfl rfl fun w0 hw => ?_
  refine c_seq fun _ hK1 => ?_
  refine c_region ?_
  refine o_step rfl (s_assign rfl) ?_
  refine o_nil ?_
  refine x_then (hK1 _ _ ?_)
  refine c_seq fun _ hK2 => ?_
  refine c_region ?_
  refine o_step rfl (s_assign rfl) ?_
  refine o_nil ?_
  refine x_then (hK2 _ _ ?_)
  refine c_seq fun _ hK3 => ?_
  refine c_seq fun _ hK4 => ?_
  refine c_region ?_
  refine o_step rfl (s_move rfl) ?_
  refine o_callP (apartBytes0_fn b cs (hz 0 (by decide) (by decide))) rfl rfl rfl (fun w st => (RdPK.own (l := cs) meA).out w st) (fun v5 hv5 => ?_)
  subst hv5
  refine o_step rfl (s_not rfl) ?_
  refine o_nil ?_
  refine x_then (hK4 _ _ ?_)
  refine c_false rfl ?_
  refine c_skip ?_
  refine x_then (hK3 _ _ ?_)
  refine c_seq fun _ hK5 => ?_
  refine c_seq fun _ hK6 => ?_
  refine c_region ?_
  refine o_step rfl (s_move rfl) ?_
  refine o_callP (apartInts0_fn b cs (hz 1 (by decide) (by decide))) rfl rfl rfl (fun w st => (RdPK.own (l := cs) meA).out w st) (fun v8 hv8 => ?_)
  subst hv8
  refine o_step rfl (s_not rfl) ?_
  refine o_nil ?_
  refine x_then (hK6 _ _ ?_)
  refine c_false rfl ?_
  refine c_skip ?_
  refine x_then (hK5 _ _ ?_)
  refine c_seq fun _ hK7 => ?_
  refine c_seq fun _ hK8 => ?_
  refine c_region ?_
  refine o_step rfl (s_move rfl) ?_
  refine o_callP (apartBools0_fn b cs (hz 2 (by decide) (by decide))) rfl rfl rfl (fun w st => (RdPK.own (l := cs) meA).out w st) (fun v11 hv11 => ?_)
  subst hv11
  refine o_step rfl (s_not rfl) ?_
  refine o_nil ?_
  refine x_then (hK8 _ _ ?_)
  refine c_false rfl ?_
  refine c_skip ?_
  refine x_then (hK7 _ _ ?_)
  refine c_seq fun _ hK9 => ?_
  refine c_seq fun _ hK10 => ?_
  refine c_region ?_
  refine o_step rfl (s_move rfl) ?_
  refine o_callP (apartTexts0_fn b cs (hz 3 (by decide) (by decide))) rfl rfl rfl (fun w st => (RdPK.own (l := cs) meA).out w st) (fun v14 hv14 => ?_)
  subst hv14
  refine o_step rfl (s_not rfl) ?_
  refine o_nil ?_
  refine x_then (hK10 _ _ ?_)
  refine c_false rfl ?_
  refine c_skip ?_
  refine x_then (hK9 _ _ ?_)
  refine c_seq fun _ hK11 => ?_
  refine c_seq fun _ hK12 => ?_
  refine c_region ?_
  refine o_step rfl (s_move rfl) ?_
  refine o_callP (apartMarks0_fn b cs (hz 4 (by decide) (by decide))) rfl rfl rfl (fun w st => (RdPK.own (l := cs) meA).out w st) (fun v17 hv17 => ?_)
  subst hv17
  refine o_step rfl (s_not rfl) ?_
  refine o_nil ?_
  refine x_then (hK12 _ _ ?_)
  refine c_false rfl ?_
  refine c_skip ?_
  refine x_then (hK11 _ _ ?_)
  refine c_seq fun _ hK13 => ?_
  refine c_seq fun _ hK14 => ?_
  refine c_region ?_
  refine o_step rfl (s_move rfl) ?_
  refine o_call (apartSpans_fn b cs sls oa oc So Si hb hN hlen hO xss0 hI) rfl rfl rfl pkA (fun _ _ => trivial) (fun v20 S20 ⟨hv20, hS20⟩ => ?_)
  subst hv20
  subst hS20
  refine o_step rfl (s_not rfl) ?_
  refine o_nil ?_
  refine x_then (hK14 _ _ ?_)
  refine c_false rfl ?_
  refine c_skip ?_
  refine x_then (hK13 _ _ ?_)
  refine c_seq fun _ hK15 => ?_
  refine c_seq fun _ hK16 => ?_
  refine c_region ?_
  refine o_step rfl (s_move rfl) ?_
  refine o_callP (apartRuns0_fn b cs (hz 6 (by decide) (by decide))) rfl rfl rfl (fun w st => (RdPK.own (l := cs) meA).out w st) (fun v23 hv23 => ?_)
  subst hv23
  refine o_step rfl (s_not rfl) ?_
  refine o_nil ?_
  refine x_then (hK16 _ _ ?_)
  refine c_false rfl ?_
  refine c_skip ?_
  refine x_then (hK15 _ _ ?_)
  refine c_seq fun _ hK17 => ?_
  refine c_seq fun _ hK18 => ?_
  refine c_region ?_
  refine o_step rfl (s_move rfl) ?_
  refine o_callP (apartClasses0_fn b cs (hz 7 (by decide) (by decide))) rfl rfl rfl (fun w st => (RdPK.own (l := cs) meA).out w st) (fun v26 hv26 => ?_)
  subst hv26
  refine o_step rfl (s_not rfl) ?_
  refine o_nil ?_
  refine x_then (hK18 _ _ ?_)
  refine c_false rfl ?_
  refine c_skip ?_
  refine x_then (hK17 _ _ ?_)
  refine c_seq fun _ hK19 => ?_
  refine c_seq fun _ hK20 => ?_
  refine c_region ?_
  refine o_step rfl (s_move rfl) ?_
  refine o_callP (apartNodes0_fn b cs (hz 8 (by decide) (by decide))) rfl rfl rfl (fun w st => (RdPK.own (l := cs) meA).out w st) (fun v29 hv29 => ?_)
  subst hv29
  refine o_step rfl (s_not rfl) ?_
  refine o_nil ?_
  refine x_then (hK20 _ _ ?_)
  refine c_false rfl ?_
  refine c_skip ?_
  refine x_then (hK19 _ _ ?_)
  refine c_seq fun _ hK21 => ?_
  refine c_seq fun _ hK22 => ?_
  refine c_region ?_
  refine o_step rfl (s_move rfl) ?_
  refine o_callP (apartInstrs0_fn b cs (hz 9 (by decide) (by decide))) rfl rfl rfl (fun w st => (RdPK.own (l := cs) meA).out w st) (fun v32 hv32 => ?_)
  subst hv32
  refine o_step rfl (s_not rfl) ?_
  refine o_nil ?_
  refine x_then (hK22 _ _ ?_)
  refine c_false rfl ?_
  refine c_skip ?_
  refine x_then (hK21 _ _ ?_)
  refine c_seq fun _ hK23 => ?_
  refine c_seq fun _ hK24 => ?_
  refine c_region ?_
  refine o_step rfl (s_move rfl) ?_
  refine o_callP (apartFaults0_fn b cs (hz 10 (by decide) (by decide))) rfl rfl rfl (fun w st => (RdPK.own (l := cs) meA).out w st) (fun v35 hv35 => ?_)
  subst hv35
  refine o_step rfl (s_not rfl) ?_
  refine o_nil ?_
  refine x_then (hK24 _ _ ?_)
  refine c_false rfl ?_
  refine c_skip ?_
  refine x_then (hK23 _ _ ?_)
  refine c_seq fun _ hK25 => ?_
  refine c_seq fun _ hK26 => ?_
  refine c_region ?_
  refine o_step rfl (s_move rfl) ?_
  refine o_callP (apartNotes0_fn b cs (hz 11 (by decide) (by decide))) rfl rfl rfl (fun w st => (RdPK.own (l := cs) meA).out w st) (fun v38 hv38 => ?_)
  subst hv38
  refine o_step rfl (s_not rfl) ?_
  refine o_nil ?_
  refine x_then (hK26 _ _ ?_)
  refine c_false rfl ?_
  refine c_skip ?_
  refine x_then (hK25 _ _ ?_)
  refine c_seq fun _ hK27 => ?_
  refine c_seq fun _ hK28 => ?_
  refine c_region ?_
  refine o_step rfl (s_move rfl) ?_
  refine o_callP (apartParts0_fn b cs (hz 12 (by decide) (by decide))) rfl rfl rfl (fun w st => (RdPK.own (l := cs) meA).out w st) (fun v41 hv41 => ?_)
  subst hv41
  refine o_step rfl (s_not rfl) ?_
  refine o_nil ?_
  refine x_then (hK28 _ _ ?_)
  refine c_false rfl ?_
  refine c_skip ?_
  refine x_then (hK27 _ _ ?_)
  refine c_seq fun _ hK29 => ?_
  refine c_seq fun _ hK30 => ?_
  refine c_region ?_
  refine o_step rfl (s_move rfl) ?_
  refine o_callP (apartRows0_fn b cs (hz 13 (by decide) (by decide))) rfl rfl rfl (fun w st => (RdPK.own (l := cs) meA).out w st) (fun v44 hv44 => ?_)
  subst hv44
  refine o_step rfl (s_not rfl) ?_
  refine o_nil ?_
  refine x_then (hK30 _ _ ?_)
  refine c_false rfl ?_
  refine c_skip ?_
  refine x_then (hK29 _ _ ?_)
  refine c_seq fun _ hK31 => ?_
  refine c_seq fun _ hK32 => ?_
  refine c_region ?_
  refine o_step rfl (s_move rfl) ?_
  refine o_callP (apartIntss0_fn b cs (hz 14 (by decide) (by decide))) rfl rfl rfl (fun w st => (RdPK.own (l := cs) meA).out w st) (fun v47 hv47 => ?_)
  subst hv47
  refine o_step rfl (s_not rfl) ?_
  refine o_nil ?_
  refine x_then (hK32 _ _ ?_)
  refine c_false rfl ?_
  refine c_skip ?_
  refine x_then (hK31 _ _ ?_)
  refine c_seq fun _ hK33 => ?_
  refine c_seq fun _ hK34 => ?_
  refine c_region ?_
  refine o_step rfl (s_move rfl) ?_
  refine o_callP (apartSpanss0_fn b cs (hz 15 (by decide) (by decide))) rfl rfl rfl (fun w st => (RdPK.own (l := cs) meA).out w st) (fun v50 hv50 => ?_)
  subst hv50
  refine o_step rfl (s_not rfl) ?_
  refine o_nil ?_
  refine x_then (hK34 _ _ ?_)
  refine c_false rfl ?_
  refine c_skip ?_
  refine x_then (hK33 _ _ ?_)
  refine c_seq fun _ hK35 => ?_
  refine c_seq fun _ hK36 => ?_
  refine c_region ?_
  refine o_step rfl (s_move rfl) ?_
  refine o_callP (apartPieces0_fn b cs (hz 16 (by decide) (by decide))) rfl rfl rfl (fun w st => (RdPK.own (l := cs) meA).out w st) (fun v53 hv53 => ?_)
  subst hv53
  refine o_step rfl (s_not rfl) ?_
  refine o_nil ?_
  refine x_then (hK36 _ _ ?_)
  refine c_false rfl ?_
  refine c_skip ?_
  refine x_then (hK35 _ _ ?_)
  refine c_seq fun _ hK37 => ?_
  refine c_seq fun _ hK38 => ?_
  refine c_region ?_
  refine o_step rfl (s_move rfl) ?_
  refine o_callP (apartFiles0_fn b cs (hz 17 (by decide) (by decide))) rfl rfl rfl (fun w st => (RdPK.own (l := cs) meA).out w st) (fun v56 hv56 => ?_)
  subst hv56
  refine o_step rfl (s_not rfl) ?_
  refine o_nil ?_
  refine x_then (hK38 _ _ ?_)
  refine c_false rfl ?_
  refine c_skip ?_
  refine x_then (hK37 _ _ ?_)
  refine c_seq fun _ hK39 => ?_
  refine c_seq fun _ hK40 => ?_
  refine c_region ?_
  refine o_step rfl (s_move rfl) ?_
  refine o_callP (apartCmds0_fn b cs (hz 18 (by decide) (by decide))) rfl rfl rfl (fun w st => (RdPK.own (l := cs) meA).out w st) (fun v59 hv59 => ?_)
  subst hv59
  refine o_step rfl (s_not rfl) ?_
  refine o_nil ?_
  refine x_then (hK40 _ _ ?_)
  refine c_false rfl ?_
  refine c_skip ?_
  refine x_then (hK39 _ _ ?_)
  refine c_seq fun _ hK41 => ?_
  refine c_region ?_
  refine o_step rfl (s_move rfl) ?_
  refine o_step rfl (s_assign rfl) ?_
  refine o_nil ?_
  refine x_then (hK41 _ _ ?_)
  refine c_ret ?_
  refine ?_
  refine x_sub (Sub.refl _) (H' := (b, .cells cs.toArray 58 (0, 0)) :: So) hzB ?_
  exact x_ret rfl (.tmp rfl (.nil)) (⟨rfl, rfl⟩)
end Go.Proofs.YtiggliigookieaaDoor

/- Part of the proofs over this seat: see the text that holds the theorem. Conditions: each theorem bears its own. -/
namespace Go.Proofs.YtiggliigookieaaDoor
open Go Go.HL Go.Proofs Go.HL.Kl Go.HL.Kl.Mc Go.HL.Kl.Mc.AskE
set_option maxHeartbeats 4000000 in
theorem captureFinds_fn (ra : Option Addr) (rc : Nat) (re : List Nd) (hre : ∀ x ∈ re, -128 ≤ x.op ∧ x.op < 128) (ta : Option Addr) (tc : Nat) (w : List UInt8) (f : Int) : HL.Fn Tryd.prog 3 [.slice ra re.length rc, .slice ta w.length tc, .int .i64 f] (fun W => Rd En W (.slice ra re.length rc) re ∧ Rd Eb W (.slice ta w.length tc) w) [] (fun v _ => v = .bool true) := by
  refine fn_of Tryd.func3 rfl rfl rfl fun w0 hw => ?_
  have hsl := hw.1.sl
  have hbl := hsl.le
  refine c_seq fun _ hK1 => ?_
  refine c_region ?_
  refine o_step rfl (s_assign rfl) ?_
  refine o_nil ?_
  refine x_then (hK1 _ _ ?_)
  refine c_seq fun _ hK2 => ?_
  refine c_region ?_
  refine o_callP (works_fn) rfl rfl rfl (fun _ _ => trivial) (fun v23 hv23 => ?_)
  subst hv23
  refine o_step rfl (s_assign rfl) ?_
  refine o_nil ?_
  refine x_then (hK2 _ _ ?_)
  refine c_seq fun _ hK3 => ?_
  refine c_seq fun _ hK4 => ?_
  refine c_region ?_
  refine o_step rfl (s_move rfl) ?_
  refine o_step rfl (s_len rfl) ?_
  refine o_callP (long_fn re.length) rfl rfl rfl (fun _ _ => trivial) (fun v26 hv26 => ?_)
  by_cases hlg : (re.length : Int) > 2147483647
  ·
   rw [decide_eq_true hlg] at hv26
   subst hv26
   refine o_step rfl (s_move rfl) ?_
   refine o_no rfl rfl rfl rfl ?_
   refine o_no rfl rfl rfl rfl ?_
   refine o_step rfl (s_pick_t rfl rfl) ?_
   refine o_step rfl (s_move rfl) ?_
   refine o_no rfl rfl rfl rfl ?_
   refine o_no rfl rfl rfl rfl ?_
   refine o_no rfl rfl rfl rfl ?_
   refine o_step rfl (s_pick_t rfl rfl) ?_
   refine o_nil ?_
   refine x_then (hK4 _ _ ?_)
   refine c_true rfl ?_
   refine c_seq fun _ hK5 => ?_
   refine c_region ?_
   refine o_step rfl (s_move rfl) ?_
   refine o_step rfl (s_assign rfl) ?_
   refine o_nil ?_
   refine x_then (hK5 _ _ ?_)
   refine c_ret ?_
   refine x_then_ret (?_)
   exact x_ret rfl (.tmp rfl (.nil)) (rfl)
  ·
   rw [decide_eq_false hlg] at hv26
   subst hv26
   refine o_step rfl (s_move rfl) ?_
   refine o_yes rfl rfl ?_
   refine o_step rfl (s_move rfl) ?_
   refine o_yes rfl rfl ?_
   refine o_callP (beyond_fn ra rc re hre) rfl rfl rfl (fun w2 st => (RdK.old0 hw.1).out w2 st) (fun v29 ⟨b29, hv29⟩ => ?_)
   subst hv29
   cases b29
   ·
    refine o_step rfl (s_pick_f rfl rfl) ?_
    refine o_step rfl (s_move rfl) ?_
    refine o_yes rfl rfl ?_
    refine o_step rfl (s_move rfl) ?_
    refine o_yes rfl rfl ?_
    refine o_step rfl (s_len rfl) ?_
    refine o_yes rfl rfl ?_
    by_cases htl : (w.length : Int) > 1024
    ·
     refine o_step rfl (step_cast (v' := .bool true) (s_gtr rfl rfl) (by rw [decide_eq_true (by omega)])) ?_
     refine o_step rfl (s_pick_f rfl rfl) ?_
     refine o_nil ?_
     refine x_then (hK4 _ _ ?_)
     refine c_true rfl ?_
     refine c_seq fun _ hK6 => ?_
     refine c_region ?_
     refine o_step rfl (s_move rfl) ?_
     refine o_step rfl (s_assign rfl) ?_
     refine o_nil ?_
     refine x_then (hK6 _ _ ?_)
     refine c_ret ?_
     refine x_then_ret (?_)
     exact x_ret rfl (.tmp rfl (.nil)) (rfl)
    ·
     refine o_step rfl (step_cast (v' := .bool false) (s_gtr rfl rfl) (by rw [decide_eq_false (by omega)])) ?_
     refine o_step rfl (s_pick_f rfl rfl) ?_
     refine o_nil ?_
     refine x_then (hK4 _ _ ?_)
     refine c_false rfl ?_
     refine c_skip ?_
     refine x_then (hK3 _ _ ?_)
     refine c_seq fun _ hK7 => ?_
     refine c_region ?_
     refine o_step rfl (s_move rfl) ?_
     refine o_step rfl (s_move rfl) ?_
     refine o_call (short_fn ra rc re hre ta tc w (by omega) 4 33554432 (by decide) (by decide)) rfl rfl rfl (by exact .nil) (fun w2 st => ⟨(RdK.old0 hw.1).out w2 st, (RdK.old0 hw.2).out w2 st⟩) (fun v39 S39 ⟨n, aS, cS, hv39, hS39⟩ => ?_)
     subst hv39
     have hwn : (w.take n).length ≤ 1024 := by rw [List.length_take]; omega
     refine o_step rfl (s_assign rfl) ?_
     refine o_nil ?_
     refine x_then (hK7 _ _ ?_)
     refine c_seq fun _ hK8 => ?_
     refine c_region ?_
     refine o_step rfl (s_move rfl) ?_
     refine o_call (wideNodes_fn ra rc re (by omega)) rfl rfl rfl (by exact .nil) (fun w2 st => (RdK.old0 hw.1).out w2 st) (fun v41 S41 ⟨aN, hv41, hSN⟩ => ?_)
     subst hv41
     have hin := hSN.pre re.length (by rw [wdl_len]; omega)
     rw [wdl_take] at hin
     refine o_step rfl (s_assign rfl) ?_
     refine o_nil ?_
     refine x_then (hK8 _ _ ?_)
     refine c_seq fun _ hK9 => ?_
     refine c_region ?_
     refine o_step rfl (s_move rfl) ?_
     refine o_call (wideBytes_fn aS cS (w.take n) (by omega)) rfl rfl rfl (by exact .nil) (fun w2 st => (hS39.rdk hiA).out w2 st) (fun v43 S43 ⟨aB, hv43, hSB⟩ => ?_)
     subst hv43
     have hbn := hSB.pre (w.take n).length (by rw [wdl_len]; omega)
     rw [wdl_take] at hbn
     refine o_step rfl (s_assign rfl) ?_
     refine o_nil ?_
     refine x_then (hK9 _ _ ?_)
     refine c_seq fun _ hK10 => ?_
     refine c_region ?_
     refine o_step rfl (s_move rfl) ?_
     refine o_step rfl (s_move rfl) ?_
     refine o_step rfl (s_move rfl) ?_
     refine o_call (find_fn aN _ re hre aB _ (w.take n) (by omega) f) rfl rfl rfl (by exact .nil) (fun w2 st => ⟨(hin.rdk hiA).out w2 st, (hbn.rdk hiA).out w2 st⟩) (fun v48 S48 hv48 => ?_)
     obtain ⟨b48, L48, a48, cc48, hR48, rfl, hO48⟩ := hv48.res
     have hLl := hR48.len
     refine o_step rfl (s_move rfl) ?_
     refine o_step rfl (s_extract rfl rfl) ?_
     refine o_step rfl (s_extract rfl rfl) ?_
     refine o_step rfl (s_assign rfl) ?_
     refine o_step rfl (s_assign rfl) ?_
     refine o_nil ?_
     refine x_then (hK10 _ _ ?_)
     refine c_seq fun _ hK11 => ?_
     refine c_region ?_
     refine o_step rfl (s_move rfl) ?_
     refine o_step rfl (s_move rfl) ?_
     refine o_step rfl (s_move rfl) ?_
     refine o_call (find_fn aN _ re hre aB _ (w.take n) (by omega) f) rfl rfl rfl (by exact .nil) (fun w2 st => ⟨(hin.rdk hiA).out w2 st, (hbn.rdk hiA).out w2 st⟩) (fun v55 S55 hv55 => ?_)
     obtain ⟨b55, L55, a55, cc55, hR55, rfl, hO55⟩ := hv55.res
     obtain ⟨e1, e2⟩ := hR48.uniq hR55
     subst e1
     subst e2
     refine o_step rfl (s_move rfl) ?_
     refine o_step rfl (s_extract rfl rfl) ?_
     refine o_step rfl (s_extract rfl rfl) ?_
     refine o_step rfl (s_assign rfl) ?_
     refine o_step rfl (s_assign rfl) ?_
     refine o_nil ?_
     refine x_then (hK11 _ _ ?_)
     refine c_seq fun _ hK12 => ?_
     refine c_region ?_
     refine o_step rfl (s_move rfl) ?_
     refine o_step rfl (s_move rfl) ?_
     refine o_step rfl (s_move rfl) ?_
     refine o_call (rFind_fn ra rc re hre aS cS (w.take n) (by omega) f) rfl rfl rfl (by exact .nil) (fun w2 st => ⟨(RdK.old0 hw.1).out w2 st, (hS39.rdk hiA).out w2 st⟩) (fun v62 S62 hv62 => ?_)
     obtain ⟨b62, L62, a62, cc62, hR62, rfl, hO62⟩ := hv62.res
     obtain ⟨e1, e2⟩ := hR48.uniq hR62
     subst e1
     subst e2
     refine o_step rfl (s_move rfl) ?_
     refine o_step rfl (s_extract rfl rfl) ?_
     refine o_step rfl (s_extract rfl rfl) ?_
     refine o_step rfl (s_assign rfl) ?_
     refine o_step rfl (s_assign rfl) ?_
     refine o_nil ?_
     refine x_then (hK12 _ _ ?_)
     refine c_seq fun _ hK13 => ?_
     refine c_region ?_
     refine o_step rfl (s_move rfl) ?_
     refine o_step rfl (s_move rfl) ?_
     refine o_callP (eqNodes_fn aN ra _ rc re re) rfl rfl rfl (fun w2 st => ⟨(hin.rdk hiA).out w2 st, (RdK.old0 hw.1).out w2 st⟩) (fun v67 hv67 => ?_)
     rw [decide_eq_true rfl] at hv67
     subst hv67
     refine o_step rfl (s_move rfl) ?_
     refine o_yes rfl rfl ?_
     refine o_step rfl (s_move rfl) ?_
     refine o_yes rfl rfl ?_
     refine o_callP (spareNodes_fn aN _ re (by omega)) rfl rfl rfl (fun w2 st => (hSN.rdk hiA).out w2 st) (fun v70 hv70 => ?_)
     subst hv70
     refine o_step rfl (s_pick_t rfl rfl) ?_
     refine o_step rfl (s_move rfl) ?_
     refine o_yes rfl rfl ?_
     refine o_step rfl (s_move rfl) ?_
     refine o_yes rfl rfl ?_
     refine o_step rfl (s_move rfl) ?_
     refine o_yes rfl rfl ?_
     refine o_callP (eqBytes_fn aB aS _ cS (w.take n) (w.take n)) rfl rfl rfl (fun w2 st => ⟨(hbn.rdk hiA).out w2 st, (hS39.rdk hiA).out w2 st⟩) (fun v75 hv75 => ?_)
     rw [decide_eq_true rfl] at hv75
     subst hv75
     refine o_step rfl (s_pick_t rfl rfl) ?_
     refine o_step rfl (s_move rfl) ?_
     refine o_yes rfl rfl ?_
     refine o_step rfl (s_move rfl) ?_
     refine o_yes rfl rfl ?_
     refine o_callP (spareBytes_fn aB _ (w.take n) (by omega)) rfl rfl rfl (fun w2 st => (hSB.rdk hiA).out w2 st) (fun v79 hv79 => ?_)
     subst hv79
     refine o_step rfl (s_pick_t rfl rfl) ?_
     refine o_step rfl (s_assign rfl) ?_
     refine o_nil ?_
     refine x_then (hK13 _ _ ?_)
     refine c_seq fun _ hK14 => ?_
     refine c_seq fun _ hK15 => ?_
     refine c_region ?_
     refine o_step rfl (s_move rfl) ?_
     refine o_step rfl (s_not rfl) ?_
     refine o_step rfl (s_move rfl) ?_
     refine o_yes rfl rfl ?_
     refine o_step rfl (s_move rfl) ?_
     refine o_yes rfl rfl ?_
     refine o_step rfl (s_not rfl) ?_
     refine o_step rfl (s_pick_f rfl rfl) ?_
     refine o_step rfl (s_move rfl) ?_
     refine o_yes rfl rfl ?_
     refine o_step rfl (s_move rfl) ?_
     refine o_yes rfl rfl ?_
     refine o_step rfl (s_move rfl) ?_
     refine o_yes rfl rfl ?_
     refine o_step rfl (step_cast (v' := .bool false) (s_neq_bool rfl rfl) (by simp)) ?_
     refine o_step rfl (s_pick_f rfl rfl) ?_
     refine o_step rfl (s_move rfl) ?_
     refine o_yes rfl rfl ?_
     refine o_step rfl (s_move rfl) ?_
     refine o_yes rfl rfl ?_
     refine o_step rfl (s_move rfl) ?_
     refine o_yes rfl rfl ?_
     refine o_step rfl (step_cast (v' := .bool false) (s_neq_bool rfl rfl) (by simp)) ?_
     refine o_step rfl (s_pick_f rfl rfl) ?_
     refine o_step rfl (s_move rfl) ?_
     refine o_yes rfl rfl ?_
     refine o_step rfl (s_move rfl) ?_
     refine o_yes rfl rfl ?_
     refine o_step rfl (s_move rfl) ?_
     refine o_yes rfl rfl ?_
     refine o_callP (eqSpans_fn a48 a62 cc48 cc62 L48 L48) rfl rfl rfl (fun w2 st => ⟨(hO48.rdk hiA).out w2 st, (hO62.rdk hiA).out w2 st⟩) (fun v100 hv100 => ?_)
     rw [decide_eq_true rfl] at hv100
     subst hv100
     refine o_yes rfl rfl ?_
     refine o_step rfl (s_not rfl) ?_
     refine o_step rfl (s_pick_f rfl rfl) ?_
     refine o_step rfl (s_move rfl) ?_
     refine o_yes rfl rfl ?_
     refine o_step rfl (s_move rfl) ?_
     refine o_yes rfl rfl ?_
     refine o_step rfl (s_move rfl) ?_
     refine o_yes rfl rfl ?_
     refine o_callP (eqSpans_fn a55 a62 cc55 cc62 L48 L48) rfl rfl rfl (fun w2 st => ⟨(hO55.rdk hiA).out w2 st, (hO62.rdk hiA).out w2 st⟩) (fun v106 hv106 => ?_)
     rw [decide_eq_true rfl] at hv106
     subst hv106
     refine o_yes rfl rfl ?_
     refine o_step rfl (s_not rfl) ?_
     refine o_step rfl (s_pick_f rfl rfl) ?_
     refine o_nil ?_
     refine x_then (hK15 _ _ ?_)
     refine c_false rfl ?_
     refine c_skip ?_
     refine x_then (hK14 _ _ ?_)
     refine c_seq fun _ hK16 => ?_
     refine c_seq fun _ hK17 => ?_
     refine c_region ?_
     refine o_step rfl (s_assign rfl) ?_
     refine o_nil ?_
     refine x_then (hK17 _ _ ?_)
     refine c_block ?_
     refine c_loop3 (fun (i : Nat) (l : List UInt8) (S : Hp) => i ≤ (w.take n).length ∧ l.length = (w.take n).length ∧ OwnS Eb 1 5 (.slice aB (w.take n).length ((w.take n).length + 64)) l S) (fun (i : Nat) (l : List UInt8) (S : Hp) => [(17, .int .i64 i)]) [(0, _), (2, _), (6, _), (8, _), (9, _), (10, _), (12, _), (14, _), (15, _)] (fun (i : Nat) (l : List UInt8) (S : Hp) => S ++ (S55 ++ (S48 ++ (S41 ++ S39)))) (fun (i : Nat) (l : List UInt8) (S : Hp) => (w.take n).length - i) 0 _ _ ⟨by omega, rfl, hbn⟩ sbA sbA hzB ?_
     rintro i l S ⟨hi, hll, hS⟩
     have hSs := hS.sl
     rw [hll] at hSs
     refine c_seq fun _ hK18 => ?_
     refine c_seq fun _ hK19 => ?_
     refine c_region ?_
     refine o_step rfl (s_move rfl) ?_
     refine o_step rfl (s_move rfl) ?_
     refine o_step rfl (s_len rfl) ?_
     by_cases hil : (i : Int) < (w.take n).length
     ·
      obtain ⟨x, hx⟩ : ∃ x, l[i]? = some x := ⟨_, List.getElem?_eq_getElem (by omega)⟩
      refine o_step rfl (step_cast (v' := .bool true) (s_lss rfl rfl) (by rw [decide_eq_true (by omega)])) ?_
      refine o_nil ?_
      refine x_then (hK19 _ _ ?_)
      refine c_true rfl ?_
      refine c_skip ?_
      refine x_then (hK18 _ _ ?_)
      refine c_seq fun _ hK20 => ?_
      refine c_block ?_
      refine c_region ?_
      refine o_step rfl (s_move rfl) ?_
      refine o_step rfl (s_move rfl) ?_
      refine o_step rfl (s_move rfl) ?_
      refine o_step rfl (s_move rfl) ?_
      refine o_step rfl (s_idx rfl rfl hSs (by omega)) ?_
      refine o_step rfl (s_ld rfl ((hS.rdk hiA).ld i 0 hx rfl (by decide) (by omega))) ?_
      refine o_step rfl (step_cast (v' := .int .u8 (xor3 x).toNat) (s_xor rfl rfl) (by rw [xor3, ← wrap_u8]; rfl)) ?_
      refine o_step rfl (s_idx rfl rfl hSs (by omega)) ?_
      refine o_stS1 i (xor3 x) hS pkA rfl rfl rfl (by omega) (by rw [Int.toNat_natCast, Nat.mul_one]) fun S' hS' => ?_
      refine o_nil ?_
      refine x_block ?_
      refine x_then (hK20 _ _ ?_)
      refine c_region ?_
      refine o_step rfl (s_move rfl) ?_
      refine o_step rfl (s_add rfl rfl (by omega)) ?_
      refine o_step rfl (s_assign rfl) ?_
      refine o_nil ?_
      exact x_then (x_inv (i + 1, _, _) ⟨by omega, by rw [List.length_set]; exact hll, hS'⟩ (by first | omega | (dsimp only; omega)) sbA hzB)
     ·
      refine o_step rfl (step_cast (v' := .bool false) (s_lss rfl rfl) (by rw [decide_eq_false (by omega)])) ?_
      refine o_nil ?_
      refine x_then (hK19 _ _ ?_)
      refine c_false rfl ?_
      refine c_exit ?_
      refine x_then_exit ?_
      refine x_then_exit ?_
      refine x_block_exit ?_
      refine x_then (hK16 _ _ ?_)
      refine c_seq fun _ hK21 => ?_
      refine c_region ?_
      refine o_step rfl (s_move rfl) ?_
      refine o_call (copyBytes_fn aB _ l (w.take n).length hll (by omega)) rfl rfl rfl (by exact .nil) (fun w2 st => (hS.rdk hiA).out w2 st) (fun v124 S124 ⟨a124, c124, hv124, hS124⟩ => ?_)
      subst hv124
      refine o_step rfl (s_assign rfl) ?_
      refine o_nil ?_
      refine x_then (hK21 _ _ ?_)
      refine c_seq fun _ hK22 => ?_
      refine c_region ?_
      refine o_step rfl (s_move rfl) ?_
      refine o_step rfl (s_move rfl) ?_
      refine o_step rfl (s_move rfl) ?_
      have hc129 := find_fn aN (re.length + 64) re hre aB ((w.take n).length + 64) l (by omega) f
      rw [hll] at hc129
      refine o_call (hc129) rfl rfl rfl (by exact .nil) (fun w2 st => ⟨(hin.rdk hiA).out w2 st, (hS.rdk hiA).out w2 st⟩) (fun v129 S129 hv129 => ?_)
      obtain ⟨b129, L129, a129, cc129, hR129, rfl, hO129⟩ := hv129.res
      have hLl2 := hR129.len
      refine o_step rfl (s_move rfl) ?_
      refine o_step rfl (s_extract rfl rfl) ?_
      refine o_step rfl (s_extract rfl rfl) ?_
      refine o_step rfl (s_assign rfl) ?_
      refine o_step rfl (s_assign rfl) ?_
      refine o_nil ?_
      refine x_then (hK22 _ _ ?_)
      refine c_seq fun _ hK23 => ?_
      refine c_region ?_
      refine o_step rfl (s_move rfl) ?_
      refine o_step rfl (s_move rfl) ?_
      refine o_step rfl (s_move rfl) ?_
      refine o_call (rFind_fn ra rc re hre a124 c124 l (by omega) f) rfl rfl rfl (by exact .nil) (fun w2 st => ⟨(RdK.old0 hw.1).out w2 st, (hS124.rdk hiA).out w2 st⟩) (fun v136 S136 hv136 => ?_)
      obtain ⟨b136, L136, a136, cc136, hR136, rfl, hO136⟩ := hv136.res
      obtain ⟨e1, e2⟩ := hR129.uniq hR136
      subst e1
      subst e2
      refine o_step rfl (s_move rfl) ?_
      refine o_step rfl (s_extract rfl rfl) ?_
      refine o_step rfl (s_extract rfl rfl) ?_
      refine o_step rfl (s_assign rfl) ?_
      refine o_step rfl (s_assign rfl) ?_
      refine o_nil ?_
      refine x_then (hK23 _ _ ?_)
      refine c_seq fun _ hK24 => ?_
      refine c_region ?_
      refine o_step rfl (s_move rfl) ?_
      refine o_step rfl (s_move rfl) ?_
      refine o_step rfl (step_cast (v' := .bool true) (s_eql_bool rfl rfl) (by rw [decide_eq_true rfl])) ?_
      refine o_step rfl (s_move rfl) ?_
      refine o_yes rfl rfl ?_
      refine o_step rfl (s_move rfl) ?_
      refine o_yes rfl rfl ?_
      refine o_step rfl (s_move rfl) ?_
      refine o_yes rfl rfl ?_
      refine o_callP (eqSpans_fn a129 a136 cc129 cc136 L129 L129) rfl rfl rfl (fun w2 st => ⟨(hO129.rdk hiA).out w2 st, (hO136.rdk hiA).out w2 st⟩) (fun v145 hv145 => ?_)
      rw [decide_eq_true rfl] at hv145
      subst hv145
      refine o_step rfl (s_pick_t rfl rfl) ?_
      refine o_step rfl (s_assign rfl) ?_
      refine o_nil ?_
      refine x_then (hK24 _ _ ?_)
      refine c_seq fun _ hK25 => ?_
      refine c_region ?_
      refine o_step rfl (step_cast (v' := .agg (List.replicate 19 (Value.slice none 0 0)).toArray) (s_build (cs := [_, _, _, _, _, _, _, _, _, _, _, _, _, _, _, _, _, _, _]) (vs := []) rfl rfl .nil) rfl) ?_
      refine o_box rfl rfl rfl fun b148 => ?_
      refine o_step rfl (s_assign rfl) ?_
      refine o_nil ?_
      refine x_then (hK25 _ _ ?_)
      refine c_seq fun _ hK26 => ?_
      refine c_region ?_
      refine o_step rfl (s_move rfl) ?_
      refine o_step rfl (s_move rfl) ?_
      have hz0 : ∀ i, i < 19 → i ≠ 5 → (List.replicate 19 (Value.slice none 0 0))[i]? = some (.slice none 0 0) := fun i h1 _ => by rw [List.getElem?_replicate, if_pos h1]
      refine o_call (addSpans_fn b148 (List.replicate 19 (Value.slice none 0 0)) [] (⟨a48, cc48, L48⟩ : Sl Sp) none 0 [] (by rfl) (by simp) .nil) rfl rfl rfl pkA (fun _ _ => trivial) (fun v151 S151 ⟨cs151, oa151, oc151, So151, hv151, hb151, hc151, hS151⟩ => ?_)
      subst hv151
      have hz151 := fun i h1 h2 => (hc151 i h2).trans (hz0 i h1 h2)
      refine o_nil ?_
      refine x_then (hK26 _ _ ?_)
      refine c_seq fun _ hK27 => ?_
      refine c_region ?_
      refine o_step rfl (s_move rfl) ?_
      refine o_step rfl (s_move rfl) ?_
      refine o_call (addSpans_fn b148 cs151 _ (⟨a55, cc55, L48⟩ : Sl Sp) _ _ _ hb151 (by simp) hS151) rfl rfl rfl pkA (fun _ _ => trivial) (fun v154 S154 ⟨cs154, oa154, oc154, So154, hv154, hb154, hc154, hS154⟩ => ?_)
      subst hv154
      have hz154 := fun i h1 h2 => (hc154 i h2).trans (hz151 i h1 h2)
      refine o_nil ?_
      refine x_then (hK27 _ _ ?_)
      refine c_seq fun _ hK28 => ?_
      refine c_region ?_
      refine o_step rfl (s_move rfl) ?_
      refine o_step rfl (s_move rfl) ?_
      refine o_call (addSpans_fn b148 cs154 _ (⟨a129, cc129, L129⟩ : Sl Sp) _ _ _ hb154 (by simp) hS154) rfl rfl rfl pkA (fun _ _ => trivial) (fun v157 S157 ⟨cs157, oa157, oc157, So157, hv157, hb157, hc157, hS157⟩ => ?_)
      subst hv157
      have hz157 := fun i h1 h2 => (hc157 i h2).trans (hz154 i h1 h2)
      refine o_nil ?_
      refine x_then (hK28 _ _ ?_)
      refine c_seq fun _ hK29 => ?_
      refine c_region ?_
      refine o_step rfl (s_move rfl) ?_
      refine o_step rfl (s_move rfl) ?_
      refine o_yes rfl rfl ?_
      refine o_step rfl (s_move rfl) ?_
      refine o_yes rfl rfl ?_
      refine o_call (apart_fn b148 cs157 [(⟨a48, cc48, L48⟩ : Sl Sp), (⟨a55, cc55, L48⟩ : Sl Sp), (⟨a129, cc129, L129⟩ : Sl Sp)] _ _ So157 (S48 ++ (S55 ++ S129)) hb157 hz157 (by simp) (sl_allL (by simp only [List.mem_cons, List.not_mem_nil, or_false, forall_eq_or_imp, forall_eq]; omega)) hS157 _ (.cons (s := (⟨a48, cc48, L48⟩ : Sl Sp)) hO48 (.cons (s := (⟨a55, cc55, L48⟩ : Sl Sp)) hO55 (OwnL.one1 (s := (⟨a129, cc129, L129⟩ : Sl Sp)) hO129)))) rfl rfl rfl ((Pick.takeC pkA (Pick.takeA pkA (Pick.takeA pkA (Pick.takeA pkA pkA))))) (fun _ _ => trivial) (fun v161 S161 ⟨hv161, hS161⟩ => ?_)
      subst hv161
      subst hS161
      refine o_step rfl (s_pick_t rfl rfl) ?_
      refine o_step rfl (s_assign rfl) ?_
      refine o_nil ?_
      refine x_then (hK29 _ _ ?_)
      refine c_ret ?_
      refine ?_
      exact x_ret rfl (.tmp rfl (.nil)) (rfl)
   ·
    refine o_step rfl (s_pick_f rfl rfl) ?_
    refine o_step rfl (s_move rfl) ?_
    refine o_no rfl rfl rfl rfl ?_
    refine o_no rfl rfl rfl rfl ?_
    refine o_no rfl rfl rfl rfl ?_
    refine o_step rfl (s_pick_t rfl rfl) ?_
    refine o_nil ?_
    refine x_then (hK4 _ _ ?_)
    refine c_true rfl ?_
    refine c_seq fun _ hK30 => ?_
    refine c_region ?_
    refine o_step rfl (s_move rfl) ?_
    refine o_step rfl (s_assign rfl) ?_
    refine o_nil ?_
    refine x_then (hK30 _ _ ?_)
    refine c_ret ?_
    refine x_then_ret (?_)
    exact x_ret rfl (.tmp rfl (.nil)) (rfl)
end Go.Proofs.YtiggliigookieaaDoor

/- Part of the proofs over this seat: see the text that holds the theorem. Conditions: each theorem bears its own. -/
namespace Go.Proofs.YtiggliigookieaaDoor
open Go Go.HL Go.Proofs
theorem own : ownKnob Tryd.prog.godebug = none := by kernel_rfl
theorem laidOut : laidOutB Tryd.prog = true := by kernel_rfl
/-- the door's own heap meets the condition -/
theorem door_met (os : Os) (args : Array Value) : laidMetH Tryd.prog Rows.captureFindsRow.laid ((World.doorLaid Tryd.prog 400 os).forCall (fun _ _ => 0) ⟨#[], args, []⟩).memory :=
  laidMetH_of_parts3 (fuel := 8) (laidMet_of_run' 8 (by kernel_rfl) (by kernel_rfl)) (by kernel_rfl) (by kernel_rfl)
end Go.Proofs.YtiggliigookieaaDoor
