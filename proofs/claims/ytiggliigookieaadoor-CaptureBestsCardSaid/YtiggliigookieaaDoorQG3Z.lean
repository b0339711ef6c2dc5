/- Part of the proofs over this seat: see the text that holds the theorem. Conditions: each theorem bears its own. -/
import Derived.Test.YtiggliigookieaaDoorQG1
import Derived.Test.YtiggliigookieaaDoorQG2
import Derived.Test.YtiggliigookieaaDoorQW15
import Derived.Test.YtiggliigookieaaDoorQF1Z
import Derived.Test.YtiggliigookieaaDoorHlB
import Derived.Test.YtiggliigookieaaDoorRows
import Derived.ProofKit
import Derived.LaidMore
import Derived.Stop.Joined
import Derived.Lib.LaidTab
namespace Go.Proofs.YtiggliigookieaaDoor
open Go Go.HL Go.Proofs Go.Tab Go.HL.Kl Go.HL.Kl.Mc
theorem addSpans_fn (b : Nat) (cs : List Value) (sls : List (Sl Sp)) (s : Sl Sp) (oa : Option Addr) (oc : Nat) (So : Hp) (hb : cs[5]? = some (.slice oa sls.length oc)) (hN : sls.length < 400) (hO : OwnS Esl 1 30 (.slice oa sls.length oc) sls So) : HL.Fn Tryd.prog 19 [.pointer (some ⟨b, 0, none⟩), .slice s.a s.xs.length s.c] (fun _ => True) ((b, .cells cs.toArray 58 (0, 0)) :: So) (fun _ S' => ∃ (cs' : List Value) (oa' : Option Addr) (oc' : Nat) (So' : Hp), S' = (b, .cells cs'.toArray 58 (0, 0)) :: So' ∧ cs'[5]? = some (.slice oa' (sls ++ [s]).length oc') ∧ (∀ i, i ≠ 5 → cs'[i]? = cs[i]?) ∧ OwnS Esl 1 30 (.slice oa' (sls ++ [s]).length oc') (sls ++ [s]) So') := by
  refine fn_of Tryd.func19 rfl rfl rfl fun w0 hw => ?_
  have hcl : 5 < cs.length := (List.getElem?_eq_some_iff.1 hb).1
  refine c_seq fun _ hK1 => ?_
  refine c_region ?_
  refine o_step rfl (s_move rfl) ?_
  refine o_step rfl (s_nil rfl) ?_
  refine o_step rfl (s_field rfl rfl (by decide)) ?_
  refine o_step rfl (s_ld rfl (.own meA hb)) ?_
  refine o_step rfl (s_len rfl) ?_
  refine o_step rfl (s_lss_t rfl rfl (by omega)) ?_
  refine o_nil ?_
  refine x_then (hK1 _ _ ?_)
  refine c_true rfl ?_
  refine c_region ?_
  refine o_step rfl (s_move rfl) ?_
  refine o_step rfl (s_move rfl) ?_
  refine o_step rfl (s_nil rfl) ?_
  refine o_step rfl (s_field rfl rfl (by decide)) ?_
  refine o_step rfl (s_ld rfl (.own meA hb)) ?_
  refine o_step rfl (s_move rfl) ?_
  refine o_bs (E := Esl) (xs := [s]) (vs := [_]) rfl rfl rfl rfl rfl (by decide) (by decide) fun b16 S16 hS16 => ?_
  refine o_app hO (hS16.rdk hiA) rfl rfl rfl rfl (by simp only [List.length_singleton]; omega) (by simp only [List.length_singleton]; omega) rfl pkA fun a17 c17 S17 hS17 => ?_
  refine o_step rfl (s_nil rfl) ?_
  refine o_step rfl (s_field rfl rfl (by decide)) ?_
  refine o_store rfl rfl rfl upA ltA rfl ?_
  refine o_nil ?_
  refine x_sub (Sub.refl _) (H' := (b, .cells (cs.set 5 (.slice a17 (sls ++ [s]).length c17)).toArray 58 (0, 0)) :: S17) hzB ?_
  exact x_end rfl (.nil) (⟨_, _, _, _, rfl, List.getElem?_set_self hcl, fun i hi => List.getElem?_set_ne (Ne.symm hi), hS17⟩)

theorem apart_fn (b : Nat) (cs : List Value) (sls : List (Sl Sp)) (oa : Option Addr) (oc : Nat) (So Si : Hp) (hb : cs[5]? = some (.slice oa sls.length oc)) (hz : ∀ i, i < 19 → i ≠ 5 → cs[i]? = some (.slice none 0 0)) (hN : sls.length ≤ 400) (hlen : ∀ (j : Nat) (s : Sl Sp), sls[j]? = some s → s.xs.length ≤ 4294967296) (hO : OwnS Esl 1 30 (.slice oa sls.length oc) sls So) (xss0 : List (List Sp)) (hI : OwnL Esp 2 62 sls xss0 Si) : HL.Fn Tryd.prog 20 [.pointer (some ⟨b, 0, none⟩)] (fun _ => True) ((b, .cells cs.toArray 58 (0, 0)) :: (So ++ Si)) (fun v S' => v = .bool true ∧ S' = (b, .cells cs.toArray 58 (0, 0)) :: So) := by
  refine fn_of Tryd.func20 rfl rfl rfl fun w0 hw => ?_
  refine c_seq fun _ hK1 => ?_
  refine c_region ?_
  refine o_step rfl (s_assign rfl) ?_
  refine o_nil ?_
  refine x_then (hK1 _ _ ?_)
  refine c_seq fun _ hK2 => ?_
  refine c_region ?_
  refine o_step rfl (s_assign rfl) ?_
  refine o_nil ?_
  refine x_then (hK2 _ _ ?_)
  refine c_seq fun _ hK3 => ?_
  refine c_seq fun _ hK4 => ?_
  refine c_region ?_
  refine o_step rfl (s_move rfl) ?_
  refine o_callP (apartBytes0_fn b cs (hz 0 (by decide) (by decide))) rfl rfl rfl (fun w st => (RdPK.own (l := cs) meA).out w st) (fun v5 hv5 => ?_)
  subst hv5
  refine o_step rfl (s_not rfl) ?_
  refine o_nil ?_
  refine x_then (hK4 _ _ ?_)
  refine c_false rfl ?_
  refine c_skip ?_
  refine x_then (hK3 _ _ ?_)
  refine c_seq fun _ hK5 => ?_
  refine c_seq fun _ hK6 => ?_
  refine c_region ?_
  refine o_step rfl (s_move rfl) ?_
  refine o_callP (apartInts0_fn b cs (hz 1 (by decide) (by decide))) rfl rfl rfl (fun w st => (RdPK.own (l := cs) meA).out w st) (fun v8 hv8 => ?_)
  subst hv8
  refine o_step rfl (s_not rfl) ?_
  refine o_nil ?_
  refine x_then (hK6 _ _ ?_)
  refine c_false rfl ?_
  refine c_skip ?_
  refine x_then (hK5 _ _ ?_)
  refine c_seq fun _ hK7 => ?_
  refine c_seq fun _ hK8 => ?_
  refine c_region ?_
  refine o_step rfl (s_move rfl) ?_
  refine o_callP (apartBools0_fn b cs (hz 2 (by decide) (by decide))) rfl rfl rfl (fun w st => (RdPK.own (l := cs) meA).out w st) (fun v11 hv11 => ?_)
  subst hv11
  refine o_step rfl (s_not rfl) ?_
  refine o_nil ?_
  refine x_then (hK8 _ _ ?_)
  refine c_false rfl ?_
  refine c_skip ?_
  refine x_then (hK7 _ _ ?_)
  refine c_seq fun _ hK9 => ?_
  refine c_seq fun _ hK10 => ?_
  refine c_region ?_
  refine o_step rfl (s_move rfl) ?_
  refine o_callP (apartTexts0_fn b cs (hz 3 (by decide) (by decide))) rfl rfl rfl (fun w st => (RdPK.own (l := cs) meA).out w st) (fun v14 hv14 => ?_)
  subst hv14
  refine o_step rfl (s_not rfl) ?_
  refine o_nil ?_
  refine x_then (hK10 _ _ ?_)
  refine c_false rfl ?_
  refine c_skip ?_
  refine x_then (hK9 _ _ ?_)
  refine c_seq fun _ hK11 => ?_
  refine c_seq fun _ hK12 => ?_
  refine c_region ?_
  refine o_step rfl (s_move rfl) ?_
  refine o_callP (apartMarks0_fn b cs (hz 4 (by decide) (by decide))) rfl rfl rfl (fun w st => (RdPK.own (l := cs) meA).out w st) (fun v17 hv17 => ?_)
  subst hv17
  refine o_step rfl (s_not rfl) ?_
  refine o_nil ?_
  refine x_then (hK12 _ _ ?_)
  refine c_false rfl ?_
  refine c_skip ?_
  refine x_then (hK11 _ _ ?_)
  refine c_seq fun _ hK13 => ?_
  refine c_seq fun _ hK14 => ?_
  refine c_region ?_
  refine o_step rfl (s_move rfl) ?_
  refine o_call (apartSpans_fn b cs sls oa oc So Si hb hN hlen hO xss0 hI) rfl rfl rfl pkA (fun _ _ => trivial) (fun v20 S20 ⟨hv20, hS20⟩ => ?_)
  subst hv20
  subst hS20
  refine o_step rfl (s_not rfl) ?_
  refine o_nil ?_
  refine x_then (hK14 _ _ ?_)
  refine c_false rfl ?_
  refine c_skip ?_
  refine x_then (hK13 _ _ ?_)
  refine c_seq fun _ hK15 => ?_
  refine c_seq fun _ hK16 => ?_
  refine c_region ?_
  refine o_step rfl (s_move rfl) ?_
  refine o_callP (apartRuns0_fn b cs (hz 6 (by decide) (by decide))) rfl rfl rfl (fun w st => (RdPK.own (l := cs) meA).out w st) (fun v23 hv23 => ?_)
  subst hv23
  refine o_step rfl (s_not rfl) ?_
  refine o_nil ?_
  refine x_then (hK16 _ _ ?_)
  refine c_false rfl ?_
  refine c_skip ?_
  refine x_then (hK15 _ _ ?_)
  refine c_seq fun _ hK17 => ?_
  refine c_seq fun _ hK18 => ?_
  refine c_region ?_
  refine o_step rfl (s_move rfl) ?_
  refine o_callP (apartClasses0_fn b cs (hz 7 (by decide) (by decide))) rfl rfl rfl (fun w st => (RdPK.own (l := cs) meA).out w st) (fun v26 hv26 => ?_)
  subst hv26
  refine o_step rfl (s_not rfl) ?_
  refine o_nil ?_
  refine x_then (hK18 _ _ ?_)
  refine c_false rfl ?_
  refine c_skip ?_
  refine x_then (hK17 _ _ ?_)
  refine c_seq fun _ hK19 => ?_
  refine c_seq fun _ hK20 => ?_
  refine c_region ?_
  refine o_step rfl (s_move rfl) ?_
  refine o_callP (apartNodes0_fn b cs (hz 8 (by decide) (by decide))) rfl rfl rfl (fun w st => (RdPK.own (l := cs) meA).out w st) (fun v29 hv29 => ?_)
  subst hv29
  refine o_step rfl (s_not rfl) ?_
  refine o_nil ?_
  refine x_then (hK20 _ _ ?_)
  refine c_false rfl ?_
  refine c_skip ?_
  refine x_then (hK19 _ _ ?_)
  refine c_seq fun _ hK21 => ?_
  refine c_seq fun _ hK22 => ?_
  refine c_region ?_
  refine o_step rfl (s_move rfl) ?_
  refine o_callP (apartInstrs0_fn b cs (hz 9 (by decide) (by decide))) rfl rfl rfl (fun w st => (RdPK.own (l := cs) meA).out w st) (fun v32 hv32 => ?_)
  subst hv32
  refine o_step rfl (s_not rfl) ?_
  refine o_nil ?_
  refine x_then (hK22 _ _ ?_)
  refine c_false rfl ?_
  refine c_skip ?_
  refine x_then (hK21 _ _ ?_)
  refine c_seq fun _ hK23 => ?_
  refine c_seq fun _ hK24 => ?_
  refine c_region ?_
  refine o_step rfl (s_move rfl) ?_
  refine o_callP (apartFaults0_fn b cs (hz 10 (by decide) (by decide))) rfl rfl rfl (fun w st => (RdPK.own (l := cs) meA).out w st) (fun v35 hv35 => ?_)
  subst hv35
  refine o_step rfl (s_not rfl) ?_
  refine o_nil ?_
  refine x_then (hK24 _ _ ?_)
  refine c_false rfl ?_
  refine c_skip ?_
  refine x_then (hK23 _ _ ?_)
  refine c_seq fun _ hK25 => ?_
  refine c_seq fun _ hK26 => ?_
  refine c_region ?_
  refine o_step rfl (s_move rfl) ?_
  refine o_callP (apartNotes0_fn b cs (hz 11 (by decide) (by decide))) rfl rfl rfl (fun w st => (RdPK.own (l := cs) meA).out w st) (fun v38 hv38 => ?_)
  subst hv38
  refine o_step rfl (s_not rfl) ?_
  refine o_nil ?_
  refine x_then (hK26 _ _ ?_)
  refine c_false rfl ?_
  refine c_skip ?_
  refine x_then (hK25 _ _ ?_)
  refine c_seq fun _ hK27 => ?_
  refine c_seq fun _ hK28 => ?_
  refine c_region ?_
  refine o_step rfl (s_move rfl) ?_
  refine o_callP (apartParts0_fn b cs (hz 12 (by decide) (by decide))) rfl rfl rfl (fun w st => (RdPK.own (l := cs) meA).out w st) (fun v41 hv41 => ?_)
  subst hv41
  refine o_step rfl (s_not rfl) ?_
  refine o_nil ?_
  refine x_then (hK28 _ _ ?_)
  refine c_false rfl ?_
  refine c_skip ?_
  refine x_then (hK27 _ _ ?_)
  refine c_seq fun _ hK29 => ?_
  refine c_seq fun _ hK30 => ?_
  refine c_region ?_
  refine o_step rfl (s_move rfl) ?_
  refine o_callP (apartRows0_fn b cs (hz 13 (by decide) (by decide))) rfl rfl rfl (fun w st => (RdPK.own (l := cs) meA).out w st) (fun v44 hv44 => ?_)
  subst hv44
  refine o_step rfl (s_not rfl) ?_
  refine o_nil ?_
  refine x_then (hK30 _ _ ?_)
  refine c_false rfl ?_
  refine c_skip ?_
  refine x_then (hK29 _ _ ?_)
  refine c_seq fun _ hK31 => ?_
  refine c_seq fun _ hK32 => ?_
  refine c_region ?_
  refine o_step rfl (s_move rfl) ?_
  refine o_callP (apartIntss0_fn b cs (hz 14 (by decide) (by decide))) rfl rfl rfl (fun w st => (RdPK.own (l := cs) meA).out w st) (fun v47 hv47 => ?_)
  subst hv47
  refine o_step rfl (s_not rfl) ?_
  refine o_nil ?_
  refine x_then (hK32 _ _ ?_)
  refine c_false rfl ?_
  refine c_skip ?_
  refine x_then (hK31 _ _ ?_)
  refine c_seq fun _ hK33 => ?_
  refine c_seq fun _ hK34 => ?_
  refine c_region ?_
  refine o_step rfl (s_move rfl) ?_
  refine o_callP (apartSpanss0_fn b cs (hz 15 (by decide) (by decide))) rfl rfl rfl (fun w st => (RdPK.own (l := cs) meA).out w st) (fun v50 hv50 => ?_)
  subst hv50
  refine o_step rfl (s_not rfl) ?_
  refine o_nil ?_
  refine x_then (hK34 _ _ ?_)
  refine c_false rfl ?_
  refine c_skip ?_
  refine x_then (hK33 _ _ ?_)
  refine c_seq fun _ hK35 => ?_
  refine c_seq fun _ hK36 => ?_
  refine c_region ?_
  refine o_step rfl (s_move rfl) ?_
  refine o_callP (apartPieces0_fn b cs (hz 16 (by decide) (by decide))) rfl rfl rfl (fun w st => (RdPK.own (l := cs) meA).out w st) (fun v53 hv53 => ?_)
  subst hv53
  refine o_step rfl (s_not rfl) ?_
  refine o_nil ?_
  refine x_then (hK36 _ _ ?_)
  refine c_false rfl ?_
  refine c_skip ?_
  refine x_then (hK35 _ _ ?_)
  refine c_seq fun _ hK37 => ?_
  refine c_seq fun _ hK38 => ?_
  refine c_region ?_
  refine o_step rfl (s_move rfl) ?_
  refine o_callP (apartFiles0_fn b cs (hz 17 (by decide) (by decide))) rfl rfl rfl (fun w st => (RdPK.own (l := cs) meA).out w st) (fun v56 hv56 => ?_)
  subst hv56
  refine o_step rfl (s_not rfl) ?_
  refine o_nil ?_
  refine x_then (hK38 _ _ ?_)
  refine c_false rfl ?_
  refine c_skip ?_
  refine x_then (hK37 _ _ ?_)
  refine c_seq fun _ hK39 => ?_
  refine c_seq fun _ hK40 => ?_
  refine c_region ?_
  refine o_step rfl (s_move rfl) ?_
  refine o_callP (apartCmds0_fn b cs (hz 18 (by decide) (by decide))) rfl rfl rfl (fun w st => (RdPK.own (l := cs) meA).out w st) (fun v59 hv59 => ?_)
  subst hv59
  refine o_step rfl (s_not rfl) ?_
  refine o_nil ?_
  refine x_then (hK40 _ _ ?_)
  refine c_false rfl ?_
  refine c_skip ?_
  refine x_then (hK39 _ _ ?_)
  refine c_seq fun _ hK41 => ?_
  refine c_region ?_
  refine o_step rfl (s_move rfl) ?_
  refine o_step rfl (s_assign rfl) ?_
  refine o_nil ?_
  refine x_then (hK41 _ _ ?_)
  refine c_ret ?_
  refine ?_
  refine x_sub (Sub.refl _) (H' := (b, .cells cs.toArray 58 (0, 0)) :: So) hzB ?_
  exact x_ret rfl (.tmp rfl (.nil)) (⟨rfl, rfl⟩)
end Go.Proofs.YtiggliigookieaaDoor

/- Part of the proofs over this seat: see the text that holds the theorem. Conditions: each theorem bears its own. -/
namespace Go.Proofs.YtiggliigookieaaDoor
open Go Go.HL Go.Proofs Go.HL.Kl Go.HL.Kl.Mc Go.HL.Kl.Mc.AskE
set_option maxHeartbeats 4000000 in
theorem captureBests_fn (ra : Option Addr) (rc : Nat) (re : List Nd) (hre : ∀ x ∈ re, -128 ≤ x.op ∧ x.op < 128) (ta : Option Addr) (tc : Nat) (w : List UInt8) (fr to : Int) : HL.Fn Tryd.prog 4 [.slice ra re.length rc, .slice ta w.length tc, .agg (Esp ⟨fr, to⟩).toArray] (fun W => Rd En W (.slice ra re.length rc) re ∧ Rd Eb W (.slice ta w.length tc) w) [] (fun v _ => v = .bool true) := by
  refine fn_of Tryd.func4 rfl rfl rfl fun w0 hw => ?_
  have hsl := hw.1.sl
  have hbl := hsl.le
  refine c_seq fun _ hK1 => ?_
  refine c_region ?_
  refine o_box rfl rfl rfl fun b5 => ?_
  refine o_step rfl (s_assign rfl) ?_
  refine o_nil ?_
  refine x_then (hK1 _ _ ?_)
  refine c_seq fun _ hK2 => ?_
  refine c_region ?_
  refine o_callP (works_fn) rfl rfl rfl (fun _ _ => trivial) (fun v19 hv19 => ?_)
  subst hv19
  refine o_step rfl (s_assign rfl) ?_
  refine o_nil ?_
  refine x_then (hK2 _ _ ?_)
  refine c_seq fun _ hK3 => ?_
  refine c_seq fun _ hK4 => ?_
  refine c_region ?_
  refine o_step rfl (s_move rfl) ?_
  refine o_step rfl (s_len rfl) ?_
  refine o_callP (long_fn re.length) rfl rfl rfl (fun _ _ => trivial) (fun v22 hv22 => ?_)
  by_cases hlg : (re.length : Int) > 2147483647
  ·
   rw [decide_eq_true hlg] at hv22
   subst hv22
   refine o_step rfl (s_move rfl) ?_
   refine o_no rfl rfl rfl rfl ?_
   refine o_no rfl rfl rfl rfl ?_
   refine o_step rfl (s_pick_t rfl rfl) ?_
   refine o_step rfl (s_move rfl) ?_
   refine o_no rfl rfl rfl rfl ?_
   refine o_no rfl rfl rfl rfl ?_
   refine o_no rfl rfl rfl rfl ?_
   refine o_step rfl (s_pick_t rfl rfl) ?_
   refine o_nil ?_
   refine x_then (hK4 _ _ ?_)
   refine c_true rfl ?_
   refine c_seq fun _ hK5 => ?_
   refine c_region ?_
   refine o_step rfl (s_move rfl) ?_
   refine o_step rfl (s_assign rfl) ?_
   refine o_nil ?_
   refine x_then (hK5 _ _ ?_)
   refine c_ret ?_
   refine x_then_ret (?_)
   exact x_ret rfl (.tmp rfl (.nil)) (rfl)
  ·
   rw [decide_eq_false hlg] at hv22
   subst hv22
   refine o_step rfl (s_move rfl) ?_
   refine o_yes rfl rfl ?_
   refine o_step rfl (s_move rfl) ?_
   refine o_yes rfl rfl ?_
   refine o_callP (beyond_fn ra rc re hre) rfl rfl rfl (fun w2 st => (RdK.old0 hw.1).out w2 st) (fun v25 ⟨b25, hv25⟩ => ?_)
   subst hv25
   cases b25
   ·
    refine o_step rfl (s_pick_f rfl rfl) ?_
    refine o_step rfl (s_move rfl) ?_
    refine o_yes rfl rfl ?_
    refine o_step rfl (s_move rfl) ?_
    refine o_yes rfl rfl ?_
    refine o_step rfl (s_len rfl) ?_
    refine o_yes rfl rfl ?_
    by_cases htl : (w.length : Int) > 1024
    ·
     refine o_step rfl (step_cast (v' := .bool true) (s_gtr rfl rfl) (by rw [decide_eq_true (by omega)])) ?_
     refine o_step rfl (s_pick_f rfl rfl) ?_
     refine o_nil ?_
     refine x_then (hK4 _ _ ?_)
     refine c_true rfl ?_
     refine c_seq fun _ hK6 => ?_
     refine c_region ?_
     refine o_step rfl (s_move rfl) ?_
     refine o_step rfl (s_assign rfl) ?_
     refine o_nil ?_
     refine x_then (hK6 _ _ ?_)
     refine c_ret ?_
     refine x_then_ret (?_)
     exact x_ret rfl (.tmp rfl (.nil)) (rfl)
    ·
     refine o_step rfl (step_cast (v' := .bool false) (s_gtr rfl rfl) (by rw [decide_eq_false (by omega)])) ?_
     refine o_step rfl (s_pick_f rfl rfl) ?_
     refine o_nil ?_
     refine x_then (hK4 _ _ ?_)
     refine c_false rfl ?_
     refine c_skip ?_
     refine x_then (hK3 _ _ ?_)
     refine c_seq fun _ hK7 => ?_
     refine c_region ?_
     refine o_step rfl (s_move rfl) ?_
     refine o_step rfl (s_move rfl) ?_
     refine o_call (short_fn ra rc re hre ta tc w (by omega) 4 33554432 (by decide) (by decide)) rfl rfl rfl (by exact .nil) (fun w2 st => ⟨(RdK.old0 hw.1).out w2 st, (RdK.old0 hw.2).out w2 st⟩) (fun v35 S35 ⟨n, aS, cS, hv35, hS35⟩ => ?_)
     subst hv35
     have hwn : (w.take n).length ≤ 1024 := by rw [List.length_take]; omega
     refine o_step rfl (s_assign rfl) ?_
     refine o_nil ?_
     refine x_then (hK7 _ _ ?_)
     refine c_seq fun _ hK8 => ?_
     refine c_region ?_
     refine o_step rfl (s_move rfl) ?_
     refine o_call (wideNodes_fn ra rc re (by omega)) rfl rfl rfl (by exact .nil) (fun w2 st => (RdK.old0 hw.1).out w2 st) (fun v37 S37 ⟨aN, hv37, hSN⟩ => ?_)
     subst hv37
     have hin := hSN.pre re.length (by rw [wdl_len]; omega)
     rw [wdl_take] at hin
     refine o_step rfl (s_assign rfl) ?_
     refine o_nil ?_
     refine x_then (hK8 _ _ ?_)
     refine c_seq fun _ hK9 => ?_
     refine c_region ?_
     refine o_step rfl (s_move rfl) ?_
     refine o_call (wideBytes_fn aS cS (w.take n) (by omega)) rfl rfl rfl (by exact .nil) (fun w2 st => (hS35.rdk hiA).out w2 st) (fun v39 S39 ⟨aB, hv39, hSB⟩ => ?_)
     subst hv39
     have hbn := hSB.pre (w.take n).length (by rw [wdl_len]; omega)
     rw [wdl_take] at hbn
     refine o_step rfl (s_assign rfl) ?_
     refine o_nil ?_
     refine x_then (hK9 _ _ ?_)
     refine c_seq fun _ hK10 => ?_
     refine c_region ?_
     refine o_step rfl (s_move rfl) ?_
     refine o_step rfl (s_move rfl) ?_
     refine o_step rfl (s_ldB rfl (RdPK.cels (.own meA)) lnA) ?_
     refine o_call (best_fn aN _ re hre aB _ (w.take n) (by omega) fr to) rfl rfl rfl (by exact .nil) (fun w2 st => ⟨(hin.rdk hiA).out w2 st, (hbn.rdk hiA).out w2 st⟩) (fun v44 S44 hv44 => ?_)
     obtain ⟨b44, L44, a44, cc44, hR44, rfl, hO44⟩ := hv44.res
     have hLl := hR44.len
     refine o_step rfl (s_move rfl) ?_
     refine o_step rfl (s_extract rfl rfl) ?_
     refine o_step rfl (s_extract rfl rfl) ?_
     refine o_step rfl (s_assign rfl) ?_
     refine o_step rfl (s_assign rfl) ?_
     refine o_nil ?_
     refine x_then (hK10 _ _ ?_)
     refine c_seq fun _ hK11 => ?_
     refine c_region ?_
     refine o_step rfl (s_move rfl) ?_
     refine o_step rfl (s_move rfl) ?_
     refine o_step rfl (s_ldB rfl (RdPK.cels (.own meA)) lnA) ?_
     refine o_call (best_fn aN _ re hre aB _ (w.take n) (by omega) fr to) rfl rfl rfl (by exact .nil) (fun w2 st => ⟨(hin.rdk hiA).out w2 st, (hbn.rdk hiA).out w2 st⟩) (fun v51 S51 hv51 => ?_)
     obtain ⟨b51, L51, a51, cc51, hR51, rfl, hO51⟩ := hv51.res
     obtain ⟨e1, e2⟩ := hR44.uniq hR51
     subst e1
     subst e2
     refine o_step rfl (s_move rfl) ?_
     refine o_step rfl (s_extract rfl rfl) ?_
     refine o_step rfl (s_extract rfl rfl) ?_
     refine o_step rfl (s_assign rfl) ?_
     refine o_step rfl (s_assign rfl) ?_
     refine o_nil ?_
     refine x_then (hK11 _ _ ?_)
     refine c_seq fun _ hK12 => ?_
     refine c_region ?_
     refine o_step rfl (s_move rfl) ?_
     refine o_step rfl (s_move rfl) ?_
     refine o_step rfl (s_ldB rfl (RdPK.cels (.own meA)) lnA) ?_
     refine o_call (rBest_fn ra rc re hre aS cS (w.take n) (by omega) fr to) rfl rfl rfl (by exact .nil) (fun w2 st => ⟨(RdK.old0 hw.1).out w2 st, (hS35.rdk hiA).out w2 st⟩) (fun v58 S58 hv58 => ?_)
     obtain ⟨b58, L58, a58, cc58, hR58, rfl, hO58⟩ := hv58.res
     obtain ⟨e1, e2⟩ := hR44.uniq hR58
     subst e1
     subst e2
     refine o_step rfl (s_move rfl) ?_
     refine o_step rfl (s_extract rfl rfl) ?_
     refine o_step rfl (s_extract rfl rfl) ?_
     refine o_step rfl (s_assign rfl) ?_
     refine o_step rfl (s_assign rfl) ?_
     refine o_nil ?_
     refine x_then (hK12 _ _ ?_)
     refine c_seq fun _ hK13 => ?_
     refine c_region ?_
     refine o_step rfl (s_move rfl) ?_
     refine o_step rfl (s_move rfl) ?_
     refine o_callP (eqNodes_fn aN ra _ rc re re) rfl rfl rfl (fun w2 st => ⟨(hin.rdk hiA).out w2 st, (RdK.old0 hw.1).out w2 st⟩) (fun v63 hv63 => ?_)
     rw [decide_eq_true rfl] at hv63
     subst hv63
     refine o_step rfl (s_move rfl) ?_
     refine o_yes rfl rfl ?_
     refine o_step rfl (s_move rfl) ?_
     refine o_yes rfl rfl ?_
     refine o_callP (spareNodes_fn aN _ re (by omega)) rfl rfl rfl (fun w2 st => (hSN.rdk hiA).out w2 st) (fun v66 hv66 => ?_)
     subst hv66
     refine o_step rfl (s_pick_t rfl rfl) ?_
     refine o_step rfl (s_move rfl) ?_
     refine o_yes rfl rfl ?_
     refine o_step rfl (s_move rfl) ?_
     refine o_yes rfl rfl ?_
     refine o_step rfl (s_move rfl) ?_
     refine o_yes rfl rfl ?_
     refine o_callP (eqBytes_fn aB aS _ cS (w.take n) (w.take n)) rfl rfl rfl (fun w2 st => ⟨(hbn.rdk hiA).out w2 st, (hS35.rdk hiA).out w2 st⟩) (fun v71 hv71 => ?_)
     rw [decide_eq_true rfl] at hv71
     subst hv71
     refine o_step rfl (s_pick_t rfl rfl) ?_
     refine o_step rfl (s_move rfl) ?_
     refine o_yes rfl rfl ?_
     refine o_step rfl (s_move rfl) ?_
     refine o_yes rfl rfl ?_
     refine o_callP (spareBytes_fn aB _ (w.take n) (by omega)) rfl rfl rfl (fun w2 st => (hSB.rdk hiA).out w2 st) (fun v75 hv75 => ?_)
     subst hv75
     refine o_step rfl (s_pick_t rfl rfl) ?_
     refine o_step rfl (s_assign rfl) ?_
     refine o_nil ?_
     refine x_then (hK13 _ _ ?_)
     refine c_seq fun _ hK14 => ?_
     refine c_region ?_
     refine o_step rfl (step_cast (v' := .agg (List.replicate 19 (Value.slice none 0 0)).toArray) (s_build (cs := [_, _, _, _, _, _, _, _, _, _, _, _, _, _, _, _, _, _, _]) (vs := []) rfl rfl .nil) rfl) ?_
     refine o_box rfl rfl rfl fun b78 => ?_
     refine o_step rfl (s_assign rfl) ?_
     refine o_nil ?_
     refine x_then (hK14 _ _ ?_)
     refine c_seq fun _ hK15 => ?_
     refine c_region ?_
     refine o_step rfl (s_move rfl) ?_
     refine o_step rfl (s_move rfl) ?_
     refine o_step rfl (step_cast (v' := .bool true) (s_eql_bool rfl rfl) (by rw [decide_eq_true rfl])) ?_
     refine o_step rfl (s_move rfl) ?_
     refine o_yes rfl rfl ?_
     refine o_step rfl (s_move rfl) ?_
     refine o_yes rfl rfl ?_
     refine o_step rfl (s_move rfl) ?_
     refine o_yes rfl rfl ?_
     refine o_step rfl (step_cast (v' := .bool true) (s_eql_bool rfl rfl) (by rw [decide_eq_true rfl])) ?_
     refine o_step rfl (s_pick_t rfl rfl) ?_
     refine o_step rfl (s_move rfl) ?_
     refine o_yes rfl rfl ?_
     refine o_step rfl (s_move rfl) ?_
     refine o_yes rfl rfl ?_
     refine o_step rfl (s_move rfl) ?_
     refine o_yes rfl rfl ?_
     refine o_callP (eqSpans_fn a44 a58 cc44 cc58 L44 L44) rfl rfl rfl (fun w2 st => ⟨(hO44.rdk hiA).out w2 st, (hO58.rdk hiA).out w2 st⟩) (fun v90 hv90 => ?_)
     rw [decide_eq_true rfl] at hv90
     subst hv90
     refine o_step rfl (s_pick_t rfl rfl) ?_
     refine o_step rfl (s_move rfl) ?_
     refine o_yes rfl rfl ?_
     refine o_step rfl (s_move rfl) ?_
     refine o_yes rfl rfl ?_
     refine o_step rfl (s_move rfl) ?_
     refine o_yes rfl rfl ?_
     refine o_callP (eqSpans_fn a51 a58 cc51 cc58 L44 L44) rfl rfl rfl (fun w2 st => ⟨(hO51.rdk hiA).out w2 st, (hO58.rdk hiA).out w2 st⟩) (fun v95 hv95 => ?_)
     rw [decide_eq_true rfl] at hv95
     subst hv95
     refine o_step rfl (s_pick_t rfl rfl) ?_
     refine o_step rfl (s_assign rfl) ?_
     refine o_nil ?_
     refine x_then (hK15 _ _ ?_)
     refine c_seq fun _ hK16 => ?_
     refine c_region ?_
     refine o_step rfl (s_move rfl) ?_
     refine o_step rfl (s_move rfl) ?_
     have hz0 : ∀ i, i < 19 → i ≠ 5 → (List.replicate 19 (Value.slice none 0 0))[i]? = some (.slice none 0 0) := fun i h1 _ => by rw [List.getElem?_replicate, if_pos h1]
     refine o_call (addSpans_fn b78 (List.replicate 19 (Value.slice none 0 0)) [] (⟨a44, cc44, L44⟩ : Sl Sp) none 0 [] (by rfl) (by simp) .nil) rfl rfl rfl pkA (fun _ _ => trivial) (fun v99 S99 ⟨cs99, oa99, oc99, So99, hv99, hb99, hc99, hS99⟩ => ?_)
     subst hv99
     have hz99 := fun i h1 h2 => (hc99 i h2).trans (hz0 i h1 h2)
     refine o_nil ?_
     refine x_then (hK16 _ _ ?_)
     refine c_seq fun _ hK17 => ?_
     refine c_region ?_
     refine o_step rfl (s_move rfl) ?_
     refine o_step rfl (s_move rfl) ?_
     refine o_call (addSpans_fn b78 cs99 _ (⟨a51, cc51, L44⟩ : Sl Sp) _ _ _ hb99 (by simp) hS99) rfl rfl rfl pkA (fun _ _ => trivial) (fun v102 S102 ⟨cs102, oa102, oc102, So102, hv102, hb102, hc102, hS102⟩ => ?_)
     subst hv102
     have hz102 := fun i h1 h2 => (hc102 i h2).trans (hz99 i h1 h2)
     refine o_nil ?_
     refine x_then (hK17 _ _ ?_)
     refine c_seq fun _ hK18 => ?_
     refine c_region ?_
     refine o_step rfl (s_move rfl) ?_
     refine o_step rfl (s_move rfl) ?_
     refine o_yes rfl rfl ?_
     refine o_step rfl (s_move rfl) ?_
     refine o_step rfl (s_pick_t rfl rfl) ?_
     refine o_step rfl (s_move rfl) ?_
     refine o_yes rfl rfl ?_
     refine o_step rfl (s_move rfl) ?_
     refine o_step rfl (s_pick_t rfl rfl) ?_
     refine o_step rfl (s_move rfl) ?_
     refine o_yes rfl rfl ?_
     refine o_step rfl (s_move rfl) ?_
     refine o_yes rfl rfl ?_
     refine o_call (apart_fn b78 cs102 [(⟨a44, cc44, L44⟩ : Sl Sp), (⟨a51, cc51, L44⟩ : Sl Sp)] _ _ So102 (S44 ++ S51) hb102 hz102 (by simp) (sl_allL (by simp only [List.mem_cons, List.not_mem_nil, or_false, forall_eq_or_imp, forall_eq]; omega)) hS102 _ (.cons (s := (⟨a44, cc44, L44⟩ : Sl Sp)) hO44 (OwnL.one1 (s := (⟨a51, cc51, L44⟩ : Sl Sp)) hO51))) rfl rfl rfl ((Pick.takeC pkA (Pick.takeA pkA (Pick.takeA pkA pkA)))) (fun _ _ => trivial) (fun v112 S112 ⟨hv112, hS112⟩ => ?_)
     subst hv112
     subst hS112
     refine o_step rfl (s_pick_t rfl rfl) ?_
     refine o_step rfl (s_assign rfl) ?_
     refine o_nil ?_
     refine x_then (hK18 _ _ ?_)
     refine c_ret ?_
     refine ?_
     exact x_ret rfl (.tmp rfl (.nil)) (rfl)
   ·
    refine o_step rfl (s_pick_f rfl rfl) ?_
    refine o_step rfl (s_move rfl) ?_
    refine o_no rfl rfl rfl rfl ?_
    refine o_no rfl rfl rfl rfl ?_
    refine o_no rfl rfl rfl rfl ?_
    refine o_step rfl (s_pick_t rfl rfl) ?_
    refine o_nil ?_
    refine x_then (hK4 _ _ ?_)
    refine c_true rfl ?_
    refine c_seq fun _ hK19 => ?_
    refine c_region ?_
    refine o_step rfl (s_move rfl) ?_
    refine o_step rfl (s_assign rfl) ?_
    refine o_nil ?_
    refine x_then (hK19 _ _ ?_)
    refine c_ret ?_
    refine x_then_ret (?_)
    exact x_ret rfl (.tmp rfl (.nil)) (rfl)
end Go.Proofs.YtiggliigookieaaDoor

/- Part of the proofs over this seat: see the text that holds the theorem. Conditions: each theorem bears its own. -/
namespace Go.Proofs.YtiggliigookieaaDoor
open Go Go.HL Go.Proofs
theorem own : ownKnob Tryd.prog.godebug = none := by kernel_rfl
theorem laidOut : laidOutB Tryd.prog = true := by kernel_rfl
/-- the door's own heap meets the condition -/
theorem door_met (os : Os) (args : Array Value) : laidMetH Tryd.prog Rows.captureFindsRow.laid ((World.doorLaid Tryd.prog 400 os).forCall (fun _ _ => 0) ⟨#[], args, []⟩).memory :=
  laidMetH_of_parts3 (fuel := 8) (laidMet_of_run' 8 (by kernel_rfl) (by kernel_rfl)) (by kernel_rfl) (by kernel_rfl)
end Go.Proofs.YtiggliigookieaaDoor
