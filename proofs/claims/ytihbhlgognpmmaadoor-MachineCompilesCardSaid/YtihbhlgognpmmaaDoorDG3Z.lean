/- Part of the proofs over this seat: see the text that holds the theorem. Conditions: each theorem bears its own. -/
import Derived.Test.YtihbhlgognpmmaaDoorDG1
import Derived.Test.YtihbhlgognpmmaaDoorDG2
import Derived.Test.YtihbhlgognpmmaaDoorMT17Z
import Derived.Test.YtihbhlgognpmmaaDoorDW18Z
import Derived.Test.YtihbhlgognpmmaaDoorDW15Z
import Derived.Test.YtihbhlgognpmmaaDoorDF1
import Derived.Test.YtihbhlgognpmmaaDoorHlB
import Derived.Test.YtihbhlgognpmmaaDoorRows
import Derived.ProofKit
import Derived.LaidMore
import Derived.Stop.Joined
import Derived.Lib.LaidTab
namespace Go.Proofs.YtihbhlgognpmmaaDoor
open Go Go.HL Go.Proofs Go.Tab Go.HL.Kl Go.HL.Kl.Mc
theorem addInstrs_fn (b : Nat) (cs : List Value) (sls : List (Sl In)) (s : Sl In) (oa : Option Addr) (oc : Nat) (So : Hp) (hb : cs[9]? = some (.slice oa sls.length oc)) (hN : sls.length < 400) (hO : OwnS Esl 1 27 (.slice oa sls.length oc) sls So) : HL.Fn Tryd.prog 17 [.pointer (some ⟨b, 0, none⟩), .slice s.a s.xs.length s.c] (fun _ => True) ((b, .cells cs.toArray 63 (0, 0)) :: So) (fun _ S' => ∃ (cs' : List Value) (oa' : Option Addr) (oc' : Nat) (So' : Hp), S' = (b, .cells cs'.toArray 63 (0, 0)) :: So' ∧ cs'[9]? = some (.slice oa' (sls ++ [s]).length oc') ∧ (∀ i, i ≠ 9 → cs'[i]? = cs[i]?) ∧ OwnS Esl 1 27 (.slice oa' (sls ++ [s]).length oc') (sls ++ [s]) So') := by
  refine fn_of Tryd.func17 rfl rfl rfl fun w0 hw => ?_
  have hcl : 9 < cs.length := (List.getElem?_eq_some_iff.1 hb).1
  refine c_seq fun _ hK1 => ?_
  refine c_region ?_
  refine o_step rfl (s_move rfl) ?_
  refine o_step rfl (s_nil rfl) ?_
  refine o_step rfl (s_field rfl rfl (by decide)) ?_
  refine o_step rfl (s_ld rfl (.own meA hb)) ?_
  refine o_step rfl (s_len rfl) ?_
  refine o_step rfl (s_lss_t rfl rfl (by omega)) ?_
  refine o_nil ?_
  refine x_then (hK1 _ _ ?_)
  refine c_true rfl ?_
  refine c_region ?_
  refine o_step rfl (s_move rfl) ?_
  refine o_step rfl (s_move rfl) ?_
  refine o_step rfl (s_nil rfl) ?_
  refine o_step rfl (s_field rfl rfl (by decide)) ?_
  refine o_step rfl (s_ld rfl (.own meA hb)) ?_
  refine o_step rfl (s_move rfl) ?_
  refine o_bs (E := Esl) (xs := [s]) (vs := [_]) rfl rfl rfl rfl rfl (by decide) (by decide) fun b16 S16 hS16 => ?_
  refine o_app hO (hS16.rdk hiA) rfl rfl rfl rfl (by simp only [List.length_singleton]; omega) (by simp only [List.length_singleton]; omega) rfl pkA fun a17 c17 S17 hS17 => ?_
  refine o_step rfl (s_nil rfl) ?_
  refine o_step rfl (s_field rfl rfl (by decide)) ?_
  refine o_store rfl rfl rfl upA ltA rfl ?_
  refine o_nil ?_
  refine x_sub (Sub.refl _) (H' := (b, .cells (cs.set 9 (.slice a17 (sls ++ [s]).length c17)).toArray 63 (0, 0)) :: S17) hzB ?_
  exact x_end rfl (.nil) (⟨_, _, _, _, rfl, List.getElem?_set_self hcl, fun i hi => List.getElem?_set_ne (Ne.symm hi), hS17⟩)

theorem apart_fn (b : Nat) (cs : List Value) (sls : List (Sl In)) (oa : Option Addr) (oc : Nat) (So Si : Hp) (hb : cs[9]? = some (.slice oa sls.length oc)) (hz : ∀ i, i < 19 → i ≠ 9 → cs[i]? = some (.slice none 0 0)) (hN : sls.length ≤ 400) (hlen : ∀ (j : Nat) (s : Sl In), sls[j]? = some s → s.xs.length ≤ 4294967296) (hO : OwnS Esl 1 27 (.slice oa sls.length oc) sls So) (xss0 : List (List In)) (hI : OwnL Ein 7 73 sls xss0 Si) : HL.Fn Tryd.prog 18 [.pointer (some ⟨b, 0, none⟩)] (fun _ => True) ((b, .cells cs.toArray 63 (0, 0)) :: (So ++ Si)) (fun v S' => v = .bool true ∧ S' = (b, .cells cs.toArray 63 (0, 0)) :: So) := by
  refine fn_of Tryd.func18 rfl rfl rfl fun w0 hw => ?_
  refine c_seq fun _ hK1 => ?_
  refine c_region ?_
  refine o_step rfl (s_assign rfl) ?_
  refine o_nil ?_
  refine x_then (hK1 _ _ ?_)
  refine c_seq fun _ hK2 => ?_
  refine c_region ?_
  refine o_step rfl (s_assign rfl) ?_
  refine o_nil ?_
  refine x_then (hK2 _ _ ?_)
  refine c_seq fun _ hK3 => ?_
  refine c_seq fun _ hK4 => ?_
  refine c_region ?_
  refine o_step rfl (s_move rfl) ?_
  refine o_callP (apartBytes0_fn b cs (hz 0 (by decide) (by decide))) rfl rfl rfl (fun w st => (RdPK.own (l := cs) meA).out w st) (fun v5 hv5 => ?_)
  subst hv5
  refine o_step rfl (s_not rfl) ?_
  refine o_nil ?_
  refine x_then (hK4 _ _ ?_)
  refine c_false rfl ?_
  refine c_skip ?_
  refine x_then (hK3 _ _ ?_)
  refine c_seq fun _ hK5 => ?_
  refine c_seq fun _ hK6 => ?_
  refine c_region ?_
  refine o_step rfl (s_move rfl) ?_
  refine o_callP (apartInts0_fn b cs (hz 1 (by decide) (by decide))) rfl rfl rfl (fun w st => (RdPK.own (l := cs) meA).out w st) (fun v8 hv8 => ?_)
  subst hv8
  refine o_step rfl (s_not rfl) ?_
  refine o_nil ?_
  refine x_then (hK6 _ _ ?_)
  refine c_false rfl ?_
  refine c_skip ?_
  refine x_then (hK5 _ _ ?_)
  refine c_seq fun _ hK7 => ?_
  refine c_seq fun _ hK8 => ?_
  refine c_region ?_
  refine o_step rfl (s_move rfl) ?_
  refine o_callP (apartBools0_fn b cs (hz 2 (by decide) (by decide))) rfl rfl rfl (fun w st => (RdPK.own (l := cs) meA).out w st) (fun v11 hv11 => ?_)
  subst hv11
  refine o_step rfl (s_not rfl) ?_
  refine o_nil ?_
  refine x_then (hK8 _ _ ?_)
  refine c_false rfl ?_
  refine c_skip ?_
  refine x_then (hK7 _ _ ?_)
  refine c_seq fun _ hK9 => ?_
  refine c_seq fun _ hK10 => ?_
  refine c_region ?_
  refine o_step rfl (s_move rfl) ?_
  refine o_callP (apartTexts0_fn b cs (hz 3 (by decide) (by decide))) rfl rfl rfl (fun w st => (RdPK.own (l := cs) meA).out w st) (fun v14 hv14 => ?_)
  subst hv14
  refine o_step rfl (s_not rfl) ?_
  refine o_nil ?_
  refine x_then (hK10 _ _ ?_)
  refine c_false rfl ?_
  refine c_skip ?_
  refine x_then (hK9 _ _ ?_)
  refine c_seq fun _ hK11 => ?_
  refine c_seq fun _ hK12 => ?_
  refine c_region ?_
  refine o_step rfl (s_move rfl) ?_
  refine o_callP (apartMarks0_fn b cs (hz 4 (by decide) (by decide))) rfl rfl rfl (fun w st => (RdPK.own (l := cs) meA).out w st) (fun v17 hv17 => ?_)
  subst hv17
  refine o_step rfl (s_not rfl) ?_
  refine o_nil ?_
  refine x_then (hK12 _ _ ?_)
  refine c_false rfl ?_
  refine c_skip ?_
  refine x_then (hK11 _ _ ?_)
  refine c_seq fun _ hK13 => ?_
  refine c_seq fun _ hK14 => ?_
  refine c_region ?_
  refine o_step rfl (s_move rfl) ?_
  refine o_callP (apartSpans0_fn b cs (hz 5 (by decide) (by decide))) rfl rfl rfl (fun w st => (RdPK.own (l := cs) meA).out w st) (fun v20 hv20 => ?_)
  subst hv20
  refine o_step rfl (s_not rfl) ?_
  refine o_nil ?_
  refine x_then (hK14 _ _ ?_)
  refine c_false rfl ?_
  refine c_skip ?_
  refine x_then (hK13 _ _ ?_)
  refine c_seq fun _ hK15 => ?_
  refine c_seq fun _ hK16 => ?_
  refine c_region ?_
  refine o_step rfl (s_move rfl) ?_
  refine o_callP (apartRuns0_fn b cs (hz 6 (by decide) (by decide))) rfl rfl rfl (fun w st => (RdPK.own (l := cs) meA).out w st) (fun v23 hv23 => ?_)
  subst hv23
  refine o_step rfl (s_not rfl) ?_
  refine o_nil ?_
  refine x_then (hK16 _ _ ?_)
  refine c_false rfl ?_
  refine c_skip ?_
  refine x_then (hK15 _ _ ?_)
  refine c_seq fun _ hK17 => ?_
  refine c_seq fun _ hK18 => ?_
  refine c_region ?_
  refine o_step rfl (s_move rfl) ?_
  refine o_callP (apartClasses0_fn b cs (hz 7 (by decide) (by decide))) rfl rfl rfl (fun w st => (RdPK.own (l := cs) meA).out w st) (fun v26 hv26 => ?_)
  subst hv26
  refine o_step rfl (s_not rfl) ?_
  refine o_nil ?_
  refine x_then (hK18 _ _ ?_)
  refine c_false rfl ?_
  refine c_skip ?_
  refine x_then (hK17 _ _ ?_)
  refine c_seq fun _ hK19 => ?_
  refine c_seq fun _ hK20 => ?_
  refine c_region ?_
  refine o_step rfl (s_move rfl) ?_
  refine o_callP (apartNodes0_fn b cs (hz 8 (by decide) (by decide))) rfl rfl rfl (fun w st => (RdPK.own (l := cs) meA).out w st) (fun v29 hv29 => ?_)
  subst hv29
  refine o_step rfl (s_not rfl) ?_
  refine o_nil ?_
  refine x_then (hK20 _ _ ?_)
  refine c_false rfl ?_
  refine c_skip ?_
  refine x_then (hK19 _ _ ?_)
  refine c_seq fun _ hK21 => ?_
  refine c_seq fun _ hK22 => ?_
  refine c_region ?_
  refine o_step rfl (s_move rfl) ?_
  refine o_call (apartInstrs_fn b cs sls oa oc So Si hb hN hlen hO xss0 hI) rfl rfl rfl pkA (fun _ _ => trivial) (fun v32 S32 ⟨hv32, hS32⟩ => ?_)
  subst hv32
  subst hS32
  refine o_step rfl (s_not rfl) ?_
  refine o_nil ?_
  refine x_then (hK22 _ _ ?_)
  refine c_false rfl ?_
  refine c_skip ?_
  refine x_then (hK21 _ _ ?_)
  refine c_seq fun _ hK23 => ?_
  refine c_seq fun _ hK24 => ?_
  refine c_region ?_
  refine o_step rfl (s_move rfl) ?_
  refine o_callP (apartFaults0_fn b cs (hz 10 (by decide) (by decide))) rfl rfl rfl (fun w st => (RdPK.own (l := cs) meA).out w st) (fun v35 hv35 => ?_)
  subst hv35
  refine o_step rfl (s_not rfl) ?_
  refine o_nil ?_
  refine x_then (hK24 _ _ ?_)
  refine c_false rfl ?_
  refine c_skip ?_
  refine x_then (hK23 _ _ ?_)
  refine c_seq fun _ hK25 => ?_
  refine c_seq fun _ hK26 => ?_
  refine c_region ?_
  refine o_step rfl (s_move rfl) ?_
  refine o_callP (apartNotes0_fn b cs (hz 11 (by decide) (by decide))) rfl rfl rfl (fun w st => (RdPK.own (l := cs) meA).out w st) (fun v38 hv38 => ?_)
  subst hv38
  refine o_step rfl (s_not rfl) ?_
  refine o_nil ?_
  refine x_then (hK26 _ _ ?_)
  refine c_false rfl ?_
  refine c_skip ?_
  refine x_then (hK25 _ _ ?_)
  refine c_seq fun _ hK27 => ?_
  refine c_seq fun _ hK28 => ?_
  refine c_region ?_
  refine o_step rfl (s_move rfl) ?_
  refine o_callP (apartParts0_fn b cs (hz 12 (by decide) (by decide))) rfl rfl rfl (fun w st => (RdPK.own (l := cs) meA).out w st) (fun v41 hv41 => ?_)
  subst hv41
  refine o_step rfl (s_not rfl) ?_
  refine o_nil ?_
  refine x_then (hK28 _ _ ?_)
  refine c_false rfl ?_
  refine c_skip ?_
  refine x_then (hK27 _ _ ?_)
  refine c_seq fun _ hK29 => ?_
  refine c_seq fun _ hK30 => ?_
  refine c_region ?_
  refine o_step rfl (s_move rfl) ?_
  refine o_callP (apartRows0_fn b cs (hz 13 (by decide) (by decide))) rfl rfl rfl (fun w st => (RdPK.own (l := cs) meA).out w st) (fun v44 hv44 => ?_)
  subst hv44
  refine o_step rfl (s_not rfl) ?_
  refine o_nil ?_
  refine x_then (hK30 _ _ ?_)
  refine c_false rfl ?_
  refine c_skip ?_
  refine x_then (hK29 _ _ ?_)
  refine c_seq fun _ hK31 => ?_
  refine c_seq fun _ hK32 => ?_
  refine c_region ?_
  refine o_step rfl (s_move rfl) ?_
  refine o_callP (apartIntss0_fn b cs (hz 14 (by decide) (by decide))) rfl rfl rfl (fun w st => (RdPK.own (l := cs) meA).out w st) (fun v47 hv47 => ?_)
  subst hv47
  refine o_step rfl (s_not rfl) ?_
  refine o_nil ?_
  refine x_then (hK32 _ _ ?_)
  refine c_false rfl ?_
  refine c_skip ?_
  refine x_then (hK31 _ _ ?_)
  refine c_seq fun _ hK33 => ?_
  refine c_seq fun _ hK34 => ?_
  refine c_region ?_
  refine o_step rfl (s_move rfl) ?_
  refine o_callP (apartSpanss0_fn b cs (hz 15 (by decide) (by decide))) rfl rfl rfl (fun w st => (RdPK.own (l := cs) meA).out w st) (fun v50 hv50 => ?_)
  subst hv50
  refine o_step rfl (s_not rfl) ?_
  refine o_nil ?_
  refine x_then (hK34 _ _ ?_)
  refine c_false rfl ?_
  refine c_skip ?_
  refine x_then (hK33 _ _ ?_)
  refine c_seq fun _ hK35 => ?_
  refine c_seq fun _ hK36 => ?_
  refine c_region ?_
  refine o_step rfl (s_move rfl) ?_
  refine o_callP (apartPieces0_fn b cs (hz 16 (by decide) (by decide))) rfl rfl rfl (fun w st => (RdPK.own (l := cs) meA).out w st) (fun v53 hv53 => ?_)
  subst hv53
  refine o_step rfl (s_not rfl) ?_
  refine o_nil ?_
  refine x_then (hK36 _ _ ?_)
  refine c_false rfl ?_
  refine c_skip ?_
  refine x_then (hK35 _ _ ?_)
  refine c_seq fun _ hK37 => ?_
  refine c_seq fun _ hK38 => ?_
  refine c_region ?_
  refine o_step rfl (s_move rfl) ?_
  refine o_callP (apartFiles0_fn b cs (hz 17 (by decide) (by decide))) rfl rfl rfl (fun w st => (RdPK.own (l := cs) meA).out w st) (fun v56 hv56 => ?_)
  subst hv56
  refine o_step rfl (s_not rfl) ?_
  refine o_nil ?_
  refine x_then (hK38 _ _ ?_)
  refine c_false rfl ?_
  refine c_skip ?_
  refine x_then (hK37 _ _ ?_)
  refine c_seq fun _ hK39 => ?_
  refine c_seq fun _ hK40 => ?_
  refine c_region ?_
  refine o_step rfl (s_move rfl) ?_
  refine o_callP (apartCmds0_fn b cs (hz 18 (by decide) (by decide))) rfl rfl rfl (fun w st => (RdPK.own (l := cs) meA).out w st) (fun v59 hv59 => ?_)
  subst hv59
  refine o_step rfl (s_not rfl) ?_
  refine o_nil ?_
  refine x_then (hK40 _ _ ?_)
  refine c_false rfl ?_
  refine c_skip ?_
  refine x_then (hK39 _ _ ?_)
  refine c_seq fun _ hK41 => ?_
  refine c_region ?_
  refine o_step rfl (s_move rfl) ?_
  refine o_step rfl (s_assign rfl) ?_
  refine o_nil ?_
  refine x_then (hK41 _ _ ?_)
  refine c_ret ?_
  refine ?_
  refine x_sub (Sub.refl _) (H' := (b, .cells cs.toArray 63 (0, 0)) :: So) hzB ?_
  exact x_ret rfl (.tmp rfl (.nil)) (⟨rfl, rfl⟩)
end Go.Proofs.YtihbhlgognpmmaaDoor

/- Part of the proofs over this seat: see the text that holds the theorem. Conditions: each theorem bears its own. -/
namespace Go.Proofs.YtihbhlgognpmmaaDoor
open Go Go.HL Go.Proofs Go.HL.Kl Go.HL.Kl.Mc
theorem ndSet0 {e : Nd} {c : Cl} : En { e with set := c } = splice (En e) 1 (Ec c) := by
  have h1 := Ec_lenM e.set
  have h2 := Ec_lenM c
  simp only [En, splice, List.take_succ_cons, List.take_zero, List.drop_succ_cons, h2, Nat.add_comm 1 4, List.singleton_append, List.cons_append, List.nil_append]
  rw [List.drop_append_of_le_length (by omega), List.drop_of_length_le (by omega)]; rfl
theorem ndKids0 {e : Nd} {k : Int} : En { e with kids := k } = splice (En e) 8 [.int .i64 k] := by rfl
set_option maxHeartbeats 4000000 in
theorem machineCompiles_fn (ra : Option Addr) (rc : Nat) (re : List Nd) (hre : ∀ x ∈ re, -128 ≤ x.op ∧ x.op < 128) : HL.Fn Tryd.prog 3 [.slice ra re.length rc] (fun w => Rd En w (.slice ra re.length rc) re) [] (fun v _ => v = .bool true) := by
  refine fn_of Tryd.func3 rfl rfl rfl fun w0 hw => ?_
  have hsx := hw.sl
  have hbl := hsx.le
  refine c_seq fun _ hK1 => ?_
  refine c_region ?_
  refine o_step rfl (s_assign rfl) ?_
  refine o_nil ?_
  refine x_then (hK1 _ _ ?_)
  refine c_seq fun _ hK2 => ?_
  refine c_region ?_
  refine o_callP (works_fn) rfl rfl rfl (fun _ _ => trivial) (fun v16 hv16 => ?_)
  subst hv16
  refine o_step rfl (s_assign rfl) ?_
  refine o_nil ?_
  refine x_then (hK2 _ _ ?_)
  refine c_seq fun _ hK3 => ?_
  refine c_seq fun _ hK4 => ?_
  refine c_region ?_
  refine o_step rfl (s_move rfl) ?_
  refine o_step rfl (s_len rfl) ?_
  refine o_callP (long_fn re.length) rfl rfl rfl (fun _ _ => trivial) (fun v19 hv19 => ?_)
  by_cases hlg : (re.length : Int) > 2147483647
  ·
   rw [decide_eq_true hlg] at hv19
   subst hv19
   refine o_step rfl (s_move rfl) ?_
   refine o_no rfl rfl rfl rfl ?_
   refine o_no rfl rfl rfl rfl ?_
   refine o_step rfl (s_pick_t rfl rfl) ?_
   refine o_nil ?_
   refine x_then (hK4 _ _ ?_)
   refine c_true rfl ?_
   refine c_seq fun _ hK5 => ?_
   refine c_region ?_
   refine o_step rfl (s_move rfl) ?_
   refine o_step rfl (s_assign rfl) ?_
   refine o_nil ?_
   refine x_then (hK5 _ _ ?_)
   refine c_ret ?_
   refine x_then_ret (?_)
   exact x_ret rfl (.tmp rfl (.nil)) (rfl)
  ·
   rw [decide_eq_false hlg] at hv19
   subst hv19
   refine o_step rfl (s_move rfl) ?_
   refine o_yes rfl rfl ?_
   refine o_step rfl (s_move rfl) ?_
   refine o_yes rfl rfl ?_
   refine o_callP (beyond_fn ra rc re hre) rfl rfl rfl (fun w st => (RdK.old0 hw).out w st) (fun v22 ⟨b22, hv22⟩ => ?_)
   subst hv22
   cases b22
   ·
    refine o_step rfl (s_pick_f rfl rfl) ?_
    refine o_nil ?_
    refine x_then (hK4 _ _ ?_)
    refine c_false rfl ?_
    refine c_skip ?_
    refine x_then (hK3 _ _ ?_)
    refine c_seq fun _ hK6 => ?_
    refine c_region ?_
    refine o_step rfl (s_move rfl) ?_
    refine o_call (wideNodes_fn ra rc re (by omega)) rfl rfl rfl (by exact .nil) (fun w st => (RdK.old0 hw).out w st) (fun v26 S26 ⟨a26, hv26, hS26⟩ => ?_)
    subst hv26
    have hin := hS26.pre re.length (by rw [wdl_len]; omega)
    rw [wdl_take] at hin
    refine o_step rfl (s_assign rfl) ?_
    refine o_nil ?_
    refine x_then (hK6 _ _ ?_)
    refine c_seq fun _ hK7 => ?_
    refine c_region ?_
    refine o_step rfl (s_move rfl) ?_
    refine o_call (compileO_fn a26 _ re hre) rfl rfl rfl (by exact .nil) (fun w st => (hin.rdk hiA).out w st) (fun v29 S29 hv29 => ?_)
    obtain ⟨sv29, rfl, hb29, hg29⟩ := hv29.pair
    refine o_step rfl (s_move rfl) ?_
    refine o_step rfl (s_extract rfl rfl) ?_
    refine o_step rfl (s_extract rfl rfl) ?_
    refine o_step rfl (s_assign rfl) ?_
    refine o_step rfl (s_assign rfl) ?_
    refine o_nil ?_
    refine x_then (hK7 _ _ ?_)
    refine c_seq fun _ hK8 => ?_
    refine c_region ?_
    refine o_step rfl (s_move rfl) ?_
    refine o_call (compileO_fn a26 _ re hre) rfl rfl rfl (by exact .nil) (fun w st => (hin.rdk hiA).out w st) (fun v34 S34 hv34 => ?_)
    obtain ⟨sv34, rfl, hb34, hg34⟩ := hv34.pair
    refine o_step rfl (s_move rfl) ?_
    refine o_step rfl (s_extract rfl rfl) ?_
    refine o_step rfl (s_extract rfl rfl) ?_
    refine o_step rfl (s_assign rfl) ?_
    refine o_step rfl (s_assign rfl) ?_
    refine o_nil ?_
    refine x_then (hK8 _ _ ?_)
    refine c_seq fun _ hK9 => ?_
    refine c_region ?_
    refine o_step rfl (s_move rfl) ?_
    refine o_callP (rCompile_fn ra rc re hre) rfl rfl rfl (fun w st => (RdK.old0 hw).out w st) (fun v39 ⟨sv39, hv39⟩ => ?_)
    subst hv39
    by_cases hE : errC re = 0
    ·
     obtain ⟨x, ks, am, hsb, hs, rfl, hm⟩ := hg29 hE
     obtain ⟨x2, ks2, an, _, hs2, rfl, hn⟩ := hg34 hE
     obtain ⟨e1, e2⟩ := hs.uniq hs2
     subst e1
     subst e2
     have hmk := hs.mok
     have hwt := hs.weight
     have hml := hs.mach_le
     refine o_step rfl (s_move rfl) ?_
     refine o_step rfl (s_extract rfl rfl) ?_
     refine o_step rfl (s_extract rfl rfl) ?_
     refine o_step rfl (s_assign rfl) ?_
     refine o_step rfl (s_assign rfl) ?_
     refine o_nil ?_
     refine x_then (hK9 _ _ ?_)
     refine c_seq fun _ hK10 => ?_
     refine c_seq fun _ hK11 => ?_
     refine c_region ?_
     refine o_step rfl (s_move rfl) ?_
     refine o_step rfl (s_not rfl) ?_
     refine o_step rfl (s_move rfl) ?_
     refine o_yes rfl rfl ?_
     refine o_step rfl (s_move rfl) ?_
     refine o_yes rfl rfl ?_
     refine o_step rfl (s_move rfl) ?_
     refine o_yes rfl rfl ?_
     refine o_step rfl (s_neq_f rfl rfl rfl) ?_
     refine o_step rfl (s_pick_f rfl rfl) ?_
     refine o_step rfl (s_move rfl) ?_
     refine o_yes rfl rfl ?_
     refine o_step rfl (s_move rfl) ?_
     refine o_yes rfl rfl ?_
     refine o_step rfl (s_move rfl) ?_
     refine o_yes rfl rfl ?_
     refine o_step rfl (s_neq_f rfl rfl rfl) ?_
     refine o_step rfl (s_pick_f rfl rfl) ?_
     refine o_step rfl (s_move rfl) ?_
     refine o_yes rfl rfl ?_
     refine o_step rfl (s_move rfl) ?_
     refine o_yes rfl rfl ?_
     refine o_step rfl (s_move rfl) ?_
     refine o_yes rfl rfl ?_
     refine o_callP (eqIn_fn am an _ _ (mach (.nd x ks .nil)) (mach (.nd x ks .nil))) rfl rfl rfl (fun w st => ⟨(hm.rdk hiA).out w st, (hn.rdk hiA).out w st⟩) (fun v57 hv57 => ?_)
     rw [decide_eq_true rfl] at hv57
     subst hv57
     refine o_yes rfl rfl ?_
     refine o_step rfl (s_not rfl) ?_
     refine o_step rfl (s_pick_f rfl rfl) ?_
     refine o_step rfl (s_move rfl) ?_
     refine o_yes rfl rfl ?_
     refine o_step rfl (s_move rfl) ?_
     refine o_yes rfl rfl ?_
     refine o_step rfl (s_move rfl) ?_
     refine o_yes rfl rfl ?_
     refine o_callP (eqNodes_fn a26 ra _ rc re re) rfl rfl rfl (fun w st => ⟨(hin.rdk hiA).out w st, (RdK.old0 hw).out w st⟩) (fun v63 hv63 => ?_)
     rw [decide_eq_true rfl] at hv63
     subst hv63
     refine o_yes rfl rfl ?_
     refine o_step rfl (s_not rfl) ?_
     refine o_step rfl (s_pick_f rfl rfl) ?_
     refine o_step rfl (s_move rfl) ?_
     refine o_yes rfl rfl ?_
     refine o_step rfl (s_move rfl) ?_
     refine o_yes rfl rfl ?_
     refine o_callP (spareNodes_fn a26 _ re (by omega)) rfl rfl rfl (fun w st => (hS26.rdk hiA).out w st) (fun v68 hv68 => ?_)
     subst hv68
     refine o_yes rfl rfl ?_
     refine o_step rfl (s_not rfl) ?_
     refine o_step rfl (s_pick_f rfl rfl) ?_
     refine o_nil ?_
     refine x_then (hK11 _ _ ?_)
     refine c_false rfl ?_
     refine c_skip ?_
     refine x_then (hK10 _ _ ?_)
     refine c_seq fun _ hK12 => ?_
     refine c_seq fun _ hK13 => ?_
     refine c_region ?_
     refine o_step rfl (s_move rfl) ?_
     refine o_step rfl (s_neq_f rfl rfl hE) ?_
     refine o_nil ?_
     refine x_then (hK13 _ _ ?_)
     refine c_false rfl ?_
     refine c_skip ?_
     refine x_then (hK12 _ _ ?_)
     refine c_seq fun _ hK14 => ?_
     refine c_seq fun _ hK15 => ?_
     refine c_region ?_
     refine o_step rfl (s_move rfl) ?_
     refine o_callP (mShaped_fn am _ (mach (.nd x ks .nil))) rfl rfl rfl (fun w st => (hm.rdk hiA).out w st) (fun v77 hv77 => ?_)
     rw [mokB_iff.2 hmk] at hv77
     subst hv77
     refine o_step rfl (s_not rfl) ?_
     refine o_step rfl (s_move rfl) ?_
     refine o_yes rfl rfl ?_
     refine o_step rfl (s_move rfl) ?_
     refine o_yes rfl rfl ?_
     refine o_callP (rMShaped_fn am _ (mach (.nd x ks .nil)) hmk.rng) rfl rfl rfl (fun w st => (hm.rdk hiA).out w st) (fun v81 hv81 => ?_)
     rw [mokB_iff.2 hmk] at hv81
     subst hv81
     refine o_yes rfl rfl ?_
     refine o_step rfl (s_not rfl) ?_
     refine o_step rfl (s_pick_f rfl rfl) ?_
     refine o_step rfl (s_move rfl) ?_
     refine o_yes rfl rfl ?_
     refine o_step rfl (s_move rfl) ?_
     refine o_yes rfl rfl ?_
     refine o_step rfl (s_len rfl) ?_
     refine o_yes rfl rfl ?_
     refine o_step rfl (s_move rfl) ?_
     refine o_yes rfl rfl ?_
     refine o_callP (rWeightV_fn ra rc re hre x ks hsb hs) rfl rfl rfl (fun w st => (RdK.old0 hw).out w st) (fun v88 hv88 => ?_)
     subst hv88
     refine o_yes rfl rfl ?_
     refine o_step rfl (s_mul rfl rfl (by omega)) ?_
     refine o_yes rfl rfl ?_
     refine o_step rfl (s_add rfl rfl (by omega)) ?_
     refine o_yes rfl rfl ?_
     refine o_step rfl (s_gtr_f rfl rfl (by omega)) ?_
     refine o_step rfl (s_pick_f rfl rfl) ?_
     refine o_nil ?_
     refine x_then (hK15 _ _ ?_)
     refine c_false rfl ?_
     refine c_skip ?_
     refine x_then (hK14 _ _ ?_)
     refine c_seq fun _ hK16 => ?_
     refine c_region ?_
     refine o_step rfl (s_move rfl) ?_
     refine o_call (copyInstrs_fn am _ (mach (.nd x ks .nil)) (by omega)) rfl rfl rfl (by exact .nil) (fun w st => (hm.rdk hiA).out w st) (fun v94 S94 ⟨a94, c94, hv94, hS94⟩ => ?_)
     subst hv94
     refine o_step rfl (s_assign rfl) ?_
     refine o_nil ?_
     refine x_then (hK16 _ _ ?_)
     refine c_seq fun _ hK17 => ?_
     refine c_seq fun _ hK18 => ?_
     refine c_region ?_
     refine o_step rfl (s_assign rfl) ?_
     refine o_nil ?_
     refine x_then (hK18 _ _ ?_)
     refine c_block ?_
     refine c_loop3 (fun (j : Nat) (l : List Nd) (S : Hp) => j ≤ re.length ∧ SetsTo l re.length j ∧ OwnS En 9 41 (.slice a26 re.length (re.length + 64)) l S) (fun (j : Nat) (l : List Nd) (S : Hp) => [(12, .int .i64 j)]) [(2, _), (4, _), (5, _), (7, _), (11, _)] (fun (j : Nat) (l : List Nd) (S : Hp) => S ++ (S94 ++ (S34 ++ S29))) (fun (j : Nat) (l : List Nd) (S : Hp) => re.length - j) 0 _ _ ⟨by omega, SetsTo.start hre, hin⟩ sbA sbA hzB ?_
     rintro j l S ⟨hj, hl, hS⟩
     have hSs := hS.sl
     rw [hl.len] at hSs
     refine c_seq fun _ hK19 => ?_
     refine c_seq fun _ hK20 => ?_
     refine c_region ?_
     refine o_step rfl (s_move rfl) ?_
     refine o_step rfl (s_move rfl) ?_
     refine o_step rfl (s_len rfl) ?_
     by_cases hjl : j < re.length
     ·
      obtain ⟨e0, he0⟩ : ∃ e, l[j]? = some e := ⟨_, List.getElem?_eq_getElem (by rw [hl.len]; exact hjl)⟩
      refine o_step rfl (step_cast (v' := .bool true) (s_lss rfl rfl) (by rw [decide_eq_true (by omega)])) ?_
      refine o_nil ?_
      refine x_then (hK20 _ _ ?_)
      refine c_true rfl ?_
      refine c_skip ?_
      refine x_then (hK19 _ _ ?_)
      refine c_seq fun _ hK21 => ?_
      refine c_block ?_
      refine c_seq fun _ hK22 => ?_
      refine c_region ?_
      refine o_step rfl (s_move rfl) ?_
      refine o_step rfl (s_move rfl) ?_
      refine o_step rfl (s_move rfl) ?_
      refine o_step rfl (step_cast (v' := Ew (BitVec.ofNat 64 j)) (s_conv rfl) (conv9 (by omega))) ?_
      refine o_step rfl (step_cast (v' := .agg (Ec (cls9 j)).toArray) (s_buildA (cs := [_, _, _, _]) (vs := [_, _, _, _]) rfl rfl (.cons rfl rfl rfl rfl (.cons rfl rfl rfl rfl (.cons rfl rfl rfl rfl (.cons rfl rfl rfl rfl .nil))))) (by rw [Ec_cls9])) ?_
      refine o_step rfl (s_idx rfl rfl hSs (by omega)) ?_
      refine o_step rfl (s_field rfl rfl (by decide)) ?_
      refine o_stS (i := j) (off := 1) (cs := Ec (cls9 j)) { e0 with set := cls9 j } hS pkA rfl rfl rfl (Ec_lenM _) (by rw [hl.len]; exact hjl) (by first | rfl | (rw [Int.toNat_natCast]; first | done | rfl)) (by rw [Ec_lenM]; omega) (fun e he => by rw [he0] at he; cases he; exact ndSet0) (Ec_one _) fun S' hS' => ?_
      refine o_nil ?_
      refine x_then (hK22 _ _ ?_)
      refine c_seq fun _ hK23 => ?_
      refine c_region ?_
      refine o_step rfl (s_move rfl) ?_
      refine o_step rfl (s_move rfl) ?_
      refine o_step rfl (s_idx rfl rfl hSs (by omega)) ?_
      refine o_step rfl (s_field rfl rfl (by decide)) ?_
      refine o_stS (i := j) (off := 0) (cs := [.int .i8 1]) { e0 with set := cls9 j, op := 1 } hS' pkA rfl rfl rfl rfl (by rw [List.length_set, hl.len]; exact hjl) (by first | rfl | (rw [Int.toNat_natCast]; first | done | rfl)) (by simp) (fun e he => by rw [List.getElem?_set_self (by rw [hl.len]; exact hjl)] at he; cases he; rfl) (by simp [Value.oneCell']) fun S' hS' => ?_
      refine o_nil ?_
      refine x_then (hK23 _ _ ?_)
      refine c_region ?_
      refine o_step rfl (s_move rfl) ?_
      refine o_step rfl (s_move rfl) ?_
      refine o_step rfl (s_idx rfl rfl hSs (by omega)) ?_
      refine o_step rfl (s_field rfl rfl (by decide)) ?_
      refine o_stS (i := j) (off := 8) (cs := [.int .i64 0]) { e0 with set := cls9 j, op := 1, kids := 0 } hS' pkA rfl rfl rfl rfl (by rw [List.length_set, List.length_set, hl.len]; exact hjl) (by first | rfl | (rw [Int.toNat_natCast]; first | done | rfl)) (by simp) (fun e he => by rw [List.getElem?_set_self (by rw [List.length_set, hl.len]; exact hjl)] at he; cases he; exact ndKids0 (e := { e0 with set := cls9 j, op := 1 }) (k := 0)) (by simp [Value.oneCell']) fun S' hS' => ?_
      refine o_nil ?_
      refine x_block ?_
      refine x_then (hK21 _ _ ?_)
      refine c_region ?_
      refine o_step rfl (s_move rfl) ?_
      refine o_step rfl (s_add rfl rfl (by omega)) ?_
      refine o_step rfl (s_assign rfl) ?_
      refine o_nil ?_
      exact x_then (x_inv (j + 1, _, _) ⟨by omega, hl.step hjl _ _ _ ⟨rfl, rfl⟩, hS'⟩ (by first | omega | (dsimp only; omega)) sbA hzB)
     ·
      obtain rfl : j = re.length := by omega
      refine o_step rfl (step_cast (v' := .bool false) (s_lss rfl rfl) (by rw [decide_eq_false (by omega)])) ?_
      refine o_nil ?_
      refine x_then (hK20 _ _ ?_)
      refine c_false rfl ?_
      refine c_exit ?_
      refine x_then_exit ?_
      refine x_then_exit ?_
      refine x_block_exit ?_
      refine x_then (hK17 _ _ ?_)
      refine c_seq fun _ hK24 => ?_
      refine c_region ?_
      refine o_step rfl (s_move rfl) ?_
      have hc118 := compileO_fn a26 (re.length + 64) l hl.rng
      rw [hl.len] at hc118
      refine o_call (hc118) rfl rfl rfl (by exact .nil) (fun w st => (hS.rdk hiA).out w st) (fun v118 S118 hv118 => ?_)
      obtain ⟨sv118, rfl, _, _⟩ := hv118.pair
      refine o_step rfl (s_move rfl) ?_
      refine o_step rfl (s_extract rfl rfl) ?_
      refine o_step rfl (s_extract rfl rfl) ?_
      refine o_step rfl (s_assign rfl) ?_
      refine o_step rfl (s_assign rfl) ?_
      refine o_nil ?_
      refine x_then (hK24 _ _ ?_)
      refine c_seq fun _ hK25 => ?_
      refine c_seq fun _ hK26 => ?_
      refine c_region ?_
      refine o_step rfl (s_move rfl) ?_
      refine o_step rfl (s_move rfl) ?_
      refine o_callP (eqIn_fn am a94 _ c94 (mach (.nd x ks .nil)) (mach (.nd x ks .nil))) rfl rfl rfl (fun w st => ⟨(hm.rdk hiA).out w st, (hS94.rdk hiA).out w st⟩) (fun v123 hv123 => ?_)
      rw [decide_eq_true rfl] at hv123
      subst hv123
      refine o_step rfl (s_not rfl) ?_
      refine o_step rfl (s_move rfl) ?_
      refine o_yes rfl rfl ?_
      refine o_step rfl (s_move rfl) ?_
      refine o_yes rfl rfl ?_
      by_cases h49 : ¬ errC l = 49
      ·
       have hn1 : ¬ 1 < re.length := fun h => h49 (hl.bad h)
       refine o_step rfl (s_neq_t rfl rfl h49) ?_
       refine o_yes rfl rfl ?_
       refine o_step rfl (s_move rfl) ?_
       refine o_yes rfl rfl ?_
       refine o_step rfl (s_move rfl) ?_
       refine o_yes rfl rfl ?_
       refine o_step rfl (s_len rfl) ?_
       refine o_yes rfl rfl ?_
       refine o_step rfl (s_gtr_f rfl rfl (by omega)) ?_
       refine o_yes rfl rfl ?_
       refine o_step rfl (s_pick_t rfl rfl) ?_
       refine o_step rfl (s_pick_f rfl rfl) ?_
       refine o_nil ?_
       refine x_then (hK26 _ _ ?_)
       refine c_false rfl ?_
       refine c_skip ?_
       refine x_then (hK25 _ _ ?_)
       refine c_seq fun _ hK27 => ?_
       refine c_region ?_
       refine o_step rfl (step_cast (v' := .agg (List.replicate 19 (Value.slice none 0 0)).toArray) (s_build (cs := [_, _, _, _, _, _, _, _, _, _, _, _, _, _, _, _, _, _, _]) (vs := []) rfl rfl .nil) rfl) ?_
       refine o_box rfl rfl rfl fun b135 => ?_
       refine o_step rfl (s_assign rfl) ?_
       refine o_nil ?_
       refine x_then (hK27 _ _ ?_)
       refine c_seq fun _ hK28 => ?_
       refine c_region ?_
       refine o_step rfl (s_move rfl) ?_
       refine o_step rfl (s_move rfl) ?_
       have hz0 : ∀ i, i < 19 → i ≠ 9 → (List.replicate 19 (Value.slice none 0 0))[i]? = some (.slice none 0 0) := fun i h1 _ => by rw [List.getElem?_replicate, if_pos h1]
       refine o_call (addInstrs_fn b135 (List.replicate 19 (Value.slice none 0 0)) [] (⟨am, (mach (.nd x ks .nil)).length, (mach (.nd x ks .nil))⟩ : Sl In) none 0 [] (by rfl) (by simp) .nil) rfl rfl rfl pkA (fun _ _ => trivial) (fun v138 S138 ⟨cs138, oa138, oc138, So138, hv138, hb138, hc138, hS138⟩ => ?_)
       subst hv138
       have hz138 := fun i h1 h2 => (hc138 i h2).trans (hz0 i h1 h2)
       refine o_nil ?_
       refine x_then (hK28 _ _ ?_)
       refine c_seq fun _ hK29 => ?_
       refine c_region ?_
       refine o_step rfl (s_move rfl) ?_
       refine o_step rfl (s_move rfl) ?_
       refine o_call (addInstrs_fn b135 cs138 _ (⟨an, (mach (.nd x ks .nil)).length, (mach (.nd x ks .nil))⟩ : Sl In) _ _ _ hb138 (by simp) hS138) rfl rfl rfl pkA (fun _ _ => trivial) (fun v141 S141 ⟨cs141, oa141, oc141, So141, hv141, hb141, hc141, hS141⟩ => ?_)
       subst hv141
       have hz141 := fun i h1 h2 => (hc141 i h2).trans (hz138 i h1 h2)
       refine o_nil ?_
       refine x_then (hK29 _ _ ?_)
       refine c_seq fun _ hK30 => ?_
       refine c_region ?_
       refine o_step rfl (s_move rfl) ?_
       refine o_call (apart_fn b135 cs141 [(⟨am, (mach (.nd x ks .nil)).length, (mach (.nd x ks .nil))⟩ : Sl In), (⟨an, (mach (.nd x ks .nil)).length, (mach (.nd x ks .nil))⟩ : Sl In)] _ _ So141 (S29 ++ S34) hb141 hz141 (by simp) (sl_all2 (by dsimp only; omega) (by dsimp only; omega)) hS141 _ (.cons (s := (⟨am, (mach (.nd x ks .nil)).length, (mach (.nd x ks .nil))⟩ : Sl In)) hm (OwnL.one1 (s := (⟨an, (mach (.nd x ks .nil)).length, (mach (.nd x ks .nil))⟩ : Sl In)) hn))) rfl rfl rfl ((Pick.takeC pkA (Pick.takeA pkA (Pick.takeA pkA pkA)))) (fun _ _ => trivial) (fun v143 S143 ⟨hv143, hS143⟩ => ?_)
       subst hv143
       subst hS143
       refine o_step rfl (s_assign rfl) ?_
       refine o_nil ?_
       refine x_then (hK30 _ _ ?_)
       refine c_ret ?_
       refine ?_
       exact x_ret rfl (.tmp rfl (.nil)) (rfl)
      ·
       refine o_step rfl (s_neq_f rfl rfl (Decidable.not_not.1 h49)) ?_
       refine o_yes rfl rfl ?_
       refine o_step rfl (s_move rfl) ?_
       refine o_no rfl rfl rfl rfl ?_
       refine o_no rfl rfl rfl rfl ?_
       refine o_no rfl rfl rfl rfl ?_
       refine o_yes rfl rfl ?_
       refine o_step rfl (s_pick_f rfl rfl) ?_
       refine o_step rfl (s_pick_f rfl rfl) ?_
       refine o_nil ?_
       refine x_then (hK26 _ _ ?_)
       refine c_false rfl ?_
       refine c_skip ?_
       refine x_then (hK25 _ _ ?_)
       refine c_seq fun _ hK31 => ?_
       refine c_region ?_
       refine o_step rfl (step_cast (v' := .agg (List.replicate 19 (Value.slice none 0 0)).toArray) (s_build (cs := [_, _, _, _, _, _, _, _, _, _, _, _, _, _, _, _, _, _, _]) (vs := []) rfl rfl .nil) rfl) ?_
       refine o_box rfl rfl rfl fun b135 => ?_
       refine o_step rfl (s_assign rfl) ?_
       refine o_nil ?_
       refine x_then (hK31 _ _ ?_)
       refine c_seq fun _ hK32 => ?_
       refine c_region ?_
       refine o_step rfl (s_move rfl) ?_
       refine o_step rfl (s_move rfl) ?_
       have hz0 : ∀ i, i < 19 → i ≠ 9 → (List.replicate 19 (Value.slice none 0 0))[i]? = some (.slice none 0 0) := fun i h1 _ => by rw [List.getElem?_replicate, if_pos h1]
       refine o_call (addInstrs_fn b135 (List.replicate 19 (Value.slice none 0 0)) [] (⟨am, (mach (.nd x ks .nil)).length, (mach (.nd x ks .nil))⟩ : Sl In) none 0 [] (by rfl) (by simp) .nil) rfl rfl rfl pkA (fun _ _ => trivial) (fun v138 S138 ⟨cs138, oa138, oc138, So138, hv138, hb138, hc138, hS138⟩ => ?_)
       subst hv138
       have hz138 := fun i h1 h2 => (hc138 i h2).trans (hz0 i h1 h2)
       refine o_nil ?_
       refine x_then (hK32 _ _ ?_)
       refine c_seq fun _ hK33 => ?_
       refine c_region ?_
       refine o_step rfl (s_move rfl) ?_
       refine o_step rfl (s_move rfl) ?_
       refine o_call (addInstrs_fn b135 cs138 _ (⟨an, (mach (.nd x ks .nil)).length, (mach (.nd x ks .nil))⟩ : Sl In) _ _ _ hb138 (by simp) hS138) rfl rfl rfl pkA (fun _ _ => trivial) (fun v141 S141 ⟨cs141, oa141, oc141, So141, hv141, hb141, hc141, hS141⟩ => ?_)
       subst hv141
       have hz141 := fun i h1 h2 => (hc141 i h2).trans (hz138 i h1 h2)
       refine o_nil ?_
       refine x_then (hK33 _ _ ?_)
       refine c_seq fun _ hK34 => ?_
       refine c_region ?_
       refine o_step rfl (s_move rfl) ?_
       refine o_call (apart_fn b135 cs141 [(⟨am, (mach (.nd x ks .nil)).length, (mach (.nd x ks .nil))⟩ : Sl In), (⟨an, (mach (.nd x ks .nil)).length, (mach (.nd x ks .nil))⟩ : Sl In)] _ _ So141 (S29 ++ S34) hb141 hz141 (by simp) (sl_all2 (by dsimp only; omega) (by dsimp only; omega)) hS141 _ (.cons (s := (⟨am, (mach (.nd x ks .nil)).length, (mach (.nd x ks .nil))⟩ : Sl In)) hm (OwnL.one1 (s := (⟨an, (mach (.nd x ks .nil)).length, (mach (.nd x ks .nil))⟩ : Sl In)) hn))) rfl rfl rfl ((Pick.takeC pkA (Pick.takeA pkA (Pick.takeA pkA pkA)))) (fun _ _ => trivial) (fun v143 S143 ⟨hv143, hS143⟩ => ?_)
       subst hv143
       subst hS143
       refine o_step rfl (s_assign rfl) ?_
       refine o_nil ?_
       refine x_then (hK34 _ _ ?_)
       refine c_ret ?_
       refine ?_
       exact x_ret rfl (.tmp rfl (.nil)) (rfl)
    ·
     obtain ⟨rfl, rfl⟩ := hb29 hE
     obtain ⟨rfl, rfl⟩ := hb34 hE
     refine o_step rfl (s_move rfl) ?_
     refine o_step rfl (s_extract rfl rfl) ?_
     refine o_step rfl (s_extract rfl rfl) ?_
     refine o_step rfl (s_assign rfl) ?_
     refine o_step rfl (s_assign rfl) ?_
     refine o_nil ?_
     refine x_then (hK9 _ _ ?_)
     refine c_seq fun _ hK35 => ?_
     refine c_seq fun _ hK36 => ?_
     refine c_region ?_
     refine o_step rfl (s_move rfl) ?_
     refine o_step rfl (s_not rfl) ?_
     refine o_step rfl (s_move rfl) ?_
     refine o_yes rfl rfl ?_
     refine o_step rfl (s_move rfl) ?_
     refine o_yes rfl rfl ?_
     refine o_step rfl (s_move rfl) ?_
     refine o_yes rfl rfl ?_
     refine o_step rfl (s_neq_f rfl rfl rfl) ?_
     refine o_step rfl (s_pick_f rfl rfl) ?_
     refine o_step rfl (s_move rfl) ?_
     refine o_yes rfl rfl ?_
     refine o_step rfl (s_move rfl) ?_
     refine o_yes rfl rfl ?_
     refine o_step rfl (s_move rfl) ?_
     refine o_yes rfl rfl ?_
     refine o_step rfl (s_neq_f rfl rfl rfl) ?_
     refine o_step rfl (s_pick_f rfl rfl) ?_
     refine o_step rfl (s_move rfl) ?_
     refine o_yes rfl rfl ?_
     refine o_step rfl (s_move rfl) ?_
     refine o_yes rfl rfl ?_
     refine o_step rfl (s_move rfl) ?_
     refine o_yes rfl rfl ?_
     refine o_callP (eqIn_fn none none 0 0 [] []) rfl rfl rfl (fun w st => ⟨Rd.nil Ein w, Rd.nil Ein w⟩) (fun v57 hv57 => ?_)
     rw [decide_eq_true rfl] at hv57
     subst hv57
     refine o_yes rfl rfl ?_
     refine o_step rfl (s_not rfl) ?_
     refine o_step rfl (s_pick_f rfl rfl) ?_
     refine o_step rfl (s_move rfl) ?_
     refine o_yes rfl rfl ?_
     refine o_step rfl (s_move rfl) ?_
     refine o_yes rfl rfl ?_
     refine o_step rfl (s_move rfl) ?_
     refine o_yes rfl rfl ?_
     refine o_callP (eqNodes_fn a26 ra _ rc re re) rfl rfl rfl (fun w st => ⟨(hin.rdk hiA).out w st, (RdK.old0 hw).out w st⟩) (fun v63 hv63 => ?_)
     rw [decide_eq_true rfl] at hv63
     subst hv63
     refine o_yes rfl rfl ?_
     refine o_step rfl (s_not rfl) ?_
     refine o_step rfl (s_pick_f rfl rfl) ?_
     refine o_step rfl (s_move rfl) ?_
     refine o_yes rfl rfl ?_
     refine o_step rfl (s_move rfl) ?_
     refine o_yes rfl rfl ?_
     refine o_callP (spareNodes_fn a26 _ re (by omega)) rfl rfl rfl (fun w st => (hS26.rdk hiA).out w st) (fun v68 hv68 => ?_)
     subst hv68
     refine o_yes rfl rfl ?_
     refine o_step rfl (s_not rfl) ?_
     refine o_step rfl (s_pick_f rfl rfl) ?_
     refine o_nil ?_
     refine x_then (hK36 _ _ ?_)
     refine c_false rfl ?_
     refine c_skip ?_
     refine x_then (hK35 _ _ ?_)
     refine c_seq fun _ hK37 => ?_
     refine c_seq fun _ hK38 => ?_
     refine c_region ?_
     refine o_step rfl (s_move rfl) ?_
     refine o_step rfl (s_neq_t rfl rfl hE) ?_
     refine o_nil ?_
     refine x_then (hK38 _ _ ?_)
     refine c_true rfl ?_
     refine c_seq fun _ hK39 => ?_
     refine c_region ?_
     refine o_step rfl (s_move rfl) ?_
     refine o_step rfl (s_len rfl) ?_
     refine o_step rfl (s_eql_t rfl rfl (by rfl)) ?_
     refine o_step rfl (s_assign rfl) ?_
     refine o_nil ?_
     refine x_then (hK39 _ _ ?_)
     refine c_ret ?_
     refine x_then_ret (?_)
     exact x_ret rfl (.tmp rfl (.nil)) (rfl)
   ·
    refine o_step rfl (s_pick_f rfl rfl) ?_
    refine o_nil ?_
    refine x_then (hK4 _ _ ?_)
    refine c_true rfl ?_
    refine c_seq fun _ hK40 => ?_
    refine c_region ?_
    refine o_step rfl (s_move rfl) ?_
    refine o_step rfl (s_assign rfl) ?_
    refine o_nil ?_
    refine x_then (hK40 _ _ ?_)
    refine c_ret ?_
    refine x_then_ret (?_)
    exact x_ret rfl (.tmp rfl (.nil)) (rfl)
end Go.Proofs.YtihbhlgognpmmaaDoor

/- Part of the proofs over this seat: see the text that holds the theorem. Conditions: each theorem bears its own. -/
namespace Go.Proofs.YtihbhlgognpmmaaDoor
open Go Go.HL Go.Proofs
theorem own : ownKnob Tryd.prog.godebug = none := by kernel_rfl
theorem laidOut : laidOutB Tryd.prog = true := by kernel_rfl
/-- the door's own heap meets the condition -/
theorem door_met (os : Os) (args : Array Value) : laidMetH Tryd.prog Rows.machineCompilesRow.laid ((World.doorLaid Tryd.prog 400 os).forCall (fun _ _ => 0) ⟨#[], args, []⟩).memory :=
  laidMetH_of_parts3 (fuel := 8) (laidMet_of_run' 8 (by kernel_rfl) (by kernel_rfl)) (by kernel_rfl) (by kernel_rfl)
end Go.Proofs.YtihbhlgognpmmaaDoor
