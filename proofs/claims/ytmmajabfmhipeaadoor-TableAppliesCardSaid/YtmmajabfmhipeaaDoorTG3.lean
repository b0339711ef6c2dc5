/- Part of the proofs over this seat: see the text that holds the theorem. Conditions: each theorem bears its own. -/
import Derived.Test.YtmmajabfmhipeaaDoorTG1
import Derived.Test.YtmmajabfmhipeaaDoorTG2
namespace Go.Proofs.YtmmajabfmhipeaaDoor
open Go Go.HL Go.Proofs Go.Tab
theorem addBytes_fn (b : Nat) (cs : List Value) (sls : List (Sl UInt8)) (s : Sl UInt8) (oa : Option Addr) (oc : Nat) (So : Hp) (hb : cs[0]? = some (.slice oa sls.length oc)) (hN : sls.length < 400) (hO : OwnS Esl 1 40 (.slice oa sls.length oc) sls So) : HL.Fn Tryd.prog 11 [.pointer (some ⟨b, 0, none⟩), .slice s.a s.xs.length s.c] (fun _ => True) ((b, .cells cs.toArray 70 (0, 0)) :: So) (fun _ S' => ∃ (cs' : List Value) (oa' : Option Addr) (oc' : Nat) (So' : Hp), S' = (b, .cells cs'.toArray 70 (0, 0)) :: So' ∧ cs'[0]? = some (.slice oa' (sls ++ [s]).length oc') ∧ (∀ i, i ≠ 0 → cs'[i]? = cs[i]?) ∧ OwnS Esl 1 40 (.slice oa' (sls ++ [s]).length oc') (sls ++ [s]) So') := by
  refine fn_of Tryd.func11 rfl rfl rfl fun w0 hw => ?_
  have hcl : 0 < cs.length := (List.getElem?_eq_some_iff.1 hb).1
  refine c_seq fun _ hK1 => ?_
  refine c_region ?_
  refine o_step rfl (s_move rfl) ?_
  refine o_step rfl (s_nil rfl) ?_
  refine o_step rfl (s_field rfl rfl (by decide)) ?_
  refine o_step rfl (s_ld rfl (.own meA hb)) ?_
  refine o_step rfl (s_len rfl) ?_
  refine o_step rfl (s_lss_t rfl rfl (by omega)) ?_
  refine o_nil ?_
  refine x_then (hK1 _ _ ?_)
  refine c_true rfl ?_
  refine c_region ?_
  refine o_step rfl (s_move rfl) ?_
  refine o_step rfl (s_move rfl) ?_
  refine o_step rfl (s_nil rfl) ?_
  refine o_step rfl (s_field rfl rfl (by decide)) ?_
  refine o_step rfl (s_ld rfl (.own meA hb)) ?_
  refine o_step rfl (s_move rfl) ?_
  refine o_bs (E := Esl) (xs := [s]) (vs := [_]) rfl rfl rfl rfl rfl (by decide) (by decide) fun b16 S16 hS16 => ?_
  refine o_app hO (hS16.rdk hiA) rfl rfl rfl rfl (by simp only [List.length_singleton]; omega) (by simp only [List.length_singleton]; omega) rfl pkA fun a17 c17 S17 hS17 => ?_
  refine o_step rfl (s_nil rfl) ?_
  refine o_step rfl (s_field rfl rfl (by decide)) ?_
  refine o_store rfl rfl rfl upA (by first | decide | omega | (simp; done) | (simp; omega)) rfl ?_
  refine o_nil ?_
  refine x_sub (Sub.refl _) (H' := (b, .cells (cs.set 0 (.slice a17 (sls ++ [s]).length c17)).toArray 70 (0, 0)) :: S17) hzB ?_
  exact x_end rfl (.nil) (⟨_, _, _, _, rfl, List.getElem?_set_self hcl, fun i hi => List.getElem?_set_ne (Ne.symm hi), hS17⟩)

theorem apart_fn (b : Nat) (cs : List Value) (sls : List (Sl UInt8)) (oa : Option Addr) (oc : Nat) (So Si : Hp) (hb : cs[0]? = some (.slice oa sls.length oc)) (hz : ∀ i, i < 19 → i ≠ 0 → cs[i]? = some (.slice none 0 0)) (hN : sls.length ≤ 400) (hlen : ∀ (j : Nat) (s : Sl UInt8), sls[j]? = some s → s.xs.length ≤ 4294967296) (hO : OwnS Esl 1 40 (.slice oa sls.length oc) sls So) (xss0 : List (List UInt8)) (hI : OwnL Eb 1 5 sls xss0 Si) : HL.Fn Tryd.prog 12 [.pointer (some ⟨b, 0, none⟩)] (fun _ => True) ((b, .cells cs.toArray 70 (0, 0)) :: (So ++ Si)) (fun v S' => v = .bool true ∧ S' = (b, .cells cs.toArray 70 (0, 0)) :: So) := by
  refine fn_of Tryd.func12 rfl rfl rfl fun w0 hw => ?_
  refine c_seq fun _ hK1 => ?_
  refine c_region ?_
  refine o_step rfl (s_assign rfl) ?_
  refine o_nil ?_
  refine x_then (hK1 _ _ ?_)
  refine c_seq fun _ hK2 => ?_
  refine c_region ?_
  refine o_step rfl (s_assign rfl) ?_
  refine o_nil ?_
  refine x_then (hK2 _ _ ?_)
  refine c_seq fun _ hK3 => ?_
  refine c_seq fun _ hK4 => ?_
  refine c_region ?_
  refine o_step rfl (s_move rfl) ?_
  refine o_call (apartBytes_fn b cs sls oa oc So Si hb hN hlen hO xss0 hI) rfl rfl rfl pkA (fun _ _ => trivial) (fun v5 S5 ⟨hv5, hS5⟩ => ?_)
  subst hv5
  subst hS5
  refine o_step rfl (s_not rfl) ?_
  refine o_nil ?_
  refine x_then (hK4 _ _ ?_)
  refine c_false rfl ?_
  refine c_skip ?_
  refine x_then (hK3 _ _ ?_)
  refine c_seq fun _ hK5 => ?_
  refine c_seq fun _ hK6 => ?_
  refine c_region ?_
  refine o_step rfl (s_move rfl) ?_
  refine o_callP (apartInts0_fn b cs (hz 1 (by decide) (by decide))) rfl rfl rfl (fun w st => (RdPK.own (l := cs) meA).out w st) (fun v8 hv8 => ?_)
  subst hv8
  refine o_step rfl (s_not rfl) ?_
  refine o_nil ?_
  refine x_then (hK6 _ _ ?_)
  refine c_false rfl ?_
  refine c_skip ?_
  refine x_then (hK5 _ _ ?_)
  refine c_seq fun _ hK7 => ?_
  refine c_seq fun _ hK8 => ?_
  refine c_region ?_
  refine o_step rfl (s_move rfl) ?_
  refine o_callP (apartBools0_fn b cs (hz 2 (by decide) (by decide))) rfl rfl rfl (fun w st => (RdPK.own (l := cs) meA).out w st) (fun v11 hv11 => ?_)
  subst hv11
  refine o_step rfl (s_not rfl) ?_
  refine o_nil ?_
  refine x_then (hK8 _ _ ?_)
  refine c_false rfl ?_
  refine c_skip ?_
  refine x_then (hK7 _ _ ?_)
  refine c_seq fun _ hK9 => ?_
  refine c_seq fun _ hK10 => ?_
  refine c_region ?_
  refine o_step rfl (s_move rfl) ?_
  refine o_callP (apartTexts0_fn b cs (hz 3 (by decide) (by decide))) rfl rfl rfl (fun w st => (RdPK.own (l := cs) meA).out w st) (fun v14 hv14 => ?_)
  subst hv14
  refine o_step rfl (s_not rfl) ?_
  refine o_nil ?_
  refine x_then (hK10 _ _ ?_)
  refine c_false rfl ?_
  refine c_skip ?_
  refine x_then (hK9 _ _ ?_)
  refine c_seq fun _ hK11 => ?_
  refine c_seq fun _ hK12 => ?_
  refine c_region ?_
  refine o_step rfl (s_move rfl) ?_
  refine o_callP (apartMarks0_fn b cs (hz 4 (by decide) (by decide))) rfl rfl rfl (fun w st => (RdPK.own (l := cs) meA).out w st) (fun v17 hv17 => ?_)
  subst hv17
  refine o_step rfl (s_not rfl) ?_
  refine o_nil ?_
  refine x_then (hK12 _ _ ?_)
  refine c_false rfl ?_
  refine c_skip ?_
  refine x_then (hK11 _ _ ?_)
  refine c_seq fun _ hK13 => ?_
  refine c_seq fun _ hK14 => ?_
  refine c_region ?_
  refine o_step rfl (s_move rfl) ?_
  refine o_callP (apartSpans0_fn b cs (hz 5 (by decide) (by decide))) rfl rfl rfl (fun w st => (RdPK.own (l := cs) meA).out w st) (fun v20 hv20 => ?_)
  subst hv20
  refine o_step rfl (s_not rfl) ?_
  refine o_nil ?_
  refine x_then (hK14 _ _ ?_)
  refine c_false rfl ?_
  refine c_skip ?_
  refine x_then (hK13 _ _ ?_)
  refine c_seq fun _ hK15 => ?_
  refine c_seq fun _ hK16 => ?_
  refine c_region ?_
  refine o_step rfl (s_move rfl) ?_
  refine o_callP (apartRuns0_fn b cs (hz 6 (by decide) (by decide))) rfl rfl rfl (fun w st => (RdPK.own (l := cs) meA).out w st) (fun v23 hv23 => ?_)
  subst hv23
  refine o_step rfl (s_not rfl) ?_
  refine o_nil ?_
  refine x_then (hK16 _ _ ?_)
  refine c_false rfl ?_
  refine c_skip ?_
  refine x_then (hK15 _ _ ?_)
  refine c_seq fun _ hK17 => ?_
  refine c_seq fun _ hK18 => ?_
  refine c_region ?_
  refine o_step rfl (s_move rfl) ?_
  refine o_callP (apartClasses0_fn b cs (hz 7 (by decide) (by decide))) rfl rfl rfl (fun w st => (RdPK.own (l := cs) meA).out w st) (fun v26 hv26 => ?_)
  subst hv26
  refine o_step rfl (s_not rfl) ?_
  refine o_nil ?_
  refine x_then (hK18 _ _ ?_)
  refine c_false rfl ?_
  refine c_skip ?_
  refine x_then (hK17 _ _ ?_)
  refine c_seq fun _ hK19 => ?_
  refine c_seq fun _ hK20 => ?_
  refine c_region ?_
  refine o_step rfl (s_move rfl) ?_
  refine o_callP (apartNodes0_fn b cs (hz 8 (by decide) (by decide))) rfl rfl rfl (fun w st => (RdPK.own (l := cs) meA).out w st) (fun v29 hv29 => ?_)
  subst hv29
  refine o_step rfl (s_not rfl) ?_
  refine o_nil ?_
  refine x_then (hK20 _ _ ?_)
  refine c_false rfl ?_
  refine c_skip ?_
  refine x_then (hK19 _ _ ?_)
  refine c_seq fun _ hK21 => ?_
  refine c_seq fun _ hK22 => ?_
  refine c_region ?_
  refine o_step rfl (s_move rfl) ?_
  refine o_callP (apartInstrs0_fn b cs (hz 9 (by decide) (by decide))) rfl rfl rfl (fun w st => (RdPK.own (l := cs) meA).out w st) (fun v32 hv32 => ?_)
  subst hv32
  refine o_step rfl (s_not rfl) ?_
  refine o_nil ?_
  refine x_then (hK22 _ _ ?_)
  refine c_false rfl ?_
  refine c_skip ?_
  refine x_then (hK21 _ _ ?_)
  refine c_seq fun _ hK23 => ?_
  refine c_seq fun _ hK24 => ?_
  refine c_region ?_
  refine o_step rfl (s_move rfl) ?_
  refine o_callP (apartFaults0_fn b cs (hz 10 (by decide) (by decide))) rfl rfl rfl (fun w st => (RdPK.own (l := cs) meA).out w st) (fun v35 hv35 => ?_)
  subst hv35
  refine o_step rfl (s_not rfl) ?_
  refine o_nil ?_
  refine x_then (hK24 _ _ ?_)
  refine c_false rfl ?_
  refine c_skip ?_
  refine x_then (hK23 _ _ ?_)
  refine c_seq fun _ hK25 => ?_
  refine c_seq fun _ hK26 => ?_
  refine c_region ?_
  refine o_step rfl (s_move rfl) ?_
  refine o_callP (apartNotes0_fn b cs (hz 11 (by decide) (by decide))) rfl rfl rfl (fun w st => (RdPK.own (l := cs) meA).out w st) (fun v38 hv38 => ?_)
  subst hv38
  refine o_step rfl (s_not rfl) ?_
  refine o_nil ?_
  refine x_then (hK26 _ _ ?_)
  refine c_false rfl ?_
  refine c_skip ?_
  refine x_then (hK25 _ _ ?_)
  refine c_seq fun _ hK27 => ?_
  refine c_seq fun _ hK28 => ?_
  refine c_region ?_
  refine o_step rfl (s_move rfl) ?_
  refine o_callP (apartParts0_fn b cs (hz 12 (by decide) (by decide))) rfl rfl rfl (fun w st => (RdPK.own (l := cs) meA).out w st) (fun v41 hv41 => ?_)
  subst hv41
  refine o_step rfl (s_not rfl) ?_
  refine o_nil ?_
  refine x_then (hK28 _ _ ?_)
  refine c_false rfl ?_
  refine c_skip ?_
  refine x_then (hK27 _ _ ?_)
  refine c_seq fun _ hK29 => ?_
  refine c_seq fun _ hK30 => ?_
  refine c_region ?_
  refine o_step rfl (s_move rfl) ?_
  refine o_callP (apartRows0_fn b cs (hz 13 (by decide) (by decide))) rfl rfl rfl (fun w st => (RdPK.own (l := cs) meA).out w st) (fun v44 hv44 => ?_)
  subst hv44
  refine o_step rfl (s_not rfl) ?_
  refine o_nil ?_
  refine x_then (hK30 _ _ ?_)
  refine c_false rfl ?_
  refine c_skip ?_
  refine x_then (hK29 _ _ ?_)
  refine c_seq fun _ hK31 => ?_
  refine c_seq fun _ hK32 => ?_
  refine c_region ?_
  refine o_step rfl (s_move rfl) ?_
  refine o_callP (apartIntss0_fn b cs (hz 14 (by decide) (by decide))) rfl rfl rfl (fun w st => (RdPK.own (l := cs) meA).out w st) (fun v47 hv47 => ?_)
  subst hv47
  refine o_step rfl (s_not rfl) ?_
  refine o_nil ?_
  refine x_then (hK32 _ _ ?_)
  refine c_false rfl ?_
  refine c_skip ?_
  refine x_then (hK31 _ _ ?_)
  refine c_seq fun _ hK33 => ?_
  refine c_seq fun _ hK34 => ?_
  refine c_region ?_
  refine o_step rfl (s_move rfl) ?_
  refine o_callP (apartSpanss0_fn b cs (hz 15 (by decide) (by decide))) rfl rfl rfl (fun w st => (RdPK.own (l := cs) meA).out w st) (fun v50 hv50 => ?_)
  subst hv50
  refine o_step rfl (s_not rfl) ?_
  refine o_nil ?_
  refine x_then (hK34 _ _ ?_)
  refine c_false rfl ?_
  refine c_skip ?_
  refine x_then (hK33 _ _ ?_)
  refine c_seq fun _ hK35 => ?_
  refine c_seq fun _ hK36 => ?_
  refine c_region ?_
  refine o_step rfl (s_move rfl) ?_
  refine o_callP (apartPieces0_fn b cs (hz 16 (by decide) (by decide))) rfl rfl rfl (fun w st => (RdPK.own (l := cs) meA).out w st) (fun v53 hv53 => ?_)
  subst hv53
  refine o_step rfl (s_not rfl) ?_
  refine o_nil ?_
  refine x_then (hK36 _ _ ?_)
  refine c_false rfl ?_
  refine c_skip ?_
  refine x_then (hK35 _ _ ?_)
  refine c_seq fun _ hK37 => ?_
  refine c_seq fun _ hK38 => ?_
  refine c_region ?_
  refine o_step rfl (s_move rfl) ?_
  refine o_callP (apartFiles0_fn b cs (hz 17 (by decide) (by decide))) rfl rfl rfl (fun w st => (RdPK.own (l := cs) meA).out w st) (fun v56 hv56 => ?_)
  subst hv56
  refine o_step rfl (s_not rfl) ?_
  refine o_nil ?_
  refine x_then (hK38 _ _ ?_)
  refine c_false rfl ?_
  refine c_skip ?_
  refine x_then (hK37 _ _ ?_)
  refine c_seq fun _ hK39 => ?_
  refine c_seq fun _ hK40 => ?_
  refine c_region ?_
  refine o_step rfl (s_move rfl) ?_
  refine o_callP (apartCmds0_fn b cs (hz 18 (by decide) (by decide))) rfl rfl rfl (fun w st => (RdPK.own (l := cs) meA).out w st) (fun v59 hv59 => ?_)
  subst hv59
  refine o_step rfl (s_not rfl) ?_
  refine o_nil ?_
  refine x_then (hK40 _ _ ?_)
  refine c_false rfl ?_
  refine c_skip ?_
  refine x_then (hK39 _ _ ?_)
  refine c_seq fun _ hK41 => ?_
  refine c_region ?_
  refine o_step rfl (s_move rfl) ?_
  refine o_step rfl (s_assign rfl) ?_
  refine o_nil ?_
  refine x_then (hK41 _ _ ?_)
  refine c_ret ?_
  refine ?_
  refine x_sub (Sub.refl _) (H' := (b, .cells cs.toArray 70 (0, 0)) :: So) hzB ?_
  exact x_ret rfl (.tmp rfl (.nil)) (⟨rfl, rfl⟩)
end Go.Proofs.YtmmajabfmhipeaaDoor
