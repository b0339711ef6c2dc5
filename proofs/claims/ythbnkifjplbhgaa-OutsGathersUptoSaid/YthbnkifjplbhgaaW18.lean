/- Part of the proofs over this seat: see the text that holds the theorem. Conditions: each theorem bears its own. -/
import Derived.Test.YthbnkifjplbhgaaW17
import Derived.Test.YthbnkifjplbhgaaM9
import Derived.Test.YthbnkifjplbhgaaW3
namespace Go.Proofs.Ythbnkifjplbhgaa
open Go Go.HL Go.Proofs
theorem write_fn {bo bs : Nat} {lim fail serr : Int} {s : OS} {S : Hp} (hst : StH bo bs lim fail serr s S) (a : Option Addr) (c : Nat) (sls : List (Sl UInt8)) (Sr : Hp) (hsr : IsSl (.slice a sls.length c) sls.length) (hr : RdS Esl (.slice a sls.length c) sls Sr) (hri : ∀ s ∈ sls, RdS Eb s.v s.xs Sr)
    (hle : s.said.length ≤ 1099511627776) (hkl : (s.kept ++ (sls.map Sl.xs).flatten).length ≤ 1099511627776) (hcn : 0 ≤ s.cnt ∧ s.cnt ≤ 1099511627776) : HL.Fn Try.prog 35 [.pointer (some ⟨bo, 0, none⟩), .slice a sls.length c] (fun _ => True) (S ++ Sr)
      (fun v S' => v = .int .i64 (writeE lim fail serr s (sls.map Sl.xs).flatten) ∧ StH bo bs lim fail serr (writeS lim fail serr s (sls.map Sl.xs).flatten) S') := by
  obtain ⟨S1, S2, rfl, hO, hS⟩ := hst
  obtain ⟨kept, err, cnt, said⟩ := s
  rcases hO with @⟨ka, kc, Sk, hk⟩
  rcases hS with @⟨sa, ga, sc, gc, sl, gl, So, Si, Sg, hm, hO', hin, hg, hgl⟩
  simp only at hm hk hle hkl hcn
  subst hm
  rw [← catK_all] at hkl
  simp only [List.append_assoc, List.cons_append]
  exact write_raw bo bs lim cnt fail serr kept ka kc sl gl sa ga sc gc Sk So Si Sg hk hO' hin hg hgl (by simpa using hle) hcn err a c sls Sr hsr hr hri hkl
theorem flush_fn {bo bs : Nat} {lim fail serr : Int} {s : OS} {S : Hp} (hst : StH bo bs lim fail serr s S) (hle : s.said.length ≤ 1099511627776) (hkl : s.kept.length ≤ 1099511627776) (hcn : 0 ≤ s.cnt ∧ s.cnt ≤ 1099511627776) :
    HL.Fn Try.prog 37 [.pointer (some ⟨bo, 0, none⟩)] (fun _ => True) S (fun v S' => v = .int .i64 (flushE fail serr s) ∧ StH bo bs lim fail serr (flushS fail serr s) S') := by
  obtain ⟨S1, S2, rfl, hO, hS⟩ := hst
  obtain ⟨kept, err, cnt, said⟩ := s
  rcases hO with @⟨ka, kc, Sk, hk⟩
  rcases hS with @⟨sa, ga, sc, gc, sl, gl, So, Si, Sg, hm, hO', hin, hg, hgl⟩
  simp only at hm hk hle hkl hcn
  subst hm
  exact flush_raw bo bs lim cnt fail serr kept ka kc sl gl sa ga sc gc Sk So Si Sg hk hO' hin hg hgl (by simpa using hle) err hkl hcn

theorem works_fn  : HL.Fn Try.prog 40 [] (fun _ => True) [] (fun v _ => v = .bool true) := by
  refine fn_of Try.func40 rfl rfl rfl fun w0 hw => ?_
  refine c_seq fun _ hK1 => ?_
  refine c_region ?_
  refine o_step rfl (s_assign rfl) ?_
  refine o_nil ?_
  refine x_then (hK1 _ _ ?_)
  refine c_seq fun _ hK2 => ?_
  refine c_region ?_
  refine o_step rfl (s_build (cs := [_, _, _, _, _, _, _]) (vs := []) rfl rfl (.nil)) ?_
  refine o_box rfl rfl rfl fun b8 => ?_
  refine o_step rfl (s_assign rfl) ?_
  refine o_nil ?_
  refine x_then (hK2 _ _ ?_)
  refine c_seq fun _ hK3 => ?_
  refine c_region ?_
  refine o_step rfl (s_move rfl) ?_
  refine o_step rfl (s_func (us := [_]) (vs := []) rfl rfl) ?_
  refine o_call (outNew_fn 3 (.func 43) _ _) rfl rfl rfl (by exact .nil) (fun _ _ => trivial) (fun v12 S12 hv12 => ?_)
  rcases hv12 with ⟨hn, _⟩ | ⟨_, bo, hv12, hS12⟩
  · exact absurd hn (by decide)
  subst hv12
  subst hS12
  have hst := stH_new (bo := bo) (bs := b8) (lim := 3) (fail := 0) (serr := 0)
  obtain ⟨S0, hS0⟩ : ∃ S, S = newH bo b8 3 0 0 := ⟨_, rfl⟩
  rw [← hS0] at hst
  refine o_sk (H' := S0) (by rw [hS0]; exact HSub.refl _) ?_
  refine o_step rfl (s_move rfl) ?_
  refine o_step rfl (s_extract rfl rfl) ?_
  refine o_step rfl (s_extract rfl rfl) ?_
  refine o_step rfl (s_assign rfl) ?_
  refine o_step rfl (s_assign rfl) ?_
  refine o_nil ?_
  refine x_then (hK3 _ _ ?_)
  refine c_seq fun _ hK4 => ?_
  refine c_seq fun _ hK5 => ?_
  refine c_region ?_
  refine o_step rfl (s_move rfl) ?_
  refine o_step rfl (s_neq_f rfl rfl rfl) ?_
  refine o_step rfl (s_move rfl) ?_
  refine o_yes rfl rfl ?_
  refine o_step rfl (s_move rfl) ?_
  refine o_yes rfl rfl ?_
  refine o_step rfl (step_cast (v' := .bool false) (s_eql_nilp rfl rfl) rfl) ?_
  refine o_step rfl (s_pick_f rfl rfl) ?_
  refine o_nil ?_
  refine x_then (hK5 _ _ ?_)
  refine c_false rfl ?_
  refine c_skip ?_
  refine x_then (hK4 _ _ ?_)
  refine c_seq fun _ hK6 => ?_
  refine c_region ?_
  refine o_step rfl (s_move rfl) ?_
  refine o_bs (E := Eb) (xs := [97, 98]) (vs := [_, _]) rfl rfl rfl rfl rfl (by decide) (by decide) fun b22 S22 hS22 => ?_
  refine o_conv_same rfl hS22 (by first | ((repeat (first | exact .one | exact .here | exact .all | apply Pick.cons | apply Pick.app)); done) | ((repeat (first | exact .one | exact .here | exact .all | apply Pick.cons | apply Pick.assoc | apply Pick.app)); done) | exact Pick.takeA (by repeat (first | exact .one | exact .here | exact .all | apply Pick.cons | apply Pick.assoc | apply Pick.app)) (by repeat (first | exact .one | exact .here | exact .all | apply Pick.cons | apply Pick.assoc | apply Pick.app))) rfl fun S23 hS23 => ?_
  refine o_bs (E := Esl) (xs := [(⟨some ⟨b22, 0, none⟩, 2, [97, 98]⟩ : Sl UInt8)]) (vs := [_]) rfl rfl rfl rfl rfl (by decide) (by decide) fun b24 S24 hS24 => ?_
  refine o_call (write_fn hst (some ⟨b24, 0, none⟩) 1 [(⟨some ⟨b22, 0, none⟩, 2, [97, 98]⟩ : Sl UInt8)] (S24 ++ S23) hS24.sl (hS24.rds.mono HIn.appL) (rows1 (x := ⟨some ⟨b22, 0, none⟩, 2, [97, 98]⟩) hS23.rds) (by decide) (show 2 ≤ 1099511627776 by decide) (by decide)) rfl rfl rfl ((Pick.takeA (by first | ((repeat (first | exact .one | exact .here | exact .all | apply Pick.cons | apply Pick.app)); done) | ((repeat (first | exact .one | exact .here | exact .all | apply Pick.cons | apply Pick.assoc | apply Pick.app)); done) | exact Pick.takeA (by repeat (first | exact .one | exact .here | exact .all | apply Pick.cons | apply Pick.assoc | apply Pick.app)) (by repeat (first | exact .one | exact .here | exact .all | apply Pick.cons | apply Pick.assoc | apply Pick.app))) (Pick.takeA (by first | ((repeat (first | exact .one | exact .here | exact .all | apply Pick.cons | apply Pick.app)); done) | ((repeat (first | exact .one | exact .here | exact .all | apply Pick.cons | apply Pick.assoc | apply Pick.app)); done) | exact Pick.takeA (by repeat (first | exact .one | exact .here | exact .all | apply Pick.cons | apply Pick.assoc | apply Pick.app)) (by repeat (first | exact .one | exact .here | exact .all | apply Pick.cons | apply Pick.assoc | apply Pick.app))) (by first | ((repeat (first | exact .one | exact .here | exact .all | apply Pick.cons | apply Pick.app)); done) | ((repeat (first | exact .one | exact .here | exact .all | apply Pick.cons | apply Pick.assoc | apply Pick.app)); done) | exact Pick.takeA (by repeat (first | exact .one | exact .here | exact .all | apply Pick.cons | apply Pick.assoc | apply Pick.app)) (by repeat (first | exact .one | exact .here | exact .all | apply Pick.cons | apply Pick.assoc | apply Pick.app)))))) (fun _ _ => trivial) (fun v25 S25 ⟨hv25, hst1⟩ => ?_)
  subst hv25
  refine o_sk (H' := S25) (by repeat (first | exact HSub.refl _ | exact HSub.nil | refine HSub.takeC (by first | ((repeat (first | exact .one | exact .here | exact .all | apply Pick.cons | apply Pick.app)); done) | ((repeat (first | exact .one | exact .here | exact .all | apply Pick.cons | apply Pick.assoc | apply Pick.app)); done) | exact Pick.takeA (by repeat (first | exact .one | exact .here | exact .all | apply Pick.cons | apply Pick.assoc | apply Pick.app)) (by repeat (first | exact .one | exact .here | exact .all | apply Pick.cons | apply Pick.assoc | apply Pick.app))) ?_ | refine HSub.take (by first | ((repeat (first | exact .one | exact .here | exact .all | apply Pick.cons | apply Pick.app)); done) | ((repeat (first | exact .one | exact .here | exact .all | apply Pick.cons | apply Pick.assoc | apply Pick.app)); done) | exact Pick.takeA (by repeat (first | exact .one | exact .here | exact .all | apply Pick.cons | apply Pick.assoc | apply Pick.app)) (by repeat (first | exact .one | exact .here | exact .all | apply Pick.cons | apply Pick.assoc | apply Pick.app))) ?_ | exact HSub.of_pick (by first | ((repeat (first | exact .one | exact .here | exact .all | apply Pick.cons | apply Pick.app)); done) | ((repeat (first | exact .one | exact .here | exact .all | apply Pick.cons | apply Pick.assoc | apply Pick.app)); done) | exact Pick.takeA (by repeat (first | exact .one | exact .here | exact .all | apply Pick.cons | apply Pick.assoc | apply Pick.app)) (by repeat (first | exact .one | exact .here | exact .all | apply Pick.cons | apply Pick.assoc | apply Pick.app))))) ?_
  have e1 : writeS 3 0 0 ⟨[], 0, 0, []⟩ (([(⟨some ⟨b22, 0, none⟩, 2, [97, 98]⟩ : Sl UInt8)] : List (Sl UInt8)).map Sl.xs).flatten = ⟨[97, 98], 0, 0, []⟩ := rfl
  rw [e1] at hst1
  have hstA := hst1
  obtain ⟨T1, U1, rfl, hO1, hK1⟩ := hst1
  rcases hK1 with @⟨sa1, ga1, sc1, gc1, sl1, gl1, So1, Si1, Sg1, hm1, hl1, hin1, hg1, hgl1⟩
  have hz1 : sl1 = [] := List.map_eq_nil_iff.1 hm1
  have hz2 : gl1.length = 0 := by rw [hgl1, hz1]; rfl
  refine o_step rfl (s_assign rfl) ?_
  refine o_nil ?_
  refine x_then (hK6 _ _ ?_)
  refine c_seq fun _ hK7 => ?_
  refine c_region ?_
  refine o_step rfl (s_move rfl) ?_
  refine o_step rfl (s_nil rfl) ?_
  refine o_step rfl (s_field rfl rfl (by decide)) ?_
  refine o_step rfl (s_ld rfl (.own (by repeat (first | exact List.mem_cons_self | apply List.mem_cons_of_mem | apply mem_assoc | apply mem_app)) rfl)) ?_
  refine o_step rfl (s_len rfl) ?_
  refine o_step rfl (s_assign rfl) ?_
  refine o_nil ?_
  refine x_then (hK7 _ _ ?_)
  refine c_seq fun _ hK8 => ?_
  refine c_region ?_
  refine o_step rfl (s_move rfl) ?_
  refine o_bs (E := Eb) (xs := [99]) (vs := [_]) rfl rfl rfl rfl rfl (by decide) (by decide) fun b32 S32 hS32 => ?_
  refine o_conv_same rfl hS32 (by first | ((repeat (first | exact .one | exact .here | exact .all | apply Pick.cons | apply Pick.app)); done) | ((repeat (first | exact .one | exact .here | exact .all | apply Pick.cons | apply Pick.assoc | apply Pick.app)); done) | exact Pick.takeA (by repeat (first | exact .one | exact .here | exact .all | apply Pick.cons | apply Pick.assoc | apply Pick.app)) (by repeat (first | exact .one | exact .here | exact .all | apply Pick.cons | apply Pick.assoc | apply Pick.app))) rfl fun S33 hS33 => ?_
  refine o_bs (E := Eb) (xs := [100]) (vs := [_]) rfl rfl rfl rfl rfl (by decide) (by decide) fun b34 S34 hS34 => ?_
  refine o_conv_same rfl hS34 (by first | ((repeat (first | exact .one | exact .here | exact .all | apply Pick.cons | apply Pick.app)); done) | ((repeat (first | exact .one | exact .here | exact .all | apply Pick.cons | apply Pick.assoc | apply Pick.app)); done) | exact Pick.takeA (by repeat (first | exact .one | exact .here | exact .all | apply Pick.cons | apply Pick.assoc | apply Pick.app)) (by repeat (first | exact .one | exact .here | exact .all | apply Pick.cons | apply Pick.assoc | apply Pick.app))) rfl fun S35 hS35 => ?_
  refine o_bs (E := Esl) (xs := [(⟨some ⟨b32, 0, none⟩, 1, [99]⟩ : Sl UInt8), ⟨some ⟨b34, 0, none⟩, 1, [100]⟩]) (vs := [_, _]) rfl rfl rfl rfl rfl (by decide) (by decide) fun b36 S36 hS36 => ?_
  refine o_call (write_fn hstA (some ⟨b36, 0, none⟩) 2 [(⟨some ⟨b32, 0, none⟩, 1, [99]⟩ : Sl UInt8), ⟨some ⟨b34, 0, none⟩, 1, [100]⟩] (S36 ++ (S35 ++ S33)) hS36.sl (hS36.rds.mono HIn.appL) (rows2 (x := ⟨some ⟨b32, 0, none⟩, 1, [99]⟩) (y := ⟨some ⟨b34, 0, none⟩, 1, [100]⟩) hS33.rds hS35.rds) (by decide) (show 4 ≤ 1099511627776 by decide) (by decide)) rfl rfl rfl ((Pick.takeA (by first | ((repeat (first | exact .one | exact .here | exact .all | apply Pick.cons | apply Pick.app)); done) | ((repeat (first | exact .one | exact .here | exact .all | apply Pick.cons | apply Pick.assoc | apply Pick.app)); done) | exact Pick.takeA (by repeat (first | exact .one | exact .here | exact .all | apply Pick.cons | apply Pick.assoc | apply Pick.app)) (by repeat (first | exact .one | exact .here | exact .all | apply Pick.cons | apply Pick.assoc | apply Pick.app))) (Pick.takeA (by first | ((repeat (first | exact .one | exact .here | exact .all | apply Pick.cons | apply Pick.app)); done) | ((repeat (first | exact .one | exact .here | exact .all | apply Pick.cons | apply Pick.assoc | apply Pick.app)); done) | exact Pick.takeA (by repeat (first | exact .one | exact .here | exact .all | apply Pick.cons | apply Pick.assoc | apply Pick.app)) (by repeat (first | exact .one | exact .here | exact .all | apply Pick.cons | apply Pick.assoc | apply Pick.app))) (Pick.takeA (by first | ((repeat (first | exact .one | exact .here | exact .all | apply Pick.cons | apply Pick.app)); done) | ((repeat (first | exact .one | exact .here | exact .all | apply Pick.cons | apply Pick.assoc | apply Pick.app)); done) | exact Pick.takeA (by repeat (first | exact .one | exact .here | exact .all | apply Pick.cons | apply Pick.assoc | apply Pick.app)) (by repeat (first | exact .one | exact .here | exact .all | apply Pick.cons | apply Pick.assoc | apply Pick.app))) (by first | ((repeat (first | exact .one | exact .here | exact .all | apply Pick.cons | apply Pick.app)); done) | ((repeat (first | exact .one | exact .here | exact .all | apply Pick.cons | apply Pick.assoc | apply Pick.app)); done) | exact Pick.takeA (by repeat (first | exact .one | exact .here | exact .all | apply Pick.cons | apply Pick.assoc | apply Pick.app)) (by repeat (first | exact .one | exact .here | exact .all | apply Pick.cons | apply Pick.assoc | apply Pick.app))))))) (fun _ _ => trivial) (fun v37 S37 ⟨hv37, hst2⟩ => ?_)
  subst hv37
  refine o_sk (H' := S37) (by repeat (first | exact HSub.refl _ | exact HSub.nil | refine HSub.takeC (by first | ((repeat (first | exact .one | exact .here | exact .all | apply Pick.cons | apply Pick.app)); done) | ((repeat (first | exact .one | exact .here | exact .all | apply Pick.cons | apply Pick.assoc | apply Pick.app)); done) | exact Pick.takeA (by repeat (first | exact .one | exact .here | exact .all | apply Pick.cons | apply Pick.assoc | apply Pick.app)) (by repeat (first | exact .one | exact .here | exact .all | apply Pick.cons | apply Pick.assoc | apply Pick.app))) ?_ | refine HSub.take (by first | ((repeat (first | exact .one | exact .here | exact .all | apply Pick.cons | apply Pick.app)); done) | ((repeat (first | exact .one | exact .here | exact .all | apply Pick.cons | apply Pick.assoc | apply Pick.app)); done) | exact Pick.takeA (by repeat (first | exact .one | exact .here | exact .all | apply Pick.cons | apply Pick.assoc | apply Pick.app)) (by repeat (first | exact .one | exact .here | exact .all | apply Pick.cons | apply Pick.assoc | apply Pick.app))) ?_ | exact HSub.of_pick (by first | ((repeat (first | exact .one | exact .here | exact .all | apply Pick.cons | apply Pick.app)); done) | ((repeat (first | exact .one | exact .here | exact .all | apply Pick.cons | apply Pick.assoc | apply Pick.app)); done) | exact Pick.takeA (by repeat (first | exact .one | exact .here | exact .all | apply Pick.cons | apply Pick.assoc | apply Pick.app)) (by repeat (first | exact .one | exact .here | exact .all | apply Pick.cons | apply Pick.assoc | apply Pick.app))))) ?_
  have e2 : writeS 3 0 0 ⟨[97, 98], 0, 0, []⟩ (([(⟨some ⟨b32, 0, none⟩, 1, [99]⟩ : Sl UInt8), ⟨some ⟨b34, 0, none⟩, 1, [100]⟩] : List (Sl UInt8)).map Sl.xs).flatten = ⟨[], 0, 4, [[97, 98, 99, 100]]⟩ := rfl
  rw [e2] at hst2
  obtain ⟨T2, U2, rfl, hO2, hK2⟩ := hst2
  rcases hK2 with @⟨sa2, ga2, sc2, gc2, sl2, gl2, So2, Si2, Sg2, hm2, hl2, hin2, hg2, hgl2⟩
  rcases hO2 with @⟨ka2, kc2, Sk2, hk2⟩
  obtain ⟨x2, rfl, hx2⟩ := one_of_map hm2
  have hsl2 := hl2.sl
  have hn2 : ([x2] : List (Sl UInt8)).length = 1 := rfl
  refine o_step rfl (s_assign rfl) ?_
  refine o_nil ?_
  refine x_then (hK8 _ _ ?_)
  refine c_seq fun _ hK9 => ?_
  refine c_region ?_
  refine o_step rfl (s_move rfl) ?_
  refine o_step rfl (s_eql_t rfl rfl rfl) ?_
  refine o_step rfl (s_move rfl) ?_
  refine o_yes rfl rfl ?_
  refine o_step rfl (s_move rfl) ?_
  refine o_yes rfl rfl ?_
  refine o_step rfl (s_eql_t rfl rfl rfl) ?_
  refine o_step rfl (s_pick_t rfl rfl) ?_
  refine o_step rfl (s_move rfl) ?_
  refine o_yes rfl rfl ?_
  refine o_step rfl (s_move rfl) ?_
  refine o_yes rfl rfl ?_
  refine o_step rfl (s_eql_t rfl rfl (by omega)) ?_
  refine o_step rfl (s_pick_t rfl rfl) ?_
  refine o_step rfl (s_move rfl) ?_
  refine o_yes rfl rfl ?_
  refine o_step rfl (s_move rfl) ?_
  refine o_yes rfl rfl ?_
  refine o_step rfl (s_nil rfl) ?_
  refine o_yes rfl rfl ?_
  refine o_step rfl (s_field rfl rfl (by decide)) ?_
  refine o_yes rfl rfl ?_
  refine o_step rfl (s_ld rfl (.own (by repeat (first | exact List.mem_cons_self | apply List.mem_cons_of_mem | apply mem_assoc | apply mem_app)) rfl)) ?_
  refine o_yes rfl rfl ?_
  refine o_step rfl (s_len rfl) ?_
  refine o_yes rfl rfl ?_
  refine o_step rfl (s_eql_t rfl rfl rfl) ?_
  refine o_step rfl (s_pick_t rfl rfl) ?_
  refine o_step rfl (s_move rfl) ?_
  refine o_yes rfl rfl ?_
  refine o_step rfl (s_move rfl) ?_
  refine o_yes rfl rfl ?_
  refine o_step rfl (s_nil rfl) ?_
  refine o_yes rfl rfl ?_
  refine o_step rfl (s_field rfl rfl (by decide)) ?_
  refine o_yes rfl rfl ?_
  refine o_step rfl (s_ld rfl (.own (by repeat (first | exact List.mem_cons_self | apply List.mem_cons_of_mem | apply mem_assoc | apply mem_app)) rfl)) ?_
  refine o_yes rfl rfl ?_
  refine o_step rfl (s_idx rfl rfl (by assumption) (by omega)) ?_
  refine o_yes rfl rfl ?_
  refine o_step rfl (s_ld rfl ((hl2.rdk (by repeat (first | exact HIn.here | exact HIn.all | exact HIn.one | apply HIn.cons | apply HIn.assoc | apply HIn.app))).ld 0 0 (e := x2) rfl rfl (by decide) (by omega))) ?_
  refine o_yes rfl rfl ?_
  refine o_bs (E := Eb) (xs := [97, 98, 99, 100]) (vs := [_, _, _, _]) rfl rfl rfl rfl rfl (by decide) (by decide) fun b63 S63 hS63 => ?_
  refine o_yes rfl rfl ?_
  refine o_conv_same rfl hS63 (by first | ((repeat (first | exact .one | exact .here | exact .all | apply Pick.cons | apply Pick.app)); done) | ((repeat (first | exact .one | exact .here | exact .all | apply Pick.cons | apply Pick.assoc | apply Pick.app)); done) | exact Pick.takeA (by repeat (first | exact .one | exact .here | exact .all | apply Pick.cons | apply Pick.assoc | apply Pick.app)) (by repeat (first | exact .one | exact .here | exact .all | apply Pick.cons | apply Pick.assoc | apply Pick.app))) rfl fun S64 hS64 => ?_
  refine o_yes rfl rfl ?_
  refine o_callP (eqBytes_fn x2.a (some ⟨b63, 0, none⟩) x2.c 4 x2.xs [97, 98, 99, 100]) rfl rfl rfl (fun w st => ⟨((hin2 x2 (by simp)).rdk (by repeat (first | exact HIn.here | exact HIn.all | exact HIn.one | apply HIn.cons | apply HIn.assoc | apply HIn.app))).out w st, (hS64.rdk (by repeat (first | exact HIn.here | exact HIn.all | exact HIn.one | apply HIn.cons | apply HIn.assoc | apply HIn.app))).out w st⟩) (fun v65 hv65 => ?_)
  rw [decide_eq_true hx2] at hv65
  subst hv65
  refine o_step rfl (s_pick_t rfl rfl) ?_
  refine o_step rfl (s_move rfl) ?_
  refine o_yes rfl rfl ?_
  refine o_step rfl (s_move rfl) ?_
  refine o_yes rfl rfl ?_
  refine o_callP (count_fn bo 3 0 4 _ _) rfl rfl rfl (fun w st => (RdPK.own (by repeat (first | exact List.mem_cons_self | apply List.mem_cons_of_mem | apply mem_assoc | apply mem_app))).out w st) (fun v69 hv69 => ?_)
  subst hv69
  refine o_yes rfl rfl ?_
  refine o_step rfl (s_eql_t rfl rfl rfl) ?_
  refine o_step rfl (s_pick_t rfl rfl) ?_
  refine o_step rfl (s_assign rfl) ?_
  refine o_nil ?_
  refine x_then (hK9 _ _ ?_)
  refine c_ret ?_
  refine ?_
  exact x_ret rfl (.tmp rfl (.nil)) (rfl)

theorem write_none (v : Value) : HL.Fn Try.prog 35 [.pointer none, v] (fun _ => True) [] (fun v _ => v = .int .i64 1) := by
  refine fn_of Try.func35 rfl rfl rfl fun w0 hw => ?_
  refine c_seq fun _ hK1 => ?_
  refine c_region ?_
  refine o_step rfl (s_assign rfl) ?_
  refine o_nil ?_
  refine x_then (hK1 _ _ ?_)
  refine c_seq fun _ hK2 => ?_
  refine c_seq fun _ hK3 => ?_
  refine c_region ?_
  refine o_step rfl (s_move rfl) ?_
  refine o_callP (err_none) rfl rfl rfl (fun _ _ => trivial) (fun v9 hv9 => ?_)
  subst hv9
  refine o_step rfl (s_assign rfl) ?_
  refine o_nil ?_
  refine x_then (hK3 _ _ ?_)
  refine c_seq fun _ hK4 => ?_
  refine c_region ?_
  refine o_step rfl (s_move rfl) ?_
  refine o_step rfl (s_neq_t rfl rfl (by decide)) ?_
  refine o_nil ?_
  refine x_then (hK4 _ _ ?_)
  refine c_true rfl ?_
  refine c_seq fun _ hK5 => ?_
  refine c_region ?_
  refine o_step rfl (s_move rfl) ?_
  refine o_step rfl (s_assign rfl) ?_
  refine o_nil ?_
  refine x_then (hK5 _ _ ?_)
  refine c_ret ?_
  refine x_then_ret (?_)
  exact x_ret rfl (.tmp rfl (.nil)) (rfl)

theorem write_zero (bo : Nat) (lim err cnt : Int) (kv v : Value) : HL.Fn Try.prog 35 [.pointer (some ⟨bo, 0, none⟩), v] (fun w => RdP w bo 0 [.int .i64 lim, .nilFunc, kv, .int .i64 err, .int .i64 cnt]) [] (fun v _ => v = .int .i64 1) := by
  refine fn_of Try.func35 rfl rfl rfl fun w0 hw => ?_
  refine c_seq fun _ hK1 => ?_
  refine c_region ?_
  refine o_step rfl (s_assign rfl) ?_
  refine o_nil ?_
  refine x_then (hK1 _ _ ?_)
  refine c_seq fun _ hK2 => ?_
  refine c_seq fun _ hK3 => ?_
  refine c_region ?_
  refine o_step rfl (s_move rfl) ?_
  refine o_callP (err_zero bo lim err cnt kv) rfl rfl rfl (fun w st => (RdPK.old0 hw).out w st) (fun v9 hv9 => ?_)
  subst hv9
  refine o_step rfl (s_assign rfl) ?_
  refine o_nil ?_
  refine x_then (hK3 _ _ ?_)
  refine c_seq fun _ hK4 => ?_
  refine c_region ?_
  refine o_step rfl (s_move rfl) ?_
  refine o_step rfl (s_neq_t rfl rfl (by decide)) ?_
  refine o_nil ?_
  refine x_then (hK4 _ _ ?_)
  refine c_true rfl ?_
  refine c_seq fun _ hK5 => ?_
  refine c_region ?_
  refine o_step rfl (s_move rfl) ?_
  refine o_step rfl (s_assign rfl) ?_
  refine o_nil ?_
  refine x_then (hK5 _ _ ?_)
  refine c_ret ?_
  refine x_then_ret (?_)
  exact x_ret rfl (.tmp rfl (.nil)) (rfl)

theorem flush_none  : HL.Fn Try.prog 37 [.pointer none] (fun _ => True) [] (fun v _ => v = .int .i64 1) := by
  refine fn_of Try.func37 rfl rfl rfl fun w0 hw => ?_
  refine c_seq fun _ hK1 => ?_
  refine c_region ?_
  refine o_step rfl (s_assign rfl) ?_
  refine o_nil ?_
  refine x_then (hK1 _ _ ?_)
  refine c_seq fun _ hK2 => ?_
  refine c_seq fun _ hK3 => ?_
  refine c_region ?_
  refine o_step rfl (s_move rfl) ?_
  refine o_callP (err_none) rfl rfl rfl (fun _ _ => trivial) (fun v5 hv5 => ?_)
  subst hv5
  refine o_step rfl (s_assign rfl) ?_
  refine o_nil ?_
  refine x_then (hK3 _ _ ?_)
  refine c_seq fun _ hK4 => ?_
  refine c_region ?_
  refine o_step rfl (s_move rfl) ?_
  refine o_step rfl (s_neq_t rfl rfl (by decide)) ?_
  refine o_nil ?_
  refine x_then (hK4 _ _ ?_)
  refine c_true rfl ?_
  refine c_seq fun _ hK5 => ?_
  refine c_region ?_
  refine o_step rfl (s_move rfl) ?_
  refine o_step rfl (s_assign rfl) ?_
  refine o_nil ?_
  refine x_then (hK5 _ _ ?_)
  refine c_ret ?_
  refine x_then_ret (?_)
  exact x_ret rfl (.tmp rfl (.nil)) (rfl)

theorem flush_zero (bo : Nat) (lim err cnt : Int) (kv : Value) : HL.Fn Try.prog 37 [.pointer (some ⟨bo, 0, none⟩)] (fun w => RdP w bo 0 [.int .i64 lim, .nilFunc, kv, .int .i64 err, .int .i64 cnt]) [] (fun v _ => v = .int .i64 1) := by
  refine fn_of Try.func37 rfl rfl rfl fun w0 hw => ?_
  refine c_seq fun _ hK1 => ?_
  refine c_region ?_
  refine o_step rfl (s_assign rfl) ?_
  refine o_nil ?_
  refine x_then (hK1 _ _ ?_)
  refine c_seq fun _ hK2 => ?_
  refine c_seq fun _ hK3 => ?_
  refine c_region ?_
  refine o_step rfl (s_move rfl) ?_
  refine o_callP (err_zero bo lim err cnt kv) rfl rfl rfl (fun w st => (RdPK.old0 hw).out w st) (fun v5 hv5 => ?_)
  subst hv5
  refine o_step rfl (s_assign rfl) ?_
  refine o_nil ?_
  refine x_then (hK3 _ _ ?_)
  refine c_seq fun _ hK4 => ?_
  refine c_region ?_
  refine o_step rfl (s_move rfl) ?_
  refine o_step rfl (s_neq_t rfl rfl (by decide)) ?_
  refine o_nil ?_
  refine x_then (hK4 _ _ ?_)
  refine c_true rfl ?_
  refine c_seq fun _ hK5 => ?_
  refine c_region ?_
  refine o_step rfl (s_move rfl) ?_
  refine o_step rfl (s_assign rfl) ?_
  refine o_nil ?_
  refine x_then (hK5 _ _ ?_)
  refine c_ret ?_
  refine x_then_ret (?_)
  exact x_ret rfl (.tmp rfl (.nil)) (rfl)

theorem outsNone_fn (a : Option Addr) (c : Nat) (sls : List (Sl UInt8)) (hb : sls.length * 24 ≤ 140737488355328) : HL.Fn Try.prog 8 [.slice a sls.length c] (fun w => Rd Esl w (.slice a sls.length c) sls ∧ ∀ s ∈ sls, Rd Eb w s.v s.xs) [] (fun v _ => v = .bool true) := by
  refine fn_of Try.func8 rfl rfl rfl fun w0 hw => ?_
  refine c_seq fun _ hK1 => ?_
  refine c_region ?_
  refine o_step rfl (s_assign rfl) ?_
  refine o_nil ?_
  refine x_then (hK1 _ _ ?_)
  refine c_seq fun _ hK2 => ?_
  refine c_region ?_
  refine o_step rfl (s_assign rfl) ?_
  refine o_nil ?_
  refine x_then (hK2 _ _ ?_)
  refine c_seq fun _ hK3 => ?_
  refine c_region ?_
  refine o_step rfl (s_build (cs := [_, _, _, _, _]) (vs := []) rfl rfl (.nil)) ?_
  refine o_box rfl rfl rfl fun b8 => ?_
  refine o_step rfl (s_assign rfl) ?_
  refine o_nil ?_
  refine x_then (hK3 _ _ ?_)
  refine c_seq fun _ hK4 => ?_
  refine c_region ?_
  refine o_step rfl (s_move rfl) ?_
  refine o_step rfl (s_move rfl) ?_
  refine o_call (copyRows_fn a c sls hb) rfl rfl rfl (by exact .nil) (fun w st => ⟨(RdK.old0 hw.1).out w st, fun s hs => (RdK.old0 (hw.2 s hs)).out w st⟩) (fun v11 S11 ⟨a11, c11, hv11, _⟩ => ?_)
  subst hv11
  refine o_callP (write_none _) rfl rfl rfl (fun _ _ => trivial) (fun v12 hv12 => ?_)
  subst hv12
  refine o_step rfl (s_assign rfl) ?_
  refine o_nil ?_
  refine x_then (hK4 _ _ ?_)
  refine c_seq fun _ hK5 => ?_
  refine c_region ?_
  refine o_step rfl (s_move rfl) ?_
  refine o_step rfl (s_move rfl) ?_
  refine o_call (copyRows_fn a c sls hb) rfl rfl rfl (by exact .nil) (fun w st => ⟨(RdK.old0 hw.1).out w st, fun s hs => (RdK.old0 (hw.2 s hs)).out w st⟩) (fun v15 S15 ⟨a15, c15, hv15, _⟩ => ?_)
  subst hv15
  refine o_callP (write_zero b8 0 0 0 (.slice none 0 0) _) rfl rfl rfl (fun w st => (RdPK.own (by repeat (first | exact List.mem_cons_self | apply List.mem_cons_of_mem | apply mem_assoc | apply mem_app))).out w st) (fun v16 hv16 => ?_)
  subst hv16
  refine o_step rfl (s_assign rfl) ?_
  refine o_nil ?_
  refine x_then (hK5 _ _ ?_)
  refine c_seq fun _ hK6 => ?_
  refine c_seq fun _ hK7 => ?_
  refine c_region ?_
  refine o_step rfl (s_move rfl) ?_
  refine o_step rfl (s_neq_f rfl rfl rfl) ?_
  refine o_step rfl (s_move rfl) ?_
  refine o_yes rfl rfl ?_
  refine o_step rfl (s_move rfl) ?_
  refine o_yes rfl rfl ?_
  refine o_step rfl (s_neq_f rfl rfl rfl) ?_
  refine o_step rfl (s_pick_f rfl rfl) ?_
  refine o_step rfl (s_move rfl) ?_
  refine o_yes rfl rfl ?_
  refine o_step rfl (s_move rfl) ?_
  refine o_yes rfl rfl ?_
  refine o_callP (flush_none) rfl rfl rfl (fun _ _ => trivial) (fun v25 hv25 => ?_)
  subst hv25
  refine o_yes rfl rfl ?_
  refine o_step rfl (s_neq_f rfl rfl rfl) ?_
  refine o_step rfl (s_pick_f rfl rfl) ?_
  refine o_step rfl (s_move rfl) ?_
  refine o_yes rfl rfl ?_
  refine o_step rfl (s_move rfl) ?_
  refine o_yes rfl rfl ?_
  refine o_callP (flush_zero b8 0 0 0 (.slice none 0 0)) rfl rfl rfl (fun w st => (RdPK.own (by repeat (first | exact List.mem_cons_self | apply List.mem_cons_of_mem | apply mem_assoc | apply mem_app))).out w st) (fun v30 hv30 => ?_)
  subst hv30
  refine o_yes rfl rfl ?_
  refine o_step rfl (s_neq_f rfl rfl rfl) ?_
  refine o_step rfl (s_pick_f rfl rfl) ?_
  refine o_nil ?_
  refine x_then (hK7 _ _ ?_)
  refine c_false rfl ?_
  refine c_skip ?_
  refine x_then (hK6 _ _ ?_)
  refine c_seq fun _ hK8 => ?_
  refine c_region ?_
  refine o_step rfl (s_move rfl) ?_
  refine o_callP (err_none) rfl rfl rfl (fun _ _ => trivial) (fun v34 hv34 => ?_)
  subst hv34
  refine o_step rfl (s_eql_t rfl rfl rfl) ?_
  refine o_step rfl (s_move rfl) ?_
  refine o_yes rfl rfl ?_
  refine o_step rfl (s_move rfl) ?_
  refine o_yes rfl rfl ?_
  refine o_callP (err_zero b8 0 0 0 (.slice none 0 0)) rfl rfl rfl (fun w st => (RdPK.own (by repeat (first | exact List.mem_cons_self | apply List.mem_cons_of_mem | apply mem_assoc | apply mem_app))).out w st) (fun v38 hv38 => ?_)
  subst hv38
  refine o_yes rfl rfl ?_
  refine o_step rfl (s_eql_t rfl rfl rfl) ?_
  refine o_step rfl (s_pick_t rfl rfl) ?_
  refine o_step rfl (s_move rfl) ?_
  refine o_yes rfl rfl ?_
  refine o_step rfl (s_move rfl) ?_
  refine o_yes rfl rfl ?_
  refine o_callP (count_none) rfl rfl rfl (fun _ _ => trivial) (fun v43 hv43 => ?_)
  subst hv43
  refine o_yes rfl rfl ?_
  refine o_step rfl (s_eql_t rfl rfl rfl) ?_
  refine o_step rfl (s_pick_t rfl rfl) ?_
  refine o_step rfl (s_move rfl) ?_
  refine o_yes rfl rfl ?_
  refine o_step rfl (s_move rfl) ?_
  refine o_yes rfl rfl ?_
  refine o_callP (count_fn b8 0 0 0 .nilFunc (.slice none 0 0)) rfl rfl rfl (fun w st => (RdPK.own (by repeat (first | exact List.mem_cons_self | apply List.mem_cons_of_mem | apply mem_assoc | apply mem_app))).out w st) (fun v48 hv48 => ?_)
  subst hv48
  refine o_yes rfl rfl ?_
  refine o_step rfl (s_eql_t rfl rfl rfl) ?_
  refine o_step rfl (s_pick_t rfl rfl) ?_
  refine o_step rfl (s_move rfl) ?_
  refine o_yes rfl rfl ?_
  refine o_callP (works_fn) rfl rfl rfl (fun _ _ => trivial) (fun v52 hv52 => ?_)
  subst hv52
  refine o_step rfl (s_pick_t rfl rfl) ?_
  refine o_step rfl (s_assign rfl) ?_
  refine o_nil ?_
  refine x_then (hK8 _ _ ?_)
  refine c_ret ?_
  refine ?_
  exact x_ret rfl (.tmp rfl (.nil)) (rfl)
end Go.Proofs.Ythbnkifjplbhgaa
