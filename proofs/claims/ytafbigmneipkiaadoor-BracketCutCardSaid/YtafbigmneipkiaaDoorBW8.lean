/- Part of the proofs over this seat: see the text that holds the theorem. Conditions: each theorem bears its own. -/
import Derived.Test.YtafbigmneipkiaaDoorBW7
import Derived.Test.YtafbigmneipkiaaDoorHC
import Derived.Test.YtafbigmneipkiaaDoorMB6
namespace Go.Proofs.YtafbigmneipkiaaDoor
open Go Go.HL Go.Proofs Go.Tab Go.HL.Kl Go.HL.Kl.Bk
theorem sg_mk {l : List Mk} {i : Nat} {b : UInt8} (h : sg l i b = true) : mk0 l i = ⟨b, false⟩ := by
  have := sg_lt h
  rw [sg_at this] at h
  exact of_decide_eq_true h
set_option maxHeartbeats 1000000 in
theorem bracketCut_fn (a1 a2 : Option Addr) (c1 c2 : Nat) (A B : List Mk) (at0 ct : Int) (hct : -9223372036854775808 ≤ ct ∧ ct < 9223372036854775808) (hA : A.length * 2 ≤ 140737488355328) (hB : B.length * 2 ≤ 140737488355328) : HL.Fn Tryd.prog 6 [.slice a1 A.length c1, .int .i64 at0, .int .i64 ct, .slice a2 B.length c2] (fun w => (Rd Em w (.slice a1 A.length c1) A ∧ Rd Em w (.slice a2 B.length c2) B) ∧ TbB [] w) [] (fun v _ => v = .bool true) := by
  refine fn_of Tryd.func6 rfl rfl rfl fun w0 hw => ?_
  obtain ⟨⟨h1, h2⟩, hT⟩ := hw
  have hs1 := h1.sl
  have hs2 := h2.sl
  have hb1 := hs1.le
  have hb2 := hs2.le
  have hcap : A.length ≤ c1 := by obtain ⟨⟨_, _, hv, hn, _⟩, _⟩ := hs1; simp only [Value.slice.injEq] at hv; obtain ⟨rfl, _, rfl⟩ := hv; exact hn
  refine c_seq fun _ hK1 => ?_
  refine c_region ?_
  refine o_step rfl (s_assign rfl) ?_
  refine o_nil ?_
  refine x_then (hK1 _ _ ?_)
  refine c_seq fun _ hK2 => ?_
  refine c_region ?_
  refine o_callP (works_fn) rfl rfl rfl (fun w st => tbB_of hT st HSub.nil) (fun v20 hv20 => ?_)
  subst hv20
  refine o_step rfl (s_assign rfl) ?_
  refine o_nil ?_
  refine x_then (hK2 _ _ ?_)
  refine c_seq fun _ hK3 => ?_
  refine c_seq fun _ hK4 => ?_
  refine c_region ?_
  refine o_step rfl (s_move rfl) ?_
  refine o_step rfl (s_len rfl) ?_
  refine o_step rfl (s_move rfl) ?_
  refine o_step rfl (s_len rfl) ?_
  refine o_step rfl (s_add rfl rfl (by omega)) ?_
  refine o_callP (long_fn _) rfl rfl rfl (fun _ _ => trivial) (fun v26 hv26 => ?_)
  subst hv26
  refine o_nil ?_
  refine x_then (hK4 _ _ ?_)
  refine c_if rfl (fun hlong => ?_) (fun hlong => ?_)
  · skip
    refine c_seq fun _ hK5 => ?_
    refine c_region ?_
    refine o_step rfl (s_move rfl) ?_
    refine o_step rfl (s_assign rfl) ?_
    refine o_nil ?_
    refine x_then (hK5 _ _ ?_)
    refine c_ret ?_
    refine x_then_ret (?_)
    exact x_ret rfl (.tmp rfl (.nil)) (rfl)
  · skip
    have hlen : A.length + B.length ≤ 2147483647 := by omega
    refine c_skip ?_
    refine x_then (hK3 _ _ ?_)
    refine c_seq fun _ hK6 => ?_
    refine c_region ?_
    refine o_step rfl (s_move rfl) ?_
    refine o_step rfl (s_move rfl) ?_
    refine o_callP (parse_fn a1 c1 A at0) rfl rfl rfl (fun w st => (RdK.old0 h1).out w st) (fun v31 hv31 => ?_)
    rcases parse_how A at0 with hr | ⟨h0, hsg, e, p, hr, he, hp⟩ | ⟨h0, hsg, c, i, hl, hr, hi, he⟩
    · skip
      rw [hr] at hv31
      dsimp only at hv31
      subst hv31
      refine o_step rfl (s_move rfl) ?_
      refine o_step rfl (s_extract rfl rfl) ?_
      refine o_step rfl (s_extract rfl rfl) ?_
      refine o_step rfl (s_extract rfl rfl) ?_
      refine o_alloc (l := Ec 0#256) (by rw [Ec_zero]; rfl) rfl fun b10 => ?_
      refine o_stW rfl rfl (by repeat (first | exact .here | apply Upd.there | apply Upd.assoc | apply Upd.skip)) (Ec_len _) (Ec_len _) (Ec_one _) ?_
      refine o_step rfl (s_assign rfl) ?_
      refine o_step rfl (s_assign rfl) ?_
      refine o_nil ?_
      refine x_then (hK6 _ _ ?_)
      refine c_seq fun _ hK7 => ?_
      refine c_seq fun _ hK8 => ?_
      refine c_region ?_
      refine o_step rfl (s_move rfl) ?_
      refine o_step rfl (s_neq_t rfl rfl (by decide)) ?_
      refine o_nil ?_
      refine x_then (hK8 _ _ ?_)
      refine c_true rfl ?_
      refine c_seq fun _ hK9 => ?_
      refine c_region ?_
      refine o_step rfl (s_move rfl) ?_
      refine o_step rfl (s_move rfl) ?_
      refine o_yes rfl rfl ?_
      refine o_step rfl (s_ldB rfl (RdPK.cels (.own (by repeat (first | exact List.mem_cons_self | apply List.mem_cons_of_mem | apply mem_assoc | apply mem_app)))) (Ec_len _)) ?_
      refine o_yes rfl rfl ?_
      refine o_step rfl (step_cast (v' := .agg (Ec 0#256).toArray) (s_build0 rfl) (by rw [Ec_zero]; rfl)) ?_
      refine o_yes rfl rfl ?_
      refine o_step rfl (step_cast (v' := .bool true) (s_eql_cl rfl rfl) (congrArg Value.bool (decide_eq_true rfl))) ?_
      refine o_step rfl (s_pick_t rfl rfl) ?_
      refine o_step rfl (s_move rfl) ?_
      refine o_yes rfl rfl ?_
      refine o_step rfl (s_move rfl) ?_
      refine o_yes rfl rfl ?_
      refine o_step rfl (s_eql_t rfl rfl rfl) ?_
      refine o_yes rfl rfl ?_
      refine o_step rfl (s_move rfl) ?_
      refine o_yes rfl rfl ?_
      refine o_step rfl (s_move rfl) ?_
      refine o_yes rfl rfl ?_
      refine o_step rfl (s_eql_t rfl rfl rfl) ?_
      refine o_yes rfl rfl ?_
      refine o_step rfl (s_pick_t rfl rfl) ?_
      refine o_yes rfl rfl ?_
      refine o_step rfl (s_move rfl) ?_
      refine o_no rfl rfl rfl rfl ?_
      refine o_no rfl rfl rfl rfl ?_
      refine o_no rfl rfl rfl rfl ?_
      refine o_noU rfl rfl rfl ?_
      refine o_noU rfl rfl rfl ?_
      refine o_noU rfl rfl rfl ?_
      refine o_no rfl rfl rfl rfl ?_
      refine o_no rfl rfl rfl rfl ?_
      refine o_noU rfl rfl rfl ?_
      refine o_noU rfl rfl rfl ?_
      refine o_noU rfl rfl rfl ?_
      refine o_noU rfl rfl rfl ?_
      refine o_no rfl rfl rfl rfl ?_
      refine o_yes rfl rfl ?_
      refine o_step rfl (s_pick_t rfl rfl) ?_
      refine o_step rfl (s_pick_t rfl rfl) ?_
      refine o_step rfl (s_assign rfl) ?_
      refine o_nil ?_
      refine x_then (hK9 _ _ ?_)
      refine c_ret ?_
      refine x_then_ret (?_)
      exact x_ret rfl (.tmp rfl (.nil)) (rfl)
    · skip
      rw [hr] at hv31
      dsimp only at hv31
      subst hv31
      have he2 : e ≠ 0 ∧ e ≠ 1 := by omega
      refine o_step rfl (s_move rfl) ?_
      refine o_step rfl (s_extract rfl rfl) ?_
      refine o_step rfl (s_extract rfl rfl) ?_
      refine o_step rfl (s_extract rfl rfl) ?_
      refine o_alloc (l := Ec 0#256) (by rw [Ec_zero]; rfl) rfl fun b10 => ?_
      refine o_stW rfl rfl (by repeat (first | exact .here | apply Upd.there | apply Upd.assoc | apply Upd.skip)) (Ec_len _) (Ec_len _) (Ec_one _) ?_
      refine o_step rfl (s_assign rfl) ?_
      refine o_step rfl (s_assign rfl) ?_
      refine o_nil ?_
      refine x_then (hK6 _ _ ?_)
      refine c_seq fun _ hK10 => ?_
      refine c_seq fun _ hK11 => ?_
      refine c_region ?_
      refine o_step rfl (s_move rfl) ?_
      refine o_step rfl (s_neq_t rfl rfl (by omega)) ?_
      refine o_nil ?_
      refine x_then (hK11 _ _ ?_)
      refine c_true rfl ?_
      refine c_seq fun _ hK12 => ?_
      refine c_region ?_
      refine o_step rfl (s_move rfl) ?_
      refine o_step rfl (s_move rfl) ?_
      refine o_yes rfl rfl ?_
      refine o_step rfl (s_ldB rfl (RdPK.cels (.own (by repeat (first | exact List.mem_cons_self | apply List.mem_cons_of_mem | apply mem_assoc | apply mem_app)))) (Ec_len _)) ?_
      refine o_yes rfl rfl ?_
      refine o_step rfl (step_cast (v' := .agg (Ec 0#256).toArray) (s_build0 rfl) (by rw [Ec_zero]; rfl)) ?_
      refine o_yes rfl rfl ?_
      refine o_step rfl (step_cast (v' := .bool true) (s_eql_cl rfl rfl) (congrArg Value.bool (decide_eq_true rfl))) ?_
      refine o_step rfl (s_pick_t rfl rfl) ?_
      refine o_step rfl (s_move rfl) ?_
      refine o_yes rfl rfl ?_
      refine o_step rfl (s_move rfl) ?_
      refine o_yes rfl rfl ?_
      refine o_step rfl (s_eql_f rfl rfl (by omega)) ?_
      refine o_yes rfl rfl ?_
      refine o_step rfl (s_move rfl) ?_
      refine o_no rfl rfl rfl rfl ?_
      refine o_no rfl rfl rfl rfl ?_
      refine o_yes rfl rfl ?_
      refine o_step rfl (s_pick_f rfl rfl) ?_
      refine o_yes rfl rfl ?_
      refine o_step rfl (s_move rfl) ?_
      refine o_yes rfl rfl ?_
      refine o_step rfl (s_move rfl) ?_
      refine o_yes rfl rfl ?_
      refine o_step rfl (s_neq_t rfl rfl (by omega)) ?_
      refine o_yes rfl rfl ?_
      refine o_step rfl (s_move rfl) ?_
      refine o_yes rfl rfl ?_
      refine o_step rfl (s_move rfl) ?_
      refine o_yes rfl rfl ?_
      refine o_step rfl (s_move rfl) ?_
      refine o_yes rfl rfl ?_
      refine o_step rfl (s_geq_t rfl rfl (by omega)) ?_
      refine o_yes rfl rfl ?_
      refine o_step rfl (s_pick_t rfl rfl) ?_
      refine o_yes rfl rfl ?_
      refine o_step rfl (s_move rfl) ?_
      refine o_yes rfl rfl ?_
      refine o_step rfl (s_move rfl) ?_
      refine o_yes rfl rfl ?_
      refine o_step rfl (s_move rfl) ?_
      refine o_yes rfl rfl ?_
      refine o_step rfl (s_len rfl) ?_
      refine o_yes rfl rfl ?_
      refine o_step rfl (s_lss_t rfl rfl (by omega)) ?_
      refine o_yes rfl rfl ?_
      refine o_step rfl (s_pick_t rfl rfl) ?_
      refine o_yes rfl rfl ?_
      refine o_step rfl (s_pick_f rfl rfl) ?_
      refine o_step rfl (s_pick_t rfl rfl) ?_
      refine o_step rfl (s_assign rfl) ?_
      refine o_nil ?_
      refine x_then (hK12 _ _ ?_)
      refine c_ret ?_
      refine x_then_ret (?_)
      exact x_ret rfl (.tmp rfl (.nil)) (rfl)
    · skip
      rw [hr] at hv31
      dsimp only at hv31
      subst hv31
      have hil := sg_lt he
      obtain ⟨d, rfl⟩ : ∃ d : Nat, at0 = (d : Int) := ⟨at0.toNat, by omega⟩
      simp only [Int.toNat_natCast] at *
      have hal := cut_alone hsg hl hi he B
      have hea := cut_early hsg hl he
      obtain ⟨z, hz⟩ : ∃ z, z = (if sg A (d + 1) 94 = true then ~~~c else c) := ⟨_, rfl⟩
      rw [← hz] at hal
      rw [← hz]
      have hml : ((A.drop d).take (i + 1 - d)).length = i + 1 - d := by simp; omega
      refine o_step rfl (s_move rfl) ?_
      refine o_step rfl (s_extract rfl rfl) ?_
      refine o_step rfl (s_extract rfl rfl) ?_
      refine o_step rfl (s_extract rfl rfl) ?_
      refine o_alloc (l := Ec 0#256) (by rw [Ec_zero]; rfl) rfl fun b10 => ?_
      refine o_stW rfl rfl (by repeat (first | exact .here | apply Upd.there | apply Upd.assoc | apply Upd.skip)) (Ec_len _) (Ec_len _) (Ec_one _) ?_
      refine o_step rfl (s_assign rfl) ?_
      refine o_step rfl (s_assign rfl) ?_
      refine o_nil ?_
      refine x_then (hK6 _ _ ?_)
      refine c_seq fun _ hK13 => ?_
      refine c_seq fun _ hK14 => ?_
      refine c_region ?_
      refine o_step rfl (s_move rfl) ?_
      refine o_step rfl (s_neq_f rfl rfl rfl) ?_
      refine o_nil ?_
      refine x_then (hK14 _ _ ?_)
      refine c_false rfl ?_
      refine c_skip ?_
      refine x_then (hK13 _ _ ?_)
      refine c_seq fun _ hK15 => ?_
      refine c_seq fun _ hK16 => ?_
      refine c_region ?_
      refine o_step rfl (s_move rfl) ?_
      refine o_step rfl (s_lss_f rfl rfl (by omega)) ?_
      refine o_step rfl (s_move rfl) ?_
      refine o_yes rfl rfl ?_
      refine o_step rfl (s_move rfl) ?_
      refine o_yes rfl rfl ?_
      refine o_step rfl (s_move rfl) ?_
      refine o_yes rfl rfl ?_
      refine o_step rfl (s_add rfl rfl (by omega)) ?_
      refine o_yes rfl rfl ?_
      refine o_step rfl (s_lss_f rfl rfl (by omega)) ?_
      refine o_step rfl (s_pick_f rfl rfl) ?_
      refine o_step rfl (s_move rfl) ?_
      refine o_yes rfl rfl ?_
      refine o_step rfl (s_move rfl) ?_
      refine o_yes rfl rfl ?_
      refine o_step rfl (s_move rfl) ?_
      refine o_yes rfl rfl ?_
      refine o_step rfl (s_len rfl) ?_
      refine o_yes rfl rfl ?_
      refine o_step rfl (s_gtr_f rfl rfl (by omega)) ?_
      refine o_step rfl (s_pick_f rfl rfl) ?_
      refine o_step rfl (s_move rfl) ?_
      refine o_yes rfl rfl ?_
      refine o_step rfl (s_move rfl) ?_
      refine o_yes rfl rfl ?_
      refine o_step rfl (s_move rfl) ?_
      refine o_yes rfl rfl ?_
      refine o_step rfl (s_sub rfl rfl (by omega)) ?_
      refine o_yes rfl rfl ?_
      refine o_step rfl (s_idx rfl rfl hs1 (by omega)) ?_
      refine o_yes rfl rfl ?_
      refine o_step rfl (s_ldB rfl ((RdK.old0 h1).lds (i) (mk0_get hil) (by omega)) rfl) ?_
      refine o_yes rfl rfl ?_
      refine o_step rfl (s_build (cs := [_, _]) (vs := [_]) rfl rfl (.cons rfl rfl rfl rfl rfl (.nil))) ?_
      refine o_yes rfl rfl ?_
      refine o_step rfl (step_cast (v' := .bool false) (s_neq_mk (m := mk0 A (i)) (k := ⟨93, false⟩) rfl rfl) (by rw [sg_mk he]; rfl)) ?_
      refine o_step rfl (s_pick_f rfl rfl) ?_
      refine o_nil ?_
      refine x_then (hK16 _ _ ?_)
      refine c_false rfl ?_
      refine c_skip ?_
      refine x_then (hK15 _ _ ?_)
      refine c_seq fun _ hK17 => ?_
      refine c_region ?_
      refine o_step rfl (s_move rfl) ?_
      refine o_step rfl (s_move rfl) ?_
      refine o_step rfl (s_move rfl) ?_
      refine o_step rfl (step_cast (v' := .slice (midA a1 c1 d 2) ((A.drop d).take (i + 1 - d)).length (c1 - d)) (s_slice_mid rfl rfl rfl (by omega)) (by rw [hml]; simp only [Int.toNat_natCast]; rw [show ((i : Int) + 1).toNat = i + 1 by omega])) ?_
      refine o_call (copyMarks_fn (midA a1 c1 d 2) (c1 - d) ((A.drop d).take (i + 1 - d))) rfl rfl rfl (by exact .nil) (fun w st => ⟨((RdK.old0 h1).out w st).mid d (i + 1) (by omega) (by omega), by omega⟩) (fun v93 S93 ⟨a93, c93, hv93, hS93⟩ => ?_)
      subst hv93
      refine o_step rfl (s_assign rfl) ?_
      refine o_nil ?_
      refine x_then (hK17 _ _ ?_)
      refine c_seq fun _ hK18 => ?_
      refine c_region ?_
      refine o_step rfl (s_move rfl) ?_
      refine o_step rfl (s_move rfl) ?_
      refine o_app hS93 (RdK.old0 h2) rfl rfl rfl rfl (by rw [hml]; omega) (by rw [hml]; omega) rfl (by first | ((repeat (first | exact .one | exact .here | exact .all | apply Pick.cons | apply Pick.app)); done) | ((repeat (first | exact .one | exact .here | exact .all | apply Pick.cons | apply Pick.assoc | apply Pick.app)); done) | exact Pick.takeA (by repeat (first | exact .one | exact .here | exact .all | apply Pick.cons | apply Pick.assoc | apply Pick.app)) (by repeat (first | exact .one | exact .here | exact .all | apply Pick.cons | apply Pick.assoc | apply Pick.app))) fun a96 c96 S96 hS96 => ?_
      refine o_step rfl (s_assign rfl) ?_
      refine o_nil ?_
      refine x_then (hK18 _ _ ?_)
      refine c_seq fun _ hK19 => ?_
      refine c_region ?_
      refine o_step rfl (s_move rfl) ?_
      refine o_callP (parse_fn a96 c96 (((A.drop d).take (i + 1 - d)) ++ B) 0) rfl rfl rfl (fun w st => (hS96.rdk (by repeat (first | exact HIn.here | exact HIn.all | exact HIn.one | apply HIn.cons | apply HIn.assoc | apply HIn.app))).out w st) (fun v99 hv99 => ?_)
      rw [hal] at hv99
      dsimp only at hv99
      subst hv99
      refine o_step rfl (s_move rfl) ?_
      refine o_step rfl (s_extract rfl rfl) ?_
      refine o_step rfl (s_extract rfl rfl) ?_
      refine o_step rfl (s_extract rfl rfl) ?_
      refine o_alloc (l := Ec 0#256) (by rw [Ec_zero]; rfl) rfl fun b14 => ?_
      refine o_stW rfl rfl (by repeat (first | exact .here | apply Upd.there | apply Upd.assoc | apply Upd.skip)) (Ec_len _) (Ec_len _) (Ec_one _) ?_
      refine o_step rfl (s_assign rfl) ?_
      refine o_step rfl (s_assign rfl) ?_
      refine o_nil ?_
      refine x_then (hK19 _ _ ?_)
      refine c_seq fun _ hK20 => ?_
      refine c_seq fun _ hK21 => ?_
      refine c_region ?_
      refine o_step rfl (s_move rfl) ?_
      refine o_step rfl (s_not rfl) ?_
      refine o_step rfl (s_move rfl) ?_
      refine o_yes rfl rfl ?_
      refine o_step rfl (s_ldB rfl (RdPK.cels (.own (by repeat (first | exact List.mem_cons_self | apply List.mem_cons_of_mem | apply mem_assoc | apply mem_app)))) (Ec_len _)) ?_
      refine o_yes rfl rfl ?_
      refine o_step rfl (s_ldB rfl (RdPK.cels (.own (by repeat (first | exact List.mem_cons_self | apply List.mem_cons_of_mem | apply mem_assoc | apply mem_app)))) (Ec_len _)) ?_
      refine o_yes rfl rfl ?_
      refine o_step rfl (step_cast (v' := .bool false) (s_neq_cl rfl rfl) (congrArg Value.bool (by simp))) ?_
      refine o_step rfl (s_pick_f rfl rfl) ?_
      refine o_step rfl (s_move rfl) ?_
      refine o_yes rfl rfl ?_
      refine o_step rfl (s_move rfl) ?_
      refine o_yes rfl rfl ?_
      refine o_step rfl (s_move rfl) ?_
      refine o_yes rfl rfl ?_
      refine o_step rfl (s_move rfl) ?_
      refine o_yes rfl rfl ?_
      refine o_step rfl (s_sub rfl rfl (by omega)) ?_
      refine o_yes rfl rfl ?_
      refine o_step rfl (s_neq_f rfl rfl (by omega)) ?_
      refine o_step rfl (s_pick_f rfl rfl) ?_
      refine o_step rfl (s_move rfl) ?_
      refine o_yes rfl rfl ?_
      refine o_step rfl (s_move rfl) ?_
      refine o_yes rfl rfl ?_
      refine o_step rfl (s_neq_f rfl rfl rfl) ?_
      refine o_step rfl (s_pick_f rfl rfl) ?_
      refine o_nil ?_
      refine x_then (hK21 _ _ ?_)
      refine c_false rfl ?_
      refine c_skip ?_
      refine x_then (hK20 _ _ ?_)
      refine c_seq fun _ hK22 => ?_
      refine c_seq fun _ hK23 => ?_
      refine c_region ?_
      refine o_step rfl (s_move rfl) ?_
      refine o_step rfl (s_move rfl) ?_
      by_cases hle : ct ≤ d
      · skip
        refine o_step rfl (step_cast (v' := .bool true) (s_leq rfl rfl) (by rw [decide_eq_true (by omega)])) ?_
        refine o_step rfl (s_move rfl) ?_
        refine o_no rfl rfl rfl rfl ?_
        refine o_no rfl rfl rfl rfl ?_
        refine o_no rfl rfl rfl rfl ?_
        refine o_step rfl (s_pick_t rfl rfl) ?_
        refine o_nil ?_
        refine x_then (hK23 _ _ ?_)
        refine c_true rfl ?_
        refine c_seq fun _ hK24 => ?_
        refine c_region ?_
        refine o_step rfl (s_assign rfl) ?_
        refine o_nil ?_
        refine x_then (hK24 _ _ ?_)
        refine c_ret ?_
        refine x_then_ret (?_)
        exact x_ret rfl (.tmp rfl (.nil)) (rfl)
      · skip
        refine o_step rfl (step_cast (v' := .bool false) (s_leq rfl rfl) (by rw [decide_eq_false (by omega)])) ?_
        refine o_step rfl (s_move rfl) ?_
        refine o_yes rfl rfl ?_
        refine o_step rfl (s_move rfl) ?_
        refine o_yes rfl rfl ?_
        refine o_step rfl (s_move rfl) ?_
        refine o_yes rfl rfl ?_
        by_cases hge : ct ≥ (i : Int) + 1
        · skip
          refine o_step rfl (step_cast (v' := .bool true) (s_geq rfl rfl) (by rw [decide_eq_true (by omega)])) ?_
          refine o_step rfl (s_pick_f rfl rfl) ?_
          refine o_nil ?_
          refine x_then (hK23 _ _ ?_)
          refine c_true rfl ?_
          refine c_seq fun _ hK25 => ?_
          refine c_region ?_
          refine o_step rfl (s_assign rfl) ?_
          refine o_nil ?_
          refine x_then (hK25 _ _ ?_)
          refine c_ret ?_
          refine x_then_ret (?_)
          exact x_ret rfl (.tmp rfl (.nil)) (rfl)
        · skip
          obtain ⟨v, rfl⟩ : ∃ v : Nat, ct = (v : Int) := ⟨ct.toNat, by omega⟩
          refine o_step rfl (step_cast (v' := .bool false) (s_geq rfl rfl) (by rw [decide_eq_false (by omega)])) ?_
          refine o_step rfl (s_pick_f rfl rfl) ?_
          refine o_nil ?_
          refine x_then (hK23 _ _ ?_)
          refine c_false rfl ?_
          refine c_skip ?_
          refine x_then (hK22 _ _ ?_)
          refine c_seq fun _ hK26 => ?_
          refine c_region ?_
          refine o_step rfl (s_move rfl) ?_
          refine o_step rfl (s_move rfl) ?_
          refine o_step rfl (step_cast (v' := .slice a1 (A.take v).length c1) (s_slice_hi rfl rfl (by omega)) (by rw [List.length_take, Int.toNat_natCast, Nat.min_eq_left (by omega)])) ?_
          refine o_call (copyMarks_fn a1 c1 (A.take v)) rfl rfl rfl (by exact .nil) (fun w st => ⟨((RdK.old0 h1).out w st).upTo v, by simp only [List.length_take]; omega⟩) (fun v133 S133 ⟨a133, c133, hv133, hS133⟩ => ?_)
          subst hv133
          refine o_step rfl (s_move rfl) ?_
          refine o_callP (parse_fn a133 c133 (A.take v) d) rfl rfl rfl (fun w st => (hS133.rdk (by repeat (first | exact HIn.here | exact HIn.all | exact HIn.one | apply HIn.cons | apply HIn.assoc | apply HIn.app))).out w st) (fun v135 hv135 => ?_)
          rcases hea v (by omega) (by omega) with hE | ⟨p, hE, hp1, hp2, hp91, hp45⟩
          · skip
            rw [hE] at hv135
            dsimp only at hv135
            subst hv135
            refine o_step rfl (s_move rfl) ?_
            refine o_step rfl (s_extract rfl rfl) ?_
            refine o_step rfl (s_extract rfl rfl) ?_
            refine o_step rfl (s_extract rfl rfl) ?_
            refine o_alloc (l := Ec 0#256) (by rw [Ec_zero]; rfl) rfl fun b17 => ?_
            refine o_stW rfl rfl (by repeat (first | exact .here | apply Upd.there | apply Upd.assoc | apply Upd.skip)) (Ec_len _) (Ec_len _) (Ec_one _) ?_
            refine o_step rfl (s_assign rfl) ?_
            refine o_step rfl (s_assign rfl) ?_
            refine o_nil ?_
            refine x_then (hK26 _ _ ?_)
            refine c_seq fun _ hK27 => ?_
            refine c_seq fun _ hK28 => ?_
            refine c_region ?_
            refine o_step rfl (s_ldB rfl (RdPK.cels (.own (by repeat (first | exact List.mem_cons_self | apply List.mem_cons_of_mem | apply mem_assoc | apply mem_app)))) (Ec_len _)) ?_
            refine o_step rfl (step_cast (v' := .agg (Ec 0#256).toArray) (s_build0 rfl) (by rw [Ec_zero]; rfl)) ?_
            refine o_step rfl (step_cast (v' := .bool false) (s_neq_cl rfl rfl) (congrArg Value.bool (by simp))) ?_
            refine o_nil ?_
            refine x_then (hK28 _ _ ?_)
            refine c_false rfl ?_
            refine c_skip ?_
            refine x_then (hK27 _ _ ?_)
            refine c_seq fun _ hK29 => ?_
            refine c_seq fun _ hK30 => ?_
            refine c_region ?_
            refine o_step rfl (s_move rfl) ?_
            refine o_step rfl (s_move rfl) ?_
            refine o_step rfl (s_add rfl rfl (by omega)) ?_
            by_cases hgt : (v : Int) > d + 2
            · skip
              refine o_step rfl (step_cast (v' := .bool true) (s_gtr rfl rfl) (by rw [decide_eq_true (by omega)])) ?_
              refine o_step rfl (s_move rfl) ?_
              refine o_yes rfl rfl ?_
              refine o_step rfl (s_move rfl) ?_
              refine o_yes rfl rfl ?_
              refine o_step rfl (s_move rfl) ?_
              refine o_yes rfl rfl ?_
              refine o_step rfl (s_sub rfl rfl (by omega)) ?_
              refine o_yes rfl rfl ?_
              refine o_step rfl (s_idx rfl rfl hs1 (by omega)) ?_
              refine o_yes rfl rfl ?_
              refine o_step rfl (s_ldB rfl ((RdK.old0 h1).lds (v - 1) (mk0_get (by omega)) (by omega)) rfl) ?_
              refine o_yes rfl rfl ?_
              refine o_step rfl (s_build (cs := [_, _]) (vs := [_]) rfl rfl (.cons rfl rfl rfl rfl rfl (.nil))) ?_
              refine o_yes rfl rfl ?_
              by_cases h91v : mk0 A (v - 1) = ⟨91, false⟩
              · skip
                refine o_step rfl (step_cast (v' := .bool true) (s_eql_mk (m := mk0 A (v - 1)) (k := ⟨91, false⟩) rfl rfl) (congrArg Value.bool (decide_eq_true h91v))) ?_
                refine o_step rfl (s_pick_t rfl rfl) ?_
                refine o_step rfl (s_move rfl) ?_
                refine o_yes rfl rfl ?_
                refine o_step rfl (s_move rfl) ?_
                refine o_yes rfl rfl ?_
                refine o_step rfl (s_move rfl) ?_
                refine o_yes rfl rfl ?_
                refine o_step rfl (s_sub rfl rfl (by omega)) ?_
                refine o_yes rfl rfl ?_
                refine o_step rfl (s_idx rfl rfl hs1 (by omega)) ?_
                refine o_yes rfl rfl ?_
                refine o_step rfl (s_ldB rfl ((RdK.old0 h1).lds (v - 2) (mk0_get (by omega)) (by omega)) rfl) ?_
                refine o_yes rfl rfl ?_
                refine o_step rfl (s_build (cs := [_, _]) (vs := [_]) rfl rfl (.cons rfl rfl rfl rfl rfl (.nil))) ?_
                refine o_yes rfl rfl ?_
                by_cases h45v : mk0 A (v - 2) = ⟨45, false⟩
                · skip
                  refine o_step rfl (step_cast (v' := .bool true) (s_eql_mk (m := mk0 A (v - 2)) (k := ⟨45, false⟩) rfl rfl) (congrArg Value.bool (decide_eq_true h45v))) ?_
                  refine o_step rfl (s_pick_t rfl rfl) ?_
                  refine o_step rfl (s_move rfl) ?_
                  refine o_yes rfl rfl ?_
                  refine o_step rfl (s_move rfl) ?_
                  refine o_yes rfl rfl ?_
                  refine o_step rfl (s_eql_f rfl rfl (by omega)) ?_
                  refine o_step rfl (s_pick_t rfl rfl) ?_
                  refine o_nil ?_
                  refine x_then (hK30 _ _ ?_)
                  refine c_false rfl ?_
                  refine c_skip ?_
                  refine x_then (hK29 _ _ ?_)
                  refine c_seq fun _ hK31 => ?_
                  refine c_region ?_
                  refine o_step rfl (s_move rfl) ?_
                  refine o_step rfl (s_move rfl) ?_
                  refine o_step rfl (s_eql_t rfl rfl rfl) ?_
                  refine o_step rfl (s_move rfl) ?_
                  refine o_yes rfl rfl ?_
                  refine o_step rfl (s_move rfl) ?_
                  refine o_yes rfl rfl ?_
                  refine o_step rfl (s_eql_t rfl rfl rfl) ?_
                  refine o_step rfl (s_pick_t rfl rfl) ?_
                  refine o_step rfl (s_assign rfl) ?_
                  refine o_nil ?_
                  refine x_then (hK31 _ _ ?_)
                  refine c_ret ?_
                  refine ?_
                  exact x_ret rfl (.tmp rfl (.nil)) (rfl)
                · skip
                  refine o_step rfl (step_cast (v' := .bool false) (s_eql_mk (m := mk0 A (v - 2)) (k := ⟨45, false⟩) rfl rfl) (congrArg Value.bool (decide_eq_false h45v))) ?_
                  refine o_step rfl (s_pick_t rfl rfl) ?_
                  refine o_step rfl (s_move rfl) ?_
                  refine o_no rfl rfl rfl rfl ?_
                  refine o_no rfl rfl rfl rfl ?_
                  refine o_step rfl (s_pick_f rfl rfl) ?_
                  refine o_nil ?_
                  refine x_then (hK30 _ _ ?_)
                  refine c_false rfl ?_
                  refine c_skip ?_
                  refine x_then (hK29 _ _ ?_)
                  refine c_seq fun _ hK32 => ?_
                  refine c_region ?_
                  refine o_step rfl (s_move rfl) ?_
                  refine o_step rfl (s_move rfl) ?_
                  refine o_step rfl (s_eql_t rfl rfl rfl) ?_
                  refine o_step rfl (s_move rfl) ?_
                  refine o_yes rfl rfl ?_
                  refine o_step rfl (s_move rfl) ?_
                  refine o_yes rfl rfl ?_
                  refine o_step rfl (s_eql_t rfl rfl rfl) ?_
                  refine o_step rfl (s_pick_t rfl rfl) ?_
                  refine o_step rfl (s_assign rfl) ?_
                  refine o_nil ?_
                  refine x_then (hK32 _ _ ?_)
                  refine c_ret ?_
                  refine ?_
                  exact x_ret rfl (.tmp rfl (.nil)) (rfl)
              · skip
                refine o_step rfl (step_cast (v' := .bool false) (s_eql_mk (m := mk0 A (v - 1)) (k := ⟨91, false⟩) rfl rfl) (congrArg Value.bool (decide_eq_false h91v))) ?_
                refine o_step rfl (s_pick_t rfl rfl) ?_
                refine o_step rfl (s_move rfl) ?_
                refine o_no rfl rfl rfl rfl ?_
                refine o_no rfl rfl rfl rfl ?_
                refine o_no rfl rfl rfl rfl ?_
                refine o_no rfl rfl rfl rfl ?_
                refine o_no rfl rfl rfl rfl ?_
                refine o_no rfl rfl rfl rfl ?_
                refine o_no rfl rfl rfl rfl ?_
                refine o_step rfl (s_pick_f rfl rfl) ?_
                refine o_step rfl (s_move rfl) ?_
                refine o_no rfl rfl rfl rfl ?_
                refine o_no rfl rfl rfl rfl ?_
                refine o_step rfl (s_pick_f rfl rfl) ?_
                refine o_nil ?_
                refine x_then (hK30 _ _ ?_)
                refine c_false rfl ?_
                refine c_skip ?_
                refine x_then (hK29 _ _ ?_)
                refine c_seq fun _ hK33 => ?_
                refine c_region ?_
                refine o_step rfl (s_move rfl) ?_
                refine o_step rfl (s_move rfl) ?_
                refine o_step rfl (s_eql_t rfl rfl rfl) ?_
                refine o_step rfl (s_move rfl) ?_
                refine o_yes rfl rfl ?_
                refine o_step rfl (s_move rfl) ?_
                refine o_yes rfl rfl ?_
                refine o_step rfl (s_eql_t rfl rfl rfl) ?_
                refine o_step rfl (s_pick_t rfl rfl) ?_
                refine o_step rfl (s_assign rfl) ?_
                refine o_nil ?_
                refine x_then (hK33 _ _ ?_)
                refine c_ret ?_
                refine ?_
                exact x_ret rfl (.tmp rfl (.nil)) (rfl)
            · skip
              refine o_step rfl (step_cast (v' := .bool false) (s_gtr rfl rfl) (by rw [decide_eq_false (by omega)])) ?_
              refine o_step rfl (s_move rfl) ?_
              refine o_no rfl rfl rfl rfl ?_
              refine o_no rfl rfl rfl rfl ?_
              refine o_no rfl rfl rfl rfl ?_
              refine o_no rfl rfl rfl rfl ?_
              refine o_no rfl rfl rfl rfl ?_
              refine o_no rfl rfl rfl rfl ?_
              refine o_no rfl rfl rfl rfl ?_
              refine o_step rfl (s_pick_f rfl rfl) ?_
              refine o_step rfl (s_move rfl) ?_
              refine o_no rfl rfl rfl rfl ?_
              refine o_no rfl rfl rfl rfl ?_
              refine o_no rfl rfl rfl rfl ?_
              refine o_no rfl rfl rfl rfl ?_
              refine o_no rfl rfl rfl rfl ?_
              refine o_no rfl rfl rfl rfl ?_
              refine o_no rfl rfl rfl rfl ?_
              refine o_step rfl (s_pick_f rfl rfl) ?_
              refine o_step rfl (s_move rfl) ?_
              refine o_no rfl rfl rfl rfl ?_
              refine o_no rfl rfl rfl rfl ?_
              refine o_step rfl (s_pick_f rfl rfl) ?_
              refine o_nil ?_
              refine x_then (hK30 _ _ ?_)
              refine c_false rfl ?_
              refine c_skip ?_
              refine x_then (hK29 _ _ ?_)
              refine c_seq fun _ hK34 => ?_
              refine c_region ?_
              refine o_step rfl (s_move rfl) ?_
              refine o_step rfl (s_move rfl) ?_
              refine o_step rfl (s_eql_t rfl rfl rfl) ?_
              refine o_step rfl (s_move rfl) ?_
              refine o_yes rfl rfl ?_
              refine o_step rfl (s_move rfl) ?_
              refine o_yes rfl rfl ?_
              refine o_step rfl (s_eql_t rfl rfl rfl) ?_
              refine o_step rfl (s_pick_t rfl rfl) ?_
              refine o_step rfl (s_assign rfl) ?_
              refine o_nil ?_
              refine x_then (hK34 _ _ ?_)
              refine c_ret ?_
              refine ?_
              exact x_ret rfl (.tmp rfl (.nil)) (rfl)
          · skip
            rw [hE] at hv135
            dsimp only at hv135
            subst hv135
            refine o_step rfl (s_move rfl) ?_
            refine o_step rfl (s_extract rfl rfl) ?_
            refine o_step rfl (s_extract rfl rfl) ?_
            refine o_step rfl (s_extract rfl rfl) ?_
            refine o_alloc (l := Ec 0#256) (by rw [Ec_zero]; rfl) rfl fun b17 => ?_
            refine o_stW rfl rfl (by repeat (first | exact .here | apply Upd.there | apply Upd.assoc | apply Upd.skip)) (Ec_len _) (Ec_len _) (Ec_one _) ?_
            refine o_step rfl (s_assign rfl) ?_
            refine o_step rfl (s_assign rfl) ?_
            refine o_nil ?_
            refine x_then (hK26 _ _ ?_)
            refine c_seq fun _ hK35 => ?_
            refine c_seq fun _ hK36 => ?_
            refine c_region ?_
            refine o_step rfl (s_ldB rfl (RdPK.cels (.own (by repeat (first | exact List.mem_cons_self | apply List.mem_cons_of_mem | apply mem_assoc | apply mem_app)))) (Ec_len _)) ?_
            refine o_step rfl (step_cast (v' := .agg (Ec 0#256).toArray) (s_build0 rfl) (by rw [Ec_zero]; rfl)) ?_
            refine o_step rfl (step_cast (v' := .bool false) (s_neq_cl rfl rfl) (congrArg Value.bool (by simp))) ?_
            refine o_nil ?_
            refine x_then (hK36 _ _ ?_)
            refine c_false rfl ?_
            refine c_skip ?_
            refine x_then (hK35 _ _ ?_)
            refine c_seq fun _ hK37 => ?_
            refine c_seq fun _ hK38 => ?_
            refine c_region ?_
            refine o_step rfl (s_move rfl) ?_
            refine o_step rfl (s_move rfl) ?_
            refine o_step rfl (s_add rfl rfl (by omega)) ?_
            refine o_step rfl (s_gtr_t rfl rfl (by omega)) ?_
            refine o_step rfl (s_move rfl) ?_
            refine o_yes rfl rfl ?_
            refine o_step rfl (s_move rfl) ?_
            refine o_yes rfl rfl ?_
            refine o_step rfl (s_move rfl) ?_
            refine o_yes rfl rfl ?_
            refine o_step rfl (s_sub rfl rfl (by omega)) ?_
            refine o_yes rfl rfl ?_
            refine o_step rfl (s_idx rfl rfl hs1 (by omega)) ?_
            refine o_yes rfl rfl ?_
            refine o_step rfl (s_ldB rfl ((RdK.old0 h1).lds (v - 1) (mk0_get (by omega)) (by omega)) rfl) ?_
            refine o_yes rfl rfl ?_
            refine o_step rfl (s_build (cs := [_, _]) (vs := [_]) rfl rfl (.cons rfl rfl rfl rfl rfl (.nil))) ?_
            refine o_yes rfl rfl ?_
            refine o_step rfl (step_cast (v' := .bool true) (s_eql_mk (m := mk0 A (v - 1)) (k := ⟨91, false⟩) rfl rfl) (congrArg Value.bool (decide_eq_true (sg_mk hp91)))) ?_
            refine o_step rfl (s_pick_t rfl rfl) ?_
            refine o_step rfl (s_move rfl) ?_
            refine o_yes rfl rfl ?_
            refine o_step rfl (s_move rfl) ?_
            refine o_yes rfl rfl ?_
            refine o_step rfl (s_move rfl) ?_
            refine o_yes rfl rfl ?_
            refine o_step rfl (s_sub rfl rfl (by omega)) ?_
            refine o_yes rfl rfl ?_
            refine o_step rfl (s_idx rfl rfl hs1 (by omega)) ?_
            refine o_yes rfl rfl ?_
            refine o_step rfl (s_ldB rfl ((RdK.old0 h1).lds (v - 2) (mk0_get (by omega)) (by omega)) rfl) ?_
            refine o_yes rfl rfl ?_
            refine o_step rfl (s_build (cs := [_, _]) (vs := [_]) rfl rfl (.cons rfl rfl rfl rfl rfl (.nil))) ?_
            refine o_yes rfl rfl ?_
            refine o_step rfl (step_cast (v' := .bool true) (s_eql_mk (m := mk0 A (v - 2)) (k := ⟨45, false⟩) rfl rfl) (congrArg Value.bool (decide_eq_true (sg_mk hp45)))) ?_
            refine o_step rfl (s_pick_t rfl rfl) ?_
            refine o_step rfl (s_move rfl) ?_
            refine o_yes rfl rfl ?_
            refine o_step rfl (s_move rfl) ?_
            refine o_yes rfl rfl ?_
            refine o_step rfl (s_eql_t rfl rfl rfl) ?_
            refine o_step rfl (s_pick_t rfl rfl) ?_
            refine o_nil ?_
            refine x_then (hK38 _ _ ?_)
            refine c_true rfl ?_
            refine c_seq fun _ hK39 => ?_
            refine c_region ?_
            refine o_step rfl (s_move rfl) ?_
            refine o_step rfl (s_move rfl) ?_
            refine o_step rfl (s_gtr_t rfl rfl (by omega)) ?_
            refine o_step rfl (s_move rfl) ?_
            refine o_yes rfl rfl ?_
            refine o_step rfl (s_move rfl) ?_
            refine o_yes rfl rfl ?_
            refine o_step rfl (s_move rfl) ?_
            refine o_yes rfl rfl ?_
            refine o_step rfl (s_sub rfl rfl (by omega)) ?_
            refine o_yes rfl rfl ?_
            refine o_step rfl (s_lss_t rfl rfl (by omega)) ?_
            refine o_step rfl (s_pick_t rfl rfl) ?_
            refine o_step rfl (s_assign rfl) ?_
            refine o_nil ?_
            refine x_then (hK39 _ _ ?_)
            refine c_ret ?_
            refine x_then_ret (?_)
            exact x_ret rfl (.tmp rfl (.nil)) (rfl)
end Go.Proofs.YtafbigmneipkiaaDoor
