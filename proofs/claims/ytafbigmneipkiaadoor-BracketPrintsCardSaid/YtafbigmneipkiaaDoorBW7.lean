/- Part of the proofs over this seat: see the text that holds the theorem. Conditions: each theorem bears its own. -/
import Derived.Test.YtafbigmneipkiaaDoorHlB
import Derived.Test.YtafbigmneipkiaaDoorBW6
import Derived.Test.YtafbigmneipkiaaDoorMB7
namespace Go.Proofs.YtafbigmneipkiaaDoor
open Go Go.HL Go.Proofs Go.Tab Go.HL.Kl Go.HL.Kl.Bk
theorem works_fn  : HL.Fn Tryd.prog 8 [] (TbB []) [] (fun v _ => v = .bool true) := by
  refine fn_of Tryd.func8 rfl rfl rfl fun w0 hw => ?_
  have hT := hw
  refine c_seq fun _ hK1 => ?_
  refine c_region ?_
  refine o_step rfl (s_assign rfl) ?_
  refine o_nil ?_
  refine x_then (hK1 _ _ ?_)
  refine c_seq fun _ hK2 => ?_
  refine c_region ?_
  refine o_call (lsigns_fn ⟨#[120, 91, 94, 98, 45, 122, 93, 121]⟩ (by decide)) rfl rfl rfl (by exact .nil) (fun _ _ => trivial) (fun v6 S6 ⟨a6, c6, hv6, hS6⟩ => ?_)
  subst hv6
  change OwnS Em 2 35 (.slice a6 wRow.length c6) wRow S6 at hS6
  refine o_callP (parse_fn a6 c6 wRow 1) rfl rfl rfl (fun w st => (hS6.rdk hiA).out w st) (fun v7 hv7 => ?_)
  rw [wParse] at hv7
  subst hv7
  refine o_step rfl (s_move rfl) ?_
  refine o_step rfl (s_extract rfl rfl) ?_
  refine o_step rfl (s_extract rfl rfl) ?_
  refine o_step rfl (s_extract rfl rfl) ?_
  refine o_alloc (l := Ec 0#256) (by rw [Ec_zero]; rfl) rfl fun b1 => ?_
  refine o_stW rfl rfl upA (Ec_len _) (Ec_len _) (Ec_one _) ?_
  refine o_step rfl (s_assign rfl) ?_
  refine o_step rfl (s_assign rfl) ?_
  refine o_nil ?_
  refine x_then (hK2 _ _ ?_)
  refine c_seq fun _ hK3 => ?_
  refine c_region ?_
  refine o_step rfl (step_cast (v' := .agg (Ec (bit 97)).toArray) (s_buildA (cs := [_, _, _, _]) (vs := [_, _, _, _]) rfl rfl (.cons rfl rfl rfl rfl (.cons rfl rfl rfl rfl (.cons rfl rfl rfl rfl (.cons rfl rfl rfl rfl (.nil)))))) (by rw [w97_cells])) ?_
  refine o_call (print_fn (bit 97)) rfl rfl rfl (by exact .nil) (fun w st => tbB_of hT st HSub.nil) (fun v12 S12 ⟨a12, c12, hv12, hS12⟩ => ?_)
  subst hv12
  refine o_step rfl (s_assign rfl) ?_
  refine o_nil ?_
  refine x_then (hK3 _ _ ?_)
  refine c_seq fun _ hK4 => ?_
  refine c_region ?_
  refine o_step rfl (s_move rfl) ?_
  refine o_step rfl (s_eql_t rfl rfl rfl) ?_
  refine o_step rfl (s_move rfl) ?_
  refine o_yes rfl rfl ?_
  refine o_step rfl (s_move rfl) ?_
  refine o_yes rfl rfl ?_
  refine o_step rfl (s_eql_t rfl rfl rfl) ?_
  refine o_step rfl (s_pick_t rfl rfl) ?_
  refine o_step rfl (s_move rfl) ?_
  refine o_yes rfl rfl ?_
  refine o_step rfl (s_ldB rfl (RdPK.cels (.own meA)) (Ec_len _)) ?_
  refine o_yes rfl rfl ?_
  refine o_step rfl (step_cast (v' := .agg (Ec wCls).toArray) (s_buildA (cs := [_, _, _, _]) (vs := [_, _, _, _]) rfl rfl (.cons rfl rfl rfl rfl (.cons rfl rfl rfl rfl (.cons rfl rfl rfl rfl (.cons rfl rfl rfl rfl (.nil)))))) (by rw [wCls_cells])) ?_
  refine o_yes rfl rfl ?_
  refine o_step rfl (step_cast (v' := .bool true) (s_eql_cl rfl rfl) (congrArg Value.bool (decide_eq_true rfl))) ?_
  refine o_step rfl (s_pick_t rfl rfl) ?_
  refine o_step rfl (s_move rfl) ?_
  refine o_yes rfl rfl ?_
  refine o_step rfl (s_move rfl) ?_
  refine o_yes rfl rfl ?_
  refine o_call (lsigns_fn ⟨#[91, 97, 93]⟩ (by decide)) rfl rfl rfl (by exact .nil) (fun _ _ => trivial) (fun v26 S26 ⟨a26, c26, hv26, hS26⟩ => ?_)
  subst hv26
  change OwnS Em 2 35 (.slice a26 ([91, 97, 93].map sgn).length c26) ([91, 97, 93].map sgn) S26 at hS26
  refine o_yes rfl rfl ?_
  refine o_callP (eqMarks_fn a12 a26 c12 c26 (printP (bit 97)) ([91, 97, 93].map sgn)) rfl rfl rfl (fun w st => ⟨(hS12.rdk hiA).out w st, (hS26.rdk hiA).out w st⟩) (fun v27 hv27 => ?_)
  rw [decide_eq_true wPrint] at hv27
  subst hv27
  refine o_step rfl (s_pick_t rfl rfl) ?_
  refine o_step rfl (s_assign rfl) ?_
  refine o_nil ?_
  refine x_then (hK4 _ _ ?_)
  refine c_ret ?_
  refine ?_
  exact x_ret rfl (.tmp rfl (.nil)) (rfl)

theorem bracketBack_fn (c : Cl) (a1 a2 : Option Addr) (c1 c2 : Nat) (A B : List Mk) (hA : A.length * 2 ≤ 140737488355328) (hB : B.length * 2 ≤ 140737488355328) : HL.Fn Tryd.prog 4 [.agg (Ec c).toArray, .slice a1 A.length c1, .slice a2 B.length c2] (fun w => (Rd Em w (.slice a1 A.length c1) A ∧ Rd Em w (.slice a2 B.length c2) B) ∧ TbB [] w) [] (fun v _ => v = .bool true) := by
  refine fn_of Tryd.func4 rfl rfl rfl fun w0 hw => ?_
  obtain ⟨⟨h1, h2⟩, hT⟩ := hw
  have hs1 := h1.sl
  have hs2 := h2.sl
  have hb1 := hs1.le
  have hb2 := hs2.le
  have hpl := print_len c
  refine c_seq fun _ hK1 => ?_
  refine c_region ?_
  refine o_box rfl rfl rfl fun b3 => ?_
  refine o_step rfl (s_assign rfl) ?_
  refine o_nil ?_
  refine x_then (hK1 _ _ ?_)
  refine c_seq fun _ hK2 => ?_
  refine c_region ?_
  refine o_callP (works_fn) rfl rfl rfl (fun w st => tbB_of hT st HSub.nil) (fun v14 hv14 => ?_)
  subst hv14
  refine o_step rfl (s_assign rfl) ?_
  refine o_nil ?_
  refine x_then (hK2 _ _ ?_)
  refine c_seq fun _ hK3 => ?_
  refine c_seq fun _ hK4 => ?_
  refine c_region ?_
  refine o_step rfl (s_move rfl) ?_
  refine o_step rfl (s_len rfl) ?_
  refine o_step rfl (s_move rfl) ?_
  refine o_step rfl (s_len rfl) ?_
  refine o_step rfl (s_add rfl rfl (by omega)) ?_
  refine o_callP (long_fn _) rfl rfl rfl (fun _ _ => trivial) (fun v20 hv20 => ?_)
  subst hv20
  refine o_nil ?_
  refine x_then (hK4 _ _ ?_)
  refine c_if rfl (fun hlong => ?_) (fun hlong => ?_)
  · skip
    refine c_seq fun _ hK5 => ?_
    refine c_region ?_
    refine o_step rfl (s_move rfl) ?_
    refine o_step rfl (s_assign rfl) ?_
    refine o_nil ?_
    refine x_then (hK5 _ _ ?_)
    refine c_ret ?_
    refine x_then_ret (?_)
    exact x_ret rfl (.tmp rfl (.nil)) (rfl)
  · skip
    refine c_skip ?_
    refine x_then (hK3 _ _ ?_)
    refine c_seq fun _ hK6 => ?_
    refine c_region ?_
    refine o_step rfl (s_ldB rfl (RdPK.cels (.own meA)) (Ec_len _)) ?_
    refine o_call (print_fn c) rfl rfl rfl (by exact .nil) (fun w st => tbB_of hT st HSub.nil) (fun v23 S23 ⟨a23, c23, hv23, hS23⟩ => ?_)
    subst hv23
    have hsl23 := hS23.sl
    refine o_step rfl (s_assign rfl) ?_
    refine o_nil ?_
    refine x_then (hK6 _ _ ?_)
    refine c_seq fun _ hK7 => ?_
    refine c_seq fun _ hK8 => ?_
    refine c_region ?_
    refine o_step rfl (s_assign rfl) ?_
    refine o_nil ?_
    refine x_then (hK8 _ _ ?_)
    refine c_block ?_
    -- not carried: 6
    refine c_loopB (fun (i : Nat) => i ≤ (printP c).length) (fun (i : Nat) => [(9, .int .i64 i)]) [(1, _), (2, _), (3, _), (7, _), (8, _)] (fun (i : Nat) => (b3, .cells (Ec c).toArray 28 (0, 0)) :: S23) (fun (i : Nat) => (printP c).length - i) 0 (by omega) sbA sbA hzB ?_
    rintro i hi
    refine c_seq fun _ hK9 => ?_
    refine c_seq fun _ hK10 => ?_
    refine c_region ?_
    refine o_step rfl (s_move rfl) ?_
    refine o_step rfl (s_move rfl) ?_
    refine o_step rfl (s_len rfl) ?_
    refine o_step rfl (s_lss rfl rfl) ?_
    refine o_nil ?_
    refine x_then (hK10 _ _ ?_)
    refine c_if rfl (fun hlt => ?_) (fun hlt => ?_)
    · skip
      have hil : i < (printP c).length := by omega
      have hpm := print_mem c (mk0 (printP c) i) (List.mem_of_getElem? (mk0_get hil))
      have hb10 : ((mk0 (printP c) i).b.toNat : Int) ≠ 10 := fun e => hpm.2 (u8_of e)
      refine c_skip ?_
      refine x_then (hK9 _ _ ?_)
      refine c_seq fun _ hK11 => ?_
      refine c_block ?_
      refine c_seq fun _ hK12 => ?_
      refine c_region ?_
      refine o_step rfl (s_move rfl) ?_
      refine o_step rfl (s_move rfl) ?_
      refine o_step rfl (s_idx rfl rfl hsl23 (by omega)) ?_
      refine o_step rfl (s_field rfl rfl (by decide)) ?_
      refine o_step rfl (step_cast (v' := .bool false) (s_ld rfl ((hS23.rdk hiA).ld i 1 (mk0_get hil) rfl (by decide) (by omega))) (by rw [hpm.1])) ?_
      refine o_step rfl (s_move rfl) ?_
      refine o_yes rfl rfl ?_
      refine o_step rfl (s_move rfl) ?_
      refine o_yes rfl rfl ?_
      refine o_step rfl (s_move rfl) ?_
      refine o_yes rfl rfl ?_
      refine o_step rfl (s_idx rfl rfl hsl23 (by omega)) ?_
      refine o_yes rfl rfl ?_
      refine o_step rfl (s_field rfl rfl (by decide)) ?_
      refine o_yes rfl rfl ?_
      refine o_step rfl (s_ld rfl ((hS23.rdk hiA).ld i 0 (mk0_get hil) rfl (by decide) (by omega))) ?_
      refine o_yes rfl rfl ?_
      refine o_step rfl (s_eql_f rfl rfl (by omega)) ?_
      refine o_step rfl (s_pick_f rfl rfl) ?_
      refine o_nil ?_
      refine x_then (hK12 _ _ ?_)
      refine c_false rfl ?_
      refine c_skip ?_
      refine x_block ?_
      refine x_then (hK11 _ _ ?_)
      refine c_region ?_
      refine o_step rfl (s_move rfl) ?_
      refine o_step rfl (s_add rfl rfl (by omega)) ?_
      refine o_step rfl (s_assign rfl) ?_
      refine o_nil ?_
      exact x_then (x_inv (i + 1) (by omega) (by first | omega | (dsimp only; omega)) sbA hzA)
    · skip
      refine c_exit ?_
      refine x_then_exit ?_
      refine x_then_exit ?_
      refine x_block_exit ?_
      refine x_then (hK7 _ _ ?_)
      refine c_seq fun _ hK13 => ?_
      refine c_region ?_
      refine o_step rfl (s_move rfl) ?_
      refine o_call (copyMarks_fn a1 c1 A) rfl rfl rfl (by exact .nil) (fun w st => ⟨(RdK.old0 h1).out w st, hA⟩) (fun v44 S44 ⟨a44, c44, hv44, hS44⟩ => ?_)
      subst hv44
      refine o_step rfl (s_assign rfl) ?_
      refine o_nil ?_
      refine x_then (hK13 _ _ ?_)
      refine c_seq fun _ hK14 => ?_
      refine c_region ?_
      refine o_step rfl (s_move rfl) ?_
      refine o_step rfl (s_move rfl) ?_
      refine o_app hS44 (hS23.rdk hiA) rfl rfl rfl rfl (by omega) (by omega) rfl pkA fun a47 c47 S47 hS47 => ?_
      refine o_step rfl (s_assign rfl) ?_
      refine o_nil ?_
      refine x_then (hK14 _ _ ?_)
      refine c_seq fun _ hK15 => ?_
      refine c_region ?_
      refine o_step rfl (s_move rfl) ?_
      refine o_step rfl (s_move rfl) ?_
      refine o_app hS47 (RdK.old0 h2) rfl rfl rfl rfl (by rw [List.length_append]; omega) (by rw [List.length_append]; omega) rfl pkA fun a50 c50 S50 hS50 => ?_
      refine o_step rfl (s_assign rfl) ?_
      refine o_nil ?_
      refine x_then (hK15 _ _ ?_)
      refine c_seq fun _ hK16 => ?_
      refine c_region ?_
      refine o_step rfl (s_move rfl) ?_
      refine o_step rfl (s_move rfl) ?_
      refine o_step rfl (s_len rfl) ?_
      refine o_callP (parse_fn a50 c50 (A ++ printP c ++ B) A.length) rfl rfl rfl (fun w st => (hS50.rdk hiA).out w st) (fun v55 hv55 => ?_)
      have hbk := back c A B
      rw [← List.append_assoc] at hbk
      rw [hbk] at hv55
      subst hv55
      refine o_step rfl (s_move rfl) ?_
      refine o_step rfl (s_extract rfl rfl) ?_
      refine o_step rfl (s_extract rfl rfl) ?_
      refine o_step rfl (s_extract rfl rfl) ?_
      refine o_alloc (l := Ec 0#256) (by rw [Ec_zero]; rfl) rfl fun b11 => ?_
      refine o_stW rfl rfl upA (Ec_len _) (Ec_len _) (Ec_one _) ?_
      refine o_step rfl (s_assign rfl) ?_
      refine o_step rfl (s_assign rfl) ?_
      refine o_nil ?_
      refine x_then (hK16 _ _ ?_)
      refine c_seq fun _ hK17 => ?_
      refine c_region ?_
      refine o_step rfl (s_move rfl) ?_
      refine o_step rfl (s_move rfl) ?_
      refine o_yes rfl rfl ?_
      refine o_step rfl (s_move rfl) ?_
      refine o_yes rfl rfl ?_
      refine o_step rfl (s_eql_t rfl rfl rfl) ?_
      refine o_step rfl (s_pick_t rfl rfl) ?_
      refine o_step rfl (s_move rfl) ?_
      refine o_yes rfl rfl ?_
      refine o_step rfl (s_ldB rfl (RdPK.cels (.own meA)) (Ec_len _)) ?_
      refine o_yes rfl rfl ?_
      refine o_step rfl (s_ldB rfl (RdPK.cels (.own meA)) (Ec_len _)) ?_
      refine o_yes rfl rfl ?_
      refine o_step rfl (step_cast (v' := .bool true) (s_eql_cl rfl rfl) (congrArg Value.bool (decide_eq_true rfl))) ?_
      refine o_step rfl (s_pick_t rfl rfl) ?_
      refine o_step rfl (s_move rfl) ?_
      refine o_yes rfl rfl ?_
      refine o_step rfl (s_move rfl) ?_
      refine o_yes rfl rfl ?_
      refine o_step rfl (s_move rfl) ?_
      refine o_yes rfl rfl ?_
      refine o_step rfl (s_len rfl) ?_
      refine o_yes rfl rfl ?_
      refine o_step rfl (s_move rfl) ?_
      refine o_yes rfl rfl ?_
      refine o_step rfl (s_len rfl) ?_
      refine o_yes rfl rfl ?_
      refine o_step rfl (s_add rfl rfl (by omega)) ?_
      refine o_yes rfl rfl ?_
      refine o_step rfl (s_eql_t rfl rfl rfl) ?_
      refine o_step rfl (s_pick_t rfl rfl) ?_
      refine o_step rfl (s_assign rfl) ?_
      refine o_nil ?_
      refine x_then (hK17 _ _ ?_)
      refine c_ret ?_
      refine ?_
      exact x_ret rfl (.tmp rfl (.nil)) (rfl)
end Go.Proofs.YtafbigmneipkiaaDoor
