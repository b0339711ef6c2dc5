/- Part of the proofs over this seat: see the text that holds the theorem. Conditions: each theorem bears its own. -/
import Derived.Test.YtafbigmneipkiaaDoorHlB
import Derived.Test.YtafbigmneipkiaaDoorBW12
import Derived.Test.YtafbigmneipkiaaDoorBW7
namespace Go.Proofs.YtafbigmneipkiaaDoor
open Go Go.HL Go.Proofs Go.Tab Go.HL.Kl Go.HL.Kl.Bk
theorem copyMarksN_fn (a : Option Addr) (c : Nat) (l : List Mk) (n : Nat) (hn : l.length = n) : HL.Fn Tryd.prog 15 [.slice a n c] (fun w => Rd Em w (.slice a n c) l ∧ l.length * 2 ≤ 140737488355328) [] (fun v S' => ∃ a' c', v = .slice a' l.length c' ∧ OwnS Em 2 35 (.slice a' l.length c') l S') := by
  subst hn; exact copyMarks_fn a c l
theorem parseN_fn (la : Option Addr) (lc : Nat) (l : List Mk) (n : Nat) (hn : l.length = n) (at0 : Int) : HL.Fn Tryd.prog 11 [.slice la n lc, .int .i64 at0] (fun w => Rd Em w (.slice la n lc) l) [] (fun v _ => v = .tuple #[.agg (Ec (parseP l at0).1).toArray, .int .i64 (parseP l at0).2.1, .int .i64 (parseP l at0).2.2]) := by
  subst hn; exact parse_fn la lc l at0
set_option maxHeartbeats 1000000 in
theorem bracketParses_fn (a1 : Option Addr) (c1 : Nat) (l : List Mk) (at0 : Int) : HL.Fn Tryd.prog 3 [.slice a1 l.length c1, .int .i64 at0] (fun w => Rd Em w (.slice a1 l.length c1) l ∧ TbB [] w) [] (fun v _ => v = .bool true) := by
  refine fn_of Tryd.func3 rfl rfl rfl fun w0 hw => ?_
  obtain ⟨h1, hT⟩ := hw
  have hs1 := h1.sl
  have hb1 := hs1.le
  refine c_seq fun _ hK1 => ?_
  refine c_region ?_
  refine o_step rfl (s_assign rfl) ?_
  refine o_nil ?_
  refine x_then (hK1 _ _ ?_)
  refine c_seq fun _ hK2 => ?_
  refine c_region ?_
  refine o_callP (works_fn) rfl rfl rfl (fun w st => tbB_of hT st HSub.nil) (fun v16 hv16 => ?_)
  subst hv16
  refine o_step rfl (s_assign rfl) ?_
  refine o_nil ?_
  refine x_then (hK2 _ _ ?_)
  refine c_seq fun _ hK3 => ?_
  refine c_seq fun _ hK4 => ?_
  refine c_region ?_
  refine o_step rfl (s_move rfl) ?_
  refine o_step rfl (s_len rfl) ?_
  refine o_callP (long_fn _) rfl rfl rfl (fun _ _ => trivial) (fun v19 hv19 => ?_)
  subst hv19
  refine o_nil ?_
  refine x_then (hK4 _ _ ?_)
  refine c_if rfl (fun hlong => ?_) (fun hlong => ?_)
  · skip
    refine c_seq fun _ hK5 => ?_
    refine c_region ?_
    refine o_step rfl (s_move rfl) ?_
    refine o_step rfl (s_assign rfl) ?_
    refine o_nil ?_
    refine x_then (hK5 _ _ ?_)
    refine c_ret ?_
    refine x_then_ret (?_)
    exact x_ret rfl (.tmp rfl (.nil)) (rfl)
  · skip
    refine c_skip ?_
    refine x_then (hK3 _ _ ?_)
    refine c_seq fun _ hK6 => ?_
    refine c_region ?_
    refine o_step rfl (s_move rfl) ?_
    refine o_call (wideMarks_fn a1 c1 l (by omega)) rfl rfl rfl (by exact .nil) (fun w st => (RdK.old0 h1).out w st) (fun v22 S22 ⟨ax, hv22, hS22⟩ => ?_)
    subst hv22
    have hX := hS22.pre l.length (by rw [wm_len]; omega)
    rw [wm_take] at hX
    have hslX := hX.sl
    refine o_step rfl (s_assign rfl) ?_
    refine o_nil ?_
    refine x_then (hK6 _ _ ?_)
    refine c_seq fun _ hK7 => ?_
    refine c_region ?_
    refine o_step rfl (s_move rfl) ?_
    refine o_step rfl (s_move rfl) ?_
    refine o_callP (parse_fn ax _ l at0) rfl rfl rfl (fun w st => (hX.rdk hiA).out w st) (fun v26 hv26 => ?_)
    subst hv26
    refine o_step rfl (s_move rfl) ?_
    refine o_step rfl (s_extract rfl rfl) ?_
    refine o_step rfl (s_extract rfl rfl) ?_
    refine o_step rfl (s_extract rfl rfl) ?_
    refine o_alloc (l := Ec 0#256) (by rw [Ec_zero]; rfl) rfl fun b7 => ?_
    refine o_stW rfl rfl upA (Ec_len _) (Ec_len _) (Ec_one _) ?_
    refine o_step rfl (s_assign rfl) ?_
    refine o_step rfl (s_assign rfl) ?_
    refine o_nil ?_
    refine x_then (hK7 _ _ ?_)
    refine c_seq fun _ hK8 => ?_
    refine c_region ?_
    refine o_step rfl (s_move rfl) ?_
    refine o_step rfl (s_move rfl) ?_
    refine o_callP (rParse_fn a1 c1 l at0) rfl rfl rfl (fun w st => (RdK.old0 h1).out w st) (fun v33 hv33 => ?_)
    subst hv33
    refine o_step rfl (s_move rfl) ?_
    refine o_step rfl (s_extract rfl rfl) ?_
    refine o_step rfl (s_extract rfl rfl) ?_
    refine o_step rfl (s_extract rfl rfl) ?_
    refine o_alloc (l := Ec 0#256) (by rw [Ec_zero]; rfl) rfl fun b10 => ?_
    refine o_stW rfl rfl upA (Ec_len _) (Ec_len _) (Ec_one _) ?_
    refine o_step rfl (s_assign rfl) ?_
    refine o_step rfl (s_assign rfl) ?_
    refine o_nil ?_
    refine x_then (hK8 _ _ ?_)
    refine c_seq fun _ hK9 => ?_
    refine c_region ?_
    refine o_step rfl (s_move rfl) ?_
    refine o_step rfl (s_move rfl) ?_
    refine o_callP (eqMarks_fn ax a1 _ c1 l l) rfl rfl rfl (fun w st => ⟨(hX.rdk hiA).out w st, (RdK.old0 h1).out w st⟩) (fun v39 hv39 => ?_)
    rw [decide_eq_true rfl] at hv39
    subst hv39
    refine o_step rfl (s_move rfl) ?_
    refine o_yes rfl rfl ?_
    refine o_step rfl (s_move rfl) ?_
    refine o_yes rfl rfl ?_
    refine o_callP (spareMarks_fn ax _ l (by omega)) rfl rfl rfl (fun w st => (hS22.rdk hiA).out w st) (fun v42 hv42 => ?_)
    subst hv42
    refine o_step rfl (s_pick_t rfl rfl) ?_
    refine o_step rfl (s_assign rfl) ?_
    refine o_nil ?_
    refine x_then (hK9 _ _ ?_)
    refine c_seq fun _ hK10 => ?_
    refine c_seq fun _ hK11 => ?_
    refine c_region ?_
    refine o_step rfl (s_move rfl) ?_
    refine o_step rfl (s_not rfl) ?_
    refine o_step rfl (s_move rfl) ?_
    refine o_yes rfl rfl ?_
    refine o_step rfl (s_move rfl) ?_
    refine o_yes rfl rfl ?_
    refine o_step rfl (s_not rfl) ?_
    refine o_step rfl (s_pick_f rfl rfl) ?_
    refine o_step rfl (s_move rfl) ?_
    refine o_yes rfl rfl ?_
    refine o_step rfl (s_ldB rfl (RdPK.cels (.own meA)) (Ec_len _)) ?_
    refine o_yes rfl rfl ?_
    refine o_step rfl (s_ldB rfl (RdPK.cels (.own meA)) (Ec_len _)) ?_
    refine o_yes rfl rfl ?_
    refine o_step rfl (step_cast (v' := .bool false) (s_neq_cl rfl rfl) (congrArg Value.bool (by simp))) ?_
    refine o_step rfl (s_pick_f rfl rfl) ?_
    refine o_step rfl (s_move rfl) ?_
    refine o_yes rfl rfl ?_
    refine o_step rfl (s_move rfl) ?_
    refine o_yes rfl rfl ?_
    refine o_step rfl (s_move rfl) ?_
    refine o_yes rfl rfl ?_
    refine o_step rfl (step_cast (v' := .bool false) (s_neq rfl rfl) (congrArg Value.bool (by simp))) ?_
    refine o_step rfl (s_pick_f rfl rfl) ?_
    refine o_step rfl (s_move rfl) ?_
    refine o_yes rfl rfl ?_
    refine o_step rfl (s_move rfl) ?_
    refine o_yes rfl rfl ?_
    refine o_step rfl (s_move rfl) ?_
    refine o_yes rfl rfl ?_
    refine o_step rfl (step_cast (v' := .bool false) (s_neq rfl rfl) (congrArg Value.bool (by simp))) ?_
    refine o_step rfl (s_pick_f rfl rfl) ?_
    refine o_nil ?_
    refine x_then (hK11 _ _ ?_)
    refine c_false rfl ?_
    refine c_skip ?_
    refine x_then (hK10 _ _ ?_)
    refine c_seq fun _ hK12 => ?_
    refine c_seq fun _ hK13 => ?_
    refine c_region ?_
    refine o_step rfl (s_assign rfl) ?_
    refine o_nil ?_
    refine x_then (hK13 _ _ ?_)
    refine c_block ?_
    refine c_loop3 (fun (j : Nat) (M : List Mk) (So : Hp) => j ≤ l.length ∧ M.length = l.length ∧ OwnS Em 2 35 (.slice ax l.length (l.length + 64)) M So) (fun (j : Nat) (M : List Mk) (So : Hp) => [(14, .int .i64 j)]) [(1, _), (4, _), (6, _), (7, _), (8, _), (9, _), (10, _), (11, _), (12, _)] (fun (j : Nat) (M : List Mk) (So : Hp) => (b10, .cells (Ec (parseP l at0).1).toArray 28 (0, 0)) :: (b7, .cells (Ec (parseP l at0).1).toArray 28 (0, 0)) :: So) (fun (j : Nat) (M : List Mk) (So : Hp) => l.length - j) 0 l S22 ⟨by omega, rfl, hX⟩ sbA sbA hzB ?_
    rintro j M So ⟨hj, hML, hO⟩
    have hslO := hO.sl
    rw [hML] at hslO
    refine c_seq fun _ hK14 => ?_
    refine c_seq fun _ hK15 => ?_
    refine c_region ?_
    refine o_step rfl (s_move rfl) ?_
    refine o_step rfl (s_move rfl) ?_
    refine o_step rfl (s_len rfl) ?_
    refine o_step rfl (s_lss rfl rfl) ?_
    refine o_nil ?_
    refine x_then (hK15 _ _ ?_)
    refine c_if rfl (fun hlt => ?_) (fun hlt => ?_)
    · skip
      have hjl : j < M.length := by omega
      refine c_skip ?_
      refine x_then (hK14 _ _ ?_)
      refine c_seq fun _ hK16 => ?_
      refine c_block ?_
      refine c_seq fun _ hK17 => ?_
      refine c_region ?_
      refine o_step rfl (s_move rfl) ?_
      refine o_step rfl (s_move rfl) ?_
      by_cases hja : (j : Int) ≠ at0
      · skip
        refine o_step rfl (step_cast (v' := .bool true) (s_neq rfl rfl) (by rw [decide_eq_true hja])) ?_
        refine o_step rfl (s_move rfl) ?_
        refine o_yes rfl rfl ?_
        refine o_step rfl (s_move rfl) ?_
        refine o_yes rfl rfl ?_
        refine o_step rfl (s_rem rfl rfl (by decide)) ?_
        refine o_yes rfl rfl ?_
        by_cases hj3 : (j : Int).tmod 3 = 1
        · skip
          refine o_step rfl (step_cast (v' := .bool true) (s_eql rfl rfl) (by rw [decide_eq_true hj3])) ?_
          refine o_step rfl (s_pick_t rfl rfl) ?_
          refine o_nil ?_
          refine x_then (hK17 _ _ ?_)
          refine c_true rfl ?_
          refine c_region ?_
          refine o_step rfl (s_move rfl) ?_
          refine o_step rfl (s_move rfl) ?_
          refine o_step rfl (s_move rfl) ?_
          refine o_step rfl (s_move rfl) ?_
          refine o_step rfl (s_idx rfl rfl hslO (by omega)) ?_
          refine o_step rfl (s_field rfl rfl (by decide)) ?_
          refine o_step rfl (s_ld rfl ((hO.rdk hiA).ld j 1 (mk0_get hjl) rfl (by decide) (by omega))) ?_
          refine o_step rfl (s_not rfl) ?_
          refine o_step rfl (s_idx rfl rfl hslO (by omega)) ?_
          refine o_step rfl (s_field rfl rfl (by decide)) ?_
          refine o_stS (i := j) (off := 1) (cs := [.bool (!(mk0 M j).p)]) ⟨(mk0 M j).b, !(mk0 M j).p⟩ hO pkA rfl rfl rfl rfl hjl (by rw [Int.toNat_natCast]; simp only [Nat.add_assoc]) (by simp) (fun e he => by rw [mk0_get hjl] at he; cases he; rfl) (by simp [Value.oneCell']) fun S' hS' => ?_
          refine o_nil ?_
          refine x_block ?_
          refine x_then (hK16 _ _ ?_)
          refine c_region ?_
          refine o_step rfl (s_move rfl) ?_
          refine o_step rfl (s_add rfl rfl (by omega)) ?_
          refine o_step rfl (s_assign rfl) ?_
          refine o_nil ?_
          exact x_then (x_inv (j + 1, M.set j ⟨(mk0 M j).b, !(mk0 M j).p⟩, S') ⟨by omega, by simp [hML], hS'⟩ (by first | omega | (dsimp only; omega)) sbA hzB)
        · skip
          refine o_step rfl (step_cast (v' := .bool false) (s_eql rfl rfl) (by rw [decide_eq_false hj3])) ?_
          refine o_step rfl (s_pick_t rfl rfl) ?_
          refine o_nil ?_
          refine x_then (hK17 _ _ ?_)
          refine c_false rfl ?_
          refine c_skip ?_
          refine x_block ?_
          refine x_then (hK16 _ _ ?_)
          refine c_region ?_
          refine o_step rfl (s_move rfl) ?_
          refine o_step rfl (s_add rfl rfl (by omega)) ?_
          refine o_step rfl (s_assign rfl) ?_
          refine o_nil ?_
          exact x_then (x_inv (j + 1, M, So) ⟨by omega, hML, hO⟩ (by first | omega | (dsimp only; omega)) sbA hzA)
      · skip
        refine o_step rfl (step_cast (v' := .bool false) (s_neq rfl rfl) (by rw [decide_eq_false hja])) ?_
        refine o_step rfl (s_move rfl) ?_
        refine o_no rfl rfl rfl rfl ?_
        refine o_no rfl rfl rfl rfl ?_
        refine o_no rfl rfl rfl rfl ?_
        refine o_step rfl (s_pick_f rfl rfl) ?_
        refine o_nil ?_
        refine x_then (hK17 _ _ ?_)
        refine c_false rfl ?_
        refine c_skip ?_
        refine x_block ?_
        refine x_then (hK16 _ _ ?_)
        refine c_region ?_
        refine o_step rfl (s_move rfl) ?_
        refine o_step rfl (s_add rfl rfl (by omega)) ?_
        refine o_step rfl (s_assign rfl) ?_
        refine o_nil ?_
        exact x_then (x_inv (j + 1, M, So) ⟨by omega, hML, hO⟩ (by first | omega | (dsimp only; omega)) sbA hzA)
    · skip
      refine c_exit ?_
      refine x_then_exit ?_
      refine x_then_exit ?_
      refine x_block_exit ?_
      refine x_then (hK12 _ _ ?_)
      refine c_seq fun _ hK18 => ?_
      refine c_region ?_
      refine o_step rfl (s_move rfl) ?_
      refine o_call (copyMarksN_fn ax (l.length + 64) M l.length hML) rfl rfl rfl (by exact .nil) (fun w st => ⟨(hO.rdk hiA).out w st, by omega⟩) (fun v90 S90 ⟨a90, c90, hv90, hS90⟩ => ?_)
      subst hv90
      refine o_step rfl (s_assign rfl) ?_
      refine o_nil ?_
      refine x_then (hK18 _ _ ?_)
      refine c_seq fun _ hK19 => ?_
      refine c_region ?_
      refine o_step rfl (s_move rfl) ?_
      refine o_step rfl (s_move rfl) ?_
      refine o_callP (parseN_fn ax (l.length + 64) M l.length hML at0) rfl rfl rfl (fun w st => (hO.rdk hiA).out w st) (fun v94 hv94 => ?_)
      subst hv94
      refine o_step rfl (s_move rfl) ?_
      refine o_step rfl (s_extract rfl rfl) ?_
      refine o_step rfl (s_extract rfl rfl) ?_
      refine o_step rfl (s_extract rfl rfl) ?_
      refine o_stW rfl rfl upA (Ec_len _) (Ec_len _) (Ec_one _) ?_
      refine o_step rfl (s_assign rfl) ?_
      refine o_step rfl (s_assign rfl) ?_
      refine o_nil ?_
      refine x_then (hK19 _ _ ?_)
      refine c_seq fun _ hK20 => ?_
      refine c_region ?_
      refine o_step rfl (s_move rfl) ?_
      refine o_step rfl (s_move rfl) ?_
      refine o_callP (rParse_fn a90 c90 M at0) rfl rfl rfl (fun w st => (hS90.rdk hiA).out w st) (fun v101 hv101 => ?_)
      subst hv101
      refine o_step rfl (s_move rfl) ?_
      refine o_step rfl (s_extract rfl rfl) ?_
      refine o_step rfl (s_extract rfl rfl) ?_
      refine o_step rfl (s_extract rfl rfl) ?_
      refine o_stW rfl rfl upA (Ec_len _) (Ec_len _) (Ec_one _) ?_
      refine o_step rfl (s_assign rfl) ?_
      refine o_step rfl (s_assign rfl) ?_
      refine o_nil ?_
      refine x_then (hK20 _ _ ?_)
      refine c_seq fun _ hK21 => ?_
      refine c_region ?_
      refine o_step rfl (s_ldB rfl (RdPK.cels (.own meA)) (Ec_len _)) ?_
      refine o_step rfl (s_ldB rfl (RdPK.cels (.own meA)) (Ec_len _)) ?_
      refine o_step rfl (step_cast (v' := .bool true) (s_eql_cl rfl rfl) (congrArg Value.bool (decide_eq_true rfl))) ?_
      refine o_step rfl (s_move rfl) ?_
      refine o_yes rfl rfl ?_
      refine o_step rfl (s_move rfl) ?_
      refine o_yes rfl rfl ?_
      refine o_step rfl (s_move rfl) ?_
      refine o_yes rfl rfl ?_
      refine o_step rfl (step_cast (v' := .bool true) (s_eql rfl rfl) (congrArg Value.bool (decide_eq_true rfl))) ?_
      refine o_step rfl (s_pick_t rfl rfl) ?_
      refine o_step rfl (s_move rfl) ?_
      refine o_yes rfl rfl ?_
      refine o_step rfl (s_move rfl) ?_
      refine o_yes rfl rfl ?_
      refine o_step rfl (s_move rfl) ?_
      refine o_yes rfl rfl ?_
      refine o_step rfl (step_cast (v' := .bool true) (s_eql rfl rfl) (congrArg Value.bool (decide_eq_true rfl))) ?_
      refine o_step rfl (s_pick_t rfl rfl) ?_
      refine o_step rfl (s_assign rfl) ?_
      refine o_nil ?_
      refine x_then (hK21 _ _ ?_)
      refine c_ret ?_
      refine ?_
      exact x_ret rfl (.tmp rfl (.nil)) (rfl)
end Go.Proofs.YtafbigmneipkiaaDoor
