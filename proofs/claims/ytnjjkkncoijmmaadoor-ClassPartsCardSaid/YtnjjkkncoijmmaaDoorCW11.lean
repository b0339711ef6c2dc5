/- Part of the proofs over this seat: see the text that holds the theorem. Conditions: each theorem bears its own. -/
import Derived.Test.YtnjjkkncoijmmaaDoorCW10
import Derived.Test.YtnjjkkncoijmmaaDoorMC14
namespace Go.Proofs.YtnjjkkncoijmmaaDoor
open Go Go.HL Go.Proofs Go.HL.Kl
theorem classParts_fn (a : Option Addr) (n : Nat) (l : List Cl) : HL.Fn Tryd.prog 9 [.slice a l.length n] (fun w => Rd Ec w (.slice a l.length n) l ∧ Tb [] w) [] (fun v _ => v = .bool true) := by
  refine fn_of Tryd.func9 rfl rfl rfl fun w0 hw => ?_
  have hsl := hw.1.sl
  have hbl := hsl.le
  have hal := atoms_len l
  refine c_seq fun _ hK1 => ?_
  refine c_region ?_
  refine o_step rfl (s_assign rfl) ?_
  refine o_nil ?_
  refine x_then (hK1 _ _ ?_)
  refine c_seq fun _ hK2 => ?_
  refine c_region ?_
  refine o_callP (works_fn) rfl rfl rfl (fun w st => tb_of hw.2 st HSub.nil) (fun v13 hv13 => ?_)
  subst hv13
  refine o_step rfl (s_assign rfl) ?_
  refine o_nil ?_
  refine x_then (hK2 _ _ ?_)
  refine c_seq fun _ hK3 => ?_
  refine c_seq fun _ hK4 => ?_
  refine c_region ?_
  refine o_step rfl (s_move rfl) ?_
  refine o_step rfl (s_len rfl) ?_
  refine o_step rfl (s_gtr rfl rfl) ?_
  refine o_nil ?_
  refine x_then (hK4 _ _ ?_)
  refine c_if rfl (fun hbig => ?_) (fun hbig => ?_)
  · skip
    refine c_seq fun _ hK5 => ?_
    refine c_region ?_
    refine o_step rfl (s_move rfl) ?_
    refine o_step rfl (s_assign rfl) ?_
    refine o_nil ?_
    refine x_then (hK5 _ _ ?_)
    refine c_ret ?_
    refine x_then_ret (?_)
    exact x_ret rfl (.tmp rfl (.nil)) (rfl)
  · skip
    refine c_skip ?_
    refine x_then (hK3 _ _ ?_)
    refine c_seq fun _ hK6 => ?_
    refine c_region ?_
    refine o_step rfl (s_move rfl) ?_
    refine o_call (atoms_fn a n l) rfl rfl rfl (by exact .nil) (fun w st => ⟨(RdK.old0 hw.1).out w st, tb_of hw.2 st HSub.nil⟩) (fun v19 S19 ⟨a19, n19, hv19, hS19⟩ => ?_)
    subst hv19
    have hsl19 := hS19.sl
    refine o_step rfl (s_assign rfl) ?_
    refine o_nil ?_
    refine x_then (hK6 _ _ ?_)
    refine c_seq fun _ hK7 => ?_
    refine c_region ?_
    refine o_step rfl (step_cast (v' := .agg (Ec 0#256).toArray) (s_build0 rfl) (by rw [Ec_zero]; rfl)) ?_
    refine o_alloc (l := Ec 0#256) (by rw [Ec_zero]; rfl) rfl fun b5 => ?_
    refine o_stW rfl rfl (by repeat (first | exact .here | apply Upd.there | apply Upd.assoc | apply Upd.skip)) (by first | (rw [flat_len, Nat.mul_one]; first | assumption | exact List.length_replicate) | exact List.length_replicate | rfl) (by first | (rw [flat_len, Nat.mul_one]; first | assumption | exact List.length_replicate) | exact List.length_replicate | rfl) (by first | exact Ec_one _ | exact flat_one _ _ | exact one_rep rfl | (simp [Value.oneCell']; done)) ?_
    refine o_nil ?_
    refine x_then (hK7 _ _ ?_)
    refine c_seq fun _ hK8 => ?_
    refine c_seq fun _ hK9 => ?_
    refine c_region ?_
    refine o_step rfl (s_assign rfl) ?_
    refine o_nil ?_
    refine x_then (hK9 _ _ ?_)
    refine c_block ?_
    -- not carried: 2
    refine c_loopB (fun (i : Nat) => i ≤ (atoms l).length) (fun (i : Nat) => [(6, .int .i64 i)]) [(0, _), (3, _), (4, _), (5, _)] (fun (i : Nat) => ((b5, .cells (Ec (orA ((atoms l).take i))).toArray 24 (0, 0)) :: S19)) (fun (i : Nat) => (atoms l).length - i) 0 (by omega) (by repeat (first | exact Sub.nil | refine Sub.cons rfl ?_)) (by repeat (first | exact Sub.nil | refine Sub.cons rfl ?_)) (by repeat (first | exact HSub.refl _ | exact HSub.nil | refine HSub.takeC (by first | ((repeat (first | exact .one | exact .here | exact .all | apply Pick.cons | apply Pick.app)); done) | ((repeat (first | exact .one | exact .here | exact .all | apply Pick.cons | apply Pick.assoc | apply Pick.app)); done) | exact Pick.takeA (by repeat (first | exact .one | exact .here | exact .all | apply Pick.cons | apply Pick.assoc | apply Pick.app)) (by repeat (first | exact .one | exact .here | exact .all | apply Pick.cons | apply Pick.assoc | apply Pick.app))) ?_ | refine HSub.take (by first | ((repeat (first | exact .one | exact .here | exact .all | apply Pick.cons | apply Pick.app)); done) | ((repeat (first | exact .one | exact .here | exact .all | apply Pick.cons | apply Pick.assoc | apply Pick.app)); done) | exact Pick.takeA (by repeat (first | exact .one | exact .here | exact .all | apply Pick.cons | apply Pick.assoc | apply Pick.app)) (by repeat (first | exact .one | exact .here | exact .all | apply Pick.cons | apply Pick.assoc | apply Pick.app))) ?_ | exact HSub.of_pick (by first | ((repeat (first | exact .one | exact .here | exact .all | apply Pick.cons | apply Pick.app)); done) | ((repeat (first | exact .one | exact .here | exact .all | apply Pick.cons | apply Pick.assoc | apply Pick.app)); done) | exact Pick.takeA (by repeat (first | exact .one | exact .here | exact .all | apply Pick.cons | apply Pick.assoc | apply Pick.app)) (by repeat (first | exact .one | exact .here | exact .all | apply Pick.cons | apply Pick.assoc | apply Pick.app))))) ?_
    rintro i hi
    refine c_seq fun _ hK10 => ?_
    refine c_seq fun _ hK11 => ?_
    refine c_region ?_
    refine o_step rfl (s_move rfl) ?_
    refine o_step rfl (s_move rfl) ?_
    refine o_step rfl (s_len rfl) ?_
    refine o_step rfl (s_lss rfl rfl) ?_
    refine o_nil ?_
    refine x_then (hK11 _ _ ?_)
    refine c_if rfl (fun hlt0 => ?_) (fun hlt0 => ?_)
    · skip
      obtain ⟨ai, hai⟩ : ∃ c, (atoms l)[i]? = some c := ⟨_, List.getElem?_eq_getElem (by omega)⟩
      have hor := orA_step hai
      have hdis := orA_dis hai
      have hnz := atoms_ne hai
      refine c_skip ?_
      refine x_then (hK10 _ _ ?_)
      refine c_seq fun _ hK12 => ?_
      refine c_block ?_
      refine c_seq fun _ hK13 => ?_
      refine c_seq fun _ hK14 => ?_
      refine c_quiet (by kernel_rfl) ?_
      refine .op rfl (s_move rfl) ?_
      refine .op rfl (s_move rfl) ?_
      refine .op rfl (s_idx rfl rfl hsl19 (by omega)) ?_
      refine .op rfl (s_ldB rfl ((hS19.rdk (by repeat (first | exact HIn.here | exact HIn.all | exact HIn.one | apply HIn.cons | apply HIn.assoc | apply HIn.app))).lds i hai (by omega)) rfl) ?_
      refine .op rfl (step_cast (v' := .agg (Ec 0#256).toArray) (s_build0 rfl) (by rw [Ec_zero]; rfl)) ?_
      refine .op rfl (step_cast (v' := .bool false) (s_eql_cl rfl rfl) (congrArg Value.bool (decide_eq_false hnz))) ?_
      refine .op rfl (s_move rfl) ?_
      refine .yes rfl rfl rfl (s_ldB rfl (RdPK.cels (.own (by repeat (first | exact List.mem_cons_self | apply List.mem_cons_of_mem | apply mem_assoc | apply mem_app)))) (by first | (rw [flat_len, Nat.mul_one]; first | assumption | exact List.length_replicate) | exact List.length_replicate | rfl)) ?_
      refine .yes rfl rfl rfl (s_move rfl) ?_
      refine .yes rfl rfl rfl (s_move rfl) ?_
      refine .yes rfl rfl rfl (s_idx rfl rfl hsl19 (by omega)) ?_
      refine .yes rfl rfl rfl (s_ldB rfl ((hS19.rdk (by repeat (first | exact HIn.here | exact HIn.all | exact HIn.one | apply HIn.cons | apply HIn.assoc | apply HIn.app))).lds i hai (by omega)) rfl) ?_
      refine .call (fun _ fr => by rw [wanted_of fr rfl rfl rfl]; rfl) rfl rfl rfl (and_fn _ _) (fun _ _ => trivial) ?_
      refine .yes rfl rfl rfl (step_cast (v' := .agg (Ec 0#256).toArray) (s_build0 rfl) (by rw [Ec_zero]; rfl)) ?_
      refine .yes rfl rfl rfl (step_cast (v' := .bool false) (s_neq_cl rfl rfl) (congrArg Value.bool (decide_eq_false (fun h => h hdis)))) ?_
      refine .op rfl (s_pick_f rfl rfl) ?_
      refine .nil ?_
      refine x_then (hK14 _ _ ?_)
      refine c_false rfl ?_
      refine c_skip ?_
      refine x_then (hK13 _ _ ?_)
      refine c_seq fun _ hK15 => ?_
      refine c_drawE (((b5, .cells (Ec (orA ((atoms l).take i))).toArray 24 (0, 0)) :: S19)) (fun i => Nat.beq i 6) ?_
      refine e_take 0 rfl (by kernel_rfl) (by kernel_rfl) (by kernel_rfl) (by kernel_rfl) (fun _ _ => rfl) rfl (by repeat (first | exact HSub.refl _ | exact HSub.nil | refine HSub.takeC (by first | ((repeat (first | exact .one | exact .here | exact .all | apply Pick.cons | apply Pick.app)); done) | ((repeat (first | exact .one | exact .here | exact .all | apply Pick.cons | apply Pick.assoc | apply Pick.app)); done) | exact Pick.takeA (by repeat (first | exact .one | exact .here | exact .all | apply Pick.cons | apply Pick.assoc | apply Pick.app)) (by repeat (first | exact .one | exact .here | exact .all | apply Pick.cons | apply Pick.assoc | apply Pick.app))) ?_ | refine HSub.take (by first | ((repeat (first | exact .one | exact .here | exact .all | apply Pick.cons | apply Pick.app)); done) | ((repeat (first | exact .one | exact .here | exact .all | apply Pick.cons | apply Pick.assoc | apply Pick.app)); done) | exact Pick.takeA (by repeat (first | exact .one | exact .here | exact .all | apply Pick.cons | apply Pick.assoc | apply Pick.app)) (by repeat (first | exact .one | exact .here | exact .all | apply Pick.cons | apply Pick.assoc | apply Pick.app))) ?_ | exact HSub.of_pick (by first | ((repeat (first | exact .one | exact .here | exact .all | apply Pick.cons | apply Pick.app)); done) | ((repeat (first | exact .one | exact .here | exact .all | apply Pick.cons | apply Pick.assoc | apply Pick.app)); done) | exact Pick.takeA (by repeat (first | exact .one | exact .here | exact .all | apply Pick.cons | apply Pick.assoc | apply Pick.app)) (by repeat (first | exact .one | exact .here | exact .all | apply Pick.cons | apply Pick.assoc | apply Pick.app))))) (s_ldB rfl (RdPK.cels (.own (by repeat (first | exact List.mem_cons_self | apply List.mem_cons_of_mem | apply mem_assoc | apply mem_app)))) (by first | (rw [flat_len, Nat.mul_one]; first | assumption | exact List.length_replicate) | exact List.length_replicate | rfl)) ?_
      refine e_pure 1 rfl (by kernel_rfl) (by kernel_rfl) (by kernel_rfl) rfl (s_move rfl) ?_
      refine e_pure 2 rfl (by kernel_rfl) (by kernel_rfl) (by kernel_rfl) rfl (s_move rfl) ?_
      refine e_pure 3 rfl (by kernel_rfl) (by kernel_rfl) (by kernel_rfl) rfl (s_idx rfl rfl hsl19 (by omega)) ?_
      refine e_take 4 rfl (by kernel_rfl) (by kernel_rfl) (by kernel_rfl) (by kernel_rfl) (fun _ _ => rfl) rfl (by repeat (first | exact HSub.refl _ | exact HSub.nil | refine HSub.takeC (by first | ((repeat (first | exact .one | exact .here | exact .all | apply Pick.cons | apply Pick.app)); done) | ((repeat (first | exact .one | exact .here | exact .all | apply Pick.cons | apply Pick.assoc | apply Pick.app)); done) | exact Pick.takeA (by repeat (first | exact .one | exact .here | exact .all | apply Pick.cons | apply Pick.assoc | apply Pick.app)) (by repeat (first | exact .one | exact .here | exact .all | apply Pick.cons | apply Pick.assoc | apply Pick.app))) ?_ | refine HSub.take (by first | ((repeat (first | exact .one | exact .here | exact .all | apply Pick.cons | apply Pick.app)); done) | ((repeat (first | exact .one | exact .here | exact .all | apply Pick.cons | apply Pick.assoc | apply Pick.app)); done) | exact Pick.takeA (by repeat (first | exact .one | exact .here | exact .all | apply Pick.cons | apply Pick.assoc | apply Pick.app)) (by repeat (first | exact .one | exact .here | exact .all | apply Pick.cons | apply Pick.assoc | apply Pick.app))) ?_ | exact HSub.of_pick (by first | ((repeat (first | exact .one | exact .here | exact .all | apply Pick.cons | apply Pick.app)); done) | ((repeat (first | exact .one | exact .here | exact .all | apply Pick.cons | apply Pick.assoc | apply Pick.app)); done) | exact Pick.takeA (by repeat (first | exact .one | exact .here | exact .all | apply Pick.cons | apply Pick.assoc | apply Pick.app)) (by repeat (first | exact .one | exact .here | exact .all | apply Pick.cons | apply Pick.assoc | apply Pick.app))))) (s_ldB rfl ((hS19.rdk (by repeat (first | exact HIn.here | exact HIn.all | exact HIn.one | apply HIn.cons | apply HIn.assoc | apply HIn.app))).lds i hai (by omega)) rfl) ?_
      refine e_one 5 rfl (by kernel_rfl) ?_
      refine o_callP (or_fn _ _) rfl rfl rfl (fun _ _ => trivial) (fun v48 hv48 => ?_)
      subst hv48
      refine o_nil ?_
      refine x_oneS (by repeat (first | exact HSub.refl _ | exact HSub.nil | refine HSub.takeC (by first | ((repeat (first | exact .one | exact .here | exact .all | apply Pick.cons | apply Pick.app)); done) | ((repeat (first | exact .one | exact .here | exact .all | apply Pick.cons | apply Pick.assoc | apply Pick.app)); done) | exact Pick.takeA (by repeat (first | exact .one | exact .here | exact .all | apply Pick.cons | apply Pick.assoc | apply Pick.app)) (by repeat (first | exact .one | exact .here | exact .all | apply Pick.cons | apply Pick.assoc | apply Pick.app))) ?_ | refine HSub.take (by first | ((repeat (first | exact .one | exact .here | exact .all | apply Pick.cons | apply Pick.app)); done) | ((repeat (first | exact .one | exact .here | exact .all | apply Pick.cons | apply Pick.assoc | apply Pick.app)); done) | exact Pick.takeA (by repeat (first | exact .one | exact .here | exact .all | apply Pick.cons | apply Pick.assoc | apply Pick.app)) (by repeat (first | exact .one | exact .here | exact .all | apply Pick.cons | apply Pick.assoc | apply Pick.app))) ?_ | exact HSub.of_pick (by first | ((repeat (first | exact .one | exact .here | exact .all | apply Pick.cons | apply Pick.app)); done) | ((repeat (first | exact .one | exact .here | exact .all | apply Pick.cons | apply Pick.assoc | apply Pick.app)); done) | exact Pick.takeA (by repeat (first | exact .one | exact .here | exact .all | apply Pick.cons | apply Pick.assoc | apply Pick.app)) (by repeat (first | exact .one | exact .here | exact .all | apply Pick.cons | apply Pick.assoc | apply Pick.app))))) ?_
      refine e_one 6 rfl (by kernel_rfl) ?_
      refine o_stW rfl rfl (by repeat (first | exact .here | apply Upd.there | apply Upd.assoc | apply Upd.skip)) (by first | (rw [flat_len, Nat.mul_one]; first | assumption | exact List.length_replicate) | exact List.length_replicate | rfl) (by first | (rw [flat_len, Nat.mul_one]; first | assumption | exact List.length_replicate) | exact List.length_replicate | rfl) (by first | exact Ec_one _ | exact flat_one _ _ | exact one_rep rfl | (simp [Value.oneCell']; done)) ?_
      refine o_nil ?_
      refine x_oneL rfl ?_
      refine e_done (by kernel_rfl) ?_
      refine x_then (hK15 _ _ ?_)
      refine c_seq fun _ hK16 => ?_
      refine c_region ?_
      refine o_step rfl (s_assign rfl) ?_
      refine o_nil ?_
      refine x_then (hK16 _ _ ?_)
      refine c_block ?_
      rw [← hor]
      refine c_loopB (fun (k : Nat) => k ≤ i) (fun (k : Nat) => [(7, .int .i64 k)]) [(0, _), (3, _), (4, _), (5, _), (6, _), (21, _), (22, _), (23, _), (24, _), (27, _), (28, _), (29, _), (30, _), (31, _), (32, _), (33, _), (34, _), (35, _), (36, _), (37, _), (38, _), (39, _), (40, _), (41, _), (42, _), (43, _), (44, _), (45, _), (46, _), (47, _), (48, _)] (fun (k : Nat) => ((b5, .cells (Ec (orA ((atoms l).take (i + 1)))).toArray 24 (0, 0)) :: S19)) (fun (k : Nat) => i - k) 0 (by omega) (by repeat (first | exact Sub.nil | refine Sub.cons rfl ?_)) (by repeat (first | exact Sub.nil | refine Sub.cons rfl ?_)) (by repeat (first | exact HSub.refl _ | exact HSub.nil | refine HSub.takeC (by first | ((repeat (first | exact .one | exact .here | exact .all | apply Pick.cons | apply Pick.app)); done) | ((repeat (first | exact .one | exact .here | exact .all | apply Pick.cons | apply Pick.assoc | apply Pick.app)); done) | exact Pick.takeA (by repeat (first | exact .one | exact .here | exact .all | apply Pick.cons | apply Pick.assoc | apply Pick.app)) (by repeat (first | exact .one | exact .here | exact .all | apply Pick.cons | apply Pick.assoc | apply Pick.app))) ?_ | refine HSub.take (by first | ((repeat (first | exact .one | exact .here | exact .all | apply Pick.cons | apply Pick.app)); done) | ((repeat (first | exact .one | exact .here | exact .all | apply Pick.cons | apply Pick.assoc | apply Pick.app)); done) | exact Pick.takeA (by repeat (first | exact .one | exact .here | exact .all | apply Pick.cons | apply Pick.assoc | apply Pick.app)) (by repeat (first | exact .one | exact .here | exact .all | apply Pick.cons | apply Pick.assoc | apply Pick.app))) ?_ | exact HSub.of_pick (by first | ((repeat (first | exact .one | exact .here | exact .all | apply Pick.cons | apply Pick.app)); done) | ((repeat (first | exact .one | exact .here | exact .all | apply Pick.cons | apply Pick.assoc | apply Pick.app)); done) | exact Pick.takeA (by repeat (first | exact .one | exact .here | exact .all | apply Pick.cons | apply Pick.assoc | apply Pick.app)) (by repeat (first | exact .one | exact .here | exact .all | apply Pick.cons | apply Pick.assoc | apply Pick.app))))) ?_
      rintro k hk
      refine c_seq fun _ hK17 => ?_
      refine c_seq fun _ hK18 => ?_
      refine c_region ?_
      refine o_step rfl (s_move rfl) ?_
      refine o_step rfl (s_move rfl) ?_
      refine o_step rfl (s_lss rfl rfl) ?_
      refine o_nil ?_
      refine x_then (hK18 _ _ ?_)
      refine c_if rfl (fun hki0 => ?_) (fun hki0 => ?_)
      · skip
        have hki : k < i := by omega
        obtain ⟨ak, hak⟩ : ∃ c, (atoms l)[k]? = some c := ⟨_, List.getElem?_eq_getElem (by omega)⟩
        refine c_skip ?_
        refine x_then (hK17 _ _ ?_)
        refine c_seq fun _ hK19 => ?_
        refine c_block ?_
        refine c_seq fun _ hK20 => ?_
        refine c_region ?_
        refine o_step rfl (s_assign rfl) ?_
        refine o_nil ?_
        refine x_then (hK20 _ _ ?_)
        refine c_seq fun _ hK21 => ?_
        refine c_seq fun _ hK22 => ?_
        refine c_region ?_
        refine o_step rfl (s_assign rfl) ?_
        refine o_nil ?_
        refine x_then (hK22 _ _ ?_)
        refine c_block ?_
        refine c_loop2 (fun (j : Nat) (d : Bool) => j ≤ l.length ∧ (d = false → ∀ q c, q < j → l[q]? = some c → mt c ai = mt c ak)) (fun (j : Nat) (d : Bool) => [(9, .int .i64 j), (8, .bool d)]) [(0, _), (3, _), (4, _), (5, _), (6, _), (7, _), (21, _), (22, _), (23, _), (24, _), (27, _), (28, _), (29, _), (30, _), (31, _), (32, _), (33, _), (34, _), (35, _), (36, _), (37, _), (38, _), (39, _), (40, _), (41, _), (42, _), (43, _), (44, _), (45, _), (46, _), (47, _), (48, _), (49, _), (50, _), (51, _)] (fun (j : Nat) (d : Bool) => ((b5, .cells (Ec (orA ((atoms l).take (i + 1)))).toArray 24 (0, 0)) :: S19)) (fun (j : Nat) (d : Bool) => l.length - j) 0 false ⟨by omega, fun _ q c hq => absurd hq (Nat.not_lt_zero _)⟩ (by repeat (first | exact Sub.nil | refine Sub.cons rfl ?_)) (by repeat (first | exact Sub.nil | refine Sub.cons rfl ?_)) (by repeat (first | exact HSub.refl _ | exact HSub.nil | refine HSub.takeC (by first | ((repeat (first | exact .one | exact .here | exact .all | apply Pick.cons | apply Pick.app)); done) | ((repeat (first | exact .one | exact .here | exact .all | apply Pick.cons | apply Pick.assoc | apply Pick.app)); done) | exact Pick.takeA (by repeat (first | exact .one | exact .here | exact .all | apply Pick.cons | apply Pick.assoc | apply Pick.app)) (by repeat (first | exact .one | exact .here | exact .all | apply Pick.cons | apply Pick.assoc | apply Pick.app))) ?_ | refine HSub.take (by first | ((repeat (first | exact .one | exact .here | exact .all | apply Pick.cons | apply Pick.app)); done) | ((repeat (first | exact .one | exact .here | exact .all | apply Pick.cons | apply Pick.assoc | apply Pick.app)); done) | exact Pick.takeA (by repeat (first | exact .one | exact .here | exact .all | apply Pick.cons | apply Pick.assoc | apply Pick.app)) (by repeat (first | exact .one | exact .here | exact .all | apply Pick.cons | apply Pick.assoc | apply Pick.app))) ?_ | exact HSub.of_pick (by first | ((repeat (first | exact .one | exact .here | exact .all | apply Pick.cons | apply Pick.app)); done) | ((repeat (first | exact .one | exact .here | exact .all | apply Pick.cons | apply Pick.assoc | apply Pick.app)); done) | exact Pick.takeA (by repeat (first | exact .one | exact .here | exact .all | apply Pick.cons | apply Pick.assoc | apply Pick.app)) (by repeat (first | exact .one | exact .here | exact .all | apply Pick.cons | apply Pick.assoc | apply Pick.app))))) ?_
        rintro j d ⟨hj, hall⟩
        cases d
        · skip
          refine c_seq fun _ hK23 => ?_
          refine c_seq fun _ hK24 => ?_
          refine c_region ?_
          refine o_step rfl (s_move rfl) ?_
          refine o_step rfl (s_move rfl) ?_
          refine o_step rfl (s_len rfl) ?_
          by_cases hlj : j < l.length
          · skip
            obtain ⟨cj, hcj⟩ : ∃ c, l[j]? = some c := ⟨_, List.getElem?_eq_getElem (by omega)⟩
            refine o_step rfl (step_cast (v' := .bool true) (s_lss rfl rfl) (congrArg Value.bool (decide_eq_true (by omega)))) ?_
            refine o_step rfl (s_move rfl) ?_
            refine o_yes rfl rfl ?_
            refine o_step rfl (s_move rfl) ?_
            refine o_yes rfl rfl ?_
            refine o_step rfl (s_not rfl) ?_
            refine o_step rfl (s_pick_t rfl rfl) ?_
            refine o_nil ?_
            refine x_then (hK24 _ _ ?_)
            refine c_true rfl ?_
            refine c_skip ?_
            refine x_then (hK23 _ _ ?_)
            refine c_seq fun _ hK25 => ?_
            refine c_block ?_
            refine c_quiet (by kernel_rfl) ?_
            refine .op rfl (s_move rfl) ?_
            refine .op rfl (s_move rfl) ?_
            refine .op rfl (s_idx rfl rfl hsl (by omega)) ?_
            refine .op rfl (s_ldB rfl ((RdK.old0 hw.1).lds j hcj (by omega)) rfl) ?_
            refine .op rfl (s_move rfl) ?_
            refine .op rfl (s_move rfl) ?_
            refine .op rfl (s_idx rfl rfl hsl19 (by omega)) ?_
            refine .op rfl (s_ldB rfl ((hS19.rdk (by repeat (first | exact HIn.here | exact HIn.all | exact HIn.one | apply HIn.cons | apply HIn.assoc | apply HIn.app))).lds i hai (by omega)) rfl) ?_
            refine .call (fun _ _ => rfl) rfl rfl rfl (and_fn _ _) (fun _ _ => trivial) ?_
            refine .op rfl (step_cast (v' := .agg (Ec 0#256).toArray) (s_build0 rfl) (by rw [Ec_zero]; rfl)) ?_
            refine .op rfl (step_cast (v' := .bool (mt cj ai)) (s_eql_cl rfl rfl) rfl) ?_
            refine .op rfl (s_move rfl) ?_
            refine .op rfl (s_move rfl) ?_
            refine .op rfl (s_idx rfl rfl hsl (by omega)) ?_
            refine .op rfl (s_ldB rfl ((RdK.old0 hw.1).lds j hcj (by omega)) rfl) ?_
            refine .op rfl (s_move rfl) ?_
            refine .op rfl (s_move rfl) ?_
            refine .op rfl (s_idx rfl rfl hsl19 (by omega)) ?_
            refine .op rfl (s_ldB rfl ((hS19.rdk (by repeat (first | exact HIn.here | exact HIn.all | exact HIn.one | apply HIn.cons | apply HIn.assoc | apply HIn.app))).lds k hak (by omega)) rfl) ?_
            refine .call (fun _ _ => rfl) rfl rfl rfl (and_fn _ _) (fun _ _ => trivial) ?_
            refine .op rfl (step_cast (v' := .agg (Ec 0#256).toArray) (s_build0 rfl) (by rw [Ec_zero]; rfl)) ?_
            refine .op rfl (step_cast (v' := .bool (mt cj ak)) (s_eql_cl rfl rfl) rfl) ?_
            refine .op rfl (s_neq_bool rfl rfl) ?_
            refine .op rfl (s_assign rfl) ?_
            refine .nil ?_
            refine x_block ?_
            refine x_then (hK25 _ _ ?_)
            refine c_region ?_
            refine o_step rfl (s_move rfl) ?_
            refine o_step rfl (s_add rfl rfl (by omega)) ?_
            refine o_step rfl (s_assign rfl) ?_
            refine o_nil ?_
            exact x_then (x_inv (j + 1, _) ⟨by omega, apart_step hcj (hall rfl)⟩ (by first | omega | (dsimp only; omega)) (by repeat (first | exact Sub.nil | refine Sub.cons rfl ?_)) (by repeat (first | exact HSub.refl _ | exact HSub.nil | refine HSub.takeC (by first | ((repeat (first | exact .one | exact .here | exact .all | apply Pick.cons | apply Pick.app)); done) | ((repeat (first | exact .one | exact .here | exact .all | apply Pick.cons | apply Pick.assoc | apply Pick.app)); done) | exact Pick.takeA (by repeat (first | exact .one | exact .here | exact .all | apply Pick.cons | apply Pick.assoc | apply Pick.app)) (by repeat (first | exact .one | exact .here | exact .all | apply Pick.cons | apply Pick.assoc | apply Pick.app))) ?_ | refine HSub.take (by first | ((repeat (first | exact .one | exact .here | exact .all | apply Pick.cons | apply Pick.app)); done) | ((repeat (first | exact .one | exact .here | exact .all | apply Pick.cons | apply Pick.assoc | apply Pick.app)); done) | exact Pick.takeA (by repeat (first | exact .one | exact .here | exact .all | apply Pick.cons | apply Pick.assoc | apply Pick.app)) (by repeat (first | exact .one | exact .here | exact .all | apply Pick.cons | apply Pick.assoc | apply Pick.app))) ?_ | exact HSub.of_pick (by first | ((repeat (first | exact .one | exact .here | exact .all | apply Pick.cons | apply Pick.app)); done) | ((repeat (first | exact .one | exact .here | exact .all | apply Pick.cons | apply Pick.assoc | apply Pick.app)); done) | exact Pick.takeA (by repeat (first | exact .one | exact .here | exact .all | apply Pick.cons | apply Pick.assoc | apply Pick.app)) (by repeat (first | exact .one | exact .here | exact .all | apply Pick.cons | apply Pick.assoc | apply Pick.app))))))
          · skip
            exact (atoms_apart hai hak hki (hall rfl) (by omega)).elim
        · skip
          refine c_seq fun _ hK26 => ?_
          refine c_seq fun _ hK27 => ?_
          refine c_region ?_
          refine o_step rfl (s_move rfl) ?_
          refine o_step rfl (s_move rfl) ?_
          refine o_step rfl (s_len rfl) ?_
          by_cases hlj : j < l.length
          · skip
            refine o_step rfl (step_cast (v' := .bool true) (s_lss rfl rfl) (congrArg Value.bool (decide_eq_true (by omega)))) ?_
            refine o_step rfl (s_move rfl) ?_
            refine o_yes rfl rfl ?_
            refine o_step rfl (s_move rfl) ?_
            refine o_yes rfl rfl ?_
            refine o_step rfl (s_not rfl) ?_
            refine o_step rfl (s_pick_t rfl rfl) ?_
            refine o_nil ?_
            refine x_then (hK27 _ _ ?_)
            refine c_false rfl ?_
            refine c_exit ?_
            refine x_then_exit ?_
            refine x_then_exit ?_
            refine x_block_exit ?_
            refine x_then (hK21 _ _ ?_)
            refine c_seq fun _ hK28 => ?_
            refine c_region ?_
            refine o_step rfl (s_move rfl) ?_
            refine o_step rfl (s_not rfl) ?_
            refine o_nil ?_
            refine x_then (hK28 _ _ ?_)
            refine c_false rfl ?_
            refine c_skip ?_
            refine x_block ?_
            refine x_then (hK19 _ _ ?_)
            refine c_region ?_
            refine o_step rfl (s_move rfl) ?_
            refine o_step rfl (s_add rfl rfl (by omega)) ?_
            refine o_step rfl (s_assign rfl) ?_
            refine o_nil ?_
            exact x_then (x_inv (k + 1) (by omega) (by first | omega | (dsimp only; omega)) (by repeat (first | exact Sub.nil | refine Sub.cons rfl ?_)) (by repeat (first | exact HSub.refl _ | exact HSub.nil | refine HSub.takeC (by first | ((repeat (first | exact .one | exact .here | exact .all | apply Pick.cons | apply Pick.app)); done) | ((repeat (first | exact .one | exact .here | exact .all | apply Pick.cons | apply Pick.assoc | apply Pick.app)); done) | exact Pick.takeA (by repeat (first | exact .one | exact .here | exact .all | apply Pick.cons | apply Pick.assoc | apply Pick.app)) (by repeat (first | exact .one | exact .here | exact .all | apply Pick.cons | apply Pick.assoc | apply Pick.app))) ?_ | refine HSub.take (by first | ((repeat (first | exact .one | exact .here | exact .all | apply Pick.cons | apply Pick.app)); done) | ((repeat (first | exact .one | exact .here | exact .all | apply Pick.cons | apply Pick.assoc | apply Pick.app)); done) | exact Pick.takeA (by repeat (first | exact .one | exact .here | exact .all | apply Pick.cons | apply Pick.assoc | apply Pick.app)) (by repeat (first | exact .one | exact .here | exact .all | apply Pick.cons | apply Pick.assoc | apply Pick.app))) ?_ | exact HSub.of_pick (by first | ((repeat (first | exact .one | exact .here | exact .all | apply Pick.cons | apply Pick.app)); done) | ((repeat (first | exact .one | exact .here | exact .all | apply Pick.cons | apply Pick.assoc | apply Pick.app)); done) | exact Pick.takeA (by repeat (first | exact .one | exact .here | exact .all | apply Pick.cons | apply Pick.assoc | apply Pick.app)) (by repeat (first | exact .one | exact .here | exact .all | apply Pick.cons | apply Pick.assoc | apply Pick.app))))))
          · skip
            refine o_step rfl (step_cast (v' := .bool false) (s_lss rfl rfl) (congrArg Value.bool (decide_eq_false (by omega)))) ?_
            refine o_step rfl (s_move rfl) ?_
            refine o_no rfl rfl rfl rfl ?_
            refine o_no rfl rfl rfl rfl ?_
            refine o_step rfl (s_pick_f rfl rfl) ?_
            refine o_nil ?_
            refine x_then (hK27 _ _ ?_)
            refine c_false rfl ?_
            refine c_exit ?_
            refine x_then_exit ?_
            refine x_then_exit ?_
            refine x_block_exit ?_
            refine x_then (hK21 _ _ ?_)
            refine c_seq fun _ hK29 => ?_
            refine c_region ?_
            refine o_step rfl (s_move rfl) ?_
            refine o_step rfl (s_not rfl) ?_
            refine o_nil ?_
            refine x_then (hK29 _ _ ?_)
            refine c_false rfl ?_
            refine c_skip ?_
            refine x_block ?_
            refine x_then (hK19 _ _ ?_)
            refine c_region ?_
            refine o_step rfl (s_move rfl) ?_
            refine o_step rfl (s_add rfl rfl (by omega)) ?_
            refine o_step rfl (s_assign rfl) ?_
            refine o_nil ?_
            exact x_then (x_inv (k + 1) (by omega) (by first | omega | (dsimp only; omega)) (by repeat (first | exact Sub.nil | refine Sub.cons rfl ?_)) (by repeat (first | exact HSub.refl _ | exact HSub.nil | refine HSub.takeC (by first | ((repeat (first | exact .one | exact .here | exact .all | apply Pick.cons | apply Pick.app)); done) | ((repeat (first | exact .one | exact .here | exact .all | apply Pick.cons | apply Pick.assoc | apply Pick.app)); done) | exact Pick.takeA (by repeat (first | exact .one | exact .here | exact .all | apply Pick.cons | apply Pick.assoc | apply Pick.app)) (by repeat (first | exact .one | exact .here | exact .all | apply Pick.cons | apply Pick.assoc | apply Pick.app))) ?_ | refine HSub.take (by first | ((repeat (first | exact .one | exact .here | exact .all | apply Pick.cons | apply Pick.app)); done) | ((repeat (first | exact .one | exact .here | exact .all | apply Pick.cons | apply Pick.assoc | apply Pick.app)); done) | exact Pick.takeA (by repeat (first | exact .one | exact .here | exact .all | apply Pick.cons | apply Pick.assoc | apply Pick.app)) (by repeat (first | exact .one | exact .here | exact .all | apply Pick.cons | apply Pick.assoc | apply Pick.app))) ?_ | exact HSub.of_pick (by first | ((repeat (first | exact .one | exact .here | exact .all | apply Pick.cons | apply Pick.app)); done) | ((repeat (first | exact .one | exact .here | exact .all | apply Pick.cons | apply Pick.assoc | apply Pick.app)); done) | exact Pick.takeA (by repeat (first | exact .one | exact .here | exact .all | apply Pick.cons | apply Pick.assoc | apply Pick.app)) (by repeat (first | exact .one | exact .here | exact .all | apply Pick.cons | apply Pick.assoc | apply Pick.app))))))
      · skip
        refine c_exit ?_
        refine x_then_exit ?_
        refine x_then_exit ?_
        refine x_block_exit ?_
        refine x_block ?_
        refine x_then (hK12 _ _ ?_)
        refine c_region ?_
        refine o_step rfl (s_move rfl) ?_
        refine o_step rfl (s_add rfl rfl (by omega)) ?_
        refine o_step rfl (s_assign rfl) ?_
        refine o_nil ?_
        exact x_then (x_inv (i + 1) (by omega) (by first | omega | (dsimp only; omega)) (by repeat (first | exact Sub.nil | refine Sub.cons rfl ?_)) (by repeat (first | exact HSub.refl _ | exact HSub.nil | refine HSub.takeC (by first | ((repeat (first | exact .one | exact .here | exact .all | apply Pick.cons | apply Pick.app)); done) | ((repeat (first | exact .one | exact .here | exact .all | apply Pick.cons | apply Pick.assoc | apply Pick.app)); done) | exact Pick.takeA (by repeat (first | exact .one | exact .here | exact .all | apply Pick.cons | apply Pick.assoc | apply Pick.app)) (by repeat (first | exact .one | exact .here | exact .all | apply Pick.cons | apply Pick.assoc | apply Pick.app))) ?_ | refine HSub.take (by first | ((repeat (first | exact .one | exact .here | exact .all | apply Pick.cons | apply Pick.app)); done) | ((repeat (first | exact .one | exact .here | exact .all | apply Pick.cons | apply Pick.assoc | apply Pick.app)); done) | exact Pick.takeA (by repeat (first | exact .one | exact .here | exact .all | apply Pick.cons | apply Pick.assoc | apply Pick.app)) (by repeat (first | exact .one | exact .here | exact .all | apply Pick.cons | apply Pick.assoc | apply Pick.app))) ?_ | exact HSub.of_pick (by first | ((repeat (first | exact .one | exact .here | exact .all | apply Pick.cons | apply Pick.app)); done) | ((repeat (first | exact .one | exact .here | exact .all | apply Pick.cons | apply Pick.assoc | apply Pick.app)); done) | exact Pick.takeA (by repeat (first | exact .one | exact .here | exact .all | apply Pick.cons | apply Pick.assoc | apply Pick.app)) (by repeat (first | exact .one | exact .here | exact .all | apply Pick.cons | apply Pick.assoc | apply Pick.app))))))
    · skip
      obtain rfl : i = (atoms l).length := by omega
      rw [List.take_length, orA_atoms]
      refine c_exit ?_
      refine x_then_exit ?_
      refine x_then_exit ?_
      refine x_block_exit ?_
      refine x_then (hK8 _ _ ?_)
      refine c_seq fun _ hK30 => ?_
      refine c_seq fun _ hK31 => ?_
      refine c_region ?_
      refine o_step rfl (s_assign rfl) ?_
      refine o_nil ?_
      refine x_then (hK31 _ _ ?_)
      refine c_block ?_
      refine c_loopB (fun (j : Nat) => j ≤ l.length) (fun (j : Nat) => [(10, .int .i64 j)]) [(0, _), (3, _), (4, _), (5, _)] (fun (j : Nat) => ((b5, .cells (Ec (rng 0 255)).toArray 24 (0, 0)) :: S19)) (fun (j : Nat) => l.length - j) 0 (by omega) (by repeat (first | exact Sub.nil | refine Sub.cons rfl ?_)) (by repeat (first | exact Sub.nil | refine Sub.cons rfl ?_)) (by repeat (first | exact HSub.refl _ | exact HSub.nil | refine HSub.takeC (by first | ((repeat (first | exact .one | exact .here | exact .all | apply Pick.cons | apply Pick.app)); done) | ((repeat (first | exact .one | exact .here | exact .all | apply Pick.cons | apply Pick.assoc | apply Pick.app)); done) | exact Pick.takeA (by repeat (first | exact .one | exact .here | exact .all | apply Pick.cons | apply Pick.assoc | apply Pick.app)) (by repeat (first | exact .one | exact .here | exact .all | apply Pick.cons | apply Pick.assoc | apply Pick.app))) ?_ | refine HSub.take (by first | ((repeat (first | exact .one | exact .here | exact .all | apply Pick.cons | apply Pick.app)); done) | ((repeat (first | exact .one | exact .here | exact .all | apply Pick.cons | apply Pick.assoc | apply Pick.app)); done) | exact Pick.takeA (by repeat (first | exact .one | exact .here | exact .all | apply Pick.cons | apply Pick.assoc | apply Pick.app)) (by repeat (first | exact .one | exact .here | exact .all | apply Pick.cons | apply Pick.assoc | apply Pick.app))) ?_ | exact HSub.of_pick (by first | ((repeat (first | exact .one | exact .here | exact .all | apply Pick.cons | apply Pick.app)); done) | ((repeat (first | exact .one | exact .here | exact .all | apply Pick.cons | apply Pick.assoc | apply Pick.app)); done) | exact Pick.takeA (by repeat (first | exact .one | exact .here | exact .all | apply Pick.cons | apply Pick.assoc | apply Pick.app)) (by repeat (first | exact .one | exact .here | exact .all | apply Pick.cons | apply Pick.assoc | apply Pick.app))))) ?_
      rintro j hj
      refine c_seq fun _ hK32 => ?_
      refine c_seq fun _ hK33 => ?_
      refine c_region ?_
      refine o_step rfl (s_move rfl) ?_
      refine o_step rfl (s_move rfl) ?_
      refine o_step rfl (s_len rfl) ?_
      refine o_step rfl (s_lss rfl rfl) ?_
      refine o_nil ?_
      refine x_then (hK33 _ _ ?_)
      refine c_if rfl (fun hlj0 => ?_) (fun hlj0 => ?_)
      · skip
        obtain ⟨cj, hcj⟩ : ∃ c, l[j]? = some c := ⟨_, List.getElem?_eq_getElem (by omega)⟩
        have hcm := List.mem_of_getElem? hcj
        refine c_skip ?_
        refine x_then (hK32 _ _ ?_)
        refine c_seq fun _ hK34 => ?_
        refine c_block ?_
        refine c_seq fun _ hK35 => ?_
        refine c_region ?_
        refine o_step rfl (step_cast (v' := .agg (Ec 0#256).toArray) (s_build0 rfl) (by rw [Ec_zero]; rfl)) ?_
        refine o_alloc (l := Ec 0#256) (by rw [Ec_zero]; rfl) rfl fun b11 => ?_
        refine o_stW rfl rfl (by repeat (first | exact .here | apply Upd.there | apply Upd.assoc | apply Upd.skip)) (by first | (rw [flat_len, Nat.mul_one]; first | assumption | exact List.length_replicate) | exact List.length_replicate | rfl) (by first | (rw [flat_len, Nat.mul_one]; first | assumption | exact List.length_replicate) | exact List.length_replicate | rfl) (by first | exact Ec_one _ | exact flat_one _ _ | exact one_rep rfl | (simp [Value.oneCell']; done)) ?_
        refine o_nil ?_
        refine x_then (hK35 _ _ ?_)
        refine c_seq fun _ hK36 => ?_
        refine c_seq fun _ hK37 => ?_
        refine c_region ?_
        refine o_step rfl (s_assign rfl) ?_
        refine o_nil ?_
        refine x_then (hK37 _ _ ?_)
        refine c_block ?_
        refine c_loopB (fun (i : Nat) => i ≤ (atoms l).length) (fun (i : Nat) => [(12, .int .i64 i)]) [(0, _), (3, _), (4, _), (5, _), (10, _), (11, _), (89, _), (90, _), (91, _), (92, _), (95, _)] (fun (i : Nat) => ((b11, .cells (Ec (orM cj ((atoms l).take i))).toArray 24 (0, 0)) :: (b5, .cells (Ec (rng 0 255)).toArray 24 (0, 0)) :: S19)) (fun (i : Nat) => (atoms l).length - i) 0 (by omega) (by repeat (first | exact Sub.nil | refine Sub.cons rfl ?_)) (by repeat (first | exact Sub.nil | refine Sub.cons rfl ?_)) (by repeat (first | exact HSub.refl _ | exact HSub.nil | refine HSub.takeC (by first | ((repeat (first | exact .one | exact .here | exact .all | apply Pick.cons | apply Pick.app)); done) | ((repeat (first | exact .one | exact .here | exact .all | apply Pick.cons | apply Pick.assoc | apply Pick.app)); done) | exact Pick.takeA (by repeat (first | exact .one | exact .here | exact .all | apply Pick.cons | apply Pick.assoc | apply Pick.app)) (by repeat (first | exact .one | exact .here | exact .all | apply Pick.cons | apply Pick.assoc | apply Pick.app))) ?_ | refine HSub.take (by first | ((repeat (first | exact .one | exact .here | exact .all | apply Pick.cons | apply Pick.app)); done) | ((repeat (first | exact .one | exact .here | exact .all | apply Pick.cons | apply Pick.assoc | apply Pick.app)); done) | exact Pick.takeA (by repeat (first | exact .one | exact .here | exact .all | apply Pick.cons | apply Pick.assoc | apply Pick.app)) (by repeat (first | exact .one | exact .here | exact .all | apply Pick.cons | apply Pick.assoc | apply Pick.app))) ?_ | exact HSub.of_pick (by first | ((repeat (first | exact .one | exact .here | exact .all | apply Pick.cons | apply Pick.app)); done) | ((repeat (first | exact .one | exact .here | exact .all | apply Pick.cons | apply Pick.assoc | apply Pick.app)); done) | exact Pick.takeA (by repeat (first | exact .one | exact .here | exact .all | apply Pick.cons | apply Pick.assoc | apply Pick.app)) (by repeat (first | exact .one | exact .here | exact .all | apply Pick.cons | apply Pick.assoc | apply Pick.app))))) ?_
        rintro i hi
        refine c_seq fun _ hK38 => ?_
        refine c_seq fun _ hK39 => ?_
        refine c_region ?_
        refine o_step rfl (s_move rfl) ?_
        refine o_step rfl (s_move rfl) ?_
        refine o_step rfl (s_len rfl) ?_
        refine o_step rfl (s_lss rfl rfl) ?_
        refine o_nil ?_
        refine x_then (hK39 _ _ ?_)
        refine c_if rfl (fun hlt1 => ?_) (fun hlt1 => ?_)
        · skip
          obtain ⟨ai, hai⟩ : ∃ c, (atoms l)[i]? = some c := ⟨_, List.getElem?_eq_getElem (by omega)⟩
          refine c_skip ?_
          refine x_then (hK38 _ _ ?_)
          refine c_seq fun _ hK40 => ?_
          refine c_block ?_
          refine c_seq fun _ hK41 => ?_
          refine c_quiet (by kernel_rfl) ?_
          refine .op rfl (s_move rfl) ?_
          refine .op rfl (s_move rfl) ?_
          refine .op rfl (s_idx rfl rfl hsl (by omega)) ?_
          refine .op rfl (s_ldB rfl ((RdK.old0 hw.1).lds j hcj (by omega)) rfl) ?_
          refine .op rfl (s_move rfl) ?_
          refine .op rfl (s_move rfl) ?_
          refine .op rfl (s_idx rfl rfl hsl19 (by omega)) ?_
          refine .op rfl (s_ldB rfl ((hS19.rdk (by repeat (first | exact HIn.here | exact HIn.all | exact HIn.one | apply HIn.cons | apply HIn.assoc | apply HIn.app))).lds i hai (by omega)) rfl) ?_
          refine .call (fun _ _ => rfl) rfl rfl rfl (and_fn _ _) (fun _ _ => trivial) ?_
          refine .op rfl (step_cast (v' := .agg (Ec 0#256).toArray) (s_build0 rfl) (by rw [Ec_zero]; rfl)) ?_
          refine .op rfl (s_neq_cl rfl rfl) ?_
          refine .nil ?_
          refine x_then (hK41 _ _ ?_)
          refine c_if rfl (fun hne => ?_) (fun hne => ?_)
          · skip
            refine c_drawE (((b11, .cells (Ec (orM cj ((atoms l).take i))).toArray 24 (0, 0)) :: (b5, .cells (Ec (rng 0 255)).toArray 24 (0, 0)) :: S19)) (fun i => Nat.beq i 6) ?_
            refine e_take 0 rfl (by kernel_rfl) (by kernel_rfl) (by kernel_rfl) (by kernel_rfl) (fun _ _ => rfl) rfl (by repeat (first | exact HSub.refl _ | exact HSub.nil | refine HSub.takeC (by first | ((repeat (first | exact .one | exact .here | exact .all | apply Pick.cons | apply Pick.app)); done) | ((repeat (first | exact .one | exact .here | exact .all | apply Pick.cons | apply Pick.assoc | apply Pick.app)); done) | exact Pick.takeA (by repeat (first | exact .one | exact .here | exact .all | apply Pick.cons | apply Pick.assoc | apply Pick.app)) (by repeat (first | exact .one | exact .here | exact .all | apply Pick.cons | apply Pick.assoc | apply Pick.app))) ?_ | refine HSub.take (by first | ((repeat (first | exact .one | exact .here | exact .all | apply Pick.cons | apply Pick.app)); done) | ((repeat (first | exact .one | exact .here | exact .all | apply Pick.cons | apply Pick.assoc | apply Pick.app)); done) | exact Pick.takeA (by repeat (first | exact .one | exact .here | exact .all | apply Pick.cons | apply Pick.assoc | apply Pick.app)) (by repeat (first | exact .one | exact .here | exact .all | apply Pick.cons | apply Pick.assoc | apply Pick.app))) ?_ | exact HSub.of_pick (by first | ((repeat (first | exact .one | exact .here | exact .all | apply Pick.cons | apply Pick.app)); done) | ((repeat (first | exact .one | exact .here | exact .all | apply Pick.cons | apply Pick.assoc | apply Pick.app)); done) | exact Pick.takeA (by repeat (first | exact .one | exact .here | exact .all | apply Pick.cons | apply Pick.assoc | apply Pick.app)) (by repeat (first | exact .one | exact .here | exact .all | apply Pick.cons | apply Pick.assoc | apply Pick.app))))) (s_ldB rfl (RdPK.cels (.own (by repeat (first | exact List.mem_cons_self | apply List.mem_cons_of_mem | apply mem_assoc | apply mem_app)))) (by first | (rw [flat_len, Nat.mul_one]; first | assumption | exact List.length_replicate) | exact List.length_replicate | rfl)) ?_
            refine e_pure 1 rfl (by kernel_rfl) (by kernel_rfl) (by kernel_rfl) rfl (s_move rfl) ?_
            refine e_pure 2 rfl (by kernel_rfl) (by kernel_rfl) (by kernel_rfl) rfl (s_move rfl) ?_
            refine e_pure 3 rfl (by kernel_rfl) (by kernel_rfl) (by kernel_rfl) rfl (s_idx rfl rfl hsl19 (by omega)) ?_
            refine e_take 4 rfl (by kernel_rfl) (by kernel_rfl) (by kernel_rfl) (by kernel_rfl) (fun _ _ => rfl) rfl (by repeat (first | exact HSub.refl _ | exact HSub.nil | refine HSub.takeC (by first | ((repeat (first | exact .one | exact .here | exact .all | apply Pick.cons | apply Pick.app)); done) | ((repeat (first | exact .one | exact .here | exact .all | apply Pick.cons | apply Pick.assoc | apply Pick.app)); done) | exact Pick.takeA (by repeat (first | exact .one | exact .here | exact .all | apply Pick.cons | apply Pick.assoc | apply Pick.app)) (by repeat (first | exact .one | exact .here | exact .all | apply Pick.cons | apply Pick.assoc | apply Pick.app))) ?_ | refine HSub.take (by first | ((repeat (first | exact .one | exact .here | exact .all | apply Pick.cons | apply Pick.app)); done) | ((repeat (first | exact .one | exact .here | exact .all | apply Pick.cons | apply Pick.assoc | apply Pick.app)); done) | exact Pick.takeA (by repeat (first | exact .one | exact .here | exact .all | apply Pick.cons | apply Pick.assoc | apply Pick.app)) (by repeat (first | exact .one | exact .here | exact .all | apply Pick.cons | apply Pick.assoc | apply Pick.app))) ?_ | exact HSub.of_pick (by first | ((repeat (first | exact .one | exact .here | exact .all | apply Pick.cons | apply Pick.app)); done) | ((repeat (first | exact .one | exact .here | exact .all | apply Pick.cons | apply Pick.assoc | apply Pick.app)); done) | exact Pick.takeA (by repeat (first | exact .one | exact .here | exact .all | apply Pick.cons | apply Pick.assoc | apply Pick.app)) (by repeat (first | exact .one | exact .here | exact .all | apply Pick.cons | apply Pick.assoc | apply Pick.app))))) (s_ldB rfl ((hS19.rdk (by repeat (first | exact HIn.here | exact HIn.all | exact HIn.one | apply HIn.cons | apply HIn.assoc | apply HIn.app))).lds i hai (by omega)) rfl) ?_
            refine e_one 5 rfl (by kernel_rfl) ?_
            refine o_callP (or_fn _ _) rfl rfl rfl (fun _ _ => trivial) (fun v118 hv118 => ?_)
            subst hv118
            refine o_nil ?_
            refine x_oneS (by repeat (first | exact HSub.refl _ | exact HSub.nil | refine HSub.takeC (by first | ((repeat (first | exact .one | exact .here | exact .all | apply Pick.cons | apply Pick.app)); done) | ((repeat (first | exact .one | exact .here | exact .all | apply Pick.cons | apply Pick.assoc | apply Pick.app)); done) | exact Pick.takeA (by repeat (first | exact .one | exact .here | exact .all | apply Pick.cons | apply Pick.assoc | apply Pick.app)) (by repeat (first | exact .one | exact .here | exact .all | apply Pick.cons | apply Pick.assoc | apply Pick.app))) ?_ | refine HSub.take (by first | ((repeat (first | exact .one | exact .here | exact .all | apply Pick.cons | apply Pick.app)); done) | ((repeat (first | exact .one | exact .here | exact .all | apply Pick.cons | apply Pick.assoc | apply Pick.app)); done) | exact Pick.takeA (by repeat (first | exact .one | exact .here | exact .all | apply Pick.cons | apply Pick.assoc | apply Pick.app)) (by repeat (first | exact .one | exact .here | exact .all | apply Pick.cons | apply Pick.assoc | apply Pick.app))) ?_ | exact HSub.of_pick (by first | ((repeat (first | exact .one | exact .here | exact .all | apply Pick.cons | apply Pick.app)); done) | ((repeat (first | exact .one | exact .here | exact .all | apply Pick.cons | apply Pick.assoc | apply Pick.app)); done) | exact Pick.takeA (by repeat (first | exact .one | exact .here | exact .all | apply Pick.cons | apply Pick.assoc | apply Pick.app)) (by repeat (first | exact .one | exact .here | exact .all | apply Pick.cons | apply Pick.assoc | apply Pick.app))))) ?_
            refine e_one 6 rfl (by kernel_rfl) ?_
            refine o_stW rfl rfl (by repeat (first | exact .here | apply Upd.there | apply Upd.assoc | apply Upd.skip)) (by first | (rw [flat_len, Nat.mul_one]; first | assumption | exact List.length_replicate) | exact List.length_replicate | rfl) (by first | (rw [flat_len, Nat.mul_one]; first | assumption | exact List.length_replicate) | exact List.length_replicate | rfl) (by first | exact Ec_one _ | exact flat_one _ _ | exact one_rep rfl | (simp [Value.oneCell']; done)) ?_
            refine o_nil ?_
            refine x_oneL rfl ?_
            refine e_done (by kernel_rfl) ?_
            refine x_block ?_
            refine x_then (hK40 _ _ ?_)
            refine c_region ?_
            refine o_step rfl (s_move rfl) ?_
            refine o_step rfl (s_add rfl rfl (by omega)) ?_
            refine o_step rfl (s_assign rfl) ?_
            refine o_nil ?_
            rw [← orM_yes hai hne]
            exact x_then (x_inv (i + 1) (by omega) (by first | omega | (dsimp only; omega)) (by repeat (first | exact Sub.nil | refine Sub.cons rfl ?_)) (by repeat (first | exact HSub.refl _ | exact HSub.nil | refine HSub.takeC (by first | ((repeat (first | exact .one | exact .here | exact .all | apply Pick.cons | apply Pick.app)); done) | ((repeat (first | exact .one | exact .here | exact .all | apply Pick.cons | apply Pick.assoc | apply Pick.app)); done) | exact Pick.takeA (by repeat (first | exact .one | exact .here | exact .all | apply Pick.cons | apply Pick.assoc | apply Pick.app)) (by repeat (first | exact .one | exact .here | exact .all | apply Pick.cons | apply Pick.assoc | apply Pick.app))) ?_ | refine HSub.take (by first | ((repeat (first | exact .one | exact .here | exact .all | apply Pick.cons | apply Pick.app)); done) | ((repeat (first | exact .one | exact .here | exact .all | apply Pick.cons | apply Pick.assoc | apply Pick.app)); done) | exact Pick.takeA (by repeat (first | exact .one | exact .here | exact .all | apply Pick.cons | apply Pick.assoc | apply Pick.app)) (by repeat (first | exact .one | exact .here | exact .all | apply Pick.cons | apply Pick.assoc | apply Pick.app))) ?_ | exact HSub.of_pick (by first | ((repeat (first | exact .one | exact .here | exact .all | apply Pick.cons | apply Pick.app)); done) | ((repeat (first | exact .one | exact .here | exact .all | apply Pick.cons | apply Pick.assoc | apply Pick.app)); done) | exact Pick.takeA (by repeat (first | exact .one | exact .here | exact .all | apply Pick.cons | apply Pick.assoc | apply Pick.app)) (by repeat (first | exact .one | exact .here | exact .all | apply Pick.cons | apply Pick.assoc | apply Pick.app))))))
          · skip
            refine c_skip ?_
            refine x_block ?_
            refine x_then (hK40 _ _ ?_)
            refine c_region ?_
            refine o_step rfl (s_move rfl) ?_
            refine o_step rfl (s_add rfl rfl (by omega)) ?_
            refine o_step rfl (s_assign rfl) ?_
            refine o_nil ?_
            rw [← orM_no hai hne]
            exact x_then (x_inv (i + 1) (by omega) (by first | omega | (dsimp only; omega)) (by repeat (first | exact Sub.nil | refine Sub.cons rfl ?_)) (by repeat (first | exact HSub.refl _ | exact HSub.nil | refine HSub.takeC (by first | ((repeat (first | exact .one | exact .here | exact .all | apply Pick.cons | apply Pick.app)); done) | ((repeat (first | exact .one | exact .here | exact .all | apply Pick.cons | apply Pick.assoc | apply Pick.app)); done) | exact Pick.takeA (by repeat (first | exact .one | exact .here | exact .all | apply Pick.cons | apply Pick.assoc | apply Pick.app)) (by repeat (first | exact .one | exact .here | exact .all | apply Pick.cons | apply Pick.assoc | apply Pick.app))) ?_ | refine HSub.take (by first | ((repeat (first | exact .one | exact .here | exact .all | apply Pick.cons | apply Pick.app)); done) | ((repeat (first | exact .one | exact .here | exact .all | apply Pick.cons | apply Pick.assoc | apply Pick.app)); done) | exact Pick.takeA (by repeat (first | exact .one | exact .here | exact .all | apply Pick.cons | apply Pick.assoc | apply Pick.app)) (by repeat (first | exact .one | exact .here | exact .all | apply Pick.cons | apply Pick.assoc | apply Pick.app))) ?_ | exact HSub.of_pick (by first | ((repeat (first | exact .one | exact .here | exact .all | apply Pick.cons | apply Pick.app)); done) | ((repeat (first | exact .one | exact .here | exact .all | apply Pick.cons | apply Pick.assoc | apply Pick.app)); done) | exact Pick.takeA (by repeat (first | exact .one | exact .here | exact .all | apply Pick.cons | apply Pick.assoc | apply Pick.app)) (by repeat (first | exact .one | exact .here | exact .all | apply Pick.cons | apply Pick.assoc | apply Pick.app))))))
        · skip
          obtain rfl : i = (atoms l).length := by omega
          rw [List.take_length, orM_atoms hcm]
          refine c_exit ?_
          refine x_then_exit ?_
          refine x_then_exit ?_
          refine x_block_exit ?_
          refine x_then (hK36 _ _ ?_)
          refine c_seq fun _ hK42 => ?_
          refine c_quiet (by kernel_rfl) ?_
          refine .op rfl (s_ldB rfl (RdPK.cels (.own (by repeat (first | exact List.mem_cons_self | apply List.mem_cons_of_mem | apply mem_assoc | apply mem_app)))) (by first | (rw [flat_len, Nat.mul_one]; first | assumption | exact List.length_replicate) | exact List.length_replicate | rfl)) ?_
          refine .op rfl (s_move rfl) ?_
          refine .op rfl (s_move rfl) ?_
          refine .op rfl (s_idx rfl rfl hsl (by omega)) ?_
          refine .op rfl (s_ldB rfl ((RdK.old0 hw.1).lds j hcj (by omega)) rfl) ?_
          refine .op rfl (step_cast (v' := .bool false) (s_neq_cl rfl rfl) (congrArg Value.bool (decide_eq_false (fun h => h rfl)))) ?_
          refine .nil ?_
          refine x_then (hK42 _ _ ?_)
          refine c_false rfl ?_
          refine c_skip ?_
          refine x_block ?_
          refine x_then (hK34 _ _ ?_)
          refine c_region ?_
          refine o_step rfl (s_move rfl) ?_
          refine o_step rfl (s_add rfl rfl (by omega)) ?_
          refine o_step rfl (s_assign rfl) ?_
          refine o_nil ?_
          exact x_then (x_inv (j + 1) (by omega) (by first | omega | (dsimp only; omega)) (by repeat (first | exact Sub.nil | refine Sub.cons rfl ?_)) (by repeat (first | exact HSub.refl _ | exact HSub.nil | refine HSub.takeC (by first | ((repeat (first | exact .one | exact .here | exact .all | apply Pick.cons | apply Pick.app)); done) | ((repeat (first | exact .one | exact .here | exact .all | apply Pick.cons | apply Pick.assoc | apply Pick.app)); done) | exact Pick.takeA (by repeat (first | exact .one | exact .here | exact .all | apply Pick.cons | apply Pick.assoc | apply Pick.app)) (by repeat (first | exact .one | exact .here | exact .all | apply Pick.cons | apply Pick.assoc | apply Pick.app))) ?_ | refine HSub.take (by first | ((repeat (first | exact .one | exact .here | exact .all | apply Pick.cons | apply Pick.app)); done) | ((repeat (first | exact .one | exact .here | exact .all | apply Pick.cons | apply Pick.assoc | apply Pick.app)); done) | exact Pick.takeA (by repeat (first | exact .one | exact .here | exact .all | apply Pick.cons | apply Pick.assoc | apply Pick.app)) (by repeat (first | exact .one | exact .here | exact .all | apply Pick.cons | apply Pick.assoc | apply Pick.app))) ?_ | exact HSub.of_pick (by first | ((repeat (first | exact .one | exact .here | exact .all | apply Pick.cons | apply Pick.app)); done) | ((repeat (first | exact .one | exact .here | exact .all | apply Pick.cons | apply Pick.assoc | apply Pick.app)); done) | exact Pick.takeA (by repeat (first | exact .one | exact .here | exact .all | apply Pick.cons | apply Pick.assoc | apply Pick.app)) (by repeat (first | exact .one | exact .here | exact .all | apply Pick.cons | apply Pick.assoc | apply Pick.app))))))
      · skip
        refine c_exit ?_
        refine x_then_exit ?_
        refine x_then_exit ?_
        refine x_block_exit ?_
        refine x_then (hK30 _ _ ?_)
        refine c_seq fun _ hK43 => ?_
        refine c_quiet (by kernel_rfl) ?_
        refine .op rfl (s_move rfl) ?_
        refine .op rfl (s_move rfl) ?_
        refine .yes rfl rfl rfl (s_ldB rfl (RdPK.cels (.own (by repeat (first | exact List.mem_cons_self | apply List.mem_cons_of_mem | apply mem_assoc | apply mem_app)))) (by first | (rw [flat_len, Nat.mul_one]; first | assumption | exact List.length_replicate) | exact List.length_replicate | rfl)) ?_
        refine .call (fun _ fr => by rw [wanted_of fr rfl rfl rfl]; rfl) rfl rfl rfl (range_fn 0 255 (by decide) (by decide)) (fun _ _ => trivial) ?_
        refine .yes rfl rfl rfl (step_cast (v' := .bool true) (s_eql_cl rfl rfl) (congrArg Value.bool (decide_eq_true rfl))) ?_
        refine .op rfl (s_pick_t rfl rfl) ?_
        refine .op rfl (s_assign rfl) ?_
        refine .nil ?_
        refine x_then (hK43 _ _ ?_)
        refine c_ret ?_
        refine ?_
        exact x_ret rfl (.tmp rfl (.nil)) (rfl)
end Go.Proofs.YtnjjkkncoijmmaaDoor
