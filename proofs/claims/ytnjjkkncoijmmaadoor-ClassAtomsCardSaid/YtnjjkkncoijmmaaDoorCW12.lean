/- Part of the proofs over this seat: see the text that holds the theorem. Conditions: each theorem bears its own. -/
import Derived.Test.YtnjjkkncoijmmaaDoorCW8
import Derived.Test.YtnjjkkncoijmmaaDoorMC15
namespace Go.Proofs.YtnjjkkncoijmmaaDoor
open Go Go.HL Go.Proofs Go.HL.Kl
theorem sameC_t (a a2 : Option Addr) (n n2 : Nat) (xs ys : List Cl) (h : xs = ys) : HL.Fn Tryd.prog 20 [.slice a xs.length n, .slice a2 ys.length n2] (fun w => Rd Ec w (.slice a xs.length n) xs ∧ Rd Ec w (.slice a2 ys.length n2) ys) [] (fun v _ => v = .bool true) :=
  (sameClasses_fn a a2 n n2 xs ys).weaken (fun _ h => h) fun _ _ hv => hv.trans (congrArg Value.bool (decide_eq_true h))

theorem classAtoms_fn (a : Option Addr) (n : Nat) (l : List Cl) : HL.Fn Tryd.prog 5 [.slice a l.length n] (fun w => Rd Ec w (.slice a l.length n) l ∧ Tb [] w) [] (fun v _ => v = .bool true) := by
  refine fn_of Tryd.func5 rfl rfl rfl fun w0 hw => ?_
  have hsl := hw.1.sl
  have hbl := hsl.le
  have hal := atoms_len l
  have hra : (atoms l).length = (rAtoms l).length := by rw [atoms_eq]
  refine c_seq fun _ hK1 => ?_
  refine c_region ?_
  refine o_step rfl (s_assign rfl) ?_
  refine o_nil ?_
  refine x_then (hK1 _ _ ?_)
  refine c_seq fun _ hK2 => ?_
  refine c_region ?_
  refine o_callP (works_fn) rfl rfl rfl (fun w st => tb_of hw.2 st HSub.nil) (fun v15 hv15 => ?_)
  subst hv15
  refine o_step rfl (s_assign rfl) ?_
  refine o_nil ?_
  refine x_then (hK2 _ _ ?_)
  refine c_seq fun _ hK3 => ?_
  refine c_seq fun _ hK4 => ?_
  refine c_region ?_
  refine o_step rfl (s_move rfl) ?_
  refine o_step rfl (s_len rfl) ?_
  refine o_step rfl (s_gtr rfl rfl) ?_
  refine o_nil ?_
  refine x_then (hK4 _ _ ?_)
  refine c_if rfl (fun hbig => ?_) (fun hbig => ?_)
  · skip
    refine c_seq fun _ hK5 => ?_
    refine c_region ?_
    refine o_step rfl (s_move rfl) ?_
    refine o_step rfl (s_assign rfl) ?_
    refine o_nil ?_
    refine x_then (hK5 _ _ ?_)
    refine c_ret ?_
    refine x_then_ret (?_)
    exact x_ret rfl (.tmp rfl (.nil)) (rfl)
  · skip
    refine c_skip ?_
    refine x_then (hK3 _ _ ?_)
    refine c_seq fun _ hK6 => ?_
    refine c_region ?_
    refine o_step rfl (step_cast (v' := .agg (Ec mkC).toArray) (s_buildA (cs := [_, _, _, _]) (vs := [_, _, _, _]) rfl rfl (.cons rfl rfl rfl rfl (.cons rfl rfl rfl rfl (.cons rfl rfl rfl rfl (.cons rfl rfl rfl rfl .nil))))) (by rw [mkC, mk4_wd]; rfl)) ?_
    refine o_alloc (l := Ec 0#256) (by rw [Ec_zero]; rfl) rfl fun b4 => ?_
    refine o_stW rfl rfl (by repeat (first | exact .here | apply Upd.there | apply Upd.assoc | apply Upd.skip)) (by first | (rw [flat_len, Nat.mul_one]; first | assumption | exact List.length_replicate) | exact List.length_replicate | rfl) (by first | (rw [flat_len, Nat.mul_one]; first | assumption | exact List.length_replicate) | exact List.length_replicate | rfl) (by first | exact Ec_one _ | exact flat_one _ _ | exact one_rep rfl | (simp [Value.oneCell']; done)) ?_
    refine o_nil ?_
    refine x_then (hK6 _ _ ?_)
    refine c_seq fun _ hK7 => ?_
    refine c_region ?_
    refine o_step rfl (s_move rfl) ?_
    refine o_step rfl (s_len rfl) ?_
    refine o_step rfl (s_add rfl rfl (by omega)) ?_
    refine o_make (E := Ec) (zx := 0#256) (n := l.length + 3) rfl rfl (by rw [Ec_zero]; rfl) (by omega) (by omega) rfl fun b24 S24 hS24 => ?_
    refine o_step rfl (s_assign rfl) ?_
    refine o_nil ?_
    refine x_then (hK7 _ _ ?_)
    refine c_seq fun _ hK8 => ?_
    refine c_seq fun _ hK9 => ?_
    refine c_region ?_
    refine o_step rfl (s_assign rfl) ?_
    refine o_nil ?_
    refine x_then (hK9 _ _ ?_)
    refine c_block ?_
    refine c_loop2 (fun (i : Nat) (S : Hp) => i ≤ l.length + 3 ∧ OwnS Ec 4 24 (.slice (some ⟨b24, 0, none⟩) (l.length + 3) (l.length + 3)) (fl l i) S) (fun (i : Nat) (S : Hp) => [(6, .int .i64 i)]) [(0, _), (2, _), (3, _), (4, _), (5, _)] (fun (i : Nat) (S : Hp) => (S ++ [(b4, .cells (Ec mkC).toArray 24 (0, 0))])) (fun (i : Nat) (S : Hp) => l.length + 3 - i) 0 S24 ⟨by omega, by rw [fl_zero]; exact hS24⟩ (by repeat (first | exact Sub.nil | refine Sub.cons rfl ?_)) (by repeat (first | exact Sub.nil | refine Sub.cons rfl ?_)) (by exact HSub.of_pick (by first | ((repeat (first | exact .one | exact .here | exact .all | apply Pick.cons | apply Pick.app)); done) | ((repeat (first | exact .one | exact .here | exact .all | apply Pick.cons | apply Pick.assoc | apply Pick.app)); done) | exact Pick.takeA (by repeat (first | exact .one | exact .here | exact .all | apply Pick.cons | apply Pick.assoc | apply Pick.app)) (by repeat (first | exact .one | exact .here | exact .all | apply Pick.cons | apply Pick.assoc | apply Pick.app)))) ?_
    rintro i S ⟨hi, hS⟩
    have hfl := fl_len hi
    have hs5 := hS.sl
    rw [hfl] at hs5
    refine c_seq fun _ hK10 => ?_
    refine c_seq fun _ hK11 => ?_
    refine c_region ?_
    refine o_step rfl (s_move rfl) ?_
    refine o_step rfl (s_move rfl) ?_
    refine o_step rfl (s_len rfl) ?_
    refine o_step rfl (s_lss rfl rfl) ?_
    refine o_nil ?_
    refine x_then (hK11 _ _ ?_)
    refine c_if rfl (fun hlt0 => ?_) (fun hlt0 => ?_)
    · skip
      refine c_skip ?_
      refine x_then (hK10 _ _ ?_)
      refine c_seq fun _ hK12 => ?_
      refine c_block ?_
      refine c_seq fun _ hK13 => ?_
      refine c_region ?_
      refine o_step rfl (s_move rfl) ?_
      refine o_step rfl (s_move rfl) ?_
      refine o_step rfl (s_ldB rfl (RdPK.cels (.own (by repeat (first | exact List.mem_cons_self | apply List.mem_cons_of_mem | apply mem_assoc | apply mem_app)))) (by first | (rw [flat_len, Nat.mul_one]; first | assumption | exact List.length_replicate) | exact List.length_replicate | rfl)) ?_
      refine o_step rfl (s_idx rfl rfl hs5 (by omega)) ?_
      refine o_stSE (i) mkC hS (by first | ((repeat (first | exact .one | exact .here | exact .all | apply Pick.cons | apply Pick.app)); done) | ((repeat (first | exact .one | exact .here | exact .all | apply Pick.cons | apply Pick.assoc | apply Pick.app)); done) | exact Pick.takeA (by repeat (first | exact .one | exact .here | exact .all | apply Pick.cons | apply Pick.assoc | apply Pick.app)) (by repeat (first | exact .one | exact .here | exact .all | apply Pick.cons | apply Pick.assoc | apply Pick.app))) rfl rfl (by omega) (by omega) fun S9 hS9 => ?_
      refine o_nil ?_
      refine x_then (hK13 _ _ ?_)
      refine c_seq fun _ hK14 => ?_
      refine c_region ?_
      refine o_step rfl (s_move rfl) ?_
      refine o_step rfl (s_move rfl) ?_
      refine o_step rfl (s_len rfl) ?_
      refine o_step rfl (s_lss rfl rfl) ?_
      refine o_nil ?_
      refine x_then (hK14 _ _ ?_)
      refine c_if rfl (fun hil => ?_) (fun hil => ?_)
      · skip
        obtain ⟨cl, hcl⟩ : ∃ c, l[i]? = some c := ⟨_, List.getElem?_eq_getElem (by omega)⟩
        refine c_region ?_
        refine o_step rfl (s_move rfl) ?_
        refine o_step rfl (s_move rfl) ?_
        refine o_step rfl (s_move rfl) ?_
        refine o_step rfl (s_move rfl) ?_
        refine o_step rfl (s_idx rfl rfl hsl (by omega)) ?_
        refine o_step rfl (s_ldB rfl ((RdK.old0 hw.1).lds i hcl (by omega)) rfl) ?_
        refine o_step rfl (s_idx rfl rfl hs5 (by omega)) ?_
        refine o_stSE (i) cl hS9 (by first | ((repeat (first | exact .one | exact .here | exact .all | apply Pick.cons | apply Pick.app)); done) | ((repeat (first | exact .one | exact .here | exact .all | apply Pick.cons | apply Pick.assoc | apply Pick.app)); done) | exact Pick.takeA (by repeat (first | exact .one | exact .here | exact .all | apply Pick.cons | apply Pick.assoc | apply Pick.app)) (by repeat (first | exact .one | exact .here | exact .all | apply Pick.cons | apply Pick.assoc | apply Pick.app))) rfl rfl (by rw [List.length_set]; omega) (by omega) fun S10 hS10 => ?_
        refine o_nil ?_
        refine x_block ?_
        refine x_then (hK12 _ _ ?_)
        refine c_region ?_
        refine o_step rfl (s_move rfl) ?_
        refine o_step rfl (s_add rfl rfl (by omega)) ?_
        refine o_step rfl (s_assign rfl) ?_
        refine o_nil ?_
        exact x_then (x_inv (i + 1, S10) ⟨by omega, by rw [fl_yes hcl]; exact hS10⟩ (by first | omega | (dsimp only; omega)) (by repeat (first | exact Sub.nil | refine Sub.cons rfl ?_)) (by exact HSub.of_pick (by first | ((repeat (first | exact .one | exact .here | exact .all | apply Pick.cons | apply Pick.app)); done) | ((repeat (first | exact .one | exact .here | exact .all | apply Pick.cons | apply Pick.assoc | apply Pick.app)); done) | exact Pick.takeA (by repeat (first | exact .one | exact .here | exact .all | apply Pick.cons | apply Pick.assoc | apply Pick.app)) (by repeat (first | exact .one | exact .here | exact .all | apply Pick.cons | apply Pick.assoc | apply Pick.app)))))
      · skip
        refine c_skip ?_
        refine x_block ?_
        refine x_then (hK12 _ _ ?_)
        refine c_region ?_
        refine o_step rfl (s_move rfl) ?_
        refine o_step rfl (s_add rfl rfl (by omega)) ?_
        refine o_step rfl (s_assign rfl) ?_
        refine o_nil ?_
        exact x_then (x_inv (i + 1, S9) ⟨by omega, by rw [fl_no (by omega) (by omega)]; exact hS9⟩ (by first | omega | (dsimp only; omega)) (by repeat (first | exact Sub.nil | refine Sub.cons rfl ?_)) (by exact HSub.of_pick (by first | ((repeat (first | exact .one | exact .here | exact .all | apply Pick.cons | apply Pick.app)); done) | ((repeat (first | exact .one | exact .here | exact .all | apply Pick.cons | apply Pick.assoc | apply Pick.app)); done) | exact Pick.takeA (by repeat (first | exact .one | exact .here | exact .all | apply Pick.cons | apply Pick.assoc | apply Pick.app)) (by repeat (first | exact .one | exact .here | exact .all | apply Pick.cons | apply Pick.assoc | apply Pick.app)))))
    · skip
      obtain rfl : i = l.length + 3 := by omega
      rw [fl_all] at hS
      have hs5 := hS.sl
      rw [show (l ++ [mkC, mkC, mkC]).length = l.length + 3 from by simp] at hs5
      have hpre := hS.pre l.length (by omega)
      rw [List.take_left' rfl] at hpre
      refine c_exit ?_
      refine x_then_exit ?_
      refine x_then_exit ?_
      refine x_block_exit ?_
      refine x_then (hK8 _ _ ?_)
      refine c_seq fun _ hK15 => ?_
      refine c_region ?_
      refine o_step rfl (s_move rfl) ?_
      refine o_step rfl (s_move rfl) ?_
      refine o_step rfl (s_len rfl) ?_
      refine o_step rfl (s_slice_hi rfl rfl (by omega)) ?_
      refine o_call (atoms_fn (some ⟨b24, 0, none⟩) (l.length + 3) l) rfl rfl rfl (by exact .nil) (fun w st => ⟨(hpre.rdk (by repeat (first | exact HIn.here | exact HIn.all | exact HIn.one | apply HIn.cons | apply HIn.assoc | apply HIn.app))).out w st, tb_of hw.2 st HSub.nil⟩) (fun v50 S50 ⟨a50, n50, hv50, hS50⟩ => ?_)
      subst hv50
      refine o_step rfl (s_assign rfl) ?_
      refine o_nil ?_
      refine x_then (hK15 _ _ ?_)
      refine c_seq fun _ hK16 => ?_
      refine c_region ?_
      refine o_step rfl (s_move rfl) ?_
      refine o_step rfl (s_move rfl) ?_
      refine o_step rfl (s_len rfl) ?_
      refine o_step rfl (s_slice_hi rfl rfl (by omega)) ?_
      refine o_call (atoms_fn (some ⟨b24, 0, none⟩) (l.length + 3) l) rfl rfl rfl (by exact .nil) (fun w st => ⟨(hpre.rdk (by repeat (first | exact HIn.here | exact HIn.all | exact HIn.one | apply HIn.cons | apply HIn.assoc | apply HIn.app))).out w st, tb_of hw.2 st HSub.nil⟩) (fun v55 S55 ⟨a55, n55, hv55, hS55⟩ => ?_)
      subst hv55
      refine o_step rfl (s_assign rfl) ?_
      refine o_nil ?_
      refine x_then (hK16 _ _ ?_)
      refine c_seq fun _ hK17 => ?_
      refine c_region ?_
      refine o_step rfl (s_move rfl) ?_
      refine o_call (rAtoms_fn a n l) rfl rfl rfl (by exact .nil) (fun w st => (RdK.old0 hw.1).out w st) (fun v57 S57 ⟨a57, n57, hv57, hS57⟩ => ?_)
      subst hv57
      refine o_step rfl (s_assign rfl) ?_
      refine o_nil ?_
      refine x_then (hK17 _ _ ?_)
      refine c_seq fun _ hK18 => ?_
      refine c_seq fun _ hK19 => ?_
      refine c_quiet (by kernel_rfl) ?_
      refine .op rfl (s_move rfl) ?_
      refine .op rfl (s_not rfl) ?_
      refine .op rfl (s_move rfl) ?_
      refine .yes rfl rfl rfl (s_move rfl) ?_
      refine .yes rfl rfl rfl (s_move rfl) ?_
      refine .call (fun _ fr => by rw [wanted_of fr rfl rfl rfl]; rfl) rfl rfl rfl (sameC_t _ _ _ _ _ _ (atoms_eq l)) (fun w st => ⟨(hS50.rdk (by repeat (first | exact HIn.here | exact HIn.all | exact HIn.one | apply HIn.cons | apply HIn.assoc | apply HIn.app))).out w st, (hS57.rdk (by repeat (first | exact HIn.here | exact HIn.all | exact HIn.one | apply HIn.cons | apply HIn.assoc | apply HIn.app))).out w st⟩) ?_
      refine .yes rfl rfl rfl (s_not rfl) ?_
      refine .op rfl (s_pick_f rfl rfl) ?_
      refine .op rfl (s_move rfl) ?_
      refine .yes rfl rfl rfl (s_move rfl) ?_
      refine .yes rfl rfl rfl (s_move rfl) ?_
      refine .call (fun _ fr => by rw [wanted_of fr rfl rfl rfl]; rfl) rfl rfl rfl (sameC_t _ _ _ _ _ _ (atoms_eq l)) (fun w st => ⟨(hS55.rdk (by repeat (first | exact HIn.here | exact HIn.all | exact HIn.one | apply HIn.cons | apply HIn.assoc | apply HIn.app))).out w st, (hS57.rdk (by repeat (first | exact HIn.here | exact HIn.all | exact HIn.one | apply HIn.cons | apply HIn.assoc | apply HIn.app))).out w st⟩) ?_
      refine .yes rfl rfl rfl (s_not rfl) ?_
      refine .op rfl (s_pick_f rfl rfl) ?_
      refine .op rfl (s_move rfl) ?_
      refine .yes rfl rfl rfl (s_move rfl) ?_
      refine .yes rfl rfl rfl (s_move rfl) ?_
      refine .yes rfl rfl rfl (s_len rfl) ?_
      refine .yes rfl rfl rfl (s_slice_hi rfl rfl (by omega)) ?_
      refine .yes rfl rfl rfl (s_move rfl) ?_
      refine .call (fun _ fr => by rw [wanted_of fr rfl rfl rfl]; rfl) rfl rfl rfl (sameC_t _ _ _ _ _ _ (rfl : l = l)) (fun w st => ⟨(hpre.rdk (by repeat (first | exact HIn.here | exact HIn.all | exact HIn.one | apply HIn.cons | apply HIn.assoc | apply HIn.app))).out w st, (RdK.old0 hw.1).out w st⟩) ?_
      refine .yes rfl rfl rfl (s_not rfl) ?_
      refine .op rfl (s_pick_f rfl rfl) ?_
      refine .op rfl (s_move rfl) ?_
      refine .yes rfl rfl rfl (s_move rfl) ?_
      refine .yes rfl rfl rfl (s_move rfl) ?_
      refine .yes rfl rfl rfl (s_len rfl) ?_
      refine .yes rfl rfl rfl (s_idx rfl rfl hs5 (by omega)) ?_
      refine .yes rfl rfl rfl (s_ldB rfl ((hS.rdk (by repeat (first | exact HIn.here | exact HIn.all | exact HIn.one | apply HIn.cons | apply HIn.assoc | apply HIn.app))).lds l.length (tl_get l 0 (by omega)) (by omega)) rfl) ?_
      refine .yes rfl rfl rfl (s_ldB rfl (RdPK.cels (.own (by repeat (first | exact List.mem_cons_self | apply List.mem_cons_of_mem | apply mem_assoc | apply mem_app)))) (by first | (rw [flat_len, Nat.mul_one]; first | assumption | exact List.length_replicate) | exact List.length_replicate | rfl)) ?_
      refine .yes rfl rfl rfl (step_cast (v' := .bool false) (s_neq_cl rfl rfl) (congrArg Value.bool (decide_eq_false (fun h => h rfl)))) ?_
      refine .op rfl (s_pick_f rfl rfl) ?_
      refine .op rfl (s_move rfl) ?_
      refine .yes rfl rfl rfl (s_move rfl) ?_
      refine .yes rfl rfl rfl (s_move rfl) ?_
      refine .yes rfl rfl rfl (s_len rfl) ?_
      refine .yes rfl rfl rfl (s_add rfl rfl (by omega)) ?_
      refine .yes rfl rfl rfl (s_idx rfl rfl hs5 (by omega)) ?_
      refine .yes rfl rfl rfl (s_ldB rfl ((hS.rdk (by repeat (first | exact HIn.here | exact HIn.all | exact HIn.one | apply HIn.cons | apply HIn.assoc | apply HIn.app))).lds (l.length + 2) (tl_get l 2 (by omega)) (by omega)) rfl) ?_
      refine .yes rfl rfl rfl (s_ldB rfl (RdPK.cels (.own (by repeat (first | exact List.mem_cons_self | apply List.mem_cons_of_mem | apply mem_assoc | apply mem_app)))) (by first | (rw [flat_len, Nat.mul_one]; first | assumption | exact List.length_replicate) | exact List.length_replicate | rfl)) ?_
      refine .yes rfl rfl rfl (step_cast (v' := .bool false) (s_neq_cl rfl rfl) (congrArg Value.bool (decide_eq_false (fun h => h rfl)))) ?_
      refine .op rfl (s_pick_f rfl rfl) ?_
      refine .nil ?_
      refine x_then (hK19 _ _ ?_)
      refine c_false rfl ?_
      refine c_skip ?_
      refine x_then (hK18 _ _ ?_)
      refine c_seq fun _ hK20 => ?_
      refine c_seq fun _ hK21 => ?_
      refine c_region ?_
      refine o_step rfl (s_assign rfl) ?_
      refine o_nil ?_
      refine x_then (hK21 _ _ ?_)
      refine c_block ?_
      refine c_loop3 (fun (i : Nat) (X : List Cl) (S5 : Hp) => i ≤ (atoms l).length ∧ X.length = (atoms l).length ∧ OwnS Ec 4 24 (.slice a50 (atoms l).length n50) X S5) (fun (i : Nat) (X : List Cl) (S5 : Hp) => [(10, .int .i64 i)]) [(0, _), (2, _), (4, _), (5, _), (7, _), (8, _), (9, _)] (fun (i : Nat) (X : List Cl) (S5 : Hp) => (S57 ++ (S55 ++ (S5 ++ (S ++ [(b4, .cells (Ec mkC).toArray 24 (0, 0))]))))) (fun (i : Nat) (X : List Cl) (S5 : Hp) => (atoms l).length - i) 0 (atoms l) S50 ⟨by omega, rfl, hS50⟩ (by repeat (first | exact Sub.nil | refine Sub.cons rfl ?_)) (by repeat (first | exact Sub.nil | refine Sub.cons rfl ?_)) (by repeat (first | exact HSub.refl _ | exact HSub.nil | refine HSub.takeC (by first | ((repeat (first | exact .one | exact .here | exact .all | apply Pick.cons | apply Pick.app)); done) | ((repeat (first | exact .one | exact .here | exact .all | apply Pick.cons | apply Pick.assoc | apply Pick.app)); done) | exact Pick.takeA (by repeat (first | exact .one | exact .here | exact .all | apply Pick.cons | apply Pick.assoc | apply Pick.app)) (by repeat (first | exact .one | exact .here | exact .all | apply Pick.cons | apply Pick.assoc | apply Pick.app))) ?_ | refine HSub.take (by first | ((repeat (first | exact .one | exact .here | exact .all | apply Pick.cons | apply Pick.app)); done) | ((repeat (first | exact .one | exact .here | exact .all | apply Pick.cons | apply Pick.assoc | apply Pick.app)); done) | exact Pick.takeA (by repeat (first | exact .one | exact .here | exact .all | apply Pick.cons | apply Pick.assoc | apply Pick.app)) (by repeat (first | exact .one | exact .here | exact .all | apply Pick.cons | apply Pick.assoc | apply Pick.app))) ?_ | exact HSub.of_pick (by first | ((repeat (first | exact .one | exact .here | exact .all | apply Pick.cons | apply Pick.app)); done) | ((repeat (first | exact .one | exact .here | exact .all | apply Pick.cons | apply Pick.assoc | apply Pick.app)); done) | exact Pick.takeA (by repeat (first | exact .one | exact .here | exact .all | apply Pick.cons | apply Pick.assoc | apply Pick.app)) (by repeat (first | exact .one | exact .here | exact .all | apply Pick.cons | apply Pick.assoc | apply Pick.app))))) ?_
      rintro i X S5 ⟨hi, hXL, hX⟩
      have hsX := hX.sl
      rw [hXL] at hsX
      refine c_seq fun _ hK22 => ?_
      refine c_seq fun _ hK23 => ?_
      refine c_region ?_
      refine o_step rfl (s_move rfl) ?_
      refine o_step rfl (s_move rfl) ?_
      refine o_step rfl (s_len rfl) ?_
      refine o_step rfl (s_lss rfl rfl) ?_
      refine o_nil ?_
      refine x_then (hK23 _ _ ?_)
      refine c_if rfl (fun hlt2 => ?_) (fun hlt2 => ?_)
      · skip
        refine c_skip ?_
        refine x_then (hK22 _ _ ?_)
        refine c_seq fun _ hK24 => ?_
        refine c_block ?_
        refine c_region ?_
        refine o_step rfl (s_move rfl) ?_
        refine o_step rfl (s_move rfl) ?_
        refine o_step rfl (s_move rfl) ?_
        refine o_step rfl (step_cast (v' := Ew (BitVec.ofNat 64 i)) (s_conv rfl) (congrArg _ (conv_u64 (by omega)))) ?_
        refine o_step rfl (step_cast (v' := .agg (Ec (mk4 9#64 0#64 0#64 (BitVec.ofNat 64 i))).toArray) (s_buildA (cs := [_, _, _, _]) (vs := [_, _, _, _]) rfl rfl (.cons rfl rfl rfl rfl (.cons rfl rfl rfl rfl (.cons rfl rfl rfl rfl (.cons rfl rfl rfl rfl .nil))))) (by rw [mk4_wd]; rfl)) ?_
        refine o_step rfl (s_idx rfl rfl hsX (by omega)) ?_
        refine o_stSE (i) (mk4 9#64 0#64 0#64 (BitVec.ofNat 64 i)) hX (by first | ((repeat (first | exact .one | exact .here | exact .all | apply Pick.cons | apply Pick.app)); done) | ((repeat (first | exact .one | exact .here | exact .all | apply Pick.cons | apply Pick.assoc | apply Pick.app)); done) | exact Pick.takeA (by repeat (first | exact .one | exact .here | exact .all | apply Pick.cons | apply Pick.assoc | apply Pick.app)) (by repeat (first | exact .one | exact .here | exact .all | apply Pick.cons | apply Pick.assoc | apply Pick.app))) rfl rfl (by omega) (by omega) fun S11 hS11 => ?_
        refine o_nil ?_
        refine x_block ?_
        refine x_then (hK24 _ _ ?_)
        refine c_region ?_
        refine o_step rfl (s_move rfl) ?_
        refine o_step rfl (s_add rfl rfl (by omega)) ?_
        refine o_step rfl (s_assign rfl) ?_
        refine o_nil ?_
        exact x_then (x_inv (i + 1, _, S11) ⟨by omega, by rw [List.length_set]; exact hXL, hS11⟩ (by first | omega | (dsimp only; omega)) (by repeat (first | exact Sub.nil | refine Sub.cons rfl ?_)) (by (try dsimp only); repeat (first | exact HSub.refl _ | exact HSub.nil | refine HSub.takeC (by first | ((repeat (first | exact .one | exact .here | exact .all | apply Pick.cons | apply Pick.app)); done) | ((repeat (first | exact .one | exact .here | exact .all | apply Pick.cons | apply Pick.assoc | apply Pick.app)); done) | exact Pick.takeA (by repeat (first | exact .one | exact .here | exact .all | apply Pick.cons | apply Pick.assoc | apply Pick.app)) (by repeat (first | exact .one | exact .here | exact .all | apply Pick.cons | apply Pick.assoc | apply Pick.app))) ?_ | refine HSub.take (by first | ((repeat (first | exact .one | exact .here | exact .all | apply Pick.cons | apply Pick.app)); done) | ((repeat (first | exact .one | exact .here | exact .all | apply Pick.cons | apply Pick.assoc | apply Pick.app)); done) | exact Pick.takeA (by repeat (first | exact .one | exact .here | exact .all | apply Pick.cons | apply Pick.assoc | apply Pick.app)) (by repeat (first | exact .one | exact .here | exact .all | apply Pick.cons | apply Pick.assoc | apply Pick.app))) ?_ | exact HSub.of_pick (by first | ((repeat (first | exact .one | exact .here | exact .all | apply Pick.cons | apply Pick.app)); done) | ((repeat (first | exact .one | exact .here | exact .all | apply Pick.cons | apply Pick.assoc | apply Pick.app)); done) | exact Pick.takeA (by repeat (first | exact .one | exact .here | exact .all | apply Pick.cons | apply Pick.assoc | apply Pick.app)) (by repeat (first | exact .one | exact .here | exact .all | apply Pick.cons | apply Pick.assoc | apply Pick.app))))))
      · skip
        obtain rfl : i = (atoms l).length := by omega
        refine c_exit ?_
        refine x_then_exit ?_
        refine x_then_exit ?_
        refine x_block_exit ?_
        refine x_then (hK20 _ _ ?_)
        refine c_seq fun _ hK25 => ?_
        refine c_region ?_
        refine o_step rfl (s_move rfl) ?_
        refine o_step rfl (s_assign rfl) ?_
        refine o_nil ?_
        refine x_then (hK25 _ _ ?_)
        refine c_seq fun _ hK26 => ?_
        refine c_seq fun _ hK27 => ?_
        refine c_region ?_
        refine o_step rfl (s_assign rfl) ?_
        refine o_nil ?_
        refine x_then (hK27 _ _ ?_)
        refine c_block ?_
        refine c_loop5 (fun (i : Nat) (Y : List Cl) (a6 : Option Addr) (n6 : Nat) (S6 : Hp) => i ≤ 70 ∧ Y.length = (atoms l).length + i ∧ OwnS Ec 4 24 (.slice a6 Y.length n6) Y S6) (fun (i : Nat) (Y : List Cl) (a6 : Option Addr) (n6 : Nat) (S6 : Hp) => [(12, .int .i64 i), (11, .slice a6 Y.length n6)]) [(0, _), (2, _), (4, _), (5, _), (8, _), (9, _)] (fun (i : Nat) (Y : List Cl) (a6 : Option Addr) (n6 : Nat) (S6 : Hp) => (S57 ++ (S55 ++ (S6 ++ (S ++ [(b4, .cells (Ec mkC).toArray 24 (0, 0))]))))) (fun (i : Nat) (Y : List Cl) (a6 : Option Addr) (n6 : Nat) (S6 : Hp) => 70 - i) 0 X a50 n50 S5 ⟨by omega, hXL, by rw [hXL]; exact hX⟩ (by refine Sub.cons rfl (Sub.cons' rfl (by rw [hXL]) (by repeat (first | exact Sub.nil | refine Sub.cons rfl ?_)))) (by repeat (first | exact Sub.nil | refine Sub.cons rfl ?_)) (by repeat (first | exact HSub.refl _ | exact HSub.nil | refine HSub.takeC (by first | ((repeat (first | exact .one | exact .here | exact .all | apply Pick.cons | apply Pick.app)); done) | ((repeat (first | exact .one | exact .here | exact .all | apply Pick.cons | apply Pick.assoc | apply Pick.app)); done) | exact Pick.takeA (by repeat (first | exact .one | exact .here | exact .all | apply Pick.cons | apply Pick.assoc | apply Pick.app)) (by repeat (first | exact .one | exact .here | exact .all | apply Pick.cons | apply Pick.assoc | apply Pick.app))) ?_ | refine HSub.take (by first | ((repeat (first | exact .one | exact .here | exact .all | apply Pick.cons | apply Pick.app)); done) | ((repeat (first | exact .one | exact .here | exact .all | apply Pick.cons | apply Pick.assoc | apply Pick.app)); done) | exact Pick.takeA (by repeat (first | exact .one | exact .here | exact .all | apply Pick.cons | apply Pick.assoc | apply Pick.app)) (by repeat (first | exact .one | exact .here | exact .all | apply Pick.cons | apply Pick.assoc | apply Pick.app))) ?_ | exact HSub.of_pick (by first | ((repeat (first | exact .one | exact .here | exact .all | apply Pick.cons | apply Pick.app)); done) | ((repeat (first | exact .one | exact .here | exact .all | apply Pick.cons | apply Pick.assoc | apply Pick.app)); done) | exact Pick.takeA (by repeat (first | exact .one | exact .here | exact .all | apply Pick.cons | apply Pick.assoc | apply Pick.app)) (by repeat (first | exact .one | exact .here | exact .all | apply Pick.cons | apply Pick.assoc | apply Pick.app))))) ?_
        rintro i Y a6 n6 S6 ⟨hi, hYL, hY⟩
        refine c_seq fun _ hK28 => ?_
        refine c_seq fun _ hK29 => ?_
        refine c_region ?_
        refine o_step rfl (s_move rfl) ?_
        refine o_step rfl (s_lss rfl rfl) ?_
        refine o_nil ?_
        refine x_then (hK29 _ _ ?_)
        refine c_if rfl (fun hlt4 => ?_) (fun hlt4 => ?_)
        · skip
          refine c_skip ?_
          refine x_then (hK28 _ _ ?_)
          refine c_seq fun _ hK30 => ?_
          refine c_block ?_
          refine c_region ?_
          refine o_step rfl (s_move rfl) ?_
          refine o_step rfl (s_ldB rfl (RdPK.cels (.own (by repeat (first | exact List.mem_cons_self | apply List.mem_cons_of_mem | apply mem_assoc | apply mem_app)))) (by first | (rw [flat_len, Nat.mul_one]; first | assumption | exact List.length_replicate) | exact List.length_replicate | rfl)) ?_
          refine o_bs (E := Ec) (xs := [mkC]) (vs := [_]) rfl rfl rfl rfl rfl (by decide) (by decide) fun b119 S119 hS119 => ?_
          refine o_app hY (hS119.rdk (by repeat (first | exact HIn.here | exact HIn.all | exact HIn.one | apply HIn.cons | apply HIn.assoc | apply HIn.app))) rfl rfl rfl rfl (by show (Y.length + 1) * 32 ≤ _; omega) (by show Y.length + 1 ≤ _; omega) rfl (by first | ((repeat (first | exact .one | exact .here | exact .all | apply Pick.cons | apply Pick.app)); done) | ((repeat (first | exact .one | exact .here | exact .all | apply Pick.cons | apply Pick.assoc | apply Pick.app)); done) | exact Pick.takeA (by repeat (first | exact .one | exact .here | exact .all | apply Pick.cons | apply Pick.assoc | apply Pick.app)) (by repeat (first | exact .one | exact .here | exact .all | apply Pick.cons | apply Pick.assoc | apply Pick.app))) fun a120 c120 S120 hS120 => ?_
          refine o_step rfl (s_assign rfl) ?_
          refine o_nil ?_
          refine x_block ?_
          refine x_then (hK30 _ _ ?_)
          refine c_region ?_
          refine o_step rfl (s_move rfl) ?_
          refine o_step rfl (s_add rfl rfl (by omega)) ?_
          refine o_step rfl (s_assign rfl) ?_
          refine o_nil ?_
          exact x_then (x_inv (i + 1, _, _, _, S120) ⟨by omega, by rw [List.length_append, hYL]; rfl, hS120⟩ (by first | omega | (dsimp only; omega)) (by repeat (first | exact Sub.nil | refine Sub.cons rfl ?_)) (by (try dsimp only); repeat (first | exact HSub.refl _ | exact HSub.nil | refine HSub.takeC (by first | ((repeat (first | exact .one | exact .here | exact .all | apply Pick.cons | apply Pick.app)); done) | ((repeat (first | exact .one | exact .here | exact .all | apply Pick.cons | apply Pick.assoc | apply Pick.app)); done) | exact Pick.takeA (by repeat (first | exact .one | exact .here | exact .all | apply Pick.cons | apply Pick.assoc | apply Pick.app)) (by repeat (first | exact .one | exact .here | exact .all | apply Pick.cons | apply Pick.assoc | apply Pick.app))) ?_ | refine HSub.take (by first | ((repeat (first | exact .one | exact .here | exact .all | apply Pick.cons | apply Pick.app)); done) | ((repeat (first | exact .one | exact .here | exact .all | apply Pick.cons | apply Pick.assoc | apply Pick.app)); done) | exact Pick.takeA (by repeat (first | exact .one | exact .here | exact .all | apply Pick.cons | apply Pick.assoc | apply Pick.app)) (by repeat (first | exact .one | exact .here | exact .all | apply Pick.cons | apply Pick.assoc | apply Pick.app))) ?_ | exact HSub.of_pick (by first | ((repeat (first | exact .one | exact .here | exact .all | apply Pick.cons | apply Pick.app)); done) | ((repeat (first | exact .one | exact .here | exact .all | apply Pick.cons | apply Pick.assoc | apply Pick.app)); done) | exact Pick.takeA (by repeat (first | exact .one | exact .here | exact .all | apply Pick.cons | apply Pick.assoc | apply Pick.app)) (by repeat (first | exact .one | exact .here | exact .all | apply Pick.cons | apply Pick.assoc | apply Pick.app))))))
        · skip
          obtain rfl : i = 70 := by omega
          refine c_exit ?_
          refine x_then_exit ?_
          refine x_then_exit ?_
          refine x_block_exit ?_
          refine x_then (hK26 _ _ ?_)
          refine c_seq fun _ hK31 => ?_
          refine c_seq fun _ hK32 => ?_
          refine c_region ?_
          refine o_step rfl (s_move rfl) ?_
          refine o_step rfl (s_move rfl) ?_
          refine o_callP (sameC_t _ _ _ _ _ _ (atoms_eq l)) rfl rfl rfl (fun w st => ⟨(hS55.rdk (by repeat (first | exact HIn.here | exact HIn.all | exact HIn.one | apply HIn.cons | apply HIn.assoc | apply HIn.app))).out w st, (hS57.rdk (by repeat (first | exact HIn.here | exact HIn.all | exact HIn.one | apply HIn.cons | apply HIn.assoc | apply HIn.app))).out w st⟩) (fun v123 hv123 => ?_)
          subst hv123
          refine o_step rfl (s_not rfl) ?_
          refine o_step rfl (s_move rfl) ?_
          refine o_yes rfl rfl ?_
          refine o_step rfl (s_move rfl) ?_
          refine o_yes rfl rfl ?_
          refine o_step rfl (s_move rfl) ?_
          refine o_yes rfl rfl ?_
          refine o_step rfl (s_len rfl) ?_
          refine o_yes rfl rfl ?_
          refine o_step rfl (s_slice_hi rfl rfl (by omega)) ?_
          refine o_yes rfl rfl ?_
          refine o_step rfl (s_move rfl) ?_
          refine o_yes rfl rfl ?_
          refine o_callP (sameC_t _ _ _ _ _ _ (rfl : l = l)) rfl rfl rfl (fun w st => ⟨(hpre.rdk (by repeat (first | exact HIn.here | exact HIn.all | exact HIn.one | apply HIn.cons | apply HIn.assoc | apply HIn.app))).out w st, (RdK.old0 hw.1).out w st⟩) (fun v131 hv131 => ?_)
          subst hv131
          refine o_yes rfl rfl ?_
          refine o_step rfl (s_not rfl) ?_
          refine o_step rfl (s_pick_f rfl rfl) ?_
          refine o_step rfl (s_move rfl) ?_
          refine o_yes rfl rfl ?_
          refine o_step rfl (s_move rfl) ?_
          refine o_yes rfl rfl ?_
          refine o_step rfl (s_len rfl) ?_
          refine o_yes rfl rfl ?_
          refine o_step rfl (s_move rfl) ?_
          refine o_yes rfl rfl ?_
          refine o_step rfl (s_len rfl) ?_
          refine o_yes rfl rfl ?_
          refine o_step rfl (s_add rfl rfl (by omega)) ?_
          refine o_yes rfl rfl ?_
          refine o_step rfl (s_neq_f rfl rfl (by omega)) ?_
          refine o_step rfl (s_pick_f rfl rfl) ?_
          refine o_nil ?_
          refine x_then (hK32 _ _ ?_)
          refine c_false rfl ?_
          refine c_skip ?_
          refine x_then (hK31 _ _ ?_)
          refine c_seq fun _ hK33 => ?_
          refine c_region ?_
          refine o_step rfl (s_assign rfl) ?_
          refine o_nil ?_
          refine x_then (hK33 _ _ ?_)
          refine c_seq fun _ hK34 => ?_
          refine c_seq fun _ hK35 => ?_
          refine c_region ?_
          refine o_step rfl (s_assign rfl) ?_
          refine o_nil ?_
          refine x_then (hK35 _ _ ?_)
          refine c_block ?_
          refine c_loop6 (fun (i : Nat) (M : List Cl) (S7 : Hp) (a8 : Option Addr) (n8 : Nat) (S8 : Hp) => i ≤ l.length ∧ M.length = i ∧ OwnS Ec 4 24 (.slice (some ⟨b24, 0, none⟩) (l.length + 3) (l.length + 3)) (M ++ l.drop i ++ [mkC, mkC, mkC]) S7 ∧ OwnS Ec 4 24 (.slice a8 M.length n8) M S8) (fun (i : Nat) (M : List Cl) (S7 : Hp) (a8 : Option Addr) (n8 : Nat) (S8 : Hp) => [(14, .int .i64 i), (13, .slice a8 M.length n8)]) [(0, _), (2, _), (5, _)] (fun (i : Nat) (M : List Cl) (S7 : Hp) (a8 : Option Addr) (n8 : Nat) (S8 : Hp) => (S8 ++ (S57 ++ (S55 ++ (S6 ++ (S7 ++ [(b4, .cells (Ec mkC).toArray 24 (0, 0))])))))) (fun (i : Nat) (M : List Cl) (S7 : Hp) (a8 : Option Addr) (n8 : Nat) (S8 : Hp) => l.length - i) 0 [] S none 0 [] ⟨by omega, rfl, hS, .nil⟩ (by repeat (first | exact Sub.nil | refine Sub.cons rfl ?_)) (by repeat (first | exact Sub.nil | refine Sub.cons rfl ?_)) (by exact HSub.refl _) ?_
          rintro i M S7 a8 n8 S8 ⟨hi, hM, hS7, hS8⟩
          refine c_seq fun _ hK36 => ?_
          refine c_seq fun _ hK37 => ?_
          refine c_region ?_
          refine o_step rfl (s_move rfl) ?_
          refine o_step rfl (s_move rfl) ?_
          refine o_step rfl (s_len rfl) ?_
          refine o_step rfl (s_lss rfl rfl) ?_
          refine o_nil ?_
          refine x_then (hK37 _ _ ?_)
          refine c_if rfl (fun hlt6 => ?_) (fun hlt6 => ?_)
          · skip
            obtain ⟨ci, hci⟩ : ∃ c, l[i]? = some c := ⟨_, List.getElem?_eq_getElem (by omega)⟩
            have hgi := mid_get (B := [mkC, mkC, mkC]) hM hci
            have hset := mid_set (xr ci i) (B := [mkC, mkC, mkC]) hM hci
            have hgi2 := mid_get2 (xr ci i) (B := [mkC, mkC, mkC]) hM hci
            have hxl : (M ++ l.drop i ++ [mkC, mkC, mkC]).length = l.length + 3 := by simp; omega
            have hs7 := hS7.sl
            rw [hxl] at hs7
            refine c_skip ?_
            refine x_then (hK36 _ _ ?_)
            refine c_seq fun _ hK38 => ?_
            refine c_block ?_
            refine c_seq fun _ hK39 => ?_
            refine c_tail 14 (by kernel_rfl) ?_
            refine .op rfl (s_move rfl) ?_
            refine .op rfl (s_move rfl) ?_
            refine .op rfl (s_move rfl) ?_
            refine .op rfl (step_cast (v' := .int .i64 ((i % 4 : Nat) : Int)) (s_rem rfl rfl (by decide)) (congrArg _ (by rw [Int.tmod_eq_emod_of_nonneg (by omega)]; omega))) ?_
            refine .op rfl (s_move rfl) ?_
            refine .op rfl (s_move rfl) ?_
            refine .op rfl (s_move rfl) ?_
            refine .op rfl (step_cast (v' := .int .i64 ((i % 4 : Nat) : Int)) (s_rem rfl rfl (by decide)) (congrArg _ (by rw [Int.tmod_eq_emod_of_nonneg (by omega)]; omega))) ?_
            refine .op rfl (s_idx rfl rfl hs7 (by omega)) ?_
            refine .op rfl (s_indexA rfl rfl (by omega)) ?_
            refine .op rfl (s_ld rfl ((hS7.rdk (by repeat (first | exact HIn.here | exact HIn.all | exact HIn.one | apply HIn.cons | apply HIn.assoc | apply HIn.app))).ld i (i % 4) hgi (Ec_get _ (by omega)) (by omega) (by omega))) ?_
            refine .op rfl (step_cast (v' := Ew (wd ci (i % 4) ^^^ 16711935#64)) (s_xor rfl rfl) (v_xorc _ 16711935 (by decide))) ?_
            refine .op rfl (s_idx rfl rfl hs7 (by omega)) ?_
            refine .op rfl (s_indexA rfl rfl (by omega)) ?_
            refine .nil ?_
            refine o_stS (i := i) (off := i % 4) (cs := [Ew (wd ci (i % 4) ^^^ 16711935#64)]) (xr ci i) hS7 (by first | ((repeat (first | exact .one | exact .here | exact .all | apply Pick.cons | apply Pick.app)); done) | ((repeat (first | exact .one | exact .here | exact .all | apply Pick.cons | apply Pick.assoc | apply Pick.app)); done) | exact Pick.takeA (by repeat (first | exact .one | exact .here | exact .all | apply Pick.cons | apply Pick.assoc | apply Pick.app)) (by repeat (first | exact .one | exact .here | exact .all | apply Pick.cons | apply Pick.assoc | apply Pick.app))) rfl rfl rfl rfl (by omega) (by omega) (by show i % 4 + 1 ≤ 4; omega) (fun e he => by rw [hgi] at he; cases he; exact Ec_splice _ _ (by omega)) (by simp [Value.oneCell', Ew]) fun S32 hS32 => ?_
            refine o_nil ?_
            refine x_then (hK39 _ _ ?_)
            refine c_region ?_
            refine o_step rfl (s_move rfl) ?_
            refine o_step rfl (s_move rfl) ?_
            refine o_step rfl (s_move rfl) ?_
            refine o_step rfl (s_idx rfl rfl (by have := hS32.sl; rw [List.length_set, hxl] at this; exact this) (by omega)) ?_
            refine o_step rfl (s_ldB rfl ((hS32.rdk (by repeat (first | exact HIn.here | exact HIn.all | exact HIn.one | apply HIn.cons | apply HIn.assoc | apply HIn.app))).lds i hgi2 (by omega)) rfl) ?_
            refine o_bs (E := Ec) (xs := [xr ci i]) (vs := [_]) rfl rfl rfl rfl rfl (by decide) (by decide) fun b167 S167 hS167 => ?_
            refine o_app hS8 (hS167.rdk (by repeat (first | exact HIn.here | exact HIn.all | exact HIn.one | apply HIn.cons | apply HIn.assoc | apply HIn.app))) rfl rfl rfl rfl (by show (M.length + 1) * 32 ≤ _; omega) (by show M.length + 1 ≤ _; omega) rfl (by first | ((repeat (first | exact .one | exact .here | exact .all | apply Pick.cons | apply Pick.app)); done) | ((repeat (first | exact .one | exact .here | exact .all | apply Pick.cons | apply Pick.assoc | apply Pick.app)); done) | exact Pick.takeA (by repeat (first | exact .one | exact .here | exact .all | apply Pick.cons | apply Pick.assoc | apply Pick.app)) (by repeat (first | exact .one | exact .here | exact .all | apply Pick.cons | apply Pick.assoc | apply Pick.app))) fun a168 c168 S168 hS168 => ?_
            refine o_step rfl (s_assign rfl) ?_
            refine o_nil ?_
            refine x_block ?_
            refine x_then (hK38 _ _ ?_)
            refine c_region ?_
            refine o_step rfl (s_move rfl) ?_
            refine o_step rfl (s_add rfl rfl (by omega)) ?_
            refine o_step rfl (s_assign rfl) ?_
            refine o_nil ?_
            exact x_then (x_inv (i + 1, M ++ [xr ci i], S32, _, _, S168) ⟨by omega, by simp [hM], by rw [hset] at hS32; exact hS32, hS168⟩ (by first | omega | (dsimp only; omega)) (by repeat (first | exact Sub.nil | refine Sub.cons rfl ?_)) (by (try dsimp only); repeat (first | exact HSub.refl _ | exact HSub.nil | refine HSub.takeC (by first | ((repeat (first | exact .one | exact .here | exact .all | apply Pick.cons | apply Pick.app)); done) | ((repeat (first | exact .one | exact .here | exact .all | apply Pick.cons | apply Pick.assoc | apply Pick.app)); done) | exact Pick.takeA (by repeat (first | exact .one | exact .here | exact .all | apply Pick.cons | apply Pick.assoc | apply Pick.app)) (by repeat (first | exact .one | exact .here | exact .all | apply Pick.cons | apply Pick.assoc | apply Pick.app))) ?_ | refine HSub.take (by first | ((repeat (first | exact .one | exact .here | exact .all | apply Pick.cons | apply Pick.app)); done) | ((repeat (first | exact .one | exact .here | exact .all | apply Pick.cons | apply Pick.assoc | apply Pick.app)); done) | exact Pick.takeA (by repeat (first | exact .one | exact .here | exact .all | apply Pick.cons | apply Pick.assoc | apply Pick.app)) (by repeat (first | exact .one | exact .here | exact .all | apply Pick.cons | apply Pick.assoc | apply Pick.app))) ?_ | exact HSub.of_pick (by first | ((repeat (first | exact .one | exact .here | exact .all | apply Pick.cons | apply Pick.app)); done) | ((repeat (first | exact .one | exact .here | exact .all | apply Pick.cons | apply Pick.assoc | apply Pick.app)); done) | exact Pick.takeA (by repeat (first | exact .one | exact .here | exact .all | apply Pick.cons | apply Pick.assoc | apply Pick.app)) (by repeat (first | exact .one | exact .here | exact .all | apply Pick.cons | apply Pick.assoc | apply Pick.app))))))
          · skip
            obtain rfl : i = l.length := by omega
            rw [List.drop_length, List.append_nil] at hS7
            have hp7 := hS7.pre M.length (by omega)
            rw [List.take_left' rfl] at hp7
            refine c_exit ?_
            refine x_then_exit ?_
            refine x_then_exit ?_
            refine x_block_exit ?_
            refine x_then (hK34 _ _ ?_)
            refine c_seq fun _ hK40 => ?_
            refine c_region ?_
            refine o_step rfl (s_move rfl) ?_
            refine o_step rfl (s_move rfl) ?_
            refine o_step rfl (s_len rfl) ?_
            refine o_step rfl (step_cast (v' := .slice (some ⟨b24, 0, none⟩) M.length (l.length + 3)) (s_slice_hi rfl rfl (by omega)) (by rw [hM]; rfl)) ?_
            refine o_call (atoms_fn (some ⟨b24, 0, none⟩) (l.length + 3) M) rfl rfl rfl (by exact .nil) (fun w st => ⟨(hp7.rdk (by repeat (first | exact HIn.here | exact HIn.all | exact HIn.one | apply HIn.cons | apply HIn.assoc | apply HIn.app))).out w st, tb_of hw.2 st HSub.nil⟩) (fun v173 S173 ⟨a173, n173, hv173, hS173⟩ => ?_)
            subst hv173
            refine o_step rfl (s_move rfl) ?_
            refine o_call (rAtoms_fn a8 n8 M) rfl rfl rfl (by exact .nil) (fun w st => (hS8.rdk (by repeat (first | exact HIn.here | exact HIn.all | exact HIn.one | apply HIn.cons | apply HIn.assoc | apply HIn.app))).out w st) (fun v175 S175 ⟨a175, n175, hv175, hS175⟩ => ?_)
            subst hv175
            refine o_callP (sameC_t _ _ _ _ _ _ (atoms_eq M)) rfl rfl rfl (fun w st => ⟨(hS173.rdk (by repeat (first | exact HIn.here | exact HIn.all | exact HIn.one | apply HIn.cons | apply HIn.assoc | apply HIn.app))).out w st, (hS175.rdk (by repeat (first | exact HIn.here | exact HIn.all | exact HIn.one | apply HIn.cons | apply HIn.assoc | apply HIn.app))).out w st⟩) (fun v176 hv176 => ?_)
            subst hv176
            refine o_step rfl (s_assign rfl) ?_
            refine o_nil ?_
            refine x_then (hK40 _ _ ?_)
            refine c_ret ?_
            refine ?_
            exact x_ret rfl (.tmp rfl (.nil)) (rfl)
end Go.Proofs.YtnjjkkncoijmmaaDoor
