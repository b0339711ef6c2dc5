/- Part of the proofs over this seat: see the text that holds the theorem. Conditions: each theorem bears its own. -/
import Derived.Test.YtnjjkkncoijmmaaDoorCW13
import Derived.Test.YtnjjkkncoijmmaaDoorMC17
namespace Go.Proofs.YtnjjkkncoijmmaaDoor
open Go Go.HL Go.Proofs Go.HL.Kl
theorem classMakes_fn (a : Option Addr) (n : Nat) (l : List UInt8) (lo hi : Nat) (s : ByteArray) (hlen : l.length ≤ 140737488351232) (hlo : lo < 256) (hhi : hi < 256) : HL.Fn Tryd.prog 10 [.slice a l.length n, .int .u8 lo, .int .u8 hi, .string s] (fun w => Rd Eb w (.slice a l.length n) l ∧ Tb [] w) [] (fun v _ => v = .bool true) := by
  refine fn_of Tryd.func10 rfl rfl rfl fun w0 hw => ?_
  have hsl := hw.1.sl
  refine c_seq fun _ hK1 => ?_
  refine c_region ?_
  refine o_step rfl (s_assign rfl) ?_
  refine o_nil ?_
  refine x_then (hK1 _ _ ?_)
  refine c_seq fun _ hK2 => ?_
  refine c_region ?_
  refine o_callP (works_fn) rfl rfl rfl (fun w st => tb_of hw.2 st HSub.nil) (fun v18 hv18 => ?_)
  subst hv18
  refine o_step rfl (s_assign rfl) ?_
  refine o_nil ?_
  refine x_then (hK2 _ _ ?_)
  refine c_seq fun _ hK3 => ?_
  refine c_region ?_
  refine o_step rfl (s_move rfl) ?_
  refine o_step rfl (s_len rfl) ?_
  refine o_step rfl (s_add rfl rfl (by omega)) ?_
  refine o_make (E := Eb) (zx := 0) (n := l.length + 16) rfl rfl rfl (by omega) (by omega) rfl fun b22 S22 hS22 => ?_
  refine o_step rfl (s_assign rfl) ?_
  refine o_nil ?_
  refine x_then (hK3 _ _ ?_)
  refine c_seq fun _ hK4 => ?_
  refine c_seq fun _ hK5 => ?_
  refine c_region ?_
  refine o_step rfl (s_assign rfl) ?_
  refine o_nil ?_
  refine x_then (hK5 _ _ ?_)
  refine c_block ?_
  refine c_loop2 (fun (i : Nat) (S : Hp) => i ≤ l.length + 16 ∧ OwnS Eb 1 5 (.slice (some ⟨b22, 0, none⟩) (l.length + 16) (l.length + 16)) (fb l i) S) (fun (i : Nat) (S : Hp) => [(11, .int .i64 i)]) [(0, _), (1, _), (2, _), (3, _), (8, _), (9, _), (10, _)] (fun (i : Nat) (S : Hp) => S) (fun (i : Nat) (S : Hp) => l.length + 16 - i) 0 S22 ⟨by omega, by rw [fb_zero]; exact hS22⟩ (by repeat (first | exact Sub.nil | refine Sub.cons rfl ?_)) (by repeat (first | exact Sub.nil | refine Sub.cons rfl ?_)) (by exact HSub.of_pick (by first | ((repeat (first | exact .one | exact .here | exact .all | apply Pick.cons | apply Pick.app)); done) | ((repeat (first | exact .one | exact .here | exact .all | apply Pick.cons | apply Pick.assoc | apply Pick.app)); done) | exact Pick.takeA (by repeat (first | exact .one | exact .here | exact .all | apply Pick.cons | apply Pick.assoc | apply Pick.app)) (by repeat (first | exact .one | exact .here | exact .all | apply Pick.cons | apply Pick.assoc | apply Pick.app)))) ?_
  rintro i S ⟨hi0, hS⟩
  have hfl := fb_len hi0
  have hs5 := hS.sl
  rw [hfl] at hs5
  refine c_seq fun _ hK6 => ?_
  refine c_seq fun _ hK7 => ?_
  refine c_region ?_
  refine o_step rfl (s_move rfl) ?_
  refine o_step rfl (s_move rfl) ?_
  refine o_step rfl (s_len rfl) ?_
  refine o_step rfl (s_lss rfl rfl) ?_
  refine o_nil ?_
  refine x_then (hK7 _ _ ?_)
  refine c_if rfl (fun hlt0 => ?_) (fun hlt0 => ?_)
  · skip
    refine c_skip ?_
    refine x_then (hK6 _ _ ?_)
    refine c_seq fun _ hK8 => ?_
    refine c_block ?_
    refine c_seq fun _ hK9 => ?_
    refine c_region ?_
    refine o_step rfl (s_move rfl) ?_
    refine o_step rfl (s_move rfl) ?_
    refine o_step rfl (s_idx rfl rfl hs5 (by omega)) ?_
    refine o_stS1 (i) 165 hS (by first | ((repeat (first | exact .one | exact .here | exact .all | apply Pick.cons | apply Pick.app)); done) | ((repeat (first | exact .one | exact .here | exact .all | apply Pick.cons | apply Pick.assoc | apply Pick.app)); done) | exact Pick.takeA (by repeat (first | exact .one | exact .here | exact .all | apply Pick.cons | apply Pick.assoc | apply Pick.app)) (by repeat (first | exact .one | exact .here | exact .all | apply Pick.cons | apply Pick.assoc | apply Pick.app))) rfl rfl rfl (by omega) (by omega) fun S9 hS9 => ?_
    refine o_nil ?_
    refine x_then (hK9 _ _ ?_)
    refine c_seq fun _ hK10 => ?_
    refine c_region ?_
    refine o_step rfl (s_move rfl) ?_
    refine o_step rfl (s_move rfl) ?_
    refine o_step rfl (s_len rfl) ?_
    refine o_step rfl (s_lss rfl rfl) ?_
    refine o_nil ?_
    refine x_then (hK10 _ _ ?_)
    refine c_if rfl (fun hil => ?_) (fun hil => ?_)
    · skip
      obtain ⟨cl, hcl⟩ : ∃ c, l[i]? = some c := ⟨_, List.getElem?_eq_getElem (by omega)⟩
      refine c_region ?_
      refine o_step rfl (s_move rfl) ?_
      refine o_step rfl (s_move rfl) ?_
      refine o_step rfl (s_move rfl) ?_
      refine o_step rfl (s_move rfl) ?_
      refine o_step rfl (s_idx rfl rfl hsl (by omega)) ?_
      refine o_step rfl (s_ld rfl ((RdK.old0 hw.1).ld i 0 hcl rfl (by decide) (by omega))) ?_
      refine o_step rfl (s_idx rfl rfl hs5 (by omega)) ?_
      refine o_stS1 (i) cl hS9 (by first | ((repeat (first | exact .one | exact .here | exact .all | apply Pick.cons | apply Pick.app)); done) | ((repeat (first | exact .one | exact .here | exact .all | apply Pick.cons | apply Pick.assoc | apply Pick.app)); done) | exact Pick.takeA (by repeat (first | exact .one | exact .here | exact .all | apply Pick.cons | apply Pick.assoc | apply Pick.app)) (by repeat (first | exact .one | exact .here | exact .all | apply Pick.cons | apply Pick.assoc | apply Pick.app))) rfl rfl rfl (by rw [List.length_set]; omega) (by omega) fun S10 hS10 => ?_
      refine o_nil ?_
      refine x_block ?_
      refine x_then (hK8 _ _ ?_)
      refine c_region ?_
      refine o_step rfl (s_move rfl) ?_
      refine o_step rfl (s_add rfl rfl (by omega)) ?_
      refine o_step rfl (s_assign rfl) ?_
      refine o_nil ?_
      exact x_then (x_inv (i + 1, S10) ⟨by omega, by rw [fb_yes hcl]; exact hS10⟩ (by first | omega | (dsimp only; omega)) (by repeat (first | exact Sub.nil | refine Sub.cons rfl ?_)) (by exact HSub.of_pick (by first | ((repeat (first | exact .one | exact .here | exact .all | apply Pick.cons | apply Pick.app)); done) | ((repeat (first | exact .one | exact .here | exact .all | apply Pick.cons | apply Pick.assoc | apply Pick.app)); done) | exact Pick.takeA (by repeat (first | exact .one | exact .here | exact .all | apply Pick.cons | apply Pick.assoc | apply Pick.app)) (by repeat (first | exact .one | exact .here | exact .all | apply Pick.cons | apply Pick.assoc | apply Pick.app)))))
    · skip
      refine c_skip ?_
      refine x_block ?_
      refine x_then (hK8 _ _ ?_)
      refine c_region ?_
      refine o_step rfl (s_move rfl) ?_
      refine o_step rfl (s_add rfl rfl (by omega)) ?_
      refine o_step rfl (s_assign rfl) ?_
      refine o_nil ?_
      exact x_then (x_inv (i + 1, S9) ⟨by omega, by rw [fb_no (by omega) (by omega)]; exact hS9⟩ (by first | omega | (dsimp only; omega)) (by repeat (first | exact Sub.nil | refine Sub.cons rfl ?_)) (by exact HSub.of_pick (by first | ((repeat (first | exact .one | exact .here | exact .all | apply Pick.cons | apply Pick.app)); done) | ((repeat (first | exact .one | exact .here | exact .all | apply Pick.cons | apply Pick.assoc | apply Pick.app)); done) | exact Pick.takeA (by repeat (first | exact .one | exact .here | exact .all | apply Pick.cons | apply Pick.assoc | apply Pick.app)) (by repeat (first | exact .one | exact .here | exact .all | apply Pick.cons | apply Pick.assoc | apply Pick.app)))))
  · skip
    obtain rfl : i = l.length + 16 := by omega
    rw [fb_all] at hS
    have hs5 := hS.sl
    rw [show (l ++ List.replicate 16 (165 : UInt8)).length = l.length + 16 from by simp] at hs5
    have hpre := hS.pre l.length (by omega)
    rw [List.take_left' rfl] at hpre
    refine c_exit ?_
    refine x_then_exit ?_
    refine x_then_exit ?_
    refine x_block_exit ?_
    refine x_then (hK4 _ _ ?_)
    refine c_seq fun _ hK11 => ?_
    refine c_region ?_
    refine o_step rfl (s_move rfl) ?_
    refine o_step rfl (s_move rfl) ?_
    refine o_step rfl (s_len rfl) ?_
    refine o_step rfl (s_slice_hi rfl rfl (by omega)) ?_
    refine o_callP (of_fn (some ⟨b22, 0, none⟩) (l.length + 16) l) rfl rfl rfl (fun w st => (hpre.rdk (by repeat (first | exact HIn.here | exact HIn.all | exact HIn.one | apply HIn.cons | apply HIn.assoc | apply HIn.app))).out w st) (fun v47 hv47 => ?_)
    subst hv47
    refine o_alloc (l := Ec 0#256) (by rw [Ec_zero]; rfl) rfl fun b12 => ?_
    refine o_stW rfl rfl (by repeat (first | exact .here | apply Upd.there | apply Upd.assoc | apply Upd.skip)) (by first | (rw [flat_len, Nat.mul_one]; first | assumption | exact List.length_replicate) | exact List.length_replicate | rfl) (by first | (rw [flat_len, Nat.mul_one]; first | assumption | exact List.length_replicate) | exact List.length_replicate | rfl) (by first | exact Ec_one _ | exact flat_one _ _ | exact one_rep rfl | (simp [Value.oneCell']; done)) ?_
    refine o_nil ?_
    refine x_then (hK11 _ _ ?_)
    refine c_seq fun _ hK12 => ?_
    refine c_seq fun _ hK13 => ?_
    refine c_region ?_
    refine o_step rfl (s_assign rfl) ?_
    refine o_nil ?_
    refine x_then (hK13 _ _ ?_)
    refine c_block ?_
    -- not carried: 8
    refine c_loopB (fun (j : Nat) => j ≤ l.length + 16) (fun (j : Nat) => [(13, .int .i64 j)]) [(0, _), (1, _), (2, _), (3, _), (9, _), (10, _), (12, _)] (fun (j : Nat) => ((b12, .cells (Ec (ofL l)).toArray 24 (0, 0)) :: S)) (fun (j : Nat) => l.length + 16 - j) 0 (by omega) (by repeat (first | exact Sub.nil | refine Sub.cons rfl ?_)) (by repeat (first | exact Sub.nil | refine Sub.cons rfl ?_)) (by repeat (first | exact HSub.refl _ | exact HSub.nil | refine HSub.takeC (by first | ((repeat (first | exact .one | exact .here | exact .all | apply Pick.cons | apply Pick.app)); done) | ((repeat (first | exact .one | exact .here | exact .all | apply Pick.cons | apply Pick.assoc | apply Pick.app)); done) | exact Pick.takeA (by repeat (first | exact .one | exact .here | exact .all | apply Pick.cons | apply Pick.assoc | apply Pick.app)) (by repeat (first | exact .one | exact .here | exact .all | apply Pick.cons | apply Pick.assoc | apply Pick.app))) ?_ | refine HSub.take (by first | ((repeat (first | exact .one | exact .here | exact .all | apply Pick.cons | apply Pick.app)); done) | ((repeat (first | exact .one | exact .here | exact .all | apply Pick.cons | apply Pick.assoc | apply Pick.app)); done) | exact Pick.takeA (by repeat (first | exact .one | exact .here | exact .all | apply Pick.cons | apply Pick.assoc | apply Pick.app)) (by repeat (first | exact .one | exact .here | exact .all | apply Pick.cons | apply Pick.assoc | apply Pick.app))) ?_ | exact HSub.of_pick (by first | ((repeat (first | exact .one | exact .here | exact .all | apply Pick.cons | apply Pick.app)); done) | ((repeat (first | exact .one | exact .here | exact .all | apply Pick.cons | apply Pick.assoc | apply Pick.app)); done) | exact Pick.takeA (by repeat (first | exact .one | exact .here | exact .all | apply Pick.cons | apply Pick.assoc | apply Pick.app)) (by repeat (first | exact .one | exact .here | exact .all | apply Pick.cons | apply Pick.assoc | apply Pick.app))))) ?_
    rintro j hj0
    rcases Nat.lt_or_ge j l.length with hj | hj
    · skip
      obtain ⟨cj, hcj⟩ : ∃ c, l[j]? = some c := ⟨_, List.getElem?_eq_getElem hj⟩
      have hgj : (l ++ List.replicate 16 (165 : UInt8))[j]? = some cj := by rw [List.getElem?_append_left hj]; exact hcj
      refine c_seq fun _ hK14 => ?_
      refine c_seq fun _ hK15 => ?_
      refine c_region ?_
      refine o_step rfl (s_move rfl) ?_
      refine o_step rfl (s_move rfl) ?_
      refine o_step rfl (s_len rfl) ?_
      refine o_step rfl (s_lss rfl rfl) ?_
      refine o_nil ?_
      refine x_then (hK15 _ _ ?_)
      refine c_if rfl (fun hlt5 => ?_) (fun hlt5 => ?_)
      · skip
        refine c_skip ?_
        refine x_then (hK14 _ _ ?_)
        refine c_seq fun _ hK16 => ?_
        refine c_block ?_
        refine c_seq fun _ hK17 => ?_
        refine c_quiet (by kernel_rfl) ?_
        refine .op rfl (s_move rfl) ?_
        refine .op rfl (s_move rfl) ?_
        refine .op rfl (s_len rfl) ?_
        refine .op rfl (s_lss_t rfl rfl (by omega)) ?_
        refine .op rfl (s_move rfl) ?_
        refine .yes rfl rfl rfl (s_move rfl) ?_
        refine .yes rfl rfl rfl (s_move rfl) ?_
        refine .yes rfl rfl rfl (s_idx rfl rfl hs5 (by omega)) ?_
        refine .yes rfl rfl rfl (s_ld rfl ((hS.rdk (by repeat (first | exact HIn.here | exact HIn.all | exact HIn.one | apply HIn.cons | apply HIn.assoc | apply HIn.app))).ld j 0 hgj rfl (by decide) (by omega))) ?_
        refine .yes rfl rfl rfl (s_move rfl) ?_
        refine .yes rfl rfl rfl (s_move rfl) ?_
        refine .yes rfl rfl rfl (s_idx rfl rfl hsl (by omega)) ?_
        refine .yes rfl rfl rfl (s_ld rfl ((RdK.old0 hw.1).ld j 0 hcj rfl (by decide) (by omega))) ?_
        refine .yes rfl rfl rfl (s_neq_f rfl rfl rfl) ?_
        refine .op rfl (s_pick_t rfl rfl) ?_
        refine .op rfl (s_move rfl) ?_
        refine .yes rfl rfl rfl (s_move rfl) ?_
        refine .yes rfl rfl rfl (s_move rfl) ?_
        refine .yes rfl rfl rfl (s_len rfl) ?_
        refine .yes rfl rfl rfl (s_geq_f rfl rfl (by omega)) ?_
        refine .yes rfl rfl rfl (s_move rfl) ?_
        refine .no rfl rfl rfl rfl ?_
        refine .no rfl rfl rfl rfl ?_
        refine .no rfl rfl rfl rfl ?_
        refine .no rfl rfl rfl rfl ?_
        refine .no rfl rfl rfl rfl ?_
        refine .yes rfl rfl rfl (s_pick_f rfl rfl) ?_
        refine .op rfl (s_pick_f rfl rfl) ?_
        refine .nil ?_
        refine x_then (hK17 _ _ ?_)
        refine c_false rfl ?_
        refine c_skip ?_
        refine x_block ?_
        refine x_then (hK16 _ _ ?_)
        refine c_region ?_
        refine o_step rfl (s_move rfl) ?_
        refine o_step rfl (s_add rfl rfl (by omega)) ?_
        refine o_step rfl (s_assign rfl) ?_
        refine o_nil ?_
        exact x_then (x_inv (j + 1) (by omega) (by first | omega | (dsimp only; omega)) (by repeat (first | exact Sub.nil | refine Sub.cons rfl ?_)) (by repeat (first | exact HSub.refl _ | exact HSub.nil | refine HSub.takeC (by first | ((repeat (first | exact .one | exact .here | exact .all | apply Pick.cons | apply Pick.app)); done) | ((repeat (first | exact .one | exact .here | exact .all | apply Pick.cons | apply Pick.assoc | apply Pick.app)); done) | exact Pick.takeA (by repeat (first | exact .one | exact .here | exact .all | apply Pick.cons | apply Pick.assoc | apply Pick.app)) (by repeat (first | exact .one | exact .here | exact .all | apply Pick.cons | apply Pick.assoc | apply Pick.app))) ?_ | refine HSub.take (by first | ((repeat (first | exact .one | exact .here | exact .all | apply Pick.cons | apply Pick.app)); done) | ((repeat (first | exact .one | exact .here | exact .all | apply Pick.cons | apply Pick.assoc | apply Pick.app)); done) | exact Pick.takeA (by repeat (first | exact .one | exact .here | exact .all | apply Pick.cons | apply Pick.assoc | apply Pick.app)) (by repeat (first | exact .one | exact .here | exact .all | apply Pick.cons | apply Pick.assoc | apply Pick.app))) ?_ | exact HSub.of_pick (by first | ((repeat (first | exact .one | exact .here | exact .all | apply Pick.cons | apply Pick.app)); done) | ((repeat (first | exact .one | exact .here | exact .all | apply Pick.cons | apply Pick.assoc | apply Pick.app)); done) | exact Pick.takeA (by repeat (first | exact .one | exact .here | exact .all | apply Pick.cons | apply Pick.assoc | apply Pick.app)) (by repeat (first | exact .one | exact .here | exact .all | apply Pick.cons | apply Pick.assoc | apply Pick.app))))))
      · skip
        exact (hlt5 (by omega)).elim
    · skip
      refine c_seq fun _ hK18 => ?_
      refine c_seq fun _ hK19 => ?_
      refine c_region ?_
      refine o_step rfl (s_move rfl) ?_
      refine o_step rfl (s_move rfl) ?_
      refine o_step rfl (s_len rfl) ?_
      refine o_step rfl (s_lss rfl rfl) ?_
      refine o_nil ?_
      refine x_then (hK19 _ _ ?_)
      refine c_if rfl (fun hlt5 => ?_) (fun hlt5 => ?_)
      · skip
        have hgj : (l ++ List.replicate 16 (165 : UInt8))[j]? = some 165 := by rw [List.getElem?_append_right hj, List.getElem?_replicate, if_pos (by omega)]
        refine c_skip ?_
        refine x_then (hK18 _ _ ?_)
        refine c_seq fun _ hK20 => ?_
        refine c_block ?_
        refine c_seq fun _ hK21 => ?_
        refine c_quiet (by kernel_rfl) ?_
        refine .op rfl (s_move rfl) ?_
        refine .op rfl (s_move rfl) ?_
        refine .op rfl (s_len rfl) ?_
        refine .op rfl (s_lss_f rfl rfl (by omega)) ?_
        refine .op rfl (s_move rfl) ?_
        refine .no rfl rfl rfl rfl ?_
        refine .no rfl rfl rfl rfl ?_
        refine .no rfl rfl rfl rfl ?_
        refine .no rfl rfl rfl rfl ?_
        refine .no rfl rfl rfl rfl ?_
        refine .no rfl rfl rfl rfl ?_
        refine .no rfl rfl rfl rfl ?_
        refine .no rfl rfl rfl rfl ?_
        refine .no rfl rfl rfl rfl ?_
        refine .op rfl (s_pick_f rfl rfl) ?_
        refine .op rfl (s_move rfl) ?_
        refine .yes rfl rfl rfl (s_move rfl) ?_
        refine .yes rfl rfl rfl (s_move rfl) ?_
        refine .yes rfl rfl rfl (s_len rfl) ?_
        refine .yes rfl rfl rfl (s_geq_t rfl rfl (by omega)) ?_
        refine .yes rfl rfl rfl (s_move rfl) ?_
        refine .yes rfl rfl rfl (s_move rfl) ?_
        refine .yes rfl rfl rfl (s_move rfl) ?_
        refine .yes rfl rfl rfl (s_idx rfl rfl hs5 (by omega)) ?_
        refine .yes rfl rfl rfl (s_ld rfl ((hS.rdk (by repeat (first | exact HIn.here | exact HIn.all | exact HIn.one | apply HIn.cons | apply HIn.assoc | apply HIn.app))).ld j 0 hgj rfl (by decide) (by omega))) ?_
        refine .yes rfl rfl rfl (s_neq_f rfl rfl rfl) ?_
        refine .yes rfl rfl rfl (s_pick_t rfl rfl) ?_
        refine .op rfl (s_pick_f rfl rfl) ?_
        refine .nil ?_
        refine x_then (hK21 _ _ ?_)
        refine c_false rfl ?_
        refine c_skip ?_
        refine x_block ?_
        refine x_then (hK20 _ _ ?_)
        refine c_region ?_
        refine o_step rfl (s_move rfl) ?_
        refine o_step rfl (s_add rfl rfl (by omega)) ?_
        refine o_step rfl (s_assign rfl) ?_
        refine o_nil ?_
        exact x_then (x_inv (j + 1) (by omega) (by first | omega | (dsimp only; omega)) (by repeat (first | exact Sub.nil | refine Sub.cons rfl ?_)) (by repeat (first | exact HSub.refl _ | exact HSub.nil | refine HSub.takeC (by first | ((repeat (first | exact .one | exact .here | exact .all | apply Pick.cons | apply Pick.app)); done) | ((repeat (first | exact .one | exact .here | exact .all | apply Pick.cons | apply Pick.assoc | apply Pick.app)); done) | exact Pick.takeA (by repeat (first | exact .one | exact .here | exact .all | apply Pick.cons | apply Pick.assoc | apply Pick.app)) (by repeat (first | exact .one | exact .here | exact .all | apply Pick.cons | apply Pick.assoc | apply Pick.app))) ?_ | refine HSub.take (by first | ((repeat (first | exact .one | exact .here | exact .all | apply Pick.cons | apply Pick.app)); done) | ((repeat (first | exact .one | exact .here | exact .all | apply Pick.cons | apply Pick.assoc | apply Pick.app)); done) | exact Pick.takeA (by repeat (first | exact .one | exact .here | exact .all | apply Pick.cons | apply Pick.assoc | apply Pick.app)) (by repeat (first | exact .one | exact .here | exact .all | apply Pick.cons | apply Pick.assoc | apply Pick.app))) ?_ | exact HSub.of_pick (by first | ((repeat (first | exact .one | exact .here | exact .all | apply Pick.cons | apply Pick.app)); done) | ((repeat (first | exact .one | exact .here | exact .all | apply Pick.cons | apply Pick.assoc | apply Pick.app)); done) | exact Pick.takeA (by repeat (first | exact .one | exact .here | exact .all | apply Pick.cons | apply Pick.assoc | apply Pick.app)) (by repeat (first | exact .one | exact .here | exact .all | apply Pick.cons | apply Pick.assoc | apply Pick.app))))))
      · skip
        refine c_exit ?_
        refine x_then_exit ?_
        refine x_then_exit ?_
        refine x_block_exit ?_
        refine x_then (hK12 _ _ ?_)
        refine c_seq fun _ hK22 => ?_
        refine c_region ?_
        refine o_step rfl (s_move rfl) ?_
        refine o_callP (named_fn s) rfl rfl rfl (fun _ _ => trivial) (fun v84 hv84 => ?_)
        subst hv84
        unfold nmV
        refine o_step rfl (s_move rfl) ?_
        refine o_step rfl (s_extract rfl rfl) ?_
        refine o_step rfl (s_extract rfl rfl) ?_
        refine o_alloc (l := Ec 0#256) (by rw [Ec_zero]; rfl) rfl fun b14 => ?_
        refine o_stW rfl rfl (by repeat (first | exact .here | apply Upd.there | apply Upd.assoc | apply Upd.skip)) (by first | (rw [flat_len, Nat.mul_one]; first | assumption | exact List.length_replicate) | exact List.length_replicate | rfl) (by first | (rw [flat_len, Nat.mul_one]; first | assumption | exact List.length_replicate) | exact List.length_replicate | rfl) (by first | exact Ec_one _ | exact flat_one _ _ | exact one_rep rfl | (simp [Value.oneCell']; done)) ?_
        refine o_step rfl (s_assign rfl) ?_
        refine o_nil ?_
        refine x_then (hK22 _ _ ?_)
        refine c_seq fun _ hK23 => ?_
        refine c_region ?_
        refine o_step rfl (s_move rfl) ?_
        refine o_callP (rNamed_fn s) rfl rfl rfl (fun _ _ => trivial) (fun v89 hv89 => ?_)
        subst hv89
        unfold nmV
        refine o_step rfl (s_move rfl) ?_
        refine o_step rfl (s_extract rfl rfl) ?_
        refine o_step rfl (s_extract rfl rfl) ?_
        refine o_alloc (l := Ec 0#256) (by rw [Ec_zero]; rfl) rfl fun b16 => ?_
        refine o_stW rfl rfl (by repeat (first | exact .here | apply Upd.there | apply Upd.assoc | apply Upd.skip)) (by first | (rw [flat_len, Nat.mul_one]; first | assumption | exact List.length_replicate) | exact List.length_replicate | rfl) (by first | (rw [flat_len, Nat.mul_one]; first | assumption | exact List.length_replicate) | exact List.length_replicate | rfl) (by first | exact Ec_one _ | exact flat_one _ _ | exact one_rep rfl | (simp [Value.oneCell']; done)) ?_
        refine o_step rfl (s_assign rfl) ?_
        refine o_nil ?_
        refine x_then (hK23 _ _ ?_)
        refine c_seq fun _ hK24 => ?_
        refine c_quiet (by kernel_rfl) ?_
        refine .op rfl (s_move rfl) ?_
        refine .op rfl (s_move rfl) ?_
        refine .yes rfl rfl rfl (s_ldB rfl (RdPK.cels (.own (by repeat (first | exact List.mem_cons_self | apply List.mem_cons_of_mem | apply mem_assoc | apply mem_app)))) (by first | (rw [flat_len, Nat.mul_one]; first | assumption | exact List.length_replicate) | exact List.length_replicate | rfl)) ?_
        refine .yes rfl rfl rfl (s_move rfl) ?_
        refine .call (fun _ fr => by rw [wanted_of fr rfl rfl rfl]; rfl) rfl rfl rfl (rOf_fn a n l) (fun w st => (RdK.old0 hw.1).out w st) ?_
        refine .yes rfl rfl rfl (step_cast (v' := .bool true) (s_eql_cl rfl rfl) (congrArg Value.bool (decide_eq_true rfl))) ?_
        refine .op rfl (s_pick_t rfl rfl) ?_
        refine .op rfl (s_move rfl) ?_
        refine .yes rfl rfl rfl (s_move rfl) ?_
        refine .yes rfl rfl rfl (s_move rfl) ?_
        refine .call (fun _ fr => by rw [wanted_of fr rfl rfl rfl]; rfl) rfl rfl rfl (range_fn lo hi hlo hhi) (fun _ _ => trivial) ?_
        refine .yes rfl rfl rfl (s_move rfl) ?_
        refine .yes rfl rfl rfl (s_move rfl) ?_
        refine .call (fun _ fr => by rw [wanted_of fr rfl rfl rfl]; rfl) rfl rfl rfl (rRange_fn lo hi hlo hhi) (fun _ _ => trivial) ?_
        refine .yes rfl rfl rfl (step_cast (v' := .bool true) (s_eql_cl rfl rfl) (congrArg Value.bool (decide_eq_true rfl))) ?_
        refine .op rfl (s_pick_t rfl rfl) ?_
        refine .op rfl (s_move rfl) ?_
        refine .yes rfl rfl rfl (s_ldB rfl (RdPK.cels (.own (by repeat (first | exact List.mem_cons_self | apply List.mem_cons_of_mem | apply mem_assoc | apply mem_app)))) (by first | (rw [flat_len, Nat.mul_one]; first | assumption | exact List.length_replicate) | exact List.length_replicate | rfl)) ?_
        refine .yes rfl rfl rfl (s_ldB rfl (RdPK.cels (.own (by repeat (first | exact List.mem_cons_self | apply List.mem_cons_of_mem | apply mem_assoc | apply mem_app)))) (by first | (rw [flat_len, Nat.mul_one]; first | assumption | exact List.length_replicate) | exact List.length_replicate | rfl)) ?_
        refine .yes rfl rfl rfl (step_cast (v' := .bool true) (s_eql_cl rfl rfl) (congrArg Value.bool (decide_eq_true rfl))) ?_
        refine .op rfl (s_pick_t rfl rfl) ?_
        refine .op rfl (s_move rfl) ?_
        refine .yes rfl rfl rfl (s_move rfl) ?_
        refine .yes rfl rfl rfl (s_move rfl) ?_
        refine .yes rfl rfl rfl (step_cast (v' := .bool true) (s_eql_bool rfl rfl) (congrArg Value.bool (decide_eq_true rfl))) ?_
        refine .op rfl (s_pick_t rfl rfl) ?_
        refine .op rfl (s_assign rfl) ?_
        refine .nil ?_
        refine x_then (hK24 _ _ ?_)
        refine c_ret ?_
        refine ?_
        exact x_ret rfl (.tmp rfl (.nil)) (rfl)
end Go.Proofs.YtnjjkkncoijmmaaDoor
