/- Part of the proofs over this seat: see the text that holds the theorem. Conditions: each theorem bears its own. -/
import Derived.Test.YtmpeokbongnniaaHTZ
import Derived.Test.YtmpeokbongnniaaYZN5Z
import Derived.Test.YtmpeokbongnniaaMT8Z
namespace Go.Proofs.Ytmpeokbongnniaa
open Go Go.HL Go.Proofs Go.HL.Kl Go.HL.Kl.Mc
theorem put_fn (t : In) (bm : Nat) (ma : Option Addr) (mc : Nat) (m : List In) (Sm : Hp) (hO : OwnS Ein 7 109 (.slice ma m.length mc) m Sm) (hm : m.length ≤ 70000) : HL.Fn Try.prog 51 [.agg (Ein t).toArray, .pointer (some ⟨bm, 0, none⟩)] (fun _ => True) ((bm, .cells [.slice ma m.length mc].toArray 89 (0, 0)) :: Sm) (fun v S' => v = .int .i64 m.length ∧ ∃ ma' mc' Sm', S' = (bm, .cells [.slice ma' (m ++ [t]).length mc'].toArray 89 (0, 0)) :: Sm' ∧ OwnS Ein 7 109 (.slice ma' (m ++ [t]).length mc') (m ++ [t]) Sm') := by
  refine fn_of Try.func51 rfl rfl rfl fun w0 hw => ?_
  refine c_seq fun _ hK1 => ?_
  refine c_region ?_
  refine o_box rfl rfl rfl fun b2 => ?_
  refine o_step rfl (s_assign rfl) ?_
  refine o_nil ?_
  refine x_then (hK1 _ _ ?_)
  refine c_seq fun _ hK2 => ?_
  refine c_region ?_
  refine o_step rfl (s_ld rfl (.own meA rfl)) ?_
  refine o_step rfl (s_ldB rfl (RdPK.cels (.own meA)) (by rfl)) ?_
  refine o_bs (E := Ein) (xs := [t]) (vs := [_]) rfl rfl rfl rfl rfl (by decide) (by decide) fun b6 S6 hS6 => ?_
  refine o_app hO (hS6.rdk hiA) rfl rfl rfl rfl (by simp only [List.length_singleton]; omega) (by simp only [List.length_singleton]; omega) rfl pkA fun a7 c7 S7 hS7 => ?_
  have hl7 : (m ++ [t]).length = m.length + 1 := by simp
  refine o_store rfl rfl rfl upA ltA rfl ?_
  refine o_nil ?_
  refine x_then (hK2 _ _ ?_)
  refine c_seq fun _ hK3 => ?_
  refine c_region ?_
  refine o_step rfl (s_ld rfl (.own meA rfl)) ?_
  refine o_step rfl (s_len rfl) ?_
  refine o_step rfl (step_cast (v' := .int .i64 m.length) (s_sub rfl rfl (by omega)) (by rw [hl7]; congr 1; omega)) ?_
  refine o_step rfl (s_assign rfl) ?_
  refine o_nil ?_
  refine x_then (hK3 _ _ ?_)
  refine c_ret ?_
  refine ?_
  refine x_sub (Sub.refl _) (H' := (bm, .cells [.slice a7 (m ++ [t]).length c7].toArray 89 (0, 0)) :: S7) hzB ?_
  exact x_ret rfl (.tmp rfl (.nil)) (⟨rfl, _, _, _, rfl, hS7⟩)

/-- the contract of one round: it writes c behind what there is -/
def OneC (P : Program) (bm bat bnode : Nat) (i : Nat) (ra : Option Addr) (rc : Nat) (re : List Nd) (E : Hp) (c : Nat → List In) (L : Nat) : Prop := ∀ (ma : Option Addr) (mc : Nat) (m : List In) (Sm : Hp), OwnS Ein 7 109 (.slice ma m.length mc) m Sm → m.length + L ≤ 70000 →
  HL.Fn P 54 [.pointer (some ⟨bnode, 0, none⟩), .pointer (some ⟨bat, 0, none⟩)] (fun w => Rd En w (.slice ra re.length rc) re ∧ Apart (keys ((bat, .cells [.int .i64 i].toArray 3 (0, 0)) :: (bm, .cells [.slice ma m.length mc].toArray 89 (0, 0)) :: (Sm ++ E))) (.slice ra re.length rc)) ((bat, .cells [.int .i64 i].toArray 3 (0, 0)) :: (bm, .cells [.slice ma m.length mc].toArray 89 (0, 0)) :: (Sm ++ E)) (fun _ S' => ∃ ma' mc' Sm', S' = ((bat, .cells [.int .i64 i].toArray 3 (0, 0)) :: (bm, .cells [.slice ma' (m ++ c m.length).length mc'].toArray 89 (0, 0)) :: (Sm' ++ E)) ∧ OwnS Ein 7 109 (.slice ma' (m ++ c m.length).length mc') (m ++ c m.length) Sm')

set_option maxHeartbeats 2000000 in
theorem rounds_fn (x : Nd) (hok : ndOk x = true) (h6 : x.op = 6) (c : Nat → List In) (L : Nat) (hcl : ∀ b, (c b).length = L) (bm bat bnode i : Nat) (ra : Option Addr) (rc : Nat) (re : List Nd) (E : Hp) (hone : OneC Try.prog bm bat bnode i ra rc re E c L) (ma : Option Addr) (mc : Nat) (m : List In) (Sm : Hp) (hO : OwnS Ein 7 109 (.slice ma m.length mc) m Sm) (hlen : m.length + (x.mn.toNat * L + (if x.mx = -1 then L + 2 else (x.mx - x.mn).toNat * (L + 1))) ≤ 70000) : HL.Fn Try.prog 53 [.pointer (some ⟨bm, 0, none⟩), .agg (En x).toArray, .func (.func 54) [].toArray [.pointer (some ⟨bnode, 0, none⟩), .pointer (some ⟨bat, 0, none⟩)].toArray] (fun w => Rd En w (.slice ra re.length rc) re ∧ Apart (keys ((bat, .cells [.int .i64 i].toArray 3 (0, 0)) :: (bm, .cells [.slice ma m.length mc].toArray 89 (0, 0)) :: (Sm ++ E))) (.slice ra re.length rc)) ((bat, .cells [.int .i64 i].toArray 3 (0, 0)) :: (bm, .cells [.slice ma m.length mc].toArray 89 (0, 0)) :: (Sm ++ E)) (fun _ S' => ∃ ma' mc' Sm', S' = ((bat, .cells [.int .i64 i].toArray 3 (0, 0)) :: (bm, .cells [.slice ma' (m ++ repC x c L m.length).length mc'].toArray 89 (0, 0)) :: (Sm' ++ E)) ∧ OwnS Ein 7 109 (.slice ma' (m ++ repC x c L m.length).length mc') (m ++ repC x c L m.length) Sm') := by
  refine fn_of Try.func53 rfl rfl rfl fun w0 hw => ?_
  have hrf := rep_flds hok h6
  have hcp := fun k => copies_len hcl k m.length
  refine c_seq fun _ hK1 => ?_
  refine c_region ?_
  refine o_box rfl rfl rfl fun b4 => ?_
  refine o_nil ?_
  refine x_then (hK1 _ _ ?_)
  refine c_seq fun _ hK2 => ?_
  refine c_seq fun _ hK3 => ?_
  refine c_region ?_
  refine o_step rfl (s_field rfl rfl (by decide)) ?_
  refine o_step rfl (s_ld rfl (.own meA rfl)) ?_
  refine o_step rfl (s_move rfl) ?_
  refine o_nil ?_
  refine x_then (hK3 _ _ ?_)
  refine c_block ?_
  refine c_loop5 (fun (k : Nat) (m1 : List In) (ma1 : Option Addr) (mc1 : Nat) (Sm1 : Hp) => k ≤ x.mn.toNat ∧ m1 = m ++ copies c L k m.length ∧ OwnS Ein 7 109 (.slice ma1 m1.length mc1) m1 Sm1) (fun (k : Nat) (m1 : List In) (ma1 : Option Addr) (mc1 : Nat) (Sm1 : Hp) => [(12, .int .i64 k)]) [(0, _), (2, _), (4, _), (11, _)] (fun (k : Nat) (m1 : List In) (ma1 : Option Addr) (mc1 : Nat) (Sm1 : Hp) => (bat, .cells [.int .i64 i].toArray 3 (0, 0)) :: (bm, .cells [.slice ma1 m1.length mc1].toArray 89 (0, 0)) :: (Sm1 ++ (E ++ [(b4, .cells (En x).toArray 85 (0, 0))]))) (fun (k : Nat) (m1 : List In) (ma1 : Option Addr) (mc1 : Nat) (Sm1 : Hp) => x.mn.toNat - k) 0 m ma mc Sm ⟨by omega, by simp [copies], hO⟩ sbA sbA hzB ?_
  rintro k m1 ma1 mc1 Sm1 ⟨hk, hm1, hO1⟩
  have hl1 : m1.length = m.length + k * L := by rw [hm1, List.length_append, hcp]
  refine c_seq fun _ hK4 => ?_
  refine c_region ?_
  by_cases hkl : (k : Int) < x.mn
  ·
   have hmul : (k + 1) * L ≤ x.mn.toNat * L := Nat.mul_le_mul_right _ (by omega)
   rw [Nat.succ_mul] at hmul
   refine o_step rfl (step_cast (v' := .bool true) (s_lss rfl rfl) (by rw [decide_eq_true (by omega)])) ?_
   refine o_nil ?_
   refine x_then (hK4 _ _ ?_)
   refine c_seq fun _ hK5 => ?_
   refine c_true rfl ?_
   refine c_skip ?_
   refine x_then (hK5 _ _ ?_)
   refine c_seq fun _ hK6 => ?_
   refine c_block ?_
   refine c_region ?_
   refine o_step rfl (s_move rfl) ?_
   refine o_callC (us := []) (vs := []) (cs := [.pointer (some ⟨bnode, 0, none⟩), .pointer (some ⟨bat, 0, none⟩)]) (hone ma1 mc1 m1 Sm1 hO1 (by omega)) rfl rfl rfl ((Pick.takeC pkA (Pick.takeC pkA (Pick.takeA pkA pkA)))) (fun w st => ⟨(RdK.old hw.1 hw.2).out w st, St.apart_M st (by exact hiB) hw.1 hw.2 (by decide)⟩) (fun v15 S15 ⟨a15, c15, Sn15, hv15, hn15⟩ => ?_)
   subst hv15
   refine o_nil ?_
   refine x_block ?_
   refine x_then (hK6 _ _ ?_)
   refine c_region ?_
   refine o_step rfl (s_add rfl rfl (by omega)) ?_
   refine o_step rfl (s_move rfl) ?_
   refine o_nil ?_
   exact x_then (x_inv (k + 1, m1 ++ c m1.length, a15, c15, Sn15) ⟨by omega, by rw [hm1, copies_snoc, List.append_assoc, List.length_append, hcp], hn15⟩ (by first | omega | (dsimp only; omega)) sbA hzB)
  ·
   obtain rfl : k = x.mn.toNat := by omega
   refine o_step rfl (step_cast (v' := .bool false) (s_lss rfl rfl) (by rw [decide_eq_false (by omega)])) ?_
   refine o_nil ?_
   refine x_then (hK4 _ _ ?_)
   refine c_seq fun _ hK7 => ?_
   refine c_false rfl ?_
   refine c_exit ?_
   refine x_then_exit ?_
   refine x_then_exit ?_
   refine x_block_exit ?_
   refine x_then (hK2 _ _ ?_)
   refine c_seq fun _ hK8 => ?_
   refine c_seq fun _ hK9 => ?_
   refine c_region ?_
   refine o_step rfl (s_field rfl rfl (by decide)) ?_
   refine o_step rfl (s_ld rfl (.own meA rfl)) ?_
   by_cases hmx : x.mx < 0
   ·
    have hmx1 : x.mx = -1 := by omega
    rw [if_pos hmx1] at hlen
    refine o_step rfl (step_cast (v' := .bool true) (s_lss rfl rfl) (by rw [decide_eq_true (by omega)])) ?_
    refine o_nil ?_
    refine x_then (hK9 _ _ ?_)
    refine c_true rfl ?_
    refine c_seq fun _ hK10 => ?_
    refine c_region ?_
    refine o_step rfl (s_move rfl) ?_
    refine o_step rfl (s_nil rfl) ?_
    refine o_step rfl (s_ld rfl (.own meA rfl)) ?_
    refine o_step rfl (s_len rfl) ?_
    refine o_step rfl (s_assign rfl) ?_
    refine o_nil ?_
    refine x_then (hK10 _ _ ?_)
    refine c_seq fun _ hK11 => ?_
    refine c_region ?_
    refine o_step rfl (s_move rfl) ?_
    refine o_step rfl (s_move rfl) ?_
    refine o_step rfl (s_nil rfl) ?_
    refine o_step rfl (s_ld rfl (.own meA rfl)) ?_
    refine o_step rfl (s_move rfl) ?_
    refine o_step rfl (s_add rfl rfl (by omega)) ?_
    refine o_step rfl (step_cast (v' := .agg (Ein (⟨5, 0, (m1.length + 1 : Nat), 0⟩ : In)).toArray) (s_build (cs := [_, _, _, _, _, _, _]) (vs := [_, _]) rfl rfl (.cons rfl rfl rfl rfl rfl (.cons rfl rfl rfl rfl rfl .nil))) (by rw [Ein_zero]; try rfl)) ?_
    refine o_bs (E := Ein) (xs := [⟨5, 0, (m1.length + 1 : Nat), 0⟩]) (vs := [_]) rfl rfl rfl rfl rfl (by decide) (by decide) fun b31 S31 hS31 => ?_
    refine o_app hO1 (hS31.rdk hiA) rfl rfl rfl rfl (by simp only [List.length_singleton]; omega) (by simp only [List.length_singleton]; omega) rfl pkA fun a32 c32 S32 hS32 => ?_
    have hl32 : (m1 ++ [(⟨5, 0, (m1.length + 1 : Nat), 0⟩ : In)]).length = m1.length + 1 := by simp
    refine o_step rfl (s_nil rfl) ?_
    refine o_store rfl rfl rfl upA ltA rfl ?_
    refine o_nil ?_
    refine x_then (hK11 _ _ ?_)
    refine c_seq fun _ hK12 => ?_
    refine c_region ?_
    refine o_step rfl (s_move rfl) ?_
    refine o_callC (us := []) (vs := []) (cs := [.pointer (some ⟨bnode, 0, none⟩), .pointer (some ⟨bat, 0, none⟩)]) (hone a32 c32 (m1 ++ [(⟨5, 0, (m1.length + 1 : Nat), 0⟩ : In)]) S32 hS32 (by omega)) rfl rfl rfl ((Pick.takeC pkA (Pick.takeC pkA (Pick.takeA pkA pkA)))) (fun w st => ⟨(RdK.old hw.1 hw.2).out w st, St.apart_M st (by exact hiB) hw.1 hw.2 (by decide)⟩) (fun v35 S35 ⟨a35, c35, Sn35, hv35, hn35⟩ => ?_)
    subst hv35
    have hl35 : ((m1 ++ [(⟨5, 0, (m1.length + 1 : Nat), 0⟩ : In)]) ++ c (m1 ++ [(⟨5, 0, (m1.length + 1 : Nat), 0⟩ : In)]).length).length = m1.length + 1 + L := by rw [List.length_append, hcl, hl32]
    refine o_nil ?_
    refine x_then (hK12 _ _ ?_)
    refine c_seq fun _ hK13 => ?_
    refine c_region ?_
    refine o_step rfl (s_move rfl) ?_
    refine o_step rfl (s_move rfl) ?_
    refine o_step rfl (s_nil rfl) ?_
    refine o_step rfl (s_ld rfl (.own meA rfl)) ?_
    refine o_step rfl (s_move rfl) ?_
    refine o_step rfl (step_cast (v' := .agg (Ein (⟨4, 0, (m1.length : Nat), 0⟩ : In)).toArray) (s_build (cs := [_, _, _, _, _, _, _]) (vs := [_, _]) rfl rfl (.cons rfl rfl rfl rfl rfl (.cons rfl rfl rfl rfl rfl .nil))) (by rw [Ein_zero]; try rfl)) ?_
    refine o_bs (E := Ein) (xs := [⟨4, 0, (m1.length : Nat), 0⟩]) (vs := [_]) rfl rfl rfl rfl rfl (by decide) (by decide) fun b42 S42 hS42 => ?_
    refine o_app hn35 (hS42.rdk hiA) rfl rfl rfl rfl (by simp only [List.length_singleton]; omega) (by simp only [List.length_singleton]; omega) rfl pkA fun a43 c43 S43 hS43 => ?_
    have hl43 : (((m1 ++ [(⟨5, 0, (m1.length + 1 : Nat), 0⟩ : In)]) ++ c (m1 ++ [(⟨5, 0, (m1.length + 1 : Nat), 0⟩ : In)]).length) ++ [(⟨4, 0, (m1.length : Nat), 0⟩ : In)]).length = m1.length + 1 + L + 1 := by rw [List.length_append, hl35]; rfl
    have hS43s := hS43.sl
    have hT3 : (((m1 ++ [(⟨5, 0, (m1.length + 1 : Nat), 0⟩ : In)]) ++ c (m1 ++ [(⟨5, 0, (m1.length + 1 : Nat), 0⟩ : In)]).length) ++ [(⟨4, 0, (m1.length : Nat), 0⟩ : In)]) = m1 ++ ((⟨5, 0, (m1.length + 1 : Nat), 0⟩ : In) :: (c (m1 ++ [(⟨5, 0, (m1.length + 1 : Nat), 0⟩ : In)]).length ++ [(⟨4, 0, (m1.length : Nat), 0⟩ : In)])) := by simp
    refine o_step rfl (s_nil rfl) ?_
    refine o_store rfl rfl rfl upA ltA rfl ?_
    refine o_nil ?_
    refine x_then (hK13 _ _ ?_)
    refine c_seq fun _ hK14 => ?_
    refine c_drawE ([(bm, .cells [.slice a43 (((m1 ++ [(⟨5, 0, (m1.length + 1 : Nat), 0⟩ : In)]) ++ c (m1 ++ [(⟨5, 0, (m1.length + 1 : Nat), 0⟩ : In)]).length) ++ [(⟨4, 0, (m1.length : Nat), 0⟩ : In)]).length c43].toArray 89 (0, 0))]) (fun i => Nat.beq i 10) ?_
    refine e_tk 0 rfl hzB (s_move rfl) ?_
    refine e_tk 1 rfl hzB (s_nil rfl) ?_
    refine e_tk 2 rfl hzB (s_ld rfl (.own meA rfl)) ?_
    refine e_tk 3 rfl hzB (s_move rfl) ?_
    refine e_tk 4 rfl hzB (s_move rfl) ?_
    refine e_tk 5 rfl hzB (s_nil rfl) ?_
    refine e_tk 6 rfl hzB (s_ld rfl (.own meA rfl)) ?_
    refine e_tk 7 rfl hzB (s_len rfl) ?_
    refine e_one 8 rfl (by kernel_rfl) ?_
    refine o_step rfl (s_idx rfl rfl hS43s (by omega)) ?_
    refine o_nil ?_
    refine x_oneS hzB ?_
    refine e_one 9 rfl (by kernel_rfl) ?_
    refine o_step rfl (s_field rfl rfl (by decide)) ?_
    refine o_nil ?_
    refine x_oneS hzB ?_
    refine e_one 10 rfl (by kernel_rfl) ?_
    refine o_stS (i := m1.length) (off := 6) (cs := [.int .i64 ((((m1 ++ [(⟨5, 0, (m1.length + 1 : Nat), 0⟩ : In)]) ++ c (m1 ++ [(⟨5, 0, (m1.length + 1 : Nat), 0⟩ : In)]).length) ++ [(⟨4, 0, (m1.length : Nat), 0⟩ : In)]).length : Nat)]) ⟨5, 0, (m1.length + 1 : Nat), ((((m1 ++ [(⟨5, 0, (m1.length + 1 : Nat), 0⟩ : In)]) ++ c (m1 ++ [(⟨5, 0, (m1.length + 1 : Nat), 0⟩ : In)]).length) ++ [(⟨4, 0, (m1.length : Nat), 0⟩ : In)]).length : Nat)⟩ hS43 pkA rfl rfl rfl rfl (by rw [hl43]; omega) (by first | rfl | (rw [Int.toNat_natCast]; first | done | rfl)) (by simp) (fun e he => by rw [hT3, get_mid rfl] at he; cases he; rfl) (by simp [Value.oneCell']) fun S' hS' => ?_
    refine o_nil ?_
    refine x_oneL rfl ?_
    refine e_done (by kernel_rfl) ?_
    refine x_then (hK14 _ _ ?_)
    refine c_ret ?_
    refine x_then_ret (?_)
    have hfin : (((m1 ++ [(⟨5, 0, (m1.length + 1 : Nat), 0⟩ : In)]) ++ c (m1 ++ [(⟨5, 0, (m1.length + 1 : Nat), 0⟩ : In)]).length) ++ [(⟨4, 0, (m1.length : Nat), 0⟩ : In)]).set m1.length ⟨5, 0, (m1.length + 1 : Nat), ((((m1 ++ [(⟨5, 0, (m1.length + 1 : Nat), 0⟩ : In)]) ++ c (m1 ++ [(⟨5, 0, (m1.length + 1 : Nat), 0⟩ : In)]).length) ++ [(⟨4, 0, (m1.length : Nat), 0⟩ : In)]).length : Nat)⟩ = m ++ repC x c L m.length := by rw [← star_fin hcl hmx1 hm1, hl43, show m1.length + 1 + L + 1 = m1.length + L + 2 by omega, hT3, set_mid rfl, hl32]
    rw [hfin] at hS'
    have hfl : (((m1 ++ [(⟨5, 0, (m1.length + 1 : Nat), 0⟩ : In)]) ++ c (m1 ++ [(⟨5, 0, (m1.length + 1 : Nat), 0⟩ : In)]).length) ++ [(⟨4, 0, (m1.length : Nat), 0⟩ : In)]).length = (m ++ repC x c L m.length).length := by rw [← hfin, List.length_set]
    rw [hfl] at hS'
    refine x_sub (Sub.refl _) (H' := ((bat, .cells [.int .i64 i].toArray 3 (0, 0)) :: (bm, .cells [.slice a43 (m ++ repC x c L m.length).length c43].toArray 89 (0, 0)) :: (S' ++ E))) (by rw [← hfl]; exact hzB) ?_
    exact x_ret rfl (.nil) (⟨_, _, _, rfl, hS'⟩)
   ·
    have hmx1 : ¬ x.mx = -1 := by omega
    rw [if_neg hmx1] at hlen
    refine o_step rfl (step_cast (v' := .bool false) (s_lss rfl rfl) (by rw [decide_eq_false (by omega)])) ?_
    refine o_nil ?_
    refine x_then (hK9 _ _ ?_)
    refine c_false rfl ?_
    refine c_skip ?_
    refine x_then (hK8 _ _ ?_)
    refine c_seq fun _ hK15 => ?_
    refine c_region ?_
    refine o_step rfl (s_assign rfl) ?_
    refine o_nil ?_
    refine x_then (hK15 _ _ ?_)
    refine c_seq fun _ hK16 => ?_
    refine c_seq fun _ hK17 => ?_
    refine c_region ?_
    refine o_step rfl (s_field rfl rfl (by decide)) ?_
    refine o_step rfl (s_ld rfl (.own meA rfl)) ?_
    refine o_step rfl (s_field rfl rfl (by decide)) ?_
    refine o_step rfl (s_ld rfl (.own meA rfl)) ?_
    refine o_step rfl (s_sub rfl rfl (by omega)) ?_
    refine o_step rfl (s_move rfl) ?_
    refine o_nil ?_
    refine x_then (hK17 _ _ ?_)
    refine c_block ?_
    refine c_loop7 (fun (k : Nat) (m2 : List In) (ma2 : Option Addr) (mc2 : Nat) (Sm2 : Hp) (sp : Sl Nat) (Sp : Hp) => k ≤ (x.mx - x.mn).toNat ∧ m2 = m1 ++ opts c L 0 k m1.length ∧ OwnS Ein 7 109 (.slice ma2 m2.length mc2) m2 Sm2 ∧ sp.xs = (List.range k).map (fun j => m1.length + j * (L + 1)) ∧ OwnS Eix 1 3 (.slice sp.a sp.xs.length sp.c) sp.xs Sp) (fun (k : Nat) (m2 : List In) (ma2 : Option Addr) (mc2 : Nat) (Sm2 : Hp) (sp : Sl Nat) (Sp : Hp) => [(60, .int .i64 k), (7, .slice sp.a sp.xs.length sp.c)]) [(0, _), (2, _), (59, _)] (fun (k : Nat) (m2 : List In) (ma2 : Option Addr) (mc2 : Nat) (Sm2 : Hp) (sp : Sl Nat) (Sp : Hp) => (bat, .cells [.int .i64 i].toArray 3 (0, 0)) :: (bm, .cells [.slice ma2 m2.length mc2].toArray 89 (0, 0)) :: (Sm2 ++ (E ++ Sp ++ [(b4, .cells (En x).toArray 85 (0, 0))]))) (fun (k : Nat) (m2 : List In) (ma2 : Option Addr) (mc2 : Nat) (Sm2 : Hp) (sp : Sl Nat) (Sp : Hp) => (x.mx - x.mn).toNat - k) 0 m1 ma1 mc1 Sm1 ⟨none, 0, []⟩ [] ⟨by omega, by simp [opts], hO1, rfl, .nil⟩ sbA sbA hzB ?_
    rintro k m2 ma2 mc2 Sm2 sp Sp ⟨hk2, hm2, hO2, hsp, hSp⟩
    have hl2 : m2.length = m1.length + k * (L + 1) := by rw [hm2, List.length_append, opts_len hcl]
    have hspl : sp.xs.length = k := by rw [hsp]; simp
    refine c_seq fun _ hK18 => ?_
    refine c_region ?_
    by_cases hkl2 : (k : Int) < x.mx - x.mn
    ·
     have hmul2 : (k + 1) * (L + 1) ≤ (x.mx - x.mn).toNat * (L + 1) := Nat.mul_le_mul_right _ (by omega)
     rw [Nat.succ_mul] at hmul2
     refine o_step rfl (step_cast (v' := .bool true) (s_lss rfl rfl) (by rw [decide_eq_true (by omega)])) ?_
     refine o_nil ?_
     refine x_then (hK18 _ _ ?_)
     refine c_seq fun _ hK19 => ?_
     refine c_true rfl ?_
     refine c_skip ?_
     refine x_then (hK19 _ _ ?_)
     refine c_seq fun _ hK20 => ?_
     refine c_block ?_
     refine c_seq fun _ hK21 => ?_
     refine c_region ?_
     refine o_step rfl (s_move rfl) ?_
     refine o_step rfl (s_move rfl) ?_
     refine o_step rfl (s_nil rfl) ?_
     refine o_step rfl (s_ld rfl (.own meA rfl)) ?_
     refine o_step rfl (s_len rfl) ?_
     refine o_bs (E := Eix) (xs := [m2.length]) (vs := [_]) rfl rfl rfl rfl rfl (by decide) (by decide) fun b67 S67 hS67 => ?_
     refine o_app hSp (hS67.rdk hiA) rfl rfl rfl rfl (by simp only [List.length_singleton]; omega) (by simp only [List.length_singleton]; omega) rfl pkA fun a68 c68 S68 hS68 => ?_
     refine o_step rfl (s_assign rfl) ?_
     refine o_nil ?_
     refine x_then (hK21 _ _ ?_)
     refine c_seq fun _ hK22 => ?_
     refine c_drawE ([(bm, .cells [.slice ma2 m2.length mc2].toArray 89 (0, 0))]) (fun i => Nat.beq i 13) ?_
     refine e_tk 0 rfl hzB (s_move rfl) ?_
     refine e_tk 1 rfl hzB (s_move rfl) ?_
     refine e_tk 2 rfl hzB (s_nil rfl) ?_
     refine e_tk 3 rfl hzB (s_ld rfl (.own meA rfl)) ?_
     refine e_tk 4 rfl hzB (s_move rfl) ?_
     refine e_tk 5 rfl hzB (s_nil rfl) ?_
     refine e_tk 6 rfl hzB (s_ld rfl (.own meA rfl)) ?_
     refine e_tk 7 rfl hzB (s_len rfl) ?_
     refine e_tk 8 rfl hzB (s_add rfl rfl (by omega)) ?_
     refine e_tk 9 rfl hzB (step_cast (v' := .agg (Ein (⟨5, 0, (m2.length + 1 : Nat), 0⟩ : In)).toArray) (s_build (cs := [_, _, _, _, _, _, _]) (vs := [_, _]) rfl rfl (.cons rfl rfl rfl rfl rfl (.cons rfl rfl rfl rfl rfl .nil))) (by rw [Ein_zero]; try rfl)) ?_
     refine e_one 10 rfl (by kernel_rfl) ?_
     refine o_bs (E := Ein) (xs := [⟨5, 0, (m2.length + 1 : Nat), 0⟩]) (vs := [_]) rfl rfl rfl rfl rfl (by decide) (by decide) fun b79 S79 hS79 => ?_
     refine o_nil ?_
     refine x_oneS hzB ?_
     refine e_one 11 rfl (by kernel_rfl) ?_
     refine o_app hO2 (hS79.rdk hiA) rfl rfl rfl rfl (by simp only [List.length_singleton]; omega) (by simp only [List.length_singleton]; omega) rfl pkA fun a80 c80 S80 hS80 => ?_
     have hl80 : (m2 ++ [(⟨5, 0, (m2.length + 1 : Nat), 0⟩ : In)]).length = m2.length + 1 := by simp
     refine o_nil ?_
     refine x_oneS hzB ?_
     refine e_tk 12 rfl hzB (s_nil rfl) ?_
     refine e_one 13 rfl (by kernel_rfl) ?_
     refine o_store rfl rfl rfl upA ltA rfl ?_
     refine o_nil ?_
     refine x_oneL rfl ?_
     refine e_done (by kernel_rfl) ?_
     refine x_then (hK22 _ _ ?_)
     refine c_region ?_
     refine o_step rfl (s_move rfl) ?_
     refine o_callC (us := []) (vs := []) (cs := [.pointer (some ⟨bnode, 0, none⟩), .pointer (some ⟨bat, 0, none⟩)]) (hone a80 c80 (m2 ++ [(⟨5, 0, (m2.length + 1 : Nat), 0⟩ : In)]) S80 hS80 (by omega)) rfl rfl rfl ((Pick.takeC pkA (Pick.takeC pkA (Pick.takeA pkA pkA)))) (fun w st => ⟨(RdK.old hw.1 hw.2).out w st, St.apart_M st (by exact hiB) hw.1 hw.2 (by decide)⟩) (fun v83 S83 ⟨a83, c83, Sn83, hv83, hn83⟩ => ?_)
     subst hv83
     refine o_nil ?_
     refine x_block ?_
     refine x_then (hK20 _ _ ?_)
     refine c_region ?_
     refine o_step rfl (s_add rfl rfl (by omega)) ?_
     refine o_step rfl (s_move rfl) ?_
     refine o_nil ?_
     exact x_then (x_inv (k + 1, ((m2 ++ [(⟨5, 0, (m2.length + 1 : Nat), 0⟩ : In)]) ++ c (m2 ++ [(⟨5, 0, (m2.length + 1 : Nat), 0⟩ : In)]).length), a83, c83, Sn83, ⟨a68, c68, sp.xs ++ [m2.length]⟩, S68) ⟨by omega, by rw [hl80, hl2]; rw [hm2, opts_snoc]; simp [List.append_assoc], hn83, by rw [hsp, hl2, List.range_succ, List.map_append]; rfl, hS68⟩ (by first | omega | (dsimp only; omega)) sbA hzB)
    ·
     have hke : k = (x.mx - x.mn).toNat := by omega
     refine o_step rfl (step_cast (v' := .bool false) (s_lss rfl rfl) (by rw [decide_eq_false (by omega)])) ?_
     refine o_nil ?_
     refine x_then (hK18 _ _ ?_)
     refine c_seq fun _ hK23 => ?_
     refine c_false rfl ?_
     refine c_exit ?_
     refine x_then_exit ?_
     refine x_then_exit ?_
     refine x_block_exit ?_
     refine x_then (hK16 _ _ ?_)
     refine c_seq fun _ hK24 => ?_
     refine c_region ?_
     refine o_step rfl (s_move rfl) ?_
     refine o_step rfl (s_len rfl) ?_
     refine o_step rfl (s_move rfl) ?_
     refine o_nil ?_
     refine x_then (hK24 _ _ ?_)
     refine c_block ?_
     refine c_loop3 (fun (q : Nat) (m3 : List In) (Sm3 : Hp) => q ≤ k ∧ m3 = m1 ++ (opts c L m2.length q m1.length ++ opts c L 0 (k - q) (m1.length + q * (L + 1))) ∧ m3.length = m2.length ∧ OwnS Ein 7 109 (.slice ma2 m2.length mc2) m3 Sm3) (fun (q : Nat) (m3 : List In) (Sm3 : Hp) => [(87, .int .i64 q)]) [(0, _), (85, _), (86, _)] (fun (q : Nat) (m3 : List In) (Sm3 : Hp) => (bat, .cells [.int .i64 i].toArray 3 (0, 0)) :: (bm, .cells [.slice ma2 m2.length mc2].toArray 89 (0, 0)) :: (Sm3 ++ (E ++ Sp ++ [(b4, .cells (En x).toArray 85 (0, 0))]))) (fun (q : Nat) (m3 : List In) (Sm3 : Hp) => k - q) 0 m2 Sm2 ⟨by omega, by rw [hm2]; simp [opts], rfl, hO2⟩ sbA sbA hzB ?_
     rintro q m3 Sm3 ⟨hq, hm3, hl3, hO3⟩
     have hO3s := hO3.sl
     rw [hl3] at hO3s
     have hSps := hSp.sl
     refine c_seq fun _ hK25 => ?_
     refine c_region ?_
     by_cases hqk : q < k
     ·
      have hpg : sp.xs[q]? = some (m1.length + q * (L + 1)) := by rw [hsp, List.getElem?_map, List.getElem?_range hqk]; rfl
      have hmul3 : (q + 1) * (L + 1) ≤ k * (L + 1) := Nat.mul_le_mul_right _ (by omega)
      rw [Nat.succ_mul] at hmul3
      refine o_step rfl (step_cast (v' := .bool true) (s_lss rfl rfl) (by rw [decide_eq_true (by omega)])) ?_
      refine o_nil ?_
      refine x_then (hK25 _ _ ?_)
      refine c_seq fun _ hK26 => ?_
      refine c_true rfl ?_
      refine c_skip ?_
      refine x_then (hK26 _ _ ?_)
      refine c_seq fun _ hK27 => ?_
      refine c_block ?_
      refine c_seq fun _ hK28 => ?_
      refine c_region ?_
      refine o_step rfl (s_idx rfl rfl hSps (by omega)) ?_
      refine o_step rfl (s_ld rfl ((hSp.rdk hiA).ld q 0 hpg rfl (by decide) (by omega))) ?_
      refine o_step rfl (s_assign rfl) ?_
      refine o_nil ?_
      refine x_then (hK28 _ _ ?_)
      refine c_drawE ([(bm, .cells [.slice ma2 m2.length mc2].toArray 89 (0, 0))]) (fun i => Nat.beq i 10) ?_
      refine e_tk 0 rfl hzB (s_move rfl) ?_
      refine e_tk 1 rfl hzB (s_nil rfl) ?_
      refine e_tk 2 rfl hzB (s_ld rfl (.own meA rfl)) ?_
      refine e_tk 3 rfl hzB (s_move rfl) ?_
      refine e_tk 4 rfl hzB (s_move rfl) ?_
      refine e_tk 5 rfl hzB (s_nil rfl) ?_
      refine e_tk 6 rfl hzB (s_ld rfl (.own meA rfl)) ?_
      refine e_tk 7 rfl hzB (s_len rfl) ?_
      refine e_one 8 rfl (by kernel_rfl) ?_
      refine o_step rfl (s_idx rfl rfl hO3s (by omega)) ?_
      refine o_nil ?_
      refine x_oneS hzB ?_
      refine e_one 9 rfl (by kernel_rfl) ?_
      refine o_step rfl (s_field rfl rfl (by decide)) ?_
      refine o_nil ?_
      refine x_oneS hzB ?_
      refine e_one 10 rfl (by kernel_rfl) ?_
      refine o_stS (i := (m1.length + q * (L + 1))) (off := 6) (cs := [.int .i64 (m2.length : Nat)]) ⟨5, 0, ((m1.length + q * (L + 1)) + 1 : Nat), (m2.length : Nat)⟩ hO3 pkA rfl rfl rfl rfl (by omega) (by first | rfl | (rw [Int.toNat_natCast]; first | done | rfl)) (by simp) (fun e he => by rw [hm3, (opts_patch hcl hqk).1] at he; cases he; rfl) (by simp [Value.oneCell']) fun S' hS' => ?_
      refine o_nil ?_
      refine x_oneL rfl ?_
      refine e_done (by kernel_rfl) ?_
      refine x_block ?_
      refine x_then (hK27 _ _ ?_)
      refine c_region ?_
      refine o_step rfl (s_add rfl rfl (by omega)) ?_
      refine o_step rfl (s_move rfl) ?_
      refine o_nil ?_
      exact x_then (x_inv (q + 1, _, _) ⟨by omega, by rw [hm3]; exact (opts_patch hcl hqk).2, by rw [List.length_set]; exact hl3, hS'⟩ (by first | omega | (dsimp only; omega)) sbA hzB)
     ·
      have hqk2 : q = k := by omega
      refine o_step rfl (step_cast (v' := .bool false) (s_lss rfl rfl) (by rw [decide_eq_false (by omega)])) ?_
      refine o_nil ?_
      refine x_then (hK25 _ _ ?_)
      refine c_seq fun _ hK29 => ?_
      refine c_false rfl ?_
      refine c_exit ?_
      refine x_then_exit ?_
      refine x_then_exit ?_
      refine x_block_exit ?_
      have hfin : m3 = m ++ repC x c L m.length := by rw [hm3, hqk2, Nat.sub_self, hl2, ← opts_fin hcl hmx1 hm1 hke]; simp only [opts, List.append_nil]
      have hfl : m2.length = (m ++ repC x c L m.length).length := by rw [← hfin, hl3]
      rw [hfin, hfl] at hO3
      refine x_sub (Sub.refl _) (H' := ((bat, .cells [.int .i64 i].toArray 3 (0, 0)) :: (bm, .cells [.slice ma2 (m ++ repC x c L m.length).length mc2].toArray 89 (0, 0)) :: (Sm3 ++ E))) (by rw [← hfl]; exact hzB) ?_
      exact x_end rfl (.nil) (⟨_, _, _, rfl, hO3⟩)
end Go.Proofs.Ytmpeokbongnniaa

/- Part of the proofs over this seat: see the text that holds the theorem. Conditions: each theorem bears its own. -/
namespace Go.Proofs.Ytmpeokbongnniaa
open Go Go.HL Go.Proofs Go.HL.Kl Go.HL.Kl.Mc
/-- the contract of the function that writes a node's code -/
def NdC (P : Program) (x : Nd) (ks : F) : Prop := ∀ (bre bends bm bput bnode be : Nat) (ra : Option Addr) (rc : Nat) (re : List Nd) (l : List Nat) (Se : Hp) (ma : Option Addr) (mc : Nat) (m : List In) (Sm : Hp) (i i1 : Nat), (∀ x ∈ re, -128 ≤ x.op ∧ x.op < 128) → EndsOk re 0 l → OwnS Eix 1 3 (.slice (some ⟨be, 0, none⟩) re.length re.length) l Se → re.length ≤ 1000000 → Part re (.nd x ks .nil) i i1 → OwnS Ein 7 109 (.slice ma m.length mc) m Sm → m.length + lenT x ks ≤ 70000 →
  HL.Fn P 52 (.int .i64 i :: [.pointer (some ⟨bre, 0, none⟩), .pointer (some ⟨bput, 0, none⟩), .pointer (some ⟨bm, 0, none⟩), .pointer (some ⟨bnode, 0, none⟩), .pointer (some ⟨bends, 0, none⟩)]) (fun w => Rd En w (.slice ra re.length rc) re ∧ Apart (keys ((bm, .cells [.slice ma m.length mc].toArray 89 (0, 0)) :: (Sm ++ ((bre, .cells [.slice ra re.length rc].toArray 22 (0, 0)) :: (bends, .cells [.slice (some ⟨be, 0, none⟩) re.length re.length].toArray 65 (0, 0)) :: (bput, .cells [.func (.func 51) [].toArray [.pointer (some ⟨bm, 0, none⟩)].toArray].toArray 110 (0, 0)) :: (bnode, .cells [.func (.func 52) [].toArray [.pointer (some ⟨bre, 0, none⟩), .pointer (some ⟨bput, 0, none⟩), .pointer (some ⟨bm, 0, none⟩), .pointer (some ⟨bnode, 0, none⟩), .pointer (some ⟨bends, 0, none⟩)].toArray].toArray 111 (0, 0)) :: Se)))) (.slice ra re.length rc)) ((bm, .cells [.slice ma m.length mc].toArray 89 (0, 0)) :: (Sm ++ ((bre, .cells [.slice ra re.length rc].toArray 22 (0, 0)) :: (bends, .cells [.slice (some ⟨be, 0, none⟩) re.length re.length].toArray 65 (0, 0)) :: (bput, .cells [.func (.func 51) [].toArray [.pointer (some ⟨bm, 0, none⟩)].toArray].toArray 110 (0, 0)) :: (bnode, .cells [.func (.func 52) [].toArray [.pointer (some ⟨bre, 0, none⟩), .pointer (some ⟨bput, 0, none⟩), .pointer (some ⟨bm, 0, none⟩), .pointer (some ⟨bnode, 0, none⟩), .pointer (some ⟨bends, 0, none⟩)].toArray].toArray 111 (0, 0)) :: Se))) (fun _ S' => ∃ ma' mc' Sm', S' = ((bm, .cells [.slice ma' (m ++ codeOne x ks m.length).length mc'].toArray 89 (0, 0)) :: (Sm' ++ ((bre, .cells [.slice ra re.length rc].toArray 22 (0, 0)) :: (bends, .cells [.slice (some ⟨be, 0, none⟩) re.length re.length].toArray 65 (0, 0)) :: (bput, .cells [.func (.func 51) [].toArray [.pointer (some ⟨bm, 0, none⟩)].toArray].toArray 110 (0, 0)) :: (bnode, .cells [.func (.func 52) [].toArray [.pointer (some ⟨bre, 0, none⟩), .pointer (some ⟨bput, 0, none⟩), .pointer (some ⟨bm, 0, none⟩), .pointer (some ⟨bnode, 0, none⟩), .pointer (some ⟨bends, 0, none⟩)].toArray].toArray 111 (0, 0)) :: Se))) ∧ OwnS Ein 7 109 (.slice ma' (m ++ codeOne x ks m.length).length mc') (m ++ codeOne x ks m.length) Sm')

theorem one_step (y : Nd) (js : F) (ih : NdC Try.prog y js) (bre bends bm bput bnode be : Nat) (ra : Option Addr) (rc : Nat) (re : List Nd) (l : List Nat) (Se : Hp) (hre : ∀ x ∈ re, -128 ≤ x.op ∧ x.op < 128) (hE : EndsOk re 0 l) (hL : OwnS Eix 1 3 (.slice (some ⟨be, 0, none⟩) re.length re.length) l Se) (hrl : re.length ≤ 1000000) (ma : Option Addr) (mc : Nat) (m : List In) (Sm : Hp) (bat i i1 : Nat) (hp : Part re (.nd y js .nil) (i + 1) i1) (hO : OwnS Ein 7 109 (.slice ma m.length mc) m Sm) (hlen : m.length + lenT y js ≤ 70000) : HL.Fn Try.prog 54 [.pointer (some ⟨bnode, 0, none⟩), .pointer (some ⟨bat, 0, none⟩)] (fun w => Rd En w (.slice ra re.length rc) re ∧ Apart (keys ((bat, .cells [.int .i64 i].toArray 3 (0, 0)) :: (bm, .cells [.slice ma m.length mc].toArray 89 (0, 0)) :: (Sm ++ ((bre, .cells [.slice ra re.length rc].toArray 22 (0, 0)) :: (bends, .cells [.slice (some ⟨be, 0, none⟩) re.length re.length].toArray 65 (0, 0)) :: (bput, .cells [.func (.func 51) [].toArray [.pointer (some ⟨bm, 0, none⟩)].toArray].toArray 110 (0, 0)) :: (bnode, .cells [.func (.func 52) [].toArray [.pointer (some ⟨bre, 0, none⟩), .pointer (some ⟨bput, 0, none⟩), .pointer (some ⟨bm, 0, none⟩), .pointer (some ⟨bnode, 0, none⟩), .pointer (some ⟨bends, 0, none⟩)].toArray].toArray 111 (0, 0)) :: Se)))) (.slice ra re.length rc)) ((bat, .cells [.int .i64 i].toArray 3 (0, 0)) :: (bm, .cells [.slice ma m.length mc].toArray 89 (0, 0)) :: (Sm ++ ((bre, .cells [.slice ra re.length rc].toArray 22 (0, 0)) :: (bends, .cells [.slice (some ⟨be, 0, none⟩) re.length re.length].toArray 65 (0, 0)) :: (bput, .cells [.func (.func 51) [].toArray [.pointer (some ⟨bm, 0, none⟩)].toArray].toArray 110 (0, 0)) :: (bnode, .cells [.func (.func 52) [].toArray [.pointer (some ⟨bre, 0, none⟩), .pointer (some ⟨bput, 0, none⟩), .pointer (some ⟨bm, 0, none⟩), .pointer (some ⟨bnode, 0, none⟩), .pointer (some ⟨bends, 0, none⟩)].toArray].toArray 111 (0, 0)) :: Se))) (fun _ S' => ∃ ma' mc' Sm', S' = ((bat, .cells [.int .i64 i].toArray 3 (0, 0)) :: (bm, .cells [.slice ma' (m ++ codeOne y js m.length).length mc'].toArray 89 (0, 0)) :: (Sm' ++ ((bre, .cells [.slice ra re.length rc].toArray 22 (0, 0)) :: (bends, .cells [.slice (some ⟨be, 0, none⟩) re.length re.length].toArray 65 (0, 0)) :: (bput, .cells [.func (.func 51) [].toArray [.pointer (some ⟨bm, 0, none⟩)].toArray].toArray 110 (0, 0)) :: (bnode, .cells [.func (.func 52) [].toArray [.pointer (some ⟨bre, 0, none⟩), .pointer (some ⟨bput, 0, none⟩), .pointer (some ⟨bm, 0, none⟩), .pointer (some ⟨bnode, 0, none⟩), .pointer (some ⟨bends, 0, none⟩)].toArray].toArray 111 (0, 0)) :: Se))) ∧ OwnS Ein 7 109 (.slice ma' (m ++ codeOne y js m.length).length mc') (m ++ codeOne y js m.length) Sm') := by
  refine fn_of Try.func54 rfl rfl rfl fun w0 hw => ?_
  have hile := (List.getElem?_eq_some_iff.1 hp.head.1).1
  refine c_region ?_
  refine o_step rfl (s_ld rfl (.own meA rfl)) ?_
  refine o_step rfl (s_ld rfl (.own meA rfl)) ?_
  refine o_step rfl (s_add rfl rfl (by omega)) ?_
  refine o_callC (us := []) (vs := [_]) (cs := [.pointer (some ⟨bre, 0, none⟩), .pointer (some ⟨bput, 0, none⟩), .pointer (some ⟨bm, 0, none⟩), .pointer (some ⟨bnode, 0, none⟩), .pointer (some ⟨bends, 0, none⟩)]) (ih bre bends bm bput bnode be ra rc re l Se ma mc m Sm (i + 1) i1 hre hE hL hrl hp hO (by omega)) rfl rfl rfl ((Pick.takeC pkA (Pick.takeA pkA (Pick.takeC pkA (Pick.takeC pkA (Pick.takeC pkA (Pick.takeC pkA pkA))))))) (fun w st => ⟨(RdK.old hw.1 hw.2).out w st, St.apart_M st (by exact hiB) hw.1 hw.2 (by decide)⟩) (fun v5 S5 ⟨a5, c5, Sn5, hv5, hn5⟩ => ?_)
  subst hv5
  refine o_nil ?_
  refine x_sub (Sub.refl _) (H' := ((bat, .cells [.int .i64 i].toArray 3 (0, 0)) :: (bm, .cells [.slice a5 (m ++ codeOne y js m.length).length c5].toArray 89 (0, 0)) :: (Sn5 ++ ((bre, .cells [.slice ra re.length rc].toArray 22 (0, 0)) :: (bends, .cells [.slice (some ⟨be, 0, none⟩) re.length re.length].toArray 65 (0, 0)) :: (bput, .cells [.func (.func 51) [].toArray [.pointer (some ⟨bm, 0, none⟩)].toArray].toArray 110 (0, 0)) :: (bnode, .cells [.func (.func 52) [].toArray [.pointer (some ⟨bre, 0, none⟩), .pointer (some ⟨bput, 0, none⟩), .pointer (some ⟨bm, 0, none⟩), .pointer (some ⟨bnode, 0, none⟩), .pointer (some ⟨bends, 0, none⟩)].toArray].toArray 111 (0, 0)) :: Se)))) hzB ?_
  exact x_end rfl (.nil) (⟨_, _, _, rfl, hn5⟩)

theorem one_c (y : Nd) (js : F) (ih : NdC Try.prog y js) (bre bends bm bput bnode be : Nat) (ra : Option Addr) (rc : Nat) (re : List Nd) (l : List Nat) (Se : Hp) (hre : ∀ x ∈ re, -128 ≤ x.op ∧ x.op < 128) (hE : EndsOk re 0 l) (hL : OwnS Eix 1 3 (.slice (some ⟨be, 0, none⟩) re.length re.length) l Se) (hrl : re.length ≤ 1000000) (bat i i1 : Nat) (hp : Part re (.nd y js .nil) (i + 1) i1) : OneC Try.prog bm bat bnode i ra rc re ((bre, .cells [.slice ra re.length rc].toArray 22 (0, 0)) :: (bends, .cells [.slice (some ⟨be, 0, none⟩) re.length re.length].toArray 65 (0, 0)) :: (bput, .cells [.func (.func 51) [].toArray [.pointer (some ⟨bm, 0, none⟩)].toArray].toArray 110 (0, 0)) :: (bnode, .cells [.func (.func 52) [].toArray [.pointer (some ⟨bre, 0, none⟩), .pointer (some ⟨bput, 0, none⟩), .pointer (some ⟨bm, 0, none⟩), .pointer (some ⟨bnode, 0, none⟩), .pointer (some ⟨bends, 0, none⟩)].toArray].toArray 111 (0, 0)) :: Se) (fun b => code (.nd y js .nil) false b 0) (lenM (.nd y js .nil) false) := by
  intro ma mc m Sm hO hlen
  have e : (fun b => code (.nd y js .nil) false b 0) = codeOne y js := funext fun b => code_one y js b 0
  simp only [code_one]
  exact one_step y js ih bre bends bm bput bnode be ra rc re l Se hre hE hL hrl ma mc m Sm bat i i1 hp hO (by rw [lenM_cat] at hlen; simpa [lenM] using hlen)
end Go.Proofs.Ytmpeokbongnniaa
