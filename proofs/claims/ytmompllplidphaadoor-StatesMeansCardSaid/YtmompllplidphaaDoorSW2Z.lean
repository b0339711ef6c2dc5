/- Part of the proofs over this seat: see the text that holds the theorem. Conditions: each theorem bears its own. -/
import Derived.Test.YtmompllplidphaaDoorSM4Z
import Derived.Test.YtmompllplidphaaDoorMT7Z
namespace Go.Proofs.YtmompllplidphaaDoor
open Go Go.HL Go.Proofs Go.HL.Kl Go.HL.Kl.Mc Go.HL.Sts
theorem joins_fn (bx : Nat) (ra : Option Addr) (rc rn : Nat) (sa : Option Addr) (sc sn : Nat) (fa : Option Addr) (fc : Nat) (fol : List Sp) (Sf : Hp) (hf : OwnS E3 3 84 (.slice fa fol.length fc) fol Sf) (a b : Sp) (hl : fol.length ≤ 24) : HL.Fn Tryd.prog 103 [.pointer (some ⟨bx, 0, none⟩), .agg (E3 (a)).toArray, .agg (E3 (b)).toArray] (fun _ => True) ((bx, .cells [.slice ra rn rc, .slice sa sn sc, .slice fa fol.length fc].toArray 80 (0, 0)) :: Sf) (fun _ S' => ∃ Sf', S' = ((bx, .cells [.slice ra rn rc, .slice sa sn sc, .slice fa (joinF fol a b).length fc].toArray 80 (0, 0)) :: Sf') ∧ OwnS E3 3 84 (.slice fa (joinF fol a b).length fc) (joinF fol a b) Sf') := by
  refine fn_of Tryd.func103 rfl rfl rfl fun w0 hw => ?_
  rw [joinF_len]
  refine c_seq fun _ hK1 => ?_
  refine c_region ?_
  refine o_box rfl rfl rfl fun b4 => ?_
  refine o_box rfl rfl rfl fun b5 => ?_
  refine o_nil ?_
  refine x_then (hK1 _ _ ?_)
  refine c_seq fun _ hK2 => ?_
  refine c_region ?_
  refine o_step rfl (s_move rfl) ?_
  refine o_step rfl (s_nil rfl) ?_
  refine o_step rfl (s_field rfl rfl (by decide)) ?_
  refine o_step rfl (s_ld rfl (.own meA rfl)) ?_
  refine o_step rfl (s_len rfl) ?_
  refine o_step rfl (s_move rfl) ?_
  refine o_nil ?_
  refine x_then (hK2 _ _ ?_)
  refine c_block ?_
  refine c_loop2 (fun (i : Nat) (Si : Hp) => i ≤ fol.length ∧ OwnS E3 3 84 (.slice fa fol.length fc) (joinTo fol a b i) Si) (fun (i : Nat) (Si : Hp) => [(12, .int .i64 i)]) [(0, _), (4, _), (5, _), (11, _)] (fun (i : Nat) (Si : Hp) => (b4, .cells (E3 (a)).toArray 84 (0, 0)) :: (b5, .cells (E3 (b)).toArray 84 (0, 0)) :: (bx, .cells [.slice ra rn rc, .slice sa sn sc, .slice fa fol.length fc].toArray 80 (0, 0)) :: Si) (fun (i : Nat) (Si : Hp) => fol.length - i) 0 Sf ⟨by omega, by simpa [joinTo] using hf⟩ sbA sbA hzB ?_
  rintro i Si ⟨hI, hO⟩
  have hjl := joinTo_len fol a b i
  have hsl := hO.sl
  rw [hjl] at hsl
  refine c_seq fun _ hK3 => ?_
  refine c_region ?_
  refine o_step rfl (s_lss rfl rfl) ?_
  refine o_nil ?_
  refine x_then (hK3 _ _ ?_)
  refine c_seq fun _ hK4 => ?_
  refine c_if rfl (fun hlt => ?_) (fun hlt => ?_)
  ·
   obtain ⟨s, hs⟩ : ∃ s, fol[i]? = some s := ⟨_, List.getElem?_eq_getElem (by omega)⟩
   refine c_skip ?_
   refine x_then (hK4 _ _ ?_)
   refine c_seq fun _ hK5 => ?_
   refine c_block ?_
   refine c_seq fun _ hK6 => ?_
   refine c_region ?_
   refine o_step rfl (s_move rfl) ?_
   refine o_step rfl (s_assign rfl) ?_
   refine o_nil ?_
   refine x_then (hK6 _ _ ?_)
   refine c_seq fun _ hK7 => ?_
   refine c_region ?_
   refine o_step rfl (s_ldB rfl (RdPK.cels (.own meA)) lnA) ?_
   refine o_step rfl (s_move rfl) ?_
   refine o_callP (hasS_fn a i (by omega)) rfl rfl rfl (fun _ _ => trivial) (fun v17 hv17 => ?_)
   subst hv17
   cases hb : BitVec.getLsbD a i
   ·
    refine o_nil ?_
    refine x_then (hK7 _ _ ?_)
    refine c_false rfl ?_
    refine c_skip ?_
    refine x_block ?_
    refine x_then (hK5 _ _ ?_)
    refine c_region ?_
    refine o_step rfl (s_add rfl rfl (by omega)) ?_
    refine o_step rfl (s_move rfl) ?_
    refine o_nil ?_
    exact x_then (x_inv (i + 1, _) ⟨by omega, by rw [← joinTo_no hs hb]; exact hO⟩ (by first | omega | (dsimp only; omega)) sbA hzB)
   ·
    refine o_nil ?_
    refine x_then (hK7 _ _ ?_)
    refine c_true rfl ?_
    refine c_drawE ((b4, .cells (E3 (a)).toArray 84 (0, 0)) :: (b5, .cells (E3 (b)).toArray 84 (0, 0)) :: (bx, .cells [.slice ra rn rc, .slice sa sn sc, .slice fa fol.length fc].toArray 80 (0, 0)) :: Si) (fun i => Nat.beq i 15) ?_
    refine e_take 0 rfl (by kernel_rfl) (by kernel_rfl) (by kernel_rfl) (by kernel_rfl) (fun _ _ => rfl) rfl hzB (s_move rfl) ?_
    refine e_take 1 rfl (by kernel_rfl) (by kernel_rfl) (by kernel_rfl) (by kernel_rfl) (fun _ _ => rfl) rfl hzB (s_nil rfl) ?_
    refine e_take 2 rfl (by kernel_rfl) (by kernel_rfl) (by kernel_rfl) (by kernel_rfl) (fun _ _ => rfl) rfl hzB (s_field rfl rfl (by decide)) ?_
    refine e_take 3 rfl (by kernel_rfl) (by kernel_rfl) (by kernel_rfl) (by kernel_rfl) (fun _ _ => rfl) rfl hzB (s_ld rfl (.own meA rfl)) ?_
    refine e_take 4 rfl (by kernel_rfl) (by kernel_rfl) (by kernel_rfl) (by kernel_rfl) (fun _ _ => rfl) rfl hzB (s_move rfl) ?_
    refine e_take 5 rfl (by kernel_rfl) (by kernel_rfl) (by kernel_rfl) (by kernel_rfl) (fun _ _ => rfl) rfl hzB (s_move rfl) ?_
    refine e_take 6 rfl (by kernel_rfl) (by kernel_rfl) (by kernel_rfl) (by kernel_rfl) (fun _ _ => rfl) rfl hzB (s_nil rfl) ?_
    refine e_take 7 rfl (by kernel_rfl) (by kernel_rfl) (by kernel_rfl) (by kernel_rfl) (fun _ _ => rfl) rfl hzB (s_field rfl rfl (by decide)) ?_
    refine e_take 8 rfl (by kernel_rfl) (by kernel_rfl) (by kernel_rfl) (by kernel_rfl) (fun _ _ => rfl) rfl hzB (s_ld rfl (.own meA rfl)) ?_
    refine e_take 9 rfl (by kernel_rfl) (by kernel_rfl) (by kernel_rfl) (by kernel_rfl) (fun _ _ => rfl) rfl hzB (s_move rfl) ?_
    refine e_take 10 rfl (by kernel_rfl) (by kernel_rfl) (by kernel_rfl) (by kernel_rfl) (fun _ _ => rfl) rfl hzB (s_idx rfl rfl (by assumption) (by omega)) ?_
    refine e_take 11 rfl (by kernel_rfl) (by kernel_rfl) (by kernel_rfl) (by kernel_rfl) (fun _ _ => rfl) rfl hzB (s_ldB rfl ((hO.rdk hiA).lds i (joinTo_get hs) rfl) lnA) ?_
    refine e_take 12 rfl (by kernel_rfl) (by kernel_rfl) (by kernel_rfl) (by kernel_rfl) (fun _ _ => rfl) rfl hzB (s_ldB rfl (RdPK.cels (.own meA)) lnA) ?_
    refine e_one 13 rfl (by kernel_rfl) ?_
    refine o_callP (orS_fn s b) rfl rfl rfl (fun _ _ => trivial) (fun v31 hv31 => ?_)
    subst hv31
    refine o_nil ?_
    refine x_oneS hzB ?_
    refine e_one 14 rfl (by kernel_rfl) ?_
    refine o_step rfl (s_idx rfl rfl (by assumption) (by omega)) ?_
    refine o_nil ?_
    refine x_oneS hzB ?_
    refine e_one 15 rfl (by kernel_rfl) ?_
    refine o_stSE i (s ||| b) hO pkA rfl rfl (by omega) (by rw [Int.toNat_natCast]) fun S15 hO15 => ?_
    rw [joinTo_yes hs hb] at hO15
    refine o_nil ?_
    refine x_oneL rfl ?_
    refine e_done (by kernel_rfl) ?_
    refine x_block ?_
    refine x_then (hK5 _ _ ?_)
    refine c_region ?_
    refine o_step rfl (s_add rfl rfl (by omega)) ?_
    refine o_step rfl (s_move rfl) ?_
    refine o_nil ?_
    exact x_then (x_inv (i + 1, _) ⟨by omega, hO15⟩ (by first | omega | (dsimp only; omega)) sbA hzB)
  ·
   obtain rfl : i = fol.length := by omega
   rw [joinTo_end] at hO
   refine c_exit ?_
   refine x_then_exit ?_
   refine x_then_exit ?_
   refine x_block_exit ?_
   refine x_sub (Sub.refl _) (H' := (bx, .cells [.slice ra rn rc, .slice sa sn sc, .slice fa fol.length fc].toArray 80 (0, 0)) :: Si) hzB ?_
   exact x_end rfl (.nil) (⟨_, rfl, hO⟩)
theorem alt_fn (a b : Pt) : HL.Fn Tryd.prog 85 [.agg (Ep4 (a)).toArray, .agg (Ep4 (b)).toArray] (fun _ => True) [] (fun v _ => v = .agg (Ep4 (altP a b)).toArray) := by
  refine fn_of Tryd.func85 rfl rfl rfl fun w0 hw => ?_
  rw [← altTo_end a b]
  refine c_seq fun _ hK1 => ?_
  refine c_region ?_
  refine o_box rfl rfl rfl fun b2 => ?_
  refine o_box rfl rfl rfl fun b3 => ?_
  refine o_alloc (l := Ep4 zeroP) (by rfl) rfl fun b4 => ?_
  refine o_nil ?_
  refine x_then (hK1 _ _ ?_)
  refine c_seq fun _ hK2 => ?_
  refine c_seq fun _ hK3 => ?_
  refine c_region ?_
  refine o_step rfl (s_move rfl) ?_
  refine o_nil ?_
  refine x_then (hK3 _ _ ?_)
  refine c_block ?_
  refine c_loopB (fun (i : Nat) => i ≤ 2) (fun (i : Nat) => [(7, .int .i64 i)]) [(2, _), (3, _), (4, _)] (fun (i : Nat) => [(b4, .cells (Ep4 zeroP).toArray 87 (0, 0)), (b3, .cells (Ep4 (b)).toArray 87 (0, 0)), (b2, .cells (Ep4 (altTo a b i)).toArray 87 (0, 0))]) (fun (i : Nat) => 2 - i) 0 (by omega) sbA sbA hzB ?_
  rintro i hI
  refine c_seq fun _ hK4 => ?_
  refine c_region ?_
  refine o_step rfl (s_lss rfl rfl) ?_
  refine o_nil ?_
  refine x_then (hK4 _ _ ?_)
  refine c_seq fun _ hK5 => ?_
  refine c_if rfl (fun hlt => ?_) (fun hlt => ?_)
  ·
   refine c_skip ?_
   refine x_then (hK5 _ _ ?_)
   refine c_seq fun _ hK6 => ?_
   refine c_block ?_
   refine c_seq fun _ hK7 => ?_
   refine c_region ?_
   refine o_step rfl (s_move rfl) ?_
   refine o_step rfl (s_assign rfl) ?_
   refine o_nil ?_
   refine x_then (hK7 _ _ ?_)
   refine c_seq fun _ hK8 => ?_
   refine c_drawE ([(b4, .cells (Ep4 zeroP).toArray 87 (0, 0)), (b3, .cells (Ep4 (b)).toArray 87 (0, 0)), (b2, .cells (Ep4 (altTo a b i)).toArray 87 (0, 0))]) (fun i => Nat.beq i 22 || Nat.beq i 25) ?_
   refine e_pure 0 rfl (by kernel_rfl) (by kernel_rfl) (by kernel_rfl) rfl (s_move rfl) ?_
   refine e_pure 1 rfl (by kernel_rfl) (by kernel_rfl) (by kernel_rfl) rfl (s_move rfl) ?_
   refine e_pure 2 rfl (by kernel_rfl) (by kernel_rfl) (by kernel_rfl) rfl (s_move rfl) ?_
   refine e_pure 3 rfl (by kernel_rfl) (by kernel_rfl) (by kernel_rfl) rfl (s_field rfl rfl (by decide)) ?_
   refine e_pure 4 rfl (by kernel_rfl) (by kernel_rfl) (by kernel_rfl) rfl (s_indexA rfl rfl (by omega)) ?_
   refine e_takeT 5 rfl (by kernel_rfl) (by kernel_rfl) (by kernel_rfl) 40 (by kernel_rfl) (by kernel_rfl) (fun _ _ => rfl) rfl hzB (s_ldB rfl ((RdPK.cels (RdPK.own' meA (Ep4_F (i := i) (by omega) (by omega))))) lnA) ?_
   refine e_pure 6 rfl (by kernel_rfl) (by kernel_rfl) (by kernel_rfl) rfl (s_move rfl) ?_
   refine e_pure 7 rfl (by kernel_rfl) (by kernel_rfl) (by kernel_rfl) rfl (s_field rfl rfl (by decide)) ?_
   refine e_pure 8 rfl (by kernel_rfl) (by kernel_rfl) (by kernel_rfl) rfl (s_indexA rfl rfl (by omega)) ?_
   refine e_takeT 9 rfl (by kernel_rfl) (by kernel_rfl) (by kernel_rfl) 40 (by kernel_rfl) (by kernel_rfl) (fun _ _ => rfl) rfl hzB (s_ldB rfl ((RdPK.cels (RdPK.own' meA (Ep4_F (i := i) (by omega) (by omega))))) lnA) ?_
   refine e_pure 11 rfl (by kernel_rfl) (by kernel_rfl) (by kernel_rfl) rfl (s_move rfl) ?_
   refine e_pure 12 rfl (by kernel_rfl) (by kernel_rfl) (by kernel_rfl) rfl (s_field rfl rfl (by decide)) ?_
   refine e_pure 13 rfl (by kernel_rfl) (by kernel_rfl) (by kernel_rfl) rfl (s_indexA rfl rfl (by omega)) ?_
   refine e_takeT 14 rfl (by kernel_rfl) (by kernel_rfl) (by kernel_rfl) 40 (by kernel_rfl) (by kernel_rfl) (fun _ _ => rfl) rfl hzB (s_ldB rfl ((RdPK.cels (RdPK.own' meA (Ep4_L (i := i) (by omega) (by omega))))) lnA) ?_
   refine e_pure 15 rfl (by kernel_rfl) (by kernel_rfl) (by kernel_rfl) rfl (s_move rfl) ?_
   refine e_pure 16 rfl (by kernel_rfl) (by kernel_rfl) (by kernel_rfl) rfl (s_field rfl rfl (by decide)) ?_
   refine e_pure 17 rfl (by kernel_rfl) (by kernel_rfl) (by kernel_rfl) rfl (s_indexA rfl rfl (by omega)) ?_
   refine e_takeT 18 rfl (by kernel_rfl) (by kernel_rfl) (by kernel_rfl) 40 (by kernel_rfl) (by kernel_rfl) (fun _ _ => rfl) rfl hzB (s_ldB rfl ((RdPK.cels (RdPK.own' meA (Ep4_L (i := i) (by omega) (by omega))))) lnA) ?_
   refine e_pure 20 rfl (by kernel_rfl) (by kernel_rfl) (by kernel_rfl) rfl (s_field rfl rfl (by decide)) ?_
   refine e_pure 23 rfl (by kernel_rfl) (by kernel_rfl) (by kernel_rfl) rfl (s_field rfl rfl (by decide)) ?_
   refine e_one 10 rfl (by kernel_rfl) ?_
   refine o_callP (orS_fn (getF (altTo a b i) i) (getF b i)) rfl rfl rfl (fun _ _ => trivial) (fun v20 hv20 => ?_)
   subst hv20
   refine o_nil ?_
   refine x_oneS hzB ?_
   refine e_pure 21 rfl (by kernel_rfl) (by kernel_rfl) (by kernel_rfl) rfl (s_indexA rfl rfl (by omega)) ?_
   refine e_one 19 rfl (by kernel_rfl) ?_
   refine o_callP (orS_fn (getL (altTo a b i) i) (getL b i)) rfl rfl rfl (fun _ _ => trivial) (fun v29 hv29 => ?_)
   subst hv29
   refine o_nil ?_
   refine x_oneS hzB ?_
   refine e_one 22 rfl (by kernel_rfl) ?_
   refine o_storeA (l := _) (off := _) rfl rfl rfl (Es_one _) upA (by show _ ≤ 16; rw [Es_len]; omega) (fun _ _ => frz0) ?_
   rw [Ep4_setF (i := i) (by omega) (by omega)]
   refine o_nil ?_
   refine x_oneL rfl ?_
   refine e_pure 24 rfl (by kernel_rfl) (by kernel_rfl) (by kernel_rfl) rfl (s_indexA rfl rfl (by omega)) ?_
   refine e_one 25 rfl (by kernel_rfl) ?_
   refine o_storeA (l := _) (off := _) rfl rfl rfl (Es_one _) upA (by show _ ≤ 16; rw [Es_len]; omega) (fun _ _ => frz0) ?_
   rw [Ep4_setL (i := i) (by omega) (by omega)]
   refine o_nil ?_
   refine x_oneL rfl ?_
   refine e_done (by kernel_rfl) ?_
   refine x_then (hK8 _ _ ?_)
   refine c_seq fun _ hK9 => ?_
   refine c_region ?_
   refine o_step rfl (s_move rfl) ?_
   refine o_nil ?_
   refine x_then (hK9 _ _ ?_)
   refine c_block ?_
   refine c_loopB (fun (k : Nat) => k ≤ 2) (fun (k : Nat) => [(34, .int .i64 k)]) [(2, _), (3, _), (4, _), (5, _), (7, _), (8, _), (9, _), (10, _), (11, _), (12, _), (13, _), (14, _), (15, _), (16, _), (17, _), (18, _), (19, _), (20, _), (21, _), (22, _), (23, _), (24, _), (25, _), (26, _), (27, _), (28, _), (29, _), (30, _), (31, _), (32, _), (33, _)] (fun (k : Nat) => [(b4, .cells (Ep4 zeroP).toArray 87 (0, 0)), (b3, .cells (Ep4 (b)).toArray 87 (0, 0)), (b2, .cells (Ep4 (altN (alt1 (altTo a b i) b i) b i k)).toArray 87 (0, 0))]) (fun (k : Nat) => 2 - k) 0 (by omega) sbA sbA hzB ?_
   rintro k hK
   refine c_seq fun _ hK10 => ?_
   refine c_region ?_
   refine o_step rfl (s_lss rfl rfl) ?_
   refine o_nil ?_
   refine x_then (hK10 _ _ ?_)
   refine c_seq fun _ hK11 => ?_
   refine c_if rfl (fun hlk => ?_) (fun hlk => ?_)
   ·
    refine c_skip ?_
    refine x_then (hK11 _ _ ?_)
    refine c_seq fun _ hK12 => ?_
    refine c_block ?_
    refine c_seq fun _ hK13 => ?_
    refine c_region ?_
    refine o_step rfl (s_move rfl) ?_
    refine o_step rfl (s_assign rfl) ?_
    refine o_nil ?_
    refine x_then (hK13 _ _ ?_)
    refine c_drawE ([(b4, .cells (Ep4 zeroP).toArray 87 (0, 0)), (b3, .cells (Ep4 (b)).toArray 87 (0, 0)), (b2, .cells (Ep4 (altN (alt1 (altTo a b i) b i) b i k)).toArray 87 (0, 0))]) (fun i => Nat.beq i 19) ?_
    refine e_take 0 rfl (by kernel_rfl) (by kernel_rfl) (by kernel_rfl) (by kernel_rfl) (fun _ _ => rfl) rfl hzB (s_move rfl) ?_
    refine e_take 1 rfl (by kernel_rfl) (by kernel_rfl) (by kernel_rfl) (by kernel_rfl) (fun _ _ => rfl) rfl hzB (s_move rfl) ?_
    refine e_take 2 rfl (by kernel_rfl) (by kernel_rfl) (by kernel_rfl) (by kernel_rfl) (fun _ _ => rfl) rfl hzB (s_move rfl) ?_
    refine e_take 3 rfl (by kernel_rfl) (by kernel_rfl) (by kernel_rfl) (by kernel_rfl) (fun _ _ => rfl) rfl hzB (s_move rfl) ?_
    refine e_take 4 rfl (by kernel_rfl) (by kernel_rfl) (by kernel_rfl) (by kernel_rfl) (fun _ _ => rfl) rfl hzB (s_field rfl rfl (by decide)) ?_
    refine e_take 5 rfl (by kernel_rfl) (by kernel_rfl) (by kernel_rfl) (by kernel_rfl) (fun _ _ => rfl) rfl hzB (s_indexA rfl rfl (by omega)) ?_
    refine e_take 6 rfl (by kernel_rfl) (by kernel_rfl) (by kernel_rfl) (by kernel_rfl) (fun _ _ => rfl) rfl hzB (s_indexA rfl rfl (by omega)) ?_
    refine e_take 7 rfl (by kernel_rfl) (by kernel_rfl) (by kernel_rfl) (by kernel_rfl) (fun _ _ => rfl) rfl hzB (s_ld rfl (.own meA (Ep4_N (i := i) (k := k) (by omega) (by omega) (by omega)))) ?_
    by_cases hb : getN (altN (alt1 (altTo a b i) b i) b i k) i k = true
    ·
     refine e_take 8 rfl (by kernel_rfl) (by kernel_rfl) (by kernel_rfl) (by kernel_rfl) (fun _ _ => rfl) rfl hzB (step_cast (v' := .bool true) (s_move rfl) (by rw [hb])) ?_
     refine e_skip 9 rfl (by kernel_rfl) (by kernel_rfl) (by kernel_rfl) rfl rfl rfl rfl ?_
     refine e_skip 10 rfl (by kernel_rfl) (by kernel_rfl) (by kernel_rfl) rfl rfl rfl rfl ?_
     refine e_skip 11 rfl (by kernel_rfl) (by kernel_rfl) (by kernel_rfl) rfl rfl rfl rfl ?_
     refine e_skip 12 rfl (by kernel_rfl) (by kernel_rfl) (by kernel_rfl) rfl rfl rfl rfl ?_
     refine e_skip 13 rfl (by kernel_rfl) (by kernel_rfl) (by kernel_rfl) rfl rfl rfl rfl ?_
     refine e_skip 14 rfl (by kernel_rfl) (by kernel_rfl) (by kernel_rfl) rfl rfl rfl rfl ?_
     refine e_take 15 rfl (by kernel_rfl) (by kernel_rfl) (by kernel_rfl) (by kernel_rfl) (fun _ _ => rfl) rfl hzB (s_pick_t rfl rfl) ?_
     refine e_pure 16 rfl (by kernel_rfl) (by kernel_rfl) (by kernel_rfl) rfl (s_field rfl rfl (by decide)) ?_
     refine e_pure 17 rfl (by kernel_rfl) (by kernel_rfl) (by kernel_rfl) rfl (s_indexA rfl rfl (by omega)) ?_
     refine e_pure 18 rfl (by kernel_rfl) (by kernel_rfl) (by kernel_rfl) rfl (s_indexA rfl rfl (by omega)) ?_
     refine e_one 19 rfl (by kernel_rfl) ?_
     refine o_store rfl rfl rfl upA (by rw [Ep4_len]; omega) rfl ?_
     rw [Ep4_setN (i := i) (k := k) (by omega) (by omega) (by omega)]
     first | rw [altN_t hb] | rw [altN_f (by simpa using hb)]
     refine o_nil ?_
     refine x_oneL rfl ?_
     refine e_done (by kernel_rfl) ?_
     refine x_block ?_
     refine x_then (hK12 _ _ ?_)
     refine c_region ?_
     refine o_step rfl (s_add rfl rfl (by omega)) ?_
     refine o_step rfl (s_move rfl) ?_
     refine o_nil ?_
     exact x_then (x_inv (k + 1) (by omega) (by first | omega | (dsimp only; omega)) sbA hzB)
    ·
     refine e_take 8 rfl (by kernel_rfl) (by kernel_rfl) (by kernel_rfl) (by kernel_rfl) (fun _ _ => rfl) rfl hzB (step_cast (v' := .bool false) (s_move rfl) (by rw [Bool.not_eq_true] at hb; rw [hb])) ?_
     refine e_take 9 rfl (by kernel_rfl) (by kernel_rfl) (by kernel_rfl) (by kernel_rfl) (fun _ fr => by rw [wanted_of fr rfl rfl rfl]; rfl) rfl hzB (s_move rfl) ?_
     refine e_take 10 rfl (by kernel_rfl) (by kernel_rfl) (by kernel_rfl) (by kernel_rfl) (fun _ fr => by rw [wanted_of fr rfl rfl rfl]; rfl) rfl hzB (s_move rfl) ?_
     refine e_take 11 rfl (by kernel_rfl) (by kernel_rfl) (by kernel_rfl) (by kernel_rfl) (fun _ fr => by rw [wanted_of fr rfl rfl rfl]; rfl) rfl hzB (s_field rfl rfl (by decide)) ?_
     refine e_take 12 rfl (by kernel_rfl) (by kernel_rfl) (by kernel_rfl) (by kernel_rfl) (fun _ fr => by rw [wanted_of fr rfl rfl rfl]; rfl) rfl hzB (s_indexA rfl rfl (by omega)) ?_
     refine e_take 13 rfl (by kernel_rfl) (by kernel_rfl) (by kernel_rfl) (by kernel_rfl) (fun _ fr => by rw [wanted_of fr rfl rfl rfl]; rfl) rfl hzB (s_indexA rfl rfl (by omega)) ?_
     refine e_take 14 rfl (by kernel_rfl) (by kernel_rfl) (by kernel_rfl) (by kernel_rfl) (fun _ fr => by rw [wanted_of fr rfl rfl rfl]; rfl) rfl hzB (s_ld rfl (.own meA (Ep4_N (i := i) (k := k) (by omega) (by omega) (by omega)))) ?_
     refine e_take 15 rfl (by kernel_rfl) (by kernel_rfl) (by kernel_rfl) (by kernel_rfl) (fun _ _ => rfl) rfl hzB (s_pick_f rfl rfl) ?_
     refine e_pure 16 rfl (by kernel_rfl) (by kernel_rfl) (by kernel_rfl) rfl (s_field rfl rfl (by decide)) ?_
     refine e_pure 17 rfl (by kernel_rfl) (by kernel_rfl) (by kernel_rfl) rfl (s_indexA rfl rfl (by omega)) ?_
     refine e_pure 18 rfl (by kernel_rfl) (by kernel_rfl) (by kernel_rfl) rfl (s_indexA rfl rfl (by omega)) ?_
     refine e_one 19 rfl (by kernel_rfl) ?_
     refine o_store rfl rfl rfl upA (by rw [Ep4_len]; omega) rfl ?_
     rw [Ep4_setN (i := i) (k := k) (by omega) (by omega) (by omega)]
     first | rw [altN_t hb] | rw [altN_f (by simpa using hb)]
     refine o_nil ?_
     refine x_oneL rfl ?_
     refine e_done (by kernel_rfl) ?_
     refine x_block ?_
     refine x_then (hK12 _ _ ?_)
     refine c_region ?_
     refine o_step rfl (s_add rfl rfl (by omega)) ?_
     refine o_step rfl (s_move rfl) ?_
     refine o_nil ?_
     exact x_then (x_inv (k + 1) (by omega) (by first | omega | (dsimp only; omega)) sbA hzB)
   ·
    obtain rfl : k = 2 := by omega
    refine c_exit ?_
    refine x_then_exit ?_
    refine x_then_exit ?_
    refine x_block_exit ?_
    refine x_block ?_
    refine x_then (hK6 _ _ ?_)
    refine c_region ?_
    refine o_step rfl (s_add rfl rfl (by omega)) ?_
    refine o_step rfl (s_move rfl) ?_
    refine o_nil ?_
    exact x_then (x_inv (i + 1) (by omega) (by first | omega | (dsimp only; omega)) sbA hzB)
  ·
   obtain rfl : i = 2 := by omega
   refine c_exit ?_
   refine x_then_exit ?_
   refine x_then_exit ?_
   refine x_block_exit ?_
   refine x_then (hK2 _ _ ?_)
   refine c_seq fun _ hK14 => ?_
   refine c_region ?_
   refine o_step rfl (s_ldB rfl (RdPK.cels (.own meA)) lnA) ?_
   refine o_stW rfl rfl upA lnA lnA onA ?_
   refine o_nil ?_
   refine x_then (hK14 _ _ ?_)
   refine c_ret ?_
   refine ?_
   exact x_ret rfl (.agg inferInstance inferInstance rfl (RdPK.cels (.own meA)) lnA (.nil)) (rfl)
theorem catO_fn (bx : Nat) (ra : Option Addr) (rc rn : Nat) (sa : Option Addr) (sc sn : Nat) (fa : Option Addr) (fc : Nat) (fol : List Sp) (Sf : Hp) (hf : OwnS E3 3 84 (.slice fa fol.length fc) fol Sf) (a b : Pt) (hl : fol.length ≤ 24) : HL.Fn Tryd.prog 83 [.pointer (some ⟨bx, 0, none⟩), .agg (Ep4 (a)).toArray, .agg (Ep4 (b)).toArray] (fun _ => True) ((bx, .cells [.slice ra rn rc, .slice sa sn sc, .slice fa fol.length fc].toArray 80 (0, 0)) :: Sf) (fun v S' => ∃ S2, HSub S' S2 ∧ v = .agg (Ep4 (catP a b)).toArray ∧ ∃ Sf', S2 = ((bx, .cells [.slice ra rn rc, .slice sa sn sc, .slice fa (joinF fol a.l0 b.f0).length fc].toArray 80 (0, 0)) :: Sf') ∧ OwnS E3 3 84 (.slice fa (joinF fol a.l0 b.f0).length fc) (joinF fol a.l0 b.f0) Sf') := by
  refine fn_of Tryd.func83 rfl rfl rfl fun w0 hw => ?_
  rw [← catTo_end a b]
  refine c_seq fun _ hK1 => ?_
  refine c_region ?_
  refine o_box rfl rfl rfl fun b4 => ?_
  refine o_box rfl rfl rfl fun b5 => ?_
  refine o_alloc (l := Ep4 zeroP) (by rfl) rfl fun b6 => ?_
  refine o_nil ?_
  refine x_then (hK1 _ _ ?_)
  refine c_seq fun _ hK2 => ?_
  refine c_region ?_
  refine o_alloc (l := Ep4 zeroP) (by rfl) rfl fun b7 => ?_
  refine o_nil ?_
  refine x_then (hK2 _ _ ?_)
  refine c_seq fun _ hK3 => ?_
  refine c_region ?_
  refine o_step rfl (s_move rfl) ?_
  refine o_step rfl (s_field rfl rfl (by decide)) ?_
  refine o_step rfl (s_indexA rfl rfl (by omega)) ?_
  refine o_step rfl (s_ldB rfl ((RdPK.cels (RdPK.own' meA (Ep4_L (i := 0) (by omega) (by omega))))) lnA) ?_
  refine o_step rfl (s_field rfl rfl (by decide)) ?_
  refine o_step rfl (s_indexA rfl rfl (by omega)) ?_
  refine o_step rfl (s_ldB rfl ((RdPK.cels (RdPK.own' meA (Ep4_F (i := 0) (by omega) (by omega))))) lnA) ?_
  refine o_call (joins_fn bx ra rc rn sa sc sn fa fc fol Sf hf (getL a 0) (getF b 0) hl) rfl rfl rfl ((Pick.takeC pkA pkA)) (fun _ _ => trivial) (fun v17 S17x ⟨S17, hS17x, hO17⟩ => ?_)
  subst hS17x
  refine o_nil ?_
  refine x_then (hK3 _ _ ?_)
  refine c_seq fun _ hK4 => ?_
  refine c_seq fun _ hK5 => ?_
  refine c_region ?_
  refine o_step rfl (s_move rfl) ?_
  refine o_nil ?_
  refine x_then (hK5 _ _ ?_)
  refine c_block ?_
  refine c_loopB (fun (i : Nat) => i ≤ 2) (fun (i : Nat) => [(18, .int .i64 i)]) [(4, _), (5, _), (6, _), (7, _)] (fun (i : Nat) => [(b7, .cells (Ep4 (catTo a b i)).toArray 87 (0, 0)), (b6, .cells (Ep4 zeroP).toArray 87 (0, 0)), (b5, .cells (Ep4 (b)).toArray 87 (0, 0)), (b4, .cells (Ep4 (a)).toArray 87 (0, 0))] ++ ((bx, .cells [.slice ra rn rc, .slice sa sn sc, .slice fa (joinF fol a.l0 b.f0).length fc].toArray 80 (0, 0)) :: S17)) (fun (i : Nat) => 2 - i) 0 (by omega) sbA sbA hzB ?_
  rintro i hI
  refine c_seq fun _ hK6 => ?_
  refine c_region ?_
  refine o_step rfl (s_lss rfl rfl) ?_
  refine o_nil ?_
  refine x_then (hK6 _ _ ?_)
  refine c_seq fun _ hK7 => ?_
  refine c_if rfl (fun hlt => ?_) (fun hlt => ?_)
  ·
   refine c_skip ?_
   refine x_then (hK7 _ _ ?_)
   refine c_seq fun _ hK8 => ?_
   refine c_block ?_
   refine c_seq fun _ hK9 => ?_
   refine c_region ?_
   refine o_step rfl (s_move rfl) ?_
   refine o_step rfl (s_assign rfl) ?_
   refine o_nil ?_
   refine x_then (hK9 _ _ ?_)
   refine c_seq fun _ hK10 => ?_
   refine c_drawE ([(b5, .cells (Ep4 (b)).toArray 87 (0, 0)), (b4, .cells (Ep4 (a)).toArray 87 (0, 0))]) (fun i => false) ?_
   refine e_take 0 rfl (by kernel_rfl) (by kernel_rfl) (by kernel_rfl) (by kernel_rfl) (fun _ _ => rfl) rfl hzB (s_move rfl) ?_
   refine e_take 1 rfl (by kernel_rfl) (by kernel_rfl) (by kernel_rfl) (by kernel_rfl) (fun _ _ => rfl) rfl hzB (s_move rfl) ?_
   refine e_take 2 rfl (by kernel_rfl) (by kernel_rfl) (by kernel_rfl) (by kernel_rfl) (fun _ _ => rfl) rfl hzB (s_move rfl) ?_
   refine e_take 3 rfl (by kernel_rfl) (by kernel_rfl) (by kernel_rfl) (by kernel_rfl) (fun _ _ => rfl) rfl hzB (s_field rfl rfl (by decide)) ?_
   refine e_take 4 rfl (by kernel_rfl) (by kernel_rfl) (by kernel_rfl) (by kernel_rfl) (fun _ _ => rfl) rfl hzB (s_indexA rfl rfl (by omega)) ?_
   refine e_take 5 rfl (by kernel_rfl) (by kernel_rfl) (by kernel_rfl) (by kernel_rfl) (fun _ _ => rfl) rfl hzB (s_ldB rfl ((RdPK.cels (RdPK.own' meA (Ep4_F (i := i) (by omega) (by omega))))) lnA) ?_
   refine e_take 6 rfl (by kernel_rfl) (by kernel_rfl) (by kernel_rfl) (by kernel_rfl) (fun _ _ => rfl) rfl hzB (s_move rfl) ?_
   refine e_take 7 rfl (by kernel_rfl) (by kernel_rfl) (by kernel_rfl) (by kernel_rfl) (fun _ _ => rfl) rfl hzB (s_field rfl rfl (by decide)) ?_
   refine e_take 8 rfl (by kernel_rfl) (by kernel_rfl) (by kernel_rfl) (by kernel_rfl) (fun _ _ => rfl) rfl hzB (s_indexA rfl rfl (by omega)) ?_
   refine e_take 9 rfl (by kernel_rfl) (by kernel_rfl) (by kernel_rfl) (by kernel_rfl) (fun _ _ => rfl) rfl hzB (s_ldB rfl ((RdPK.cels (RdPK.own' meA (Ep4_L (i := i) (by omega) (by omega))))) lnA) ?_
   refine e_pure 10 rfl (by kernel_rfl) (by kernel_rfl) (by kernel_rfl) rfl (s_field rfl rfl (by decide)) ?_
   refine e_pure 13 rfl (by kernel_rfl) (by kernel_rfl) (by kernel_rfl) rfl (s_field rfl rfl (by decide)) ?_
   refine e_pure 11 rfl (by kernel_rfl) (by kernel_rfl) (by kernel_rfl) rfl (s_indexA rfl rfl (by omega)) ?_
   refine e_one 12 rfl (by kernel_rfl) ?_
   refine o_storeA (l := _) (off := _) rfl rfl rfl (Es_one _) upA (by show _ ≤ 16; rw [Es_len]; omega) (fun _ _ => frz0) ?_
   rw [Ep4_setF (i := i) (by omega) (by omega)]
   refine o_nil ?_
   refine x_oneS hzB ?_
   refine e_pure 14 rfl (by kernel_rfl) (by kernel_rfl) (by kernel_rfl) rfl (s_indexA rfl rfl (by omega)) ?_
   refine e_one 15 rfl (by kernel_rfl) ?_
   refine o_storeA (l := _) (off := _) rfl rfl rfl (Es_one _) upA (by show _ ≤ 16; rw [Es_len]; omega) (fun _ _ => frz0) ?_
   rw [Ep4_setL (i := i) (by omega) (by omega)]
   rw [cat1_eq]
   refine o_nil ?_
   refine x_oneS hzB ?_
   refine e_done (by kernel_rfl) ?_
   refine x_then (hK10 _ _ ?_)
   refine c_seqJ (ι := Unit) (fun _g => True) (fun _g => []) [(4, _), (5, _), (6, _), (7, _), (8, _), (18, _), (19, _), (20, _), (21, _), (22, _), (23, _), (24, _), (25, _), (26, _), (27, _), (28, _), (29, _), (30, _), (31, _), (32, _), (33, _), (34, _)] (fun _g => [(b7, .cells (Ep4 ((cat2 (cat1 (catTo a b i) a b i) a b i))).toArray 87 (0, 0)), (b6, .cells (Ep4 zeroP).toArray 87 (0, 0)), (b5, .cells (Ep4 (b)).toArray 87 (0, 0)), (b4, .cells (Ep4 (a)).toArray 87 (0, 0))] ++ ((bx, .cells [.slice ra rn rc, .slice sa sn sc, .slice fa (joinF fol a.l0 b.f0).length fc].toArray 80 (0, 0)) :: S17)) sbA ?_ ?_
   ·
    rintro _g _
    refine c_seqJ (ι := Unit) (fun _g => True) (fun _g => []) [(4, _), (5, _), (6, _), (7, _), (8, _), (18, _), (19, _), (20, _), (21, _), (22, _), (23, _), (24, _), (25, _), (26, _), (27, _), (28, _), (29, _), (30, _), (31, _), (32, _), (33, _), (34, _)] (fun _g => [(b7, .cells (Ep4 ((cat3 (cat2 (cat1 (catTo a b i) a b i) a b i) a b i))).toArray 87 (0, 0)), (b6, .cells (Ep4 zeroP).toArray 87 (0, 0)), (b5, .cells (Ep4 (b)).toArray 87 (0, 0)), (b4, .cells (Ep4 (a)).toArray 87 (0, 0))] ++ ((bx, .cells [.slice ra rn rc, .slice sa sn sc, .slice fa (joinF fol a.l0 b.f0).length fc].toArray 80 (0, 0)) :: S17)) sbA ?_ ?_
    ·
     rintro _g _
     refine c_seq fun _ hK13 => ?_
     refine c_region ?_
     refine o_step rfl (s_move rfl) ?_
     refine o_nil ?_
     refine x_then (hK13 _ _ ?_)
     refine c_block ?_
     refine c_loopB (fun (k : Nat) => k ≤ 2) (fun (k : Nat) => [(69, .int .i64 k)]) [(4, _), (5, _), (6, _), (7, _), (8, _), (18, _), (19, _), (20, _), (21, _), (22, _), (23, _), (24, _), (25, _), (26, _), (27, _), (28, _), (29, _), (30, _), (31, _), (32, _), (33, _), (34, _)] (fun (k : Nat) => [(b7, .cells (Ep4 (catN (cat3 (cat2 (cat1 (catTo a b i) a b i) a b i) a b i) a b i k)).toArray 87 (0, 0)), (b6, .cells (Ep4 zeroP).toArray 87 (0, 0)), (b5, .cells (Ep4 (b)).toArray 87 (0, 0)), (b4, .cells (Ep4 (a)).toArray 87 (0, 0))] ++ ((bx, .cells [.slice ra rn rc, .slice sa sn sc, .slice fa (joinF fol a.l0 b.f0).length fc].toArray 80 (0, 0)) :: S17)) (fun (k : Nat) => 2 - k) 0 (by omega) sbA sbA hzB ?_
     rintro k hK
     refine c_seq fun _ hK14 => ?_
     refine c_region ?_
     refine o_step rfl (s_lss rfl rfl) ?_
     refine o_nil ?_
     refine x_then (hK14 _ _ ?_)
     refine c_seq fun _ hK15 => ?_
     refine c_if rfl (fun hlk => ?_) (fun hlk => ?_)
     ·
      refine c_skip ?_
      refine x_then (hK15 _ _ ?_)
      refine c_seq fun _ hK16 => ?_
      refine c_block ?_
      refine c_seq fun _ hK17 => ?_
      refine c_region ?_
      refine o_step rfl (s_move rfl) ?_
      refine o_step rfl (s_assign rfl) ?_
      refine o_nil ?_
      refine x_then (hK17 _ _ ?_)
      refine c_drawE ([(b7, .cells (Ep4 (catN (cat3 (cat2 (cat1 (catTo a b i) a b i) a b i) a b i) a b i k)).toArray 87 (0, 0)), (b6, .cells (Ep4 zeroP).toArray 87 (0, 0)), (b5, .cells (Ep4 (b)).toArray 87 (0, 0)), (b4, .cells (Ep4 (a)).toArray 87 (0, 0))]) (fun i => Nat.beq i 19) ?_
      refine e_take 0 rfl (by kernel_rfl) (by kernel_rfl) (by kernel_rfl) (by kernel_rfl) (fun _ _ => rfl) rfl hzB (s_move rfl) ?_
      refine e_take 1 rfl (by kernel_rfl) (by kernel_rfl) (by kernel_rfl) (by kernel_rfl) (fun _ _ => rfl) rfl hzB (s_move rfl) ?_
      refine e_take 2 rfl (by kernel_rfl) (by kernel_rfl) (by kernel_rfl) (by kernel_rfl) (fun _ _ => rfl) rfl hzB (s_move rfl) ?_
      refine e_take 3 rfl (by kernel_rfl) (by kernel_rfl) (by kernel_rfl) (by kernel_rfl) (fun _ _ => rfl) rfl hzB (s_move rfl) ?_
      refine e_take 4 rfl (by kernel_rfl) (by kernel_rfl) (by kernel_rfl) (by kernel_rfl) (fun _ _ => rfl) rfl hzB (s_field rfl rfl (by decide)) ?_
      refine e_take 5 rfl (by kernel_rfl) (by kernel_rfl) (by kernel_rfl) (by kernel_rfl) (fun _ _ => rfl) rfl hzB (s_indexA rfl rfl (by omega)) ?_
      refine e_take 6 rfl (by kernel_rfl) (by kernel_rfl) (by kernel_rfl) (by kernel_rfl) (fun _ _ => rfl) rfl hzB (s_indexA rfl rfl (by omega)) ?_
      refine e_take 7 rfl (by kernel_rfl) (by kernel_rfl) (by kernel_rfl) (by kernel_rfl) (fun _ _ => rfl) rfl hzB (s_ld rfl (.own meA (Ep4_N (i := i) (k := k) (by omega) (by omega) (by omega)))) ?_
      by_cases hb : getN a i k = true
      ·
       refine e_take 8 rfl (by kernel_rfl) (by kernel_rfl) (by kernel_rfl) (by kernel_rfl) (fun _ _ => rfl) rfl hzB (step_cast (v' := .bool true) (s_move rfl) (by rw [hb])) ?_
       refine e_take 9 rfl (by kernel_rfl) (by kernel_rfl) (by kernel_rfl) (by kernel_rfl) (fun _ fr => by rw [wanted_of fr rfl rfl rfl]; rfl) rfl hzB (s_move rfl) ?_
       refine e_take 10 rfl (by kernel_rfl) (by kernel_rfl) (by kernel_rfl) (by kernel_rfl) (fun _ fr => by rw [wanted_of fr rfl rfl rfl]; rfl) rfl hzB (s_move rfl) ?_
       refine e_take 11 rfl (by kernel_rfl) (by kernel_rfl) (by kernel_rfl) (by kernel_rfl) (fun _ fr => by rw [wanted_of fr rfl rfl rfl]; rfl) rfl hzB (s_field rfl rfl (by decide)) ?_
       refine e_take 12 rfl (by kernel_rfl) (by kernel_rfl) (by kernel_rfl) (by kernel_rfl) (fun _ fr => by rw [wanted_of fr rfl rfl rfl]; rfl) rfl hzB (s_indexA rfl rfl (by omega)) ?_
       refine e_take 13 rfl (by kernel_rfl) (by kernel_rfl) (by kernel_rfl) (by kernel_rfl) (fun _ fr => by rw [wanted_of fr rfl rfl rfl]; rfl) rfl hzB (s_indexA rfl rfl (by omega)) ?_
       refine e_take 14 rfl (by kernel_rfl) (by kernel_rfl) (by kernel_rfl) (by kernel_rfl) (fun _ fr => by rw [wanted_of fr rfl rfl rfl]; rfl) rfl hzB (s_ld rfl (.own meA (Ep4_N (i := i) (k := k) (by omega) (by omega) (by omega)))) ?_
       refine e_take 15 rfl (by kernel_rfl) (by kernel_rfl) (by kernel_rfl) (by kernel_rfl) (fun _ _ => rfl) rfl hzB (s_pick_t rfl rfl) ?_
       refine e_pure 16 rfl (by kernel_rfl) (by kernel_rfl) (by kernel_rfl) rfl (s_field rfl rfl (by decide)) ?_
       refine e_pure 17 rfl (by kernel_rfl) (by kernel_rfl) (by kernel_rfl) rfl (s_indexA rfl rfl (by omega)) ?_
       refine e_pure 18 rfl (by kernel_rfl) (by kernel_rfl) (by kernel_rfl) rfl (s_indexA rfl rfl (by omega)) ?_
       refine e_one 19 rfl (by kernel_rfl) ?_
       refine o_store rfl rfl rfl upA (by rw [Ep4_len]; omega) rfl ?_
       rw [Ep4_setN (i := i) (k := k) (by omega) (by omega) (by omega)]
       first | rw [catN_t hb] | rw [catN_f (by simpa using hb)]
       refine o_nil ?_
       refine x_oneL rfl ?_
       refine e_done (by kernel_rfl) ?_
       refine x_block ?_
       refine x_then (hK16 _ _ ?_)
       refine c_region ?_
       refine o_step rfl (s_add rfl rfl (by omega)) ?_
       refine o_step rfl (s_move rfl) ?_
       refine o_nil ?_
       exact x_then (x_inv (k + 1) (by omega) (by first | omega | (dsimp only; omega)) sbA hzB)
      ·
       refine e_take 8 rfl (by kernel_rfl) (by kernel_rfl) (by kernel_rfl) (by kernel_rfl) (fun _ _ => rfl) rfl hzB (step_cast (v' := .bool false) (s_move rfl) (by rw [Bool.not_eq_true] at hb; rw [hb])) ?_
       refine e_skip 9 rfl (by kernel_rfl) (by kernel_rfl) (by kernel_rfl) rfl rfl rfl rfl ?_
       refine e_skip 10 rfl (by kernel_rfl) (by kernel_rfl) (by kernel_rfl) rfl rfl rfl rfl ?_
       refine e_skip 11 rfl (by kernel_rfl) (by kernel_rfl) (by kernel_rfl) rfl rfl rfl rfl ?_
       refine e_skip 12 rfl (by kernel_rfl) (by kernel_rfl) (by kernel_rfl) rfl rfl rfl rfl ?_
       refine e_skip 13 rfl (by kernel_rfl) (by kernel_rfl) (by kernel_rfl) rfl rfl rfl rfl ?_
       refine e_skip 14 rfl (by kernel_rfl) (by kernel_rfl) (by kernel_rfl) rfl rfl rfl rfl ?_
       refine e_take 15 rfl (by kernel_rfl) (by kernel_rfl) (by kernel_rfl) (by kernel_rfl) (fun _ _ => rfl) rfl hzB (s_pick_f rfl rfl) ?_
       refine e_pure 16 rfl (by kernel_rfl) (by kernel_rfl) (by kernel_rfl) rfl (s_field rfl rfl (by decide)) ?_
       refine e_pure 17 rfl (by kernel_rfl) (by kernel_rfl) (by kernel_rfl) rfl (s_indexA rfl rfl (by omega)) ?_
       refine e_pure 18 rfl (by kernel_rfl) (by kernel_rfl) (by kernel_rfl) rfl (s_indexA rfl rfl (by omega)) ?_
       refine e_one 19 rfl (by kernel_rfl) ?_
       refine o_store rfl rfl rfl upA (by rw [Ep4_len]; omega) rfl ?_
       rw [Ep4_setN (i := i) (k := k) (by omega) (by omega) (by omega)]
       first | rw [catN_t hb] | rw [catN_f (by simpa using hb)]
       refine o_nil ?_
       refine x_oneL rfl ?_
       refine e_done (by kernel_rfl) ?_
       refine x_block ?_
       refine x_then (hK16 _ _ ?_)
       refine c_region ?_
       refine o_step rfl (s_add rfl rfl (by omega)) ?_
       refine o_step rfl (s_move rfl) ?_
       refine o_nil ?_
       exact x_then (x_inv (k + 1) (by omega) (by first | omega | (dsimp only; omega)) sbA hzB)
     ·
      obtain rfl : k = 2 := by omega
      refine c_exit ?_
      refine x_then_exit ?_
      refine x_then_exit ?_
      refine x_block_exit ?_
      refine x_block ?_
      refine x_then (hK8 _ _ ?_)
      refine c_region ?_
      refine o_step rfl (s_add rfl rfl (by omega)) ?_
      refine o_step rfl (s_move rfl) ?_
      refine o_nil ?_
      exact x_then (x_inv (i + 1) (by omega) (by first | omega | (dsimp only; omega)) sbA hzB)
    ·
     intro _ hJ12
     refine c_seq fun _ hK18 => ?_
     refine c_region ?_
     refine o_step rfl (s_move rfl) ?_
     refine o_step rfl (s_field rfl rfl (by decide)) ?_
     refine o_step rfl (s_indexA rfl rfl (by omega)) ?_
     refine o_step rfl (s_indexA rfl rfl (by omega)) ?_
     by_cases hn2 : getN b 0 i = true
     ·
      refine o_step rfl (step_cast (v' := .bool true) (s_ld rfl (.own meA (Ep4_N (i := 0) (k := i) (by omega) (by omega) (by omega)))) (by rw [hn2])) ?_
      refine o_nil ?_
      refine x_then (hK18 _ _ ?_)
      refine c_true rfl ?_
      refine c_drawE ([(b7, .cells (Ep4 ((cat2 (cat1 (catTo a b i) a b i) a b i))).toArray 87 (0, 0)), (b6, .cells (Ep4 zeroP).toArray 87 (0, 0)), (b5, .cells (Ep4 (b)).toArray 87 (0, 0)), (b4, .cells (Ep4 (a)).toArray 87 (0, 0))]) (fun i => Nat.beq i 12) ?_
      refine e_take 0 rfl (by kernel_rfl) (by kernel_rfl) (by kernel_rfl) (by kernel_rfl) (fun _ _ => rfl) rfl hzB (s_move rfl) ?_
      refine e_take 1 rfl (by kernel_rfl) (by kernel_rfl) (by kernel_rfl) (by kernel_rfl) (fun _ _ => rfl) rfl hzB (s_move rfl) ?_
      refine e_take 2 rfl (by kernel_rfl) (by kernel_rfl) (by kernel_rfl) (by kernel_rfl) (fun _ _ => rfl) rfl hzB (s_field rfl rfl (by decide)) ?_
      refine e_take 3 rfl (by kernel_rfl) (by kernel_rfl) (by kernel_rfl) (by kernel_rfl) (fun _ _ => rfl) rfl hzB (s_indexA rfl rfl (by omega)) ?_
      refine e_take 4 rfl (by kernel_rfl) (by kernel_rfl) (by kernel_rfl) (by kernel_rfl) (fun _ _ => rfl) rfl hzB (s_ldB rfl ((RdPK.cels (RdPK.own' meA (Ep4_L (i := i) (by omega) (by omega))))) lnA) ?_
      refine e_take 5 rfl (by kernel_rfl) (by kernel_rfl) (by kernel_rfl) (by kernel_rfl) (fun _ _ => rfl) rfl hzB (s_move rfl) ?_
      refine e_take 6 rfl (by kernel_rfl) (by kernel_rfl) (by kernel_rfl) (by kernel_rfl) (fun _ _ => rfl) rfl hzB (s_field rfl rfl (by decide)) ?_
      refine e_take 7 rfl (by kernel_rfl) (by kernel_rfl) (by kernel_rfl) (by kernel_rfl) (fun _ _ => rfl) rfl hzB (s_indexA rfl rfl (by omega)) ?_
      refine e_take 8 rfl (by kernel_rfl) (by kernel_rfl) (by kernel_rfl) (by kernel_rfl) (fun _ _ => rfl) rfl hzB (s_ldB rfl ((RdPK.cels (RdPK.own' meA (Ep4_L (i := i) (by omega) (by omega))))) lnA) ?_
      refine e_pure 10 rfl (by kernel_rfl) (by kernel_rfl) (by kernel_rfl) rfl (s_field rfl rfl (by decide)) ?_
      refine e_one 9 rfl (by kernel_rfl) ?_
      refine o_callP (orS_fn (getL (cat2 (cat1 (catTo a b i) a b i) a b i) i) (getL a i)) rfl rfl rfl (fun _ _ => trivial) (fun v66 hv66 => ?_)
      subst hv66
      refine o_nil ?_
      refine x_oneS hzB ?_
      refine e_pure 11 rfl (by kernel_rfl) (by kernel_rfl) (by kernel_rfl) rfl (s_indexA rfl rfl (by omega)) ?_
      refine e_one 12 rfl (by kernel_rfl) ?_
      refine o_storeA (l := _) (off := _) rfl rfl rfl (Es_one _) upA (by show _ ≤ 16; rw [Es_len]; omega) (fun _ _ => frz0) ?_
      rw [Ep4_setL (i := i) (by omega) (by omega)]
      rw [cat3_t hn2]
      refine o_nil ?_
      refine x_oneL rfl ?_
      refine e_done (by kernel_rfl) ?_
      exact x_then (hJ12 () _ _ trivial sbA sbA hzB)
     ·
      refine o_step rfl (step_cast (v' := .bool false) (s_ld rfl (.own meA (Ep4_N (i := 0) (k := i) (by omega) (by omega) (by omega)))) (by rw [eq_false_of_ne_true hn2])) ?_
      refine o_nil ?_
      refine x_then (hK18 _ _ ?_)
      refine c_false rfl ?_
      refine c_skip ?_
      exact x_then (hJ12 () _ _ trivial sbA sbA (by rw [cat3_f hn2]; exact hzB))
   ·
    intro _ hJ11
    refine c_seq fun _ hK19 => ?_
    refine c_region ?_
    refine o_step rfl (s_move rfl) ?_
    refine o_step rfl (s_field rfl rfl (by decide)) ?_
    refine o_step rfl (s_indexA rfl rfl (by omega)) ?_
    refine o_step rfl (s_indexA rfl rfl (by omega)) ?_
    by_cases hn1 : getN a i 0 = true
    ·
     refine o_step rfl (step_cast (v' := .bool true) (s_ld rfl (.own meA (Ep4_N (i := i) (k := 0) (by omega) (by omega) (by omega)))) (by rw [hn1])) ?_
     refine o_nil ?_
     refine x_then (hK19 _ _ ?_)
     refine c_true rfl ?_
     refine c_drawE ([(b7, .cells (Ep4 ((cat1 (catTo a b i) a b i))).toArray 87 (0, 0)), (b6, .cells (Ep4 zeroP).toArray 87 (0, 0)), (b5, .cells (Ep4 (b)).toArray 87 (0, 0)), (b4, .cells (Ep4 (a)).toArray 87 (0, 0))]) (fun i => Nat.beq i 12) ?_
     refine e_take 0 rfl (by kernel_rfl) (by kernel_rfl) (by kernel_rfl) (by kernel_rfl) (fun _ _ => rfl) rfl hzB (s_move rfl) ?_
     refine e_take 1 rfl (by kernel_rfl) (by kernel_rfl) (by kernel_rfl) (by kernel_rfl) (fun _ _ => rfl) rfl hzB (s_move rfl) ?_
     refine e_take 2 rfl (by kernel_rfl) (by kernel_rfl) (by kernel_rfl) (by kernel_rfl) (fun _ _ => rfl) rfl hzB (s_field rfl rfl (by decide)) ?_
     refine e_take 3 rfl (by kernel_rfl) (by kernel_rfl) (by kernel_rfl) (by kernel_rfl) (fun _ _ => rfl) rfl hzB (s_indexA rfl rfl (by omega)) ?_
     refine e_take 4 rfl (by kernel_rfl) (by kernel_rfl) (by kernel_rfl) (by kernel_rfl) (fun _ _ => rfl) rfl hzB (s_ldB rfl ((RdPK.cels (RdPK.own' meA (Ep4_F (i := i) (by omega) (by omega))))) lnA) ?_
     refine e_take 5 rfl (by kernel_rfl) (by kernel_rfl) (by kernel_rfl) (by kernel_rfl) (fun _ _ => rfl) rfl hzB (s_move rfl) ?_
     refine e_take 6 rfl (by kernel_rfl) (by kernel_rfl) (by kernel_rfl) (by kernel_rfl) (fun _ _ => rfl) rfl hzB (s_field rfl rfl (by decide)) ?_
     refine e_take 7 rfl (by kernel_rfl) (by kernel_rfl) (by kernel_rfl) (by kernel_rfl) (fun _ _ => rfl) rfl hzB (s_indexA rfl rfl (by omega)) ?_
     refine e_take 8 rfl (by kernel_rfl) (by kernel_rfl) (by kernel_rfl) (by kernel_rfl) (fun _ _ => rfl) rfl hzB (s_ldB rfl ((RdPK.cels (RdPK.own' meA (Ep4_F (i := i) (by omega) (by omega))))) lnA) ?_
     refine e_pure 10 rfl (by kernel_rfl) (by kernel_rfl) (by kernel_rfl) rfl (s_field rfl rfl (by decide)) ?_
     refine e_one 9 rfl (by kernel_rfl) ?_
     refine o_callP (orS_fn (getF (cat1 (catTo a b i) a b i) i) (getF b i)) rfl rfl rfl (fun _ _ => trivial) (fun v49 hv49 => ?_)
     subst hv49
     refine o_nil ?_
     refine x_oneS hzB ?_
     refine e_pure 11 rfl (by kernel_rfl) (by kernel_rfl) (by kernel_rfl) rfl (s_indexA rfl rfl (by omega)) ?_
     refine e_one 12 rfl (by kernel_rfl) ?_
     refine o_storeA (l := _) (off := _) rfl rfl rfl (Es_one _) upA (by show _ ≤ 16; rw [Es_len]; omega) (fun _ _ => frz0) ?_
     rw [Ep4_setF (i := i) (by omega) (by omega)]
     rw [cat2_t hn1]
     refine o_nil ?_
     refine x_oneL rfl ?_
     refine e_done (by kernel_rfl) ?_
     exact x_then (hJ11 () _ _ trivial sbA sbA hzB)
    ·
     refine o_step rfl (step_cast (v' := .bool false) (s_ld rfl (.own meA (Ep4_N (i := i) (k := 0) (by omega) (by omega) (by omega)))) (by rw [eq_false_of_ne_true hn1])) ?_
     refine o_nil ?_
     refine x_then (hK19 _ _ ?_)
     refine c_false rfl ?_
     refine c_skip ?_
     exact x_then (hJ11 () _ _ trivial sbA sbA (by rw [cat2_f hn1]; exact hzB))
  ·
   obtain rfl : i = 2 := by omega
   refine c_exit ?_
   refine x_then_exit ?_
   refine x_then_exit ?_
   refine x_block_exit ?_
   refine x_then (hK4 _ _ ?_)
   refine c_seq fun _ hK20 => ?_
   refine c_region ?_
   refine o_step rfl (s_ldB rfl (RdPK.cels (.own meA)) lnA) ?_
   refine o_stW rfl rfl upA lnA lnA onA ?_
   refine o_nil ?_
   refine x_then (hK20 _ _ ?_)
   refine c_ret ?_
   refine ?_
   exact x_ret rfl (.agg inferInstance inferInstance rfl (RdPK.cels (.own meA)) lnA (.nil)) (⟨(bx, .cells [.slice ra rn rc, .slice sa sn sc, .slice fa (joinF fol a.l0 b.f0).length fc].toArray 80 (0, 0)) :: S17, by exact hzB, rfl, S17, rfl, hO17⟩)
theorem cat_fn (bx : Nat) (ra : Option Addr) (rc rn : Nat) (sa : Option Addr) (sc sn : Nat) (fa : Option Addr) (fc : Nat) (fol : List Sp) (Sf : Hp) (hf : OwnS E3 3 84 (.slice fa fol.length fc) fol Sf) (a b : Pt) (hl : fol.length ≤ 24) : HL.Fn Tryd.prog 83 [.pointer (some ⟨bx, 0, none⟩), .agg (Ep4 (a)).toArray, .agg (Ep4 (b)).toArray] (fun _ => True) ((bx, .cells [.slice ra rn rc, .slice sa sn sc, .slice fa fol.length fc].toArray 80 (0, 0)) :: Sf) (fun v S' => v = .agg (Ep4 (catP a b)).toArray ∧ ∃ Sf', S' = ((bx, .cells [.slice ra rn rc, .slice sa sn sc, .slice fa (joinF fol a.l0 b.f0).length fc].toArray 80 (0, 0)) :: Sf') ∧ OwnS E3 3 84 (.slice fa (joinF fol a.l0 b.f0).length fc) (joinF fol a.l0 b.f0) Sf') :=
  HL.Fn.sub (catO_fn bx ra rc rn sa sc sn fa fc fol Sf hf a b hl) fun v S' ⟨S2, h1, h2⟩ => ⟨S2, h1, h2⟩
end Go.Proofs.YtmompllplidphaaDoor
namespace Go.HL.Kl.Mc
open Go Go.HL Go.HL.Kl
theorem flat_inj : ∀ (f g : F) (r s : List Nd), f.wf → g.wf → f.num = g.num → f.flat ++ r = g.flat ++ s → f = g ∧ r = s
  | .nil, .nil, r, s, _, _, _, h => ⟨rfl, h⟩
  | .nil, .nd _ _ _, _, _, _, _, hn, _ => by simp [F.num] at hn
  | .nd _ _ _, .nil, _, _, _, _, hn, _ => by simp [F.num] at hn
  | .nd x ks f, .nd y js g, r, s, hf, hg, hn, h => by
    simp only [F.flat, List.cons_append, List.append_assoc, List.cons.injEq] at h
    obtain ⟨rfl, h⟩ := h
    have hk : ks.num = js.num := by have := hf.2.1; have := hg.2.1; omega
    obtain ⟨e1, h1⟩ := flat_inj ks js _ _ hf.2.2.1 hg.2.2.1 hk h
    obtain ⟨e2, h2⟩ := flat_inj f g _ _ hf.2.2.2 hg.2.2.2 (by simpa [F.num] using hn) h1
    exact ⟨by rw [e1, e2], h2⟩
def ShpP (re : List Nd) : Prop := (∃ en, shN re 260 0 [] 0 = some (re.length, en)) ∧ ∃ x ks, Shp re x ks
noncomputable def shapedB (re : List Nd) : Bool := @decide (ShpP re) (Classical.propDecidable _)
theorem shapedB_iff {re : List Nd} : shapedB re = true ↔ ShpP re := by
  unfold shapedB
  constructor
  · intro h; exact @of_decide_eq_true _ (Classical.propDecidable _) h
  · intro h; exact @decide_eq_true _ (Classical.propDecidable _) h
theorem shapedB_no {re : List Nd} (h : ¬ ShpP re) : shapedB re = false := Bool.eq_false_iff.2 fun h' => h (shapedB_iff.1 h')
theorem shp_none {re : List Nd} (h : shN re 260 0 [] 0 = none) : shapedB re = false := shapedB_no fun ⟨⟨en, h'⟩, _⟩ => by rw [h] at h'; cases h'
theorem shp_end {re : List Nd} {j : Nat} {en : List Bool} (h : shN re 260 0 [] 0 = some (j, en)) (hj : j ≠ re.length) : shapedB re = false := shapedB_no fun ⟨⟨en', h'⟩, _⟩ => by
  rw [h] at h'; cases h'; exact hj rfl
theorem shp_tree {re : List Nd} {en : List Bool} (h : shN re 260 0 [] 0 = some (re.length, en)) : ∃ x ks, Part re (.nd x ks .nil) 0 re.length ∧ ks.depth + 1 ≤ 260 ∧ shapedB re = decide (cut (F.nd x ks .nil).weight ≤ 16384) := by
  obtain ⟨x, ks, ht⟩ := shN_tree _ _ _ _ _ _ h
  have hp := ht.part
  have hflat : re = x :: ks.flat := by simpa using ht.flat
  refine ⟨x, ks, hp, ht.dep, ?_⟩
  by_cases hw : (F.nd x ks .nil).weight ≤ 16384
  · rw [decide_eq_true (by unfold cut; omega)]
    exact shapedB_iff.2 ⟨⟨en, h⟩, x, ks, ⟨ht.wf, hflat, ht.dep, hw⟩⟩
  · rw [decide_eq_false (by unfold cut; omega)]
    refine shapedB_no fun ⟨_, y, js, hs⟩ => hw ?_
    have := flat_inj (.nd x ks .nil) (.nd y js .nil) [] [] ht.wf hs.wf rfl (by simp only [F.flat, List.append_nil]; rw [← hflat, ← hs.flat])
    rw [this.1]; exact hs.weight
noncomputable def refsB (re : List Nd) : Bool := shapedB re && re.any fun x => x.op == 8
theorem refs_yes {re : List Nd} {x : Nd} (hs : shapedB re = true) (hx : x ∈ re) (h8 : x.op = 8) : refsB re = true := by
  rw [refsB, hs, Bool.true_and, List.any_eq_true]
  exact ⟨x, hx, by simp [h8]⟩
theorem refs_no {re : List Nd} (h : ∀ j (x : Nd), j < re.length → re[j]? = some x → ¬ x.op = 8) : refsB re = false := by
  have : (re.any fun x => x.op == 8) = false := by
    rw [Bool.eq_false_iff]
    intro h'
    obtain ⟨x, hx, h8⟩ := List.any_eq_true.1 h'
    obtain ⟨j, hj⟩ := List.getElem?_of_mem hx
    exact h j x (List.getElem?_eq_some_iff.1 hj).1 hj (by simpa using h8)
  rw [refsB, this, Bool.and_false]
theorem refs_step {re : List Nd} {j : Nat} {x : Nd} (h : ∀ q (x : Nd), q < j → re[q]? = some x → ¬ x.op = 8) (hx : re[j]? = some x) (h8 : ¬ x.op = 8) : ∀ q (x : Nd), q < j + 1 → re[q]? = some x → ¬ x.op = 8 := by
  intro q y hq hy
  by_cases e : q = j
  · subst e; rw [hx] at hy; cases hy; exact h8
  · exact h q y (by omega) hy
theorem refs_shp {re : List Nd} (h : shapedB re = false) : refsB re = false := by rw [refsB, h, Bool.false_and]
theorem cut_fin2 {t a : Nat} (ht : 1 ≤ t) : min (1 + (t : Int) * (cut a : Int)) 16385 = (cut (1 + t * a) : Nat) := by
  rw [← cut_fin ht, Int.mul_comm, Int.add_comm]
def Eix (n : Nat) : List Value := [.int .i64 n]
instance : Enc Eix 1 := ⟨fun _ => rfl, fun _ _ h => by simp [Eix] at h; subst h; rfl⟩
/-- of each node the place behind it and all in it, from a place on -/
def EndsOk (re : List Nd) (a : Nat) (l : List Nat) : Prop := l.length = re.length ∧ ∀ (i : Nat) (x : Nd) (ks r : F) (i' : Nat), a ≤ i → Part re (.nd x ks r) i i' → l[i]? = some (i + 1 + ks.size)
theorem Part.uniq {re : List Nd} {x y : Nd} {ks js r s : F} {i i' i2 : Nat} (h : Part re (.nd x ks r) i i') (h' : Part re (.nd y js s) i i2) : ks = js := by
  have h1 := h.one; have h2 := h'.one
  have := flat_inj (.nd x ks .nil) (.nd y js .nil) _ _ h1.wf h2.wf rfl (h1.flat.symm.trans h2.flat)
  have := this.1
  simp at this
  exact this.2
/-- the code of one node with all in it -/
def codeOne (x : Nd) (ks : F) (b : Nat) : List In := oneC x (fun b => code ks false b 0) (fun b => code ks true b (b + lenM ks true)) (lenM ks false) b
def lenT (x : Nd) (ks : F) : Nat := lenOne x (lenM ks false) (lenM ks true)
/-- of alternatives: the places of the jumps -/
def jmps : F → Nat → List Nat
  | .nil, _ => []
  | .nd x ks r, b => match r with
    | .nil => []
    | _ => (b + 1 + lenT x ks) :: jmps r (b + lenT x ks + 2)
/-- the jumps patched, the first j of them -/
def patch (l : List In) (ps : List Nat) (e : Nat) : List In := ps.foldl (fun l p => l.set p ⟨4, 0, e, 0⟩) l
section
variable {x : Nd} {ks : F} {b : Nat}
end
/-- a repetition's one kid -/
theorem rep_kid {x : Nd} {ks : F} (hw : (F.nd x ks .nil).wf) (h6 : x.op = 6) : ∃ y js, ks = .nd y js .nil := by
  have hk : x.kids = 1 := by
    have h := hw.1
    simp only [ndOk, Bool.and_eq_true, kidsOk] at h
    have h := h.2
    rw [if_pos (.inl h6)] at h
    simpa using h
  have hn := hw.2.1
  cases ks with
  | nil => simp [F.num] at hn; omega
  | nd y js r =>
    cases r with
    | nil => exact ⟨y, js, rfl⟩
    | nd _ _ _ => simp only [F.num] at hn; omega
def IsJ (l : List In) (p : Nat) : Prop := ∃ v : Int, l[p]? = some ⟨4, 0, v, 0⟩
end Go.HL.Kl.Mc
namespace Go.HL.Kl.Mc
open Go Go.HL Go.HL.Kl
theorem F.size_weight : ∀ f : F, f.size ≤ f.weight
  | .nil => Nat.le_refl _
  | .nd x ks r => by
    have h1 := F.size_weight ks
    have h2 := F.size_weight r
    have h3 : ks.weight ≤ times x * ks.weight := Nat.le_mul_of_pos_left _ (times_pos x)
    simp only [F.size, F.weight]; omega
theorem Shp.len {re : List Nd} {x : Nd} {ks : F} (h : Shp re x ks) : re.length ≤ 16384 := by
  have h1 := F.size_weight (.nd x ks .nil)
  have := h.weight
  rw [h.flat]
  simp only [F.size] at h1
  simp only [List.length_cons, F.flat_size]
  omega
theorem Shp.part {re : List Nd} {x : Nd} {ks : F} (h : Shp re x ks) : Part re (.nd x ks .nil) 0 re.length := by
  refine ⟨h.wf, by rw [List.drop_length, List.drop_zero, List.append_nil]; simp [F.flat, h.flat], ?_, Nat.le_refl _⟩
  rw [h.flat]; simp [F.size, F.flat_size]
/-- an answer of Compile: none for what is not well shaped or has references, else the machine -/
inductive CompP (re : List Nd) (v : Value) (S' : Hp) : Prop
  | shape (hs : shapedB re = false) (hv : v = .tuple #[.slice none 0 0, .int .i64 49])
  | ref (hs : shapedB re = true) (hr : refsB re = true) (hv : v = .tuple #[.slice none 0 0, .int .i64 44])
  | ok {x : Nd} {ks : F} {a : Option Addr} (hs : shapedB re = true) (hr : refsB re = false) (h : Shp re x ks) (hv : v = .tuple #[.slice a (mach (.nd x ks .nil)).length (mach (.nd x ks .nil)).length, .int .i64 0]) (hm : RdS Ein (.slice a (mach (.nd x ks .nil)).length (mach (.nd x ks .nil)).length) (mach (.nd x ks .nil)) S')
/-- likewise: the machine is memory of one's own -/
inductive CompO (T : Nat) (re : List Nd) (v : Value) (S' : Hp) : Prop
  | shape (hs : shapedB re = false) (hv : v = .tuple #[.slice none 0 0, .int .i64 49]) (hn : S' = [])
  | ref (hs : shapedB re = true) (hr : refsB re = true) (hv : v = .tuple #[.slice none 0 0, .int .i64 44]) (hn : S' = [])
  | ok {x : Nd} {ks : F} {a : Option Addr} (hs : shapedB re = true) (hr : refsB re = false) (h : Shp re x ks) (hv : v = .tuple #[.slice a (mach (.nd x ks .nil)).length (mach (.nd x ks .nil)).length, .int .i64 0]) (hm : OwnS Ein 7 T (.slice a (mach (.nd x ks .nil)).length (mach (.nd x ks .nil)).length) (mach (.nd x ks .nil)) S')
end Go.HL.Kl.Mc
namespace Go.HL.Sts
open Go Go.HL Go.HL.Kl Go.HL.Kl.Mc
theorem iterM_succ (f : Pt → Mk) : ∀ (n : Nat) (c : Pt) (x : Plc), iterM f (n + 1) c x = f (iterM f n c x).1 (iterM f n c x).2
  | 0, c, x => rfl
  | n + 1, c, x => by rw [iterM, iterM_succ f n]; rfl
theorem partM_set {n : Nd} {ks : F} (h : n.op = 1) (x : Plc) : partM n ks x = setM n.set x := by simp [partM, oneM, h]
theorem partM_begin {n : Nd} {ks : F} (h : n.op = 2) (x : Plc) : partM n ks x = ({ zeroP with n10 := true, n11 := true }, x) := by simp [partM, oneM, h]
theorem partM_end {n : Nd} {ks : F} (h : n.op = 3) (x : Plc) : partM n ks x = ({ zeroP with n01 := true, n11 := true }, x) := by simp [partM, oneM, h]
theorem partM_cat {n : Nd} {ks : F} (h : n.op = 4) (x : Plc) : partM n ks x = kidsM ks false nothP x := by simp [partM, oneM, h]
theorem partM_alt {n : Nd} {ks : F} (h : n.op = 5) (x : Plc) : partM n ks x = kidsM ks true zeroP x := by simp [partM, oneM, h]
theorem partM_rep {n : Nd} {y : Nd} {js : F} (h : n.op = 6) (x : Plc) : partM n (.nd y js .nil) x = repM (partM y js) n.mn n.mx x := by
  rw [← kids_one y js]; show oneM n _ x = _; simp [oneM, h]
theorem partM_group {n : Nd} {y : Nd} {js : F} (h : n.op = 7) (x : Plc) : partM n (.nd y js .nil) x = partM y js x := by
  rw [← kids_one y js]; show oneM n _ x = _; simp [oneM, h]
theorem partM_ref {n : Nd} {ks : F} (h1 : ¬ n.op = 1) (h2 : ¬ n.op = 2) (h3 : ¬ n.op = 3) (h4 : ¬ n.op = 4) (h5 : ¬ n.op = 5) (h6 : ¬ n.op = 6) (h7 : ¬ n.op = 7) (x : Plc) : partM n ks x = (zeroP, x) := by simp [partM, oneM, h1, h2, h3, h4, h5, h6, h7]
theorem kidsM_cat (n : Nd) (ks r : F) (c : Pt) (x : Plc) : kidsM (.nd n ks r) false c x = kidsM r false (catM c (partM n ks) x).1 (catM c (partM n ks) x).2 := by
  simp [kidsM, catM, partM]
theorem kidsM_alt (n : Nd) (ks r : F) (c : Pt) (x : Plc) : kidsM (.nd n ks r) true c x = kidsM r true (altP c (partM n ks x).1) (partM n ks x).2 := by
  simp [kidsM, partM]
theorem cntM_nd (n : Nd) (ks r : F) : cntM (.nd n ks r) = cnt1 n ks + cntM r := rfl
theorem cnt1_op {n : Nd} {ks : F} (h : n.op = 4 ∨ n.op = 5 ∨ n.op = 7) : cnt1 n ks = cntM ks := by
  unfold cnt1
  rw [if_neg (by omega), if_neg (by omega), if_pos h]
theorem cnt1_rep {n : Nd} {ks : F} (h : n.op = 6) : cnt1 n ks = reps n * cntM ks := by
  unfold cnt1
  rw [if_neg (by omega), if_pos h]
theorem cnt1_set {n : Nd} {ks : F} (h : n.op = 1) : cnt1 n ks = 1 := by simp [cnt1, h]
theorem cnt_kid (y : Nd) (js : F) : cntM (.nd y js .nil) = cnt1 y js := by rw [cntM_nd]; rfl
/-- one kid -/
theorem one_kid {n : Nd} {ks : F} (hw : (F.nd n ks .nil).wf) (h : n.op = 6 ∨ n.op = 7) : ∃ y js, ks = .nd y js .nil := by
  have hk := hw.1
  simp only [ndOk, Bool.and_eq_true, kidsOk] at hk
  rw [if_pos h] at hk
  have h1 : n.kids = 1 := by simpa using hk.2
  have h2 := hw.2.1
  rw [h1] at h2
  match ks with
  | .nil => simp [F.num] at h2
  | .nd y js .nil => exact ⟨y, js, rfl⟩
  | .nd y js (.nd _ _ _) => simp only [F.num] at h2; omega
theorem En_Ec {n : Nd} : ∀ (j : Nat) u, (Ec n.set)[j]? = some u → (En n)[1 + j]? = some u := nd_set
theorem Ep4_begin : splice (Ep4 zeroP) 2 [.bool true, .bool true] = Ep4 { zeroP with n10 := true, n11 := true } := rfl
theorem Ep4_end : ((Ep4 zeroP).set 1 (.bool true)).set 3 (.bool true) = Ep4 { zeroP with n01 := true, n11 := true } := rfl
theorem Ep4_sets (s : Sp) : splice (splice (Ep4 zeroP) 4 (E3 s ++ E3 s)) 10 (E3 s ++ E3 s) = Ep4 ⟨false, false, false, false, s, s, s, s⟩ := rfl
theorem iter_len {m : Mk} {n : Nat} (h : Adds m n) (x : Plc) (hx : x.fol.length = x.sets.length) (k : Nat) : (iterM (fun c => catM c m) k nothP x).2.sets.length = x.sets.length + k * n ∧ (iterM (fun c => catM c m) k nothP x).2.fol.length = (iterM (fun c => catM c m) k nothP x).2.sets.length :=
  Adds.iter (f := fun c => catM c m) (fun c => h.cat c) k nothP x hx
def moreM (K : Mk) : Pt → Mk := fun more y => (altP nothP (catL K more y).1, (catL K more y).2)
theorem more_len {m : Mk} {n : Nat} (h : Adds m n) (x : Plc) (hx : x.fol.length = x.sets.length) (k : Nat) : (iterM (moreM m) k nothP x).2.sets.length = x.sets.length + k * n ∧ (iterM (moreM m) k nothP x).2.fol.length = (iterM (moreM m) k nothP x).2.sets.length :=
  Adds.iter (f := moreM m) (fun c => fun y hy => h.catL c y hy) k nothP x hx
theorem repM_neg {K : Mk} {mn mx : Int} (h : mx < 0) (x : Plc) : repM K mn mx x = (catP (iterM (fun c => catM c K) mn.toNat nothP x).1 (altP nothP (K (iterM (fun c => catM c K) mn.toNat nothP x).2).1), ((K (iterM (fun c => catM c K) mn.toNat nothP x).2).2.join (K (iterM (fun c => catM c K) mn.toNat nothP x).2).1.l0 (K (iterM (fun c => catM c K) mn.toNat nothP x).2).1.f0).join (iterM (fun c => catM c K) mn.toNat nothP x).1.l0 (altP nothP (K (iterM (fun c => catM c K) mn.toNat nothP x).2).1).f0) := by
  unfold repM
  simp only [h, if_true]
theorem repM_pos {K : Mk} {mn mx : Int} (h : ¬ mx < 0) (x : Plc) : repM K mn mx x = (catP (iterM (fun c => catM c K) mn.toNat nothP x).1 (iterM (moreM K) (mx - mn).toNat nothP (iterM (fun c => catM c K) mn.toNat nothP x).2).1, (iterM (moreM K) (mx - mn).toNat nothP (iterM (fun c => catM c K) mn.toNat nothP x).2).2.join (iterM (fun c => catM c K) mn.toNat nothP x).1.l0 (iterM (moreM K) (mx - mn).toNat nothP (iterM (fun c => catM c K) mn.toNat nothP x).2).1.f0) := by
  unfold repM
  simp only [h, if_false]
  rfl
theorem mul_lt {a b n : Nat} (h : a < b) : a * n + n ≤ b * n := by
  have : (a + 1) * n ≤ b * n := Nat.mul_le_mul_right n h
  rwa [Nat.succ_mul] at this
end Go.HL.Sts
