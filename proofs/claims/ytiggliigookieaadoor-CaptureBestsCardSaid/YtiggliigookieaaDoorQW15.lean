/- Part of the proofs over this seat: see the text that holds the theorem. Conditions: each theorem bears its own. -/
import Derived.Test.YtiggliigookieaaDoorQN22Z
import Derived.Test.YtiggliigookieaaDoorMT8Z
namespace Go.Proofs.YtiggliigookieaaDoor
open Go Go.HL Go.Proofs Go.HL.Kl Go.HL.Kl.Mc Go.HL.Kl.Mc.AskE
theorem long_fn (n : Int) : HL.Fn Tryd.prog 6 [.int .i64 n] (fun _ => True) [] (fun v _ => v = .bool (decide (n > 2147483647))) := by
  refine fn_of Tryd.func6 rfl rfl rfl fun w0 hw => ?_
  refine c_seq fun _ hK1 => ?_
  refine c_region ?_
  refine o_step rfl (s_assign rfl) ?_
  refine o_nil ?_
  refine x_then (hK1 _ _ ?_)
  refine c_seq fun _ hK2 => ?_
  refine c_region ?_
  refine o_step rfl (s_move rfl) ?_
  refine o_step rfl (s_gtr rfl rfl) ?_
  refine o_step rfl (s_assign rfl) ?_
  refine o_nil ?_
  refine x_then (hK2 _ _ ?_)
  refine c_ret ?_
  refine ?_
  exact x_ret rfl (.tmp rfl (.nil)) (rfl)

theorem num_fn (k i : Nat) (hk : k ≤ 1000) (hi : i ≤ 4294967296) : HL.Fn Tryd.prog 25 [.int .i64 k, .int .i64 i] (fun _ => True) [] (fun v _ => v = .int .i64 ((1048576 * k + i + 1 : Nat) : Int)) := by
  refine fn_of Tryd.func25 rfl rfl rfl fun w0 hw => ?_
  refine c_seq fun _ hK1 => ?_
  refine c_region ?_
  refine o_step rfl (s_assign rfl) ?_
  refine o_nil ?_
  refine x_then (hK1 _ _ ?_)
  refine c_seq fun _ hK2 => ?_
  refine c_region ?_
  refine o_step rfl (s_move rfl) ?_
  refine o_step rfl (s_mul rfl rfl (by omega)) ?_
  refine o_step rfl (s_move rfl) ?_
  refine o_step rfl (s_add rfl rfl (by omega)) ?_
  refine o_step rfl (s_add rfl rfl (by omega)) ?_
  refine o_step rfl (s_assign rfl) ?_
  refine o_nil ?_
  refine x_then (hK2 _ _ ?_)
  refine c_ret ?_
  refine ?_
  exact x_ret rfl (.tmp rfl (.nil)) ((congrArg (Value.int .i64) (by omega)))

theorem eqNodes_fn (a a2 : Option Addr) (c c2 : Nat) (xs ys : List Nd) : HL.Fn Tryd.prog 13 [.slice a xs.length c, .slice a2 ys.length c2] (fun w => Rd En w (.slice a xs.length c) xs ∧ Rd En w (.slice a2 ys.length c2) ys) [] (fun v _ => v = .bool (decide (xs = ys))) := by
  refine fn_of Tryd.func13 rfl rfl rfl fun w0 hw => ?_
  obtain ⟨hx, hy⟩ := hw
  have hsx := hx.sl
  have hsy := hy.sl
  have hbx := hsx.le
  have hby := hsy.le
  refine c_seq fun _ hK1 => ?_
  refine c_region ?_
  refine o_step rfl (s_assign rfl) ?_
  refine o_nil ?_
  refine x_then (hK1 _ _ ?_)
  refine c_seq fun _ hK2 => ?_
  refine c_seq fun _ hK3 => ?_
  refine c_region ?_
  refine o_step rfl (s_move rfl) ?_
  refine o_step rfl (s_len rfl) ?_
  refine o_step rfl (s_move rfl) ?_
  refine o_step rfl (s_len rfl) ?_
  refine o_step rfl (s_neq rfl rfl) ?_
  refine o_nil ?_
  refine x_then (hK3 _ _ ?_)
  refine c_if rfl (fun hl => ?_) (fun hl => ?_)
  ·
   refine c_seq fun _ hK4 => ?_
   refine c_region ?_
   refine o_step rfl (s_assign rfl) ?_
   refine o_nil ?_
   refine x_then (hK4 _ _ ?_)
   refine c_ret ?_
   refine x_then_ret (?_)
   exact x_ret rfl (.tmp rfl (.nil)) ((congrArg Value.bool (decide_eq_false (by intro e; subst e; omega)).symm))
  ·
   refine c_skip ?_
   refine x_then (hK2 _ _ ?_)
   refine c_seq fun _ hK5 => ?_
   refine c_seq fun _ hK6 => ?_
   refine c_region ?_
   refine o_step rfl (s_assign rfl) ?_
   refine o_nil ?_
   refine x_then (hK6 _ _ ?_)
   refine c_block ?_
   -- not carried: 4
   refine c_loopB (fun (j : Nat) => j ≤ xs.length ∧ ∀ i, i < j → xs[i]? = ys[i]?) (fun (j : Nat) => [(5, .int .i64 j)]) [(0, _), (1, _)] (fun (j : Nat) => _) (fun (j : Nat) => xs.length - j) 0 ⟨by omega, fun i hi => by omega⟩ sbA sbA hzB ?_
   rintro j ⟨hj, hjt⟩
   refine c_seq fun _ hK7 => ?_
   refine c_seq fun _ hK8 => ?_
   refine c_region ?_
   refine o_step rfl (s_move rfl) ?_
   refine o_step rfl (s_move rfl) ?_
   refine o_step rfl (s_len rfl) ?_
   refine o_step rfl (s_lss rfl rfl) ?_
   refine o_nil ?_
   refine x_then (hK8 _ _ ?_)
   refine c_if rfl (fun hlt => ?_) (fun hlt => ?_)
   ·
    obtain ⟨x, hxj⟩ : ∃ x, xs[j]? = some x := ⟨_, List.getElem?_eq_getElem (by omega)⟩
    obtain ⟨y, hyj⟩ : ∃ y, ys[j]? = some y := ⟨_, List.getElem?_eq_getElem (by omega)⟩
    refine c_skip ?_
    refine x_then (hK7 _ _ ?_)
    refine c_seq fun _ hK9 => ?_
    refine c_block ?_
    refine c_seq fun _ hK10 => ?_
    refine c_drawE ([]) (fun i => false) ?_
    refine e_take 0 rfl (by kernel_rfl) (by kernel_rfl) (by kernel_rfl) (by kernel_rfl) (fun _ _ => rfl) rfl (by exact HSub.nil) (s_move rfl) ?_
    refine e_take 1 rfl (by kernel_rfl) (by kernel_rfl) (by kernel_rfl) (by kernel_rfl) (fun _ _ => rfl) rfl (by exact HSub.nil) (s_move rfl) ?_
    refine e_take 2 rfl (by kernel_rfl) (by kernel_rfl) (by kernel_rfl) (by kernel_rfl) (fun _ _ => rfl) rfl (by exact HSub.nil) (s_idx rfl rfl hsx (by omega)) ?_
    refine e_take 3 rfl (by kernel_rfl) (by kernel_rfl) (by kernel_rfl) (by kernel_rfl) (fun _ _ => rfl) rfl (by exact HSub.nil) (s_ldB rfl ((RdK.old0 hx).lds j hxj (by omega)) (by rfl)) ?_
    refine e_take 4 rfl (by kernel_rfl) (by kernel_rfl) (by kernel_rfl) (by kernel_rfl) (fun _ _ => rfl) rfl (by exact HSub.nil) (s_move rfl) ?_
    refine e_take 5 rfl (by kernel_rfl) (by kernel_rfl) (by kernel_rfl) (by kernel_rfl) (fun _ _ => rfl) rfl (by exact HSub.nil) (s_move rfl) ?_
    refine e_take 6 rfl (by kernel_rfl) (by kernel_rfl) (by kernel_rfl) (by kernel_rfl) (fun _ _ => rfl) rfl (by exact HSub.nil) (s_idx rfl rfl hsy (by omega)) ?_
    refine e_take 7 rfl (by kernel_rfl) (by kernel_rfl) (by kernel_rfl) (by kernel_rfl) (fun _ _ => rfl) rfl (by exact HSub.nil) (s_ldB rfl ((RdK.old0 hy).lds j hyj (by omega)) (by rfl)) ?_
    refine e_take 8 rfl (by kernel_rfl) (by kernel_rfl) (by kernel_rfl) (by kernel_rfl) (fun _ _ => rfl) rfl (by exact HSub.nil) (s_neq_nd rfl rfl) ?_
    refine e_done (by kernel_rfl) ?_
    refine x_then (hK10 _ _ ?_)
    refine c_ifn rfl (fun hne => ?_) (fun hne => ?_)
    ·
     refine c_seq fun _ hK11 => ?_
     refine c_region ?_
     refine o_step rfl (s_assign rfl) ?_
     refine o_nil ?_
     refine x_then (hK11 _ _ ?_)
     refine c_ret ?_
     refine x_block_ret (x_then_ret (x_then_ret (x_block_ret (x_then_ret (?_)))))
     exact x_ret rfl (.tmp rfl (.nil)) ((congrArg Value.bool (decide_eq_false (by intro e; subst e; rw [hxj] at hyj; cases hyj; exact hne rfl)).symm))
    ·
     refine c_skip ?_
     refine x_block ?_
     refine x_then (hK9 _ _ ?_)
     refine c_region ?_
     refine o_step rfl (s_move rfl) ?_
     refine o_step rfl (s_add rfl rfl (by omega)) ?_
     refine o_step rfl (s_assign rfl) ?_
     refine o_nil ?_
     exact x_then (x_inv (j + 1) ⟨by omega, fun i hi => by rcases Nat.lt_or_ge i j with h | h; exact hjt i h; rw [show i = j by omega, hxj, hyj, hne]⟩ (by first | omega | (dsimp only; omega)) sbA hzB)
   ·
    refine c_exit ?_
    refine x_then_exit ?_
    refine x_then_exit ?_
    refine x_block_exit ?_
    refine x_then (hK5 _ _ ?_)
    refine c_seq fun _ hK12 => ?_
    refine c_region ?_
    refine o_step rfl (s_assign rfl) ?_
    refine o_nil ?_
    refine x_then (hK12 _ _ ?_)
    refine c_ret ?_
    refine ?_
    exact x_ret rfl (.tmp rfl (.nil)) ((congrArg Value.bool (decide_eq_true (ext_upto (by omega) fun i hi => hjt i (by omega))).symm))

theorem wideNodes_fn (a : Option Addr) (c : Nat) (xs : List Nd) (hn : xs.length ≤ 2147483647) : HL.Fn Tryd.prog 9 [.slice a xs.length c] (fun w => Rd En w (.slice a xs.length c) xs) [] (fun v S' => ∃ a', v = .slice a' xs.length (xs.length + 64) ∧ OwnS En 9 70 (.slice a' (wdl spN xs).length (xs.length + 64)) (wdl spN xs) S') := by
  refine fn_of Tryd.func9 rfl rfl rfl fun w0 hw => ?_
  have hsx := hw.sl
  have hbx := hsx.le
  have hwl := wdl_len spN xs
  refine c_seq fun _ hK1 => ?_
  refine c_region ?_
  refine o_step rfl (s_assign rfl) ?_
  refine o_nil ?_
  refine x_then (hK1 _ _ ?_)
  refine c_seq fun _ hK2 => ?_
  refine c_region ?_
  refine o_step rfl (s_move rfl) ?_
  refine o_step rfl (s_len rfl) ?_
  refine o_step rfl (s_add rfl rfl (by omega)) ?_
  refine o_make (E := En) (zx := zN) (n := xs.length + 64) rfl rfl (by rw [En_zero]; rfl) (by omega) (by omega) rfl fun b8 S8 hS8 => ?_
  refine o_step rfl (s_assign rfl) ?_
  refine o_nil ?_
  refine x_then (hK2 _ _ ?_)
  refine c_seq fun _ hK3 => ?_
  refine c_seq fun _ hK4 => ?_
  refine c_region ?_
  refine o_step rfl (s_assign rfl) ?_
  refine o_nil ?_
  refine x_then (hK4 _ _ ?_)
  refine c_block ?_
  refine c_loop3 (fun (j : Nat) (l : List Nd) (S : Hp) => j ≤ xs.length + 64 ∧ Tab.Fill (wdlF spN xs) (xs.length + 64) j l ∧ OwnS En 9 70 (.slice (some ⟨b8, 0, none⟩) (xs.length + 64) (xs.length + 64)) l S) (fun (j : Nat) (l : List Nd) (S : Hp) => [(4, .int .i64 j)]) [(0, _), (2, _), (3, _)] (fun (j : Nat) (l : List Nd) (S : Hp) => S) (fun (j : Nat) (l : List Nd) (S : Hp) => xs.length + 64 - j) 0 _ _ ⟨by omega, .zero List.length_replicate, hS8⟩ sbA sbA hzB ?_
  rintro j l S ⟨hj, hl, hS⟩
  have hsl := hS.sl
  have hll := hl.len
  rw [hll] at hsl
  refine c_seq fun _ hK5 => ?_
  refine c_seq fun _ hK6 => ?_
  refine c_region ?_
  refine o_step rfl (s_move rfl) ?_
  refine o_step rfl (s_move rfl) ?_
  refine o_step rfl (s_len rfl) ?_
  refine o_step rfl (s_lss rfl rfl) ?_
  refine o_nil ?_
  refine x_then (hK6 _ _ ?_)
  refine c_if rfl (fun hlt => ?_) (fun hlt => ?_)
  ·
   refine c_skip ?_
   refine x_then (hK5 _ _ ?_)
   refine c_seq fun _ hK7 => ?_
   refine c_block ?_
   refine c_seq fun _ hK8 => ?_
   refine c_region ?_
   refine o_step rfl (s_move rfl) ?_
   refine o_step rfl (s_move rfl) ?_
   refine o_step rfl (s_len rfl) ?_
   refine o_step rfl (s_lss rfl rfl) ?_
   refine o_nil ?_
   refine x_then (hK8 _ _ ?_)
   refine c_if rfl (fun hin => ?_) (fun hin => ?_)
   ·
    obtain ⟨x, hxj⟩ : ∃ x, xs[j]? = some x := ⟨_, List.getElem?_eq_getElem (by omega)⟩
    refine c_region ?_
    refine o_step rfl (s_move rfl) ?_
    refine o_step rfl (s_move rfl) ?_
    refine o_step rfl (s_move rfl) ?_
    refine o_step rfl (s_move rfl) ?_
    refine o_step rfl (s_idx rfl rfl hsx (by omega)) ?_
    refine o_step rfl (s_ldB rfl ((RdK.old0 hw).lds j hxj (by omega)) (by rfl)) ?_
    refine o_step rfl (s_idx rfl rfl hsl (by omega)) ?_
    refine o_stSE j x hS pkA rfl rfl (by omega) (by rw [Int.toNat_natCast]) fun S' hS' => ?_
    refine o_nil ?_
    refine x_block ?_
    refine x_then (hK7 _ _ ?_)
    refine c_region ?_
    refine o_step rfl (s_move rfl) ?_
    refine o_step rfl (s_add rfl rfl (by omega)) ?_
    refine o_step rfl (s_assign rfl) ?_
    refine o_nil ?_
    exact x_then (x_inv (j + 1, _, _) ⟨by omega, hl.step (by omega) (wdl_in hxj), hS'⟩ (by first | omega | (dsimp only; omega)) sbA hzB)
   ·
    refine c_region ?_
    refine o_step rfl (s_move rfl) ?_
    refine o_step rfl (s_move rfl) ?_
    refine o_step rfl (s_move rfl) ?_
    refine o_callP (num_fn 9 j (by omega) (by omega)) rfl rfl rfl (fun _ _ => trivial) (fun v29 hv29 => ?_)
    subst hv29
    refine o_step rfl (step_cast (v' := .agg (En (spN j)).toArray) (s_build (cs := [_, _, _, _, _, _, _, _, _]) (vs := [_, _]) rfl rfl (.cons rfl rfl rfl rfl rfl (.cons rfl rfl rfl rfl rfl (.nil)))) (by rw [En_sp])) ?_
    refine o_step rfl (s_idx rfl rfl hsl (by omega)) ?_
    refine o_stSE j (spN j) hS pkA rfl rfl (by omega) (by rw [Int.toNat_natCast]) fun S' hS' => ?_
    refine o_nil ?_
    refine x_block ?_
    refine x_then (hK7 _ _ ?_)
    refine c_region ?_
    refine o_step rfl (s_move rfl) ?_
    refine o_step rfl (s_add rfl rfl (by omega)) ?_
    refine o_step rfl (s_assign rfl) ?_
    refine o_nil ?_
    exact x_then (x_inv (j + 1, _, _) ⟨by omega, hl.step (by omega) (wdl_out (d := spN) (by omega)), hS'⟩ (by first | omega | (dsimp only; omega)) sbA hzB)
  ·
   have hd := fill_wdl hl (by omega)
   subst hd
   refine c_exit ?_
   refine x_then_exit ?_
   refine x_then_exit ?_
   refine x_block_exit ?_
   refine x_then (hK3 _ _ ?_)
   refine c_seq fun _ hK9 => ?_
   refine c_region ?_
   refine o_step rfl (s_move rfl) ?_
   refine o_step rfl (s_move rfl) ?_
   refine o_step rfl (s_len rfl) ?_
   refine o_step rfl (s_slice_hi rfl rfl (by omega)) ?_
   refine o_step rfl (s_assign rfl) ?_
   refine o_nil ?_
   refine x_then (hK9 _ _ ?_)
   refine c_ret ?_
   refine ?_
   exact x_ret rfl (.tmp rfl (.nil)) (⟨_, rfl, by rw [hwl]; exact hS⟩)

theorem spareNodes_fn (a : Option Addr) (c : Nat) (xs : List Nd) (hn : xs.length ≤ 2147483647) : HL.Fn Tryd.prog 14 [.slice a xs.length c] (fun w => Rd En w (.slice a (wdl spN xs).length c) (wdl spN xs)) [] (fun v _ => v = .bool true) := by
  refine fn_of Tryd.func14 rfl rfl rfl fun w0 hw => ?_
  have hwl := wdl_len spN xs
  have hsx := hw.sl
  have hc := hsx.cap
  refine c_seq fun _ hK1 => ?_
  refine c_region ?_
  refine o_step rfl (s_assign rfl) ?_
  refine o_nil ?_
  refine x_then (hK1 _ _ ?_)
  refine c_seq fun _ hK2 => ?_
  refine c_region ?_
  refine o_step rfl (s_move rfl) ?_
  refine o_step rfl (s_move rfl) ?_
  refine o_step rfl (s_len rfl) ?_
  refine o_step rfl (s_add rfl rfl (by omega)) ?_
  refine o_step rfl (s_slice_hi rfl rfl (by omega)) ?_
  rw [show ((xs.length : Int) + 64).toNat = (wdl spN xs).length from by rw [wdl_len]; omega]
  refine o_step rfl (s_assign rfl) ?_
  refine o_nil ?_
  refine x_then (hK2 _ _ ?_)
  refine c_seq fun _ hK3 => ?_
  refine c_seq fun _ hK4 => ?_
  refine c_region ?_
  refine o_step rfl (s_move rfl) ?_
  refine o_step rfl (s_len rfl) ?_
  refine o_step rfl (s_assign rfl) ?_
  refine o_nil ?_
  refine x_then (hK4 _ _ ?_)
  refine c_block ?_
  -- not carried: 2
  refine c_loopB (fun (j : Nat) => xs.length ≤ j ∧ j ≤ xs.length + 64) (fun (j : Nat) => [(4, .int .i64 j)]) [(3, _)] (fun (j : Nat) => _) (fun (j : Nat) => xs.length + 64 - j) xs.length ⟨by omega, by omega⟩ sbA sbA hzB ?_
  rintro j ⟨hj1, hj2⟩
  refine c_seq fun _ hK5 => ?_
  refine c_seq fun _ hK6 => ?_
  refine c_region ?_
  refine o_step rfl (s_move rfl) ?_
  refine o_step rfl (s_move rfl) ?_
  refine o_step rfl (s_len rfl) ?_
  refine o_step rfl (s_lss rfl rfl) ?_
  refine o_nil ?_
  refine x_then (hK6 _ _ ?_)
  refine c_if rfl (fun hlt => ?_) (fun hlt => ?_)
  ·
   have hxj := wdl_spare (d := spN) (xs := xs) (i := j) (by omega) (by omega)
   refine c_skip ?_
   refine x_then (hK5 _ _ ?_)
   refine c_seq fun _ hK7 => ?_
   refine c_block ?_
   refine c_seq fun _ hK8 => ?_
   refine c_drawE ([]) (fun i => false) ?_
   refine e_take 0 rfl (by kernel_rfl) (by kernel_rfl) (by kernel_rfl) (by kernel_rfl) (fun _ _ => rfl) rfl (by exact HSub.nil) (s_move rfl) ?_
   refine e_take 1 rfl (by kernel_rfl) (by kernel_rfl) (by kernel_rfl) (by kernel_rfl) (fun _ _ => rfl) rfl (by exact HSub.nil) (s_move rfl) ?_
   refine e_take 2 rfl (by kernel_rfl) (by kernel_rfl) (by kernel_rfl) (by kernel_rfl) (fun _ _ => rfl) rfl (by exact HSub.nil) (s_idx rfl rfl hsx (by omega)) ?_
   refine e_take 3 rfl (by kernel_rfl) (by kernel_rfl) (by kernel_rfl) (by kernel_rfl) (fun _ _ => rfl) rfl (by exact HSub.nil) (s_ldB rfl ((RdK.old0 hw).lds j hxj (by omega)) (by rfl)) ?_
   refine e_take 4 rfl (by kernel_rfl) (by kernel_rfl) (by kernel_rfl) (by kernel_rfl) (fun _ _ => rfl) rfl (by exact HSub.nil) (s_move rfl) ?_
   refine e_one 5 rfl (by kernel_rfl) ?_
   refine o_callP (num_fn 9 j (by omega) (by omega)) rfl rfl rfl (fun _ _ => trivial) (fun v23 hv23 => ?_)
   subst hv23
   refine o_nil ?_
   refine x_oneS (by exact HSub.nil) ?_
   refine e_take 6 rfl (by kernel_rfl) (by kernel_rfl) (by kernel_rfl) (by kernel_rfl) (fun _ _ => rfl) rfl (by exact HSub.nil) (step_cast (v' := .agg (En (spN j)).toArray) (s_build (cs := [_, _, _, _, _, _, _, _, _]) (vs := [_, _]) rfl rfl (.cons rfl rfl rfl rfl rfl (.cons rfl rfl rfl rfl rfl (.nil)))) (by rw [En_sp])) ?_
   refine e_take 7 rfl (by kernel_rfl) (by kernel_rfl) (by kernel_rfl) (by kernel_rfl) (fun _ _ => rfl) rfl (by exact HSub.nil) (step_cast (v' := .bool true) (s_eql_nd rfl rfl) (by rw [decide_eq_true rfl])) ?_
   refine e_take 8 rfl (by kernel_rfl) (by kernel_rfl) (by kernel_rfl) (by kernel_rfl) (fun _ _ => rfl) rfl (by exact HSub.nil) (s_not rfl) ?_
   refine e_done (by kernel_rfl) ?_
   refine x_then (hK8 _ _ ?_)
   refine c_false rfl ?_
   refine c_skip ?_
   refine x_block ?_
   refine x_then (hK7 _ _ ?_)
   refine c_region ?_
   refine o_step rfl (s_move rfl) ?_
   refine o_step rfl (s_add rfl rfl (by omega)) ?_
   refine o_step rfl (s_assign rfl) ?_
   refine o_nil ?_
   exact x_then (x_inv (j + 1) ⟨by omega, by omega⟩ (by first | omega | (dsimp only; omega)) sbA hzB)
  ·
   refine c_exit ?_
   refine x_then_exit ?_
   refine x_then_exit ?_
   refine x_block_exit ?_
   refine x_then (hK3 _ _ ?_)
   refine c_seq fun _ hK9 => ?_
   refine c_region ?_
   refine o_step rfl (s_assign rfl) ?_
   refine o_nil ?_
   refine x_then (hK9 _ _ ?_)
   refine c_ret ?_
   refine ?_
   exact x_ret rfl (.tmp rfl (.nil)) (rfl)

theorem eqBytes_fn (a a2 : Option Addr) (c c2 : Nat) (xs ys : List UInt8) : HL.Fn Tryd.prog 15 [.slice a xs.length c, .slice a2 ys.length c2] (fun w => Rd Eb w (.slice a xs.length c) xs ∧ Rd Eb w (.slice a2 ys.length c2) ys) [] (fun v _ => v = .bool (decide (xs = ys))) := by
  refine fn_of Tryd.func15 rfl rfl rfl fun w0 hw => ?_
  obtain ⟨hx, hy⟩ := hw
  have hsx := hx.sl
  have hsy := hy.sl
  have hbx := hsx.le
  have hby := hsy.le
  refine c_seq fun _ hK1 => ?_
  refine c_region ?_
  refine o_step rfl (s_assign rfl) ?_
  refine o_nil ?_
  refine x_then (hK1 _ _ ?_)
  refine c_seq fun _ hK2 => ?_
  refine c_seq fun _ hK3 => ?_
  refine c_region ?_
  refine o_step rfl (s_move rfl) ?_
  refine o_step rfl (s_len rfl) ?_
  refine o_step rfl (s_move rfl) ?_
  refine o_step rfl (s_len rfl) ?_
  refine o_step rfl (s_neq rfl rfl) ?_
  refine o_nil ?_
  refine x_then (hK3 _ _ ?_)
  refine c_if rfl (fun hl => ?_) (fun hl => ?_)
  ·
   refine c_seq fun _ hK4 => ?_
   refine c_region ?_
   refine o_step rfl (s_assign rfl) ?_
   refine o_nil ?_
   refine x_then (hK4 _ _ ?_)
   refine c_ret ?_
   refine x_then_ret (?_)
   exact x_ret rfl (.tmp rfl (.nil)) ((congrArg Value.bool (decide_eq_false (by intro e; subst e; omega)).symm))
  ·
   refine c_skip ?_
   refine x_then (hK2 _ _ ?_)
   refine c_seq fun _ hK5 => ?_
   refine c_seq fun _ hK6 => ?_
   refine c_region ?_
   refine o_step rfl (s_assign rfl) ?_
   refine o_nil ?_
   refine x_then (hK6 _ _ ?_)
   refine c_block ?_
   -- not carried: 4
   refine c_loopB (fun (j : Nat) => j ≤ xs.length ∧ ∀ i, i < j → xs[i]? = ys[i]?) (fun (j : Nat) => [(5, .int .i64 j)]) [(0, _), (1, _)] (fun (j : Nat) => _) (fun (j : Nat) => xs.length - j) 0 ⟨by omega, fun i hi => by omega⟩ sbA sbA hzB ?_
   rintro j ⟨hj, hjt⟩
   refine c_seq fun _ hK7 => ?_
   refine c_seq fun _ hK8 => ?_
   refine c_region ?_
   refine o_step rfl (s_move rfl) ?_
   refine o_step rfl (s_move rfl) ?_
   refine o_step rfl (s_len rfl) ?_
   refine o_step rfl (s_lss rfl rfl) ?_
   refine o_nil ?_
   refine x_then (hK8 _ _ ?_)
   refine c_if rfl (fun hlt => ?_) (fun hlt => ?_)
   ·
    obtain ⟨x, hxj⟩ : ∃ x, xs[j]? = some x := ⟨_, List.getElem?_eq_getElem (by omega)⟩
    obtain ⟨y, hyj⟩ : ∃ y, ys[j]? = some y := ⟨_, List.getElem?_eq_getElem (by omega)⟩
    refine c_skip ?_
    refine x_then (hK7 _ _ ?_)
    refine c_seq fun _ hK9 => ?_
    refine c_block ?_
    refine c_seq fun _ hK10 => ?_
    refine c_drawE ([]) (fun i => false) ?_
    refine e_take 0 rfl (by kernel_rfl) (by kernel_rfl) (by kernel_rfl) (by kernel_rfl) (fun _ _ => rfl) rfl (by exact HSub.nil) (s_move rfl) ?_
    refine e_take 1 rfl (by kernel_rfl) (by kernel_rfl) (by kernel_rfl) (by kernel_rfl) (fun _ _ => rfl) rfl (by exact HSub.nil) (s_move rfl) ?_
    refine e_take 2 rfl (by kernel_rfl) (by kernel_rfl) (by kernel_rfl) (by kernel_rfl) (fun _ _ => rfl) rfl (by exact HSub.nil) (s_idx rfl rfl hsx (by omega)) ?_
    refine e_take 3 rfl (by kernel_rfl) (by kernel_rfl) (by kernel_rfl) (by kernel_rfl) (fun _ _ => rfl) rfl (by exact HSub.nil) (s_ld rfl ((RdK.old0 hx).ld j 0 hxj rfl (by decide) (by omega))) ?_
    refine e_take 4 rfl (by kernel_rfl) (by kernel_rfl) (by kernel_rfl) (by kernel_rfl) (fun _ _ => rfl) rfl (by exact HSub.nil) (s_move rfl) ?_
    refine e_take 5 rfl (by kernel_rfl) (by kernel_rfl) (by kernel_rfl) (by kernel_rfl) (fun _ _ => rfl) rfl (by exact HSub.nil) (s_move rfl) ?_
    refine e_take 6 rfl (by kernel_rfl) (by kernel_rfl) (by kernel_rfl) (by kernel_rfl) (fun _ _ => rfl) rfl (by exact HSub.nil) (s_idx rfl rfl hsy (by omega)) ?_
    refine e_take 7 rfl (by kernel_rfl) (by kernel_rfl) (by kernel_rfl) (by kernel_rfl) (fun _ _ => rfl) rfl (by exact HSub.nil) (s_ld rfl ((RdK.old0 hy).ld j 0 hyj rfl (by decide) (by omega))) ?_
    refine e_take 8 rfl (by kernel_rfl) (by kernel_rfl) (by kernel_rfl) (by kernel_rfl) (fun _ _ => rfl) rfl (by exact HSub.nil) (step_cast (v' := .bool (!decide (x = y))) (s_neq rfl rfl) (congrArg Value.bool u8_ne)) ?_
    refine e_done (by kernel_rfl) ?_
    refine x_then (hK10 _ _ ?_)
    refine c_ifn rfl (fun hne => ?_) (fun hne => ?_)
    ·
     refine c_seq fun _ hK11 => ?_
     refine c_region ?_
     refine o_step rfl (s_assign rfl) ?_
     refine o_nil ?_
     refine x_then (hK11 _ _ ?_)
     refine c_ret ?_
     refine x_block_ret (x_then_ret (x_then_ret (x_block_ret (x_then_ret (?_)))))
     exact x_ret rfl (.tmp rfl (.nil)) ((congrArg Value.bool (decide_eq_false (by intro e; subst e; rw [hxj] at hyj; cases hyj; exact hne rfl)).symm))
    ·
     refine c_skip ?_
     refine x_block ?_
     refine x_then (hK9 _ _ ?_)
     refine c_region ?_
     refine o_step rfl (s_move rfl) ?_
     refine o_step rfl (s_add rfl rfl (by omega)) ?_
     refine o_step rfl (s_assign rfl) ?_
     refine o_nil ?_
     exact x_then (x_inv (j + 1) ⟨by omega, fun i hi => by rcases Nat.lt_or_ge i j with h | h; exact hjt i h; rw [show i = j by omega, hxj, hyj, hne]⟩ (by first | omega | (dsimp only; omega)) sbA hzB)
   ·
    refine c_exit ?_
    refine x_then_exit ?_
    refine x_then_exit ?_
    refine x_block_exit ?_
    refine x_then (hK5 _ _ ?_)
    refine c_seq fun _ hK12 => ?_
    refine c_region ?_
    refine o_step rfl (s_assign rfl) ?_
    refine o_nil ?_
    refine x_then (hK12 _ _ ?_)
    refine c_ret ?_
    refine ?_
    exact x_ret rfl (.tmp rfl (.nil)) ((congrArg Value.bool (decide_eq_true (ext_upto (by omega) fun i hi => hjt i (by omega))).symm))

theorem wideBytes_fn (a : Option Addr) (c : Nat) (xs : List UInt8) (hn : xs.length ≤ 2147483647) : HL.Fn Tryd.prog 10 [.slice a xs.length c] (fun w => Rd Eb w (.slice a xs.length c) xs) [] (fun v S' => ∃ a', v = .slice a' xs.length (xs.length + 64) ∧ OwnS Eb 1 5 (.slice a' (wdl spB xs).length (xs.length + 64)) (wdl spB xs) S') := by
  refine fn_of Tryd.func10 rfl rfl rfl fun w0 hw => ?_
  have hsx := hw.sl
  have hbx := hsx.le
  have hwl := wdl_len spB xs
  refine c_seq fun _ hK1 => ?_
  refine c_region ?_
  refine o_step rfl (s_assign rfl) ?_
  refine o_nil ?_
  refine x_then (hK1 _ _ ?_)
  refine c_seq fun _ hK2 => ?_
  refine c_region ?_
  refine o_step rfl (s_move rfl) ?_
  refine o_step rfl (s_len rfl) ?_
  refine o_step rfl (s_add rfl rfl (by omega)) ?_
  refine o_make (E := Eb) (zx := 0) (n := xs.length + 64) rfl rfl rfl (by omega) (by omega) rfl fun b8 S8 hS8 => ?_
  refine o_step rfl (s_assign rfl) ?_
  refine o_nil ?_
  refine x_then (hK2 _ _ ?_)
  refine c_seq fun _ hK3 => ?_
  refine c_seq fun _ hK4 => ?_
  refine c_region ?_
  refine o_step rfl (s_assign rfl) ?_
  refine o_nil ?_
  refine x_then (hK4 _ _ ?_)
  refine c_block ?_
  refine c_loop3 (fun (j : Nat) (l : List UInt8) (S : Hp) => j ≤ xs.length + 64 ∧ Tab.Fill (wdlF spB xs) (xs.length + 64) j l ∧ OwnS Eb 1 5 (.slice (some ⟨b8, 0, none⟩) (xs.length + 64) (xs.length + 64)) l S) (fun (j : Nat) (l : List UInt8) (S : Hp) => [(4, .int .i64 j)]) [(0, _), (2, _), (3, _)] (fun (j : Nat) (l : List UInt8) (S : Hp) => S) (fun (j : Nat) (l : List UInt8) (S : Hp) => xs.length + 64 - j) 0 _ _ ⟨by omega, .zero List.length_replicate, hS8⟩ sbA sbA hzB ?_
  rintro j l S ⟨hj, hl, hS⟩
  have hsl := hS.sl
  have hll := hl.len
  rw [hll] at hsl
  refine c_seq fun _ hK5 => ?_
  refine c_seq fun _ hK6 => ?_
  refine c_region ?_
  refine o_step rfl (s_move rfl) ?_
  refine o_step rfl (s_move rfl) ?_
  refine o_step rfl (s_len rfl) ?_
  refine o_step rfl (s_lss rfl rfl) ?_
  refine o_nil ?_
  refine x_then (hK6 _ _ ?_)
  refine c_if rfl (fun hlt => ?_) (fun hlt => ?_)
  ·
   refine c_skip ?_
   refine x_then (hK5 _ _ ?_)
   refine c_seq fun _ hK7 => ?_
   refine c_block ?_
   refine c_seq fun _ hK8 => ?_
   refine c_region ?_
   refine o_step rfl (s_move rfl) ?_
   refine o_step rfl (s_move rfl) ?_
   refine o_step rfl (s_len rfl) ?_
   refine o_step rfl (s_lss rfl rfl) ?_
   refine o_nil ?_
   refine x_then (hK8 _ _ ?_)
   refine c_if rfl (fun hin => ?_) (fun hin => ?_)
   ·
    obtain ⟨x, hxj⟩ : ∃ x, xs[j]? = some x := ⟨_, List.getElem?_eq_getElem (by omega)⟩
    refine c_region ?_
    refine o_step rfl (s_move rfl) ?_
    refine o_step rfl (s_move rfl) ?_
    refine o_step rfl (s_move rfl) ?_
    refine o_step rfl (s_move rfl) ?_
    refine o_step rfl (s_idx rfl rfl hsx (by omega)) ?_
    refine o_step rfl (s_ld rfl ((RdK.old0 hw).ld j 0 hxj rfl (by decide) (by omega))) ?_
    refine o_step rfl (s_idx rfl rfl hsl (by omega)) ?_
    refine o_stS1 j x hS pkA rfl rfl rfl (by omega) (by rw [Int.toNat_natCast, Nat.mul_one]) fun S' hS' => ?_
    refine o_nil ?_
    refine x_block ?_
    refine x_then (hK7 _ _ ?_)
    refine c_region ?_
    refine o_step rfl (s_move rfl) ?_
    refine o_step rfl (s_add rfl rfl (by omega)) ?_
    refine o_step rfl (s_assign rfl) ?_
    refine o_nil ?_
    exact x_then (x_inv (j + 1, _, _) ⟨by omega, hl.step (by omega) (wdl_in hxj), hS'⟩ (by first | omega | (dsimp only; omega)) sbA hzB)
   ·
    refine c_region ?_
    refine o_step rfl (s_move rfl) ?_
    refine o_step rfl (s_move rfl) ?_
    refine o_step rfl (s_move rfl) ?_
    refine o_step rfl (s_mul rfl rfl (by omega)) ?_
    refine o_step rfl (s_add rfl rfl (by omega)) ?_
    refine o_step rfl (step_cast (v' := .int .i64 ((279 + 7 * j + 3 : Nat) : Int)) (s_add rfl rfl (by omega)) (congrArg (Value.int .i64) (by omega))) ?_
    refine o_step rfl (step_cast (v' := .int .u8 (spB j).toNat) (s_convB (j := 279 + 7 * j + 3) rfl) rfl) ?_
    refine o_step rfl (s_idx rfl rfl hsl (by omega)) ?_
    refine o_stS1 j (spB j) hS pkA rfl rfl rfl (by omega) (by rw [Int.toNat_natCast, Nat.mul_one]) fun S' hS' => ?_
    refine o_nil ?_
    refine x_block ?_
    refine x_then (hK7 _ _ ?_)
    refine c_region ?_
    refine o_step rfl (s_move rfl) ?_
    refine o_step rfl (s_add rfl rfl (by omega)) ?_
    refine o_step rfl (s_assign rfl) ?_
    refine o_nil ?_
    exact x_then (x_inv (j + 1, _, _) ⟨by omega, hl.step (by omega) (wdl_out (d := spB) (by omega)), hS'⟩ (by first | omega | (dsimp only; omega)) sbA hzB)
  ·
   have hd := fill_wdl hl (by omega)
   subst hd
   refine c_exit ?_
   refine x_then_exit ?_
   refine x_then_exit ?_
   refine x_block_exit ?_
   refine x_then (hK3 _ _ ?_)
   refine c_seq fun _ hK9 => ?_
   refine c_region ?_
   refine o_step rfl (s_move rfl) ?_
   refine o_step rfl (s_move rfl) ?_
   refine o_step rfl (s_len rfl) ?_
   refine o_step rfl (s_slice_hi rfl rfl (by omega)) ?_
   refine o_step rfl (s_assign rfl) ?_
   refine o_nil ?_
   refine x_then (hK9 _ _ ?_)
   refine c_ret ?_
   refine ?_
   exact x_ret rfl (.tmp rfl (.nil)) (⟨_, rfl, by rw [hwl]; exact hS⟩)

theorem spareBytes_fn (a : Option Addr) (c : Nat) (xs : List UInt8) (hn : xs.length ≤ 2147483647) : HL.Fn Tryd.prog 16 [.slice a xs.length c] (fun w => Rd Eb w (.slice a (wdl spB xs).length c) (wdl spB xs)) [] (fun v _ => v = .bool true) := by
  refine fn_of Tryd.func16 rfl rfl rfl fun w0 hw => ?_
  have hwl := wdl_len spB xs
  have hsx := hw.sl
  have hc := hsx.cap
  refine c_seq fun _ hK1 => ?_
  refine c_region ?_
  refine o_step rfl (s_assign rfl) ?_
  refine o_nil ?_
  refine x_then (hK1 _ _ ?_)
  refine c_seq fun _ hK2 => ?_
  refine c_region ?_
  refine o_step rfl (s_move rfl) ?_
  refine o_step rfl (s_move rfl) ?_
  refine o_step rfl (s_len rfl) ?_
  refine o_step rfl (s_add rfl rfl (by omega)) ?_
  refine o_step rfl (s_slice_hi rfl rfl (by omega)) ?_
  rw [show ((xs.length : Int) + 64).toNat = (wdl spB xs).length from by rw [wdl_len]; omega]
  refine o_step rfl (s_assign rfl) ?_
  refine o_nil ?_
  refine x_then (hK2 _ _ ?_)
  refine c_seq fun _ hK3 => ?_
  refine c_seq fun _ hK4 => ?_
  refine c_region ?_
  refine o_step rfl (s_move rfl) ?_
  refine o_step rfl (s_len rfl) ?_
  refine o_step rfl (s_assign rfl) ?_
  refine o_nil ?_
  refine x_then (hK4 _ _ ?_)
  refine c_block ?_
  -- not carried: 2
  refine c_loopB (fun (j : Nat) => xs.length ≤ j ∧ j ≤ xs.length + 64) (fun (j : Nat) => [(4, .int .i64 j)]) [(3, _)] (fun (j : Nat) => _) (fun (j : Nat) => xs.length + 64 - j) xs.length ⟨by omega, by omega⟩ sbA sbA hzB ?_
  rintro j ⟨hj1, hj2⟩
  refine c_seq fun _ hK5 => ?_
  refine c_seq fun _ hK6 => ?_
  refine c_region ?_
  refine o_step rfl (s_move rfl) ?_
  refine o_step rfl (s_move rfl) ?_
  refine o_step rfl (s_len rfl) ?_
  refine o_step rfl (s_lss rfl rfl) ?_
  refine o_nil ?_
  refine x_then (hK6 _ _ ?_)
  refine c_if rfl (fun hlt => ?_) (fun hlt => ?_)
  ·
   have hxj := wdl_spare (d := spB) (xs := xs) (i := j) (by omega) (by omega)
   refine c_skip ?_
   refine x_then (hK5 _ _ ?_)
   refine c_seq fun _ hK7 => ?_
   refine c_block ?_
   refine c_seq fun _ hK8 => ?_
   refine c_region ?_
   refine o_step rfl (s_move rfl) ?_
   refine o_step rfl (s_move rfl) ?_
   refine o_step rfl (s_idx rfl rfl hsx (by omega)) ?_
   refine o_step rfl (s_ld rfl ((RdK.old0 hw).ld j 0 hxj rfl (by decide) (by omega))) ?_
   refine o_step rfl (s_move rfl) ?_
   refine o_step rfl (s_mul rfl rfl (by omega)) ?_
   refine o_step rfl (s_add rfl rfl (by omega)) ?_
   refine o_step rfl (step_cast (v' := .int .i64 ((279 + 7 * j + 3 : Nat) : Int)) (s_add rfl rfl (by omega)) (congrArg (Value.int .i64) (by omega))) ?_
   refine o_step rfl (step_cast (v' := .int .u8 (spB j).toNat) (s_convB (j := 279 + 7 * j + 3) rfl) rfl) ?_
   refine o_step rfl (step_cast (v' := .bool true) (s_eql rfl rfl) (by rw [decide_eq_true rfl])) ?_
   refine o_step rfl (s_not rfl) ?_
   refine o_nil ?_
   refine x_then (hK8 _ _ ?_)
   refine c_false rfl ?_
   refine c_skip ?_
   refine x_block ?_
   refine x_then (hK7 _ _ ?_)
   refine c_region ?_
   refine o_step rfl (s_move rfl) ?_
   refine o_step rfl (s_add rfl rfl (by omega)) ?_
   refine o_step rfl (s_assign rfl) ?_
   refine o_nil ?_
   exact x_then (x_inv (j + 1) ⟨by omega, by omega⟩ (by first | omega | (dsimp only; omega)) sbA hzB)
  ·
   refine c_exit ?_
   refine x_then_exit ?_
   refine x_then_exit ?_
   refine x_block_exit ?_
   refine x_then (hK3 _ _ ?_)
   refine c_seq fun _ hK9 => ?_
   refine c_region ?_
   refine o_step rfl (s_assign rfl) ?_
   refine o_nil ?_
   refine x_then (hK9 _ _ ?_)
   refine c_ret ?_
   refine ?_
   exact x_ret rfl (.tmp rfl (.nil)) (rfl)

end Go.Proofs.YtiggliigookieaaDoor
