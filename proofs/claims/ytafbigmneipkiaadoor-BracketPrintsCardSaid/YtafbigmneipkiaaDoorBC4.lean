/- Part of the proofs over this seat: see the text that holds the theorem. Conditions: each theorem bears its own. -/
import Derived.Test.YtafbigmneipkiaaDoorHlB
import Derived.Test.YtafbigmneipkiaaDoorBF1
import Derived.Test.YtafbigmneipkiaaDoorM4
import Derived.Test.YtafbigmneipkiaaDoorHB
namespace Go.Proofs.YtafbigmneipkiaaDoor
open Go Go.HL Go.Proofs Go.Tab

theorem eqMarks_fn (a a2 : Option Addr) (c c2 : Nat) (xs ys : List Mk) : HL.Fn Tryd.prog 13 [.slice a xs.length c, .slice a2 ys.length c2] (fun w => Rd Em w (.slice a xs.length c) xs ∧ Rd Em w (.slice a2 ys.length c2) ys) [] (fun v _ => v = .bool (decide (xs = ys))) := by
  refine fn_of Tryd.func13 rfl rfl rfl fun w0 hw => ?_
  obtain ⟨hx, hy⟩ := hw
  have hsx := hx.sl
  have hsy := hy.sl
  have hbx := hsx.le
  have hby := hsy.le
  refine c_seq fun _ hK1 => ?_
  refine c_region ?_
  refine o_step rfl (s_assign rfl) ?_
  refine o_nil ?_
  refine x_then (hK1 _ _ ?_)
  refine c_seq fun _ hK2 => ?_
  refine c_seq fun _ hK3 => ?_
  refine c_region ?_
  refine o_step rfl (s_move rfl) ?_
  refine o_step rfl (s_len rfl) ?_
  refine o_step rfl (s_move rfl) ?_
  refine o_step rfl (s_len rfl) ?_
  refine o_step rfl (s_neq rfl rfl) ?_
  refine o_nil ?_
  refine x_then (hK3 _ _ ?_)
  refine c_if rfl (fun hl => ?_) (fun hl => ?_)
  · skip
    refine c_seq fun _ hK4 => ?_
    refine c_region ?_
    refine o_step rfl (s_assign rfl) ?_
    refine o_nil ?_
    refine x_then (hK4 _ _ ?_)
    refine c_ret ?_
    refine x_then_ret (?_)
    exact x_ret rfl (.tmp rfl (.nil)) (retF (by intro e; subst e; omega))
  · skip
    refine c_skip ?_
    refine x_then (hK2 _ _ ?_)
    refine c_seq fun _ hK5 => ?_
    refine c_seq fun _ hK6 => ?_
    refine c_region ?_
    refine o_step rfl (s_assign rfl) ?_
    refine o_nil ?_
    refine x_then (hK6 _ _ ?_)
    refine c_block ?_
    -- not carried: 4
    refine c_loopB (fun (j : Nat) => j ≤ xs.length ∧ ∀ i, i < j → mk0 xs i = mk0 ys i) (fun (j : Nat) => [(5, .int .i64 j)]) [(0, _), (1, _)] (fun (j : Nat) => _) (fun (j : Nat) => xs.length - j) 0 ⟨by omega, fun i hi => by omega⟩ sbA sbA hzA ?_
    rintro j ⟨hj, hjt⟩
    refine c_seq fun _ hK7 => ?_
    refine c_seq fun _ hK8 => ?_
    refine c_region ?_
    refine o_step rfl (s_move rfl) ?_
    refine o_step rfl (s_move rfl) ?_
    refine o_step rfl (s_len rfl) ?_
    refine o_step rfl (s_lss rfl rfl) ?_
    refine o_nil ?_
    refine x_then (hK8 _ _ ?_)
    refine c_if rfl (fun hlt => ?_) (fun hlt => ?_)
    · skip
      refine c_skip ?_
      refine x_then (hK7 _ _ ?_)
      refine c_seq fun _ hK9 => ?_
      refine c_block ?_
      refine c_seq fun _ hK10 => ?_
      refine c_quiet (by kernel_rfl) ?_
      refine .op rfl (s_move rfl) ?_
      refine .op rfl (s_move rfl) ?_
      refine .op rfl (s_idx rfl rfl (by assumption) (by omega)) ?_
      refine .op rfl (s_ldB rfl ((RdK.old0 hx).lds j (mk0_get (by omega)) (by omega)) rfl) ?_
      refine .op rfl (s_move rfl) ?_
      refine .op rfl (s_move rfl) ?_
      refine .op rfl (s_idx rfl rfl (by assumption) (by omega)) ?_
      refine .op rfl (s_ldB rfl ((RdK.old0 hy).lds j (mk0_get (by omega)) (by omega)) rfl) ?_
      refine .op rfl (s_neq_agg rfl rfl (fun w => mark_eq w 9998 (b0 := 0) (b1 := 0) Tryd.underlying35 (by decide) (by decide) rfl rfl (by kernel_rfl) (mk0 xs j) (mk0 ys j))) ?_
      refine .nil ?_
      refine x_then (hK10 _ _ ?_)
      refine c_ifn rfl (fun hne => ?_) (fun hne => ?_)
      · skip
        refine c_seq fun _ hK11 => ?_
        refine c_region ?_
        refine o_step rfl (s_assign rfl) ?_
        refine o_nil ?_
        refine x_then (hK11 _ _ ?_)
        refine c_ret ?_
        refine x_block_ret (x_then_ret (x_then_ret (x_block_ret (x_then_ret (?_)))))
        exact x_ret rfl (.tmp rfl (.nil)) (retF (by intro e; subst e; exact hne rfl))
      · skip
        refine c_skip ?_
        refine x_block ?_
        refine x_then (hK9 _ _ ?_)
        refine c_region ?_
        refine o_step rfl (s_move rfl) ?_
        refine o_step rfl (s_add rfl rfl (by omega)) ?_
        refine o_step rfl (s_assign rfl) ?_
        refine o_nil ?_
        exact x_then (x_inv (j + 1) ⟨by omega, fun i hi => by rcases Nat.lt_or_ge i j with h | h; exact hjt i h; rw [show i = j by omega]; exact hne⟩ (by first | omega | (dsimp only; omega)) sbA hzA)
    · skip
      refine c_exit ?_
      refine x_then_exit ?_
      refine x_then_exit ?_
      refine x_block_exit ?_
      refine x_then (hK5 _ _ ?_)
      refine c_seq fun _ hK12 => ?_
      refine c_region ?_
      refine o_step rfl (s_assign rfl) ?_
      refine o_nil ?_
      refine x_then (hK12 _ _ ?_)
      refine c_ret ?_
      refine ?_
      exact x_ret rfl (.tmp rfl (.nil)) (retT (mk0_ext (by omega) (fun i hi => hjt i (by omega))))

theorem wideMarks_fn (a : Option Addr) (c : Nat) (ms : List Mk) (hn : ms.length ≤ 2147483647) : HL.Fn Tryd.prog 10 [.slice a ms.length c] (fun w => Rd Em w (.slice a ms.length c) ms) [] (fun v S' => ∃ a', v = .slice a' ms.length (ms.length + 64) ∧ OwnS Em 2 35 (.slice a' (wm ms).length (ms.length + 64)) (wm ms) S') := by
  refine fn_of Tryd.func10 rfl rfl rfl fun w0 hw => ?_
  have hsx := hw.sl
  have hbx := hsx.le
  have hwl := wm_len ms
  refine c_seq fun _ hK1 => ?_
  refine c_region ?_
  refine o_step rfl (s_assign rfl) ?_
  refine o_nil ?_
  refine x_then (hK1 _ _ ?_)
  refine c_seq fun _ hK2 => ?_
  refine c_region ?_
  refine o_step rfl (s_move rfl) ?_
  refine o_step rfl (s_len rfl) ?_
  refine o_step rfl (s_add rfl rfl (by omega)) ?_
  refine o_make (E := Em) (zx := ⟨0, false⟩) (n := ms.length + 64) rfl rfl rfl (by omega) (by omega) rfl fun b8 S8 hS8 => ?_
  refine o_step rfl (s_assign rfl) ?_
  refine o_nil ?_
  refine x_then (hK2 _ _ ?_)
  refine c_seq fun _ hK3 => ?_
  refine c_seq fun _ hK4 => ?_
  refine c_region ?_
  refine o_step rfl (s_assign rfl) ?_
  refine o_nil ?_
  refine x_then (hK4 _ _ ?_)
  refine c_block ?_
  refine c_loop3 (fun (j : Nat) (l : List Mk) (S : Hp) => j ≤ ms.length + 64 ∧ Fill (wmF ms) (ms.length + 64) j l ∧ OwnS Em 2 35 (.slice (some ⟨b8, 0, none⟩) (ms.length + 64) (ms.length + 64)) l S) (fun (j : Nat) (l : List Mk) (S : Hp) => [(4, .int .i64 j)]) [(0, _), (2, _), (3, _)] (fun (j : Nat) (l : List Mk) (S : Hp) => S) (fun (j : Nat) (l : List Mk) (S : Hp) => ms.length + 64 - j) 0 _ _ ⟨by omega, .zero List.length_replicate, hS8⟩ sbA sbA hzB ?_
  rintro j l S ⟨hj, hl, hS⟩
  have hsl := hS.sl
  have hll := hl.len
  rw [hll] at hsl
  refine c_seq fun _ hK5 => ?_
  refine c_seq fun _ hK6 => ?_
  refine c_region ?_
  refine o_step rfl (s_move rfl) ?_
  refine o_step rfl (s_move rfl) ?_
  refine o_step rfl (s_len rfl) ?_
  refine o_step rfl (s_lss rfl rfl) ?_
  refine o_nil ?_
  refine x_then (hK6 _ _ ?_)
  refine c_if rfl (fun hlt => ?_) (fun hlt => ?_)
  · skip
    refine c_skip ?_
    refine x_then (hK5 _ _ ?_)
    refine c_seq fun _ hK7 => ?_
    refine c_block ?_
    refine c_seq fun _ hK8 => ?_
    refine c_region ?_
    refine o_step rfl (s_move rfl) ?_
    refine o_step rfl (s_move rfl) ?_
    refine o_step rfl (s_len rfl) ?_
    refine o_step rfl (s_lss rfl rfl) ?_
    refine o_nil ?_
    refine x_then (hK8 _ _ ?_)
    refine c_if rfl (fun hin => ?_) (fun hin => ?_)
    · skip
      refine c_region ?_
      refine o_step rfl (s_move rfl) ?_
      refine o_step rfl (s_move rfl) ?_
      refine o_step rfl (s_move rfl) ?_
      refine o_step rfl (s_move rfl) ?_
      refine o_step rfl (s_idx rfl rfl (by assumption) (by omega)) ?_
      refine o_step rfl (s_ldB rfl ((RdK.old0 hw).lds j (mk0_get (by omega)) (by omega)) rfl) ?_
      refine o_step rfl (s_idx rfl rfl (by assumption) (by omega)) ?_
      refine o_stSE j (mk0 ms j) hS pkA rfl rfl (by omega) (by rw [Int.toNat_natCast]) fun S' hS' => ?_
      refine o_nil ?_
      refine x_block ?_
      refine x_then (hK7 _ _ ?_)
      refine c_region ?_
      refine o_step rfl (s_move rfl) ?_
      refine o_step rfl (s_add rfl rfl (by omega)) ?_
      refine o_step rfl (s_assign rfl) ?_
      refine o_nil ?_
      exact x_then (x_inv (j + 1, _, _) ⟨by omega, hl.step (by omega) (wmF_in (by omega)), hS'⟩ (by first | omega | (dsimp only; omega)) sbA hzB)
    · skip
      refine c_region ?_
      refine o_step rfl (s_move rfl) ?_
      refine o_step rfl (s_move rfl) ?_
      refine o_step rfl (s_move rfl) ?_
      refine o_step rfl (s_mul rfl rfl (by omega)) ?_
      refine o_step rfl (s_add rfl rfl (by omega)) ?_
      refine o_step rfl (s_add rfl rfl (by omega)) ?_
      refine o_step rfl (s_convB (j := 279 + 7 * j + 3) rfl) ?_
      refine o_step rfl (s_build (cs := [_, _]) (vs := [_, _]) rfl rfl (.cons rfl rfl rfl rfl rfl (.cons rfl rfl rfl rfl rfl (.nil)))) ?_
      refine o_step rfl (s_idx rfl rfl (by assumption) (by omega)) ?_
      refine o_stSE j ⟨UInt8.ofNat (279 + 7 * j + 3), true⟩ hS pkA rfl rfl (by omega) (by rw [Int.toNat_natCast]) fun S' hS' => ?_
      refine o_nil ?_
      refine x_block ?_
      refine x_then (hK7 _ _ ?_)
      refine c_region ?_
      refine o_step rfl (s_move rfl) ?_
      refine o_step rfl (s_add rfl rfl (by omega)) ?_
      refine o_step rfl (s_assign rfl) ?_
      refine o_nil ?_
      exact x_then (x_inv (j + 1, _, _) ⟨by omega, hl.step (by omega) (wmF_out (by omega)), hS'⟩ (by first | omega | (dsimp only; omega)) sbA hzB)
  · skip
    have hd := fill_wm hl (by omega)
    subst hd
    refine c_exit ?_
    refine x_then_exit ?_
    refine x_then_exit ?_
    refine x_block_exit ?_
    refine x_then (hK3 _ _ ?_)
    refine c_seq fun _ hK9 => ?_
    refine c_region ?_
    refine o_step rfl (s_move rfl) ?_
    refine o_step rfl (s_move rfl) ?_
    refine o_step rfl (s_len rfl) ?_
    refine o_step rfl (s_slice_hi rfl rfl (by omega)) ?_
    refine o_step rfl (s_assign rfl) ?_
    refine o_nil ?_
    refine x_then (hK9 _ _ ?_)
    refine c_ret ?_
    refine ?_
    exact x_ret rfl (.tmp rfl (.nil)) (⟨_, rfl, by rw [hwl]; exact hS⟩)

theorem spareMarks_fn (a : Option Addr) (c : Nat) (ms : List Mk) (hn : ms.length ≤ 2147483647) : HL.Fn Tryd.prog 14 [.slice a ms.length c] (fun w => Rd Em w (.slice a (wm ms).length c) (wm ms)) [] (fun v _ => v = .bool true) := by
  refine fn_of Tryd.func14 rfl rfl rfl fun w0 hw => ?_
  have hwl := wm_len ms
  have hsx := hw.sl
  have hc := hsx.cap
  refine c_seq fun _ hK1 => ?_
  refine c_region ?_
  refine o_step rfl (s_assign rfl) ?_
  refine o_nil ?_
  refine x_then (hK1 _ _ ?_)
  refine c_seq fun _ hK2 => ?_
  refine c_region ?_
  refine o_step rfl (s_move rfl) ?_
  refine o_step rfl (s_move rfl) ?_
  refine o_step rfl (s_len rfl) ?_
  refine o_step rfl (s_add rfl rfl (by omega)) ?_
  refine o_step rfl (s_slice_hi rfl rfl (by omega)) ?_
  rw [show ((ms.length : Int) + 64).toNat = (wm ms).length from by rw [wm_len]; omega]
  refine o_step rfl (s_assign rfl) ?_
  refine o_nil ?_
  refine x_then (hK2 _ _ ?_)
  refine c_seq fun _ hK3 => ?_
  refine c_seq fun _ hK4 => ?_
  refine c_region ?_
  refine o_step rfl (s_move rfl) ?_
  refine o_step rfl (s_len rfl) ?_
  refine o_step rfl (s_assign rfl) ?_
  refine o_nil ?_
  refine x_then (hK4 _ _ ?_)
  refine c_block ?_
  -- not carried: 2
  refine c_loopB (fun (j : Nat) => ms.length ≤ j ∧ j ≤ ms.length + 64) (fun (j : Nat) => [(4, .int .i64 j)]) [(3, _)] (fun (j : Nat) => _) (fun (j : Nat) => ms.length + 64 - j) ms.length ⟨by omega, by omega⟩ sbA sbA hzA ?_
  rintro j ⟨hj1, hj2⟩
  refine c_seq fun _ hK5 => ?_
  refine c_seq fun _ hK6 => ?_
  refine c_region ?_
  refine o_step rfl (s_move rfl) ?_
  refine o_step rfl (s_move rfl) ?_
  refine o_step rfl (s_len rfl) ?_
  refine o_step rfl (s_lss rfl rfl) ?_
  refine o_nil ?_
  refine x_then (hK6 _ _ ?_)
  refine c_if rfl (fun hlt => ?_) (fun hlt => ?_)
  · skip
    refine c_skip ?_
    refine x_then (hK5 _ _ ?_)
    refine c_seq fun _ hK7 => ?_
    refine c_block ?_
    refine c_seq fun _ hK8 => ?_
    refine c_region ?_
    refine o_step rfl (s_move rfl) ?_
    refine o_step rfl (s_move rfl) ?_
    refine o_step rfl (s_idx rfl rfl (by assumption) (by omega)) ?_
    refine o_step rfl (s_ldB rfl ((RdK.old0 hw).lds j (mk0_get (by omega)) (by omega)) rfl) ?_
    refine o_step rfl (s_move rfl) ?_
    refine o_step rfl (s_mul rfl rfl (by omega)) ?_
    refine o_step rfl (s_add rfl rfl (by omega)) ?_
    refine o_step rfl (s_add rfl rfl (by omega)) ?_
    refine o_step rfl (s_convB (j := 279 + 7 * j + 3) rfl) ?_
    refine o_step rfl (s_build (cs := [_, _]) (vs := [_, _]) rfl rfl (.cons rfl rfl rfl rfl rfl (.cons rfl rfl rfl rfl rfl (.nil)))) ?_
    refine o_step rfl (step_true (by rw [wm_at (by omega), ← wmF_out (by omega)]) (s_eql_agg rfl rfl (fun w => mark_eq w 9998 (b0 := 0) (b1 := 0) Tryd.underlying35 (by decide) (by decide) rfl rfl (by kernel_rfl) (mk0 (wm ms) j) ⟨UInt8.ofNat (279 + 7 * j + 3), true⟩))) ?_
    refine o_step rfl (s_not rfl) ?_
    refine o_nil ?_
    refine x_then (hK8 _ _ ?_)
    refine c_false rfl ?_
    refine c_skip ?_
    refine x_block ?_
    refine x_then (hK7 _ _ ?_)
    refine c_region ?_
    refine o_step rfl (s_move rfl) ?_
    refine o_step rfl (s_add rfl rfl (by omega)) ?_
    refine o_step rfl (s_assign rfl) ?_
    refine o_nil ?_
    exact x_then (x_inv (j + 1) ⟨by omega, by omega⟩ (by first | omega | (dsimp only; omega)) sbA hzA)
  · skip
    refine c_exit ?_
    refine x_then_exit ?_
    refine x_then_exit ?_
    refine x_block_exit ?_
    refine x_then (hK3 _ _ ?_)
    refine c_seq fun _ hK9 => ?_
    refine c_region ?_
    refine o_step rfl (s_assign rfl) ?_
    refine o_nil ?_
    refine x_then (hK9 _ _ ?_)
    refine c_ret ?_
    refine ?_
    exact x_ret rfl (.tmp rfl (.nil)) (rfl)

theorem long_fn (n : Int) : HL.Fn Tryd.prog 9 [.int .i64 n] (fun _ => True) [] (fun v _ => v = .bool (decide (2147483647 < n))) := by
  refine fn_of Tryd.func9 rfl rfl rfl fun w0 hw => ?_
  refine c_seq fun _ hK1 => ?_
  refine c_region ?_
  refine o_step rfl (s_assign rfl) ?_
  refine o_nil ?_
  refine x_then (hK1 _ _ ?_)
  refine c_seq fun _ hK2 => ?_
  refine c_region ?_
  refine o_step rfl (s_move rfl) ?_
  refine o_step rfl (s_gtr rfl rfl) ?_
  refine o_step rfl (s_assign rfl) ?_
  refine o_nil ?_
  refine x_then (hK2 _ _ ?_)
  refine c_ret ?_
  refine ?_
  exact x_ret rfl (.tmp rfl (.nil)) (rfl)
end Go.Proofs.YtafbigmneipkiaaDoor
