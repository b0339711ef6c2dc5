/- Part of the proofs over this seat: see the text that holds the theorem. Conditions: each theorem bears its own. -/
import Derived.Test.YtafbigmneipkiaaDoorHlB
import Derived.Test.YtafbigmneipkiaaDoorBF1
import Derived.Test.YtafbigmneipkiaaDoorMC6
namespace Go.Proofs.YtafbigmneipkiaaDoor
open Go Go.HL Go.Proofs Go.HL.Kl

theorem has_fn (c : Cl) (x : Nat) (hx : x < 256) : HL.Fn Tryd.prog 36 [.agg (Ec c).toArray, .int .u8 x] (fun _ => True) [] (fun v _ => v = .bool (c.getLsbD x)) := by
  refine fn_of Tryd.func36 rfl rfl rfl fun w0 hw => ?_
  refine c_seq fun _ hK1 => ?_
  refine c_region ?_
  refine o_box rfl rfl rfl fun b2 => ?_
  refine o_step rfl (s_assign rfl) ?_
  refine o_nil ?_
  refine x_then (hK1 _ _ ?_)
  refine c_seq fun _ hK2 => ?_
  refine c_region ?_
  refine o_step rfl (s_move rfl) ?_
  refine o_step rfl (step_cast (v' := .int .u8 ((x / 64 : Nat) : Int)) (s_shr rfl rfl (by decide)) (congrArg _ (shr6_u8 hx))) ?_
  refine o_step rfl (s_idx1 rfl rfl (by omega)) ?_
  refine o_step rfl (s_ld rfl ((RdPK.own meA).cel (j := x / 64) (Ec_get _ (by omega)) (by omega))) ?_
  refine o_step rfl (s_move rfl) ?_
  refine o_step rfl (step_cast (v' := .int .u8 ((x % 64 : Nat) : Int)) (s_and rfl rfl) (congrArg _ (v_and63 hx))) ?_
  refine o_step rfl (s_shr rfl rfl (by omega)) ?_
  refine o_step rfl (s_and rfl rfl) ?_
  refine o_step rfl (step_cast (v' := .bool (c.getLsbD x)) (s_eql rfl rfl) (congrArg Value.bool (hasB c hx))) ?_
  refine o_step rfl (s_assign rfl) ?_
  refine o_nil ?_
  refine x_then (hK2 _ _ ?_)
  refine c_ret ?_
  refine ?_
  exact x_ret rfl (.tmp rfl (.nil)) (rfl)

theorem rHas_fn (c : Cl) (x : Nat) (hx : x < 256) : HL.Fn Tryd.prog 42 [.agg (Ec c).toArray, .int .u8 x] (fun _ => True) [] (fun v _ => v = .bool (c.getLsbD x)) := by
  refine fn_of Tryd.func42 rfl rfl rfl fun w0 hw => ?_
  refine c_seq fun _ hK1 => ?_
  refine c_region ?_
  refine o_box rfl rfl rfl fun b2 => ?_
  refine o_step rfl (s_assign rfl) ?_
  refine o_nil ?_
  refine x_then (hK1 _ _ ?_)
  refine c_seq fun _ hK2 => ?_
  refine c_region ?_
  refine o_step rfl (s_move rfl) ?_
  refine o_step rfl (step_cast (v' := .int .u8 ((x / 64 : Nat) : Int)) (s_quo rfl rfl (by decide)) (congrArg _ (quo64 hx))) ?_
  refine o_step rfl (s_idx1 rfl rfl (by omega)) ?_
  refine o_step rfl (s_ld rfl ((RdPK.own meA).cel (j := x / 64) (Ec_get _ (by omega)) (by omega))) ?_
  refine o_step rfl (s_move rfl) ?_
  refine o_step rfl (step_cast (v' := .int .u8 ((x % 64 : Nat) : Int)) (s_rem rfl rfl (by decide)) (congrArg _ (rem64 hx))) ?_
  refine o_step rfl (s_shr rfl rfl (by omega)) ?_
  refine o_step rfl (s_and rfl rfl) ?_
  refine o_step rfl (step_cast (v' := .bool (c.getLsbD x)) (s_eql rfl rfl) (congrArg Value.bool (hasB c hx))) ?_
  refine o_step rfl (s_assign rfl) ?_
  refine o_nil ?_
  refine x_then (hK2 _ _ ?_)
  refine c_ret ?_
  refine ?_
  exact x_ret rfl (.tmp rfl (.nil)) (rfl)

theorem with_fn (c : Cl) (x : Nat) (hx : x < 256) : HL.Fn Tryd.prog 67 [.agg (Ec c).toArray, .int .u8 x] (fun _ => True) [] (fun v _ => v = .agg (Ec (c ||| bit x)).toArray) := by
  refine fn_of Tryd.func67 rfl rfl rfl fun w0 hw => ?_
  rw [← with_eq c hx]
  refine c_seq fun _ hK1 => ?_
  refine c_region ?_
  refine o_box rfl rfl rfl fun b2 => ?_
  refine o_alloc (l := Ec 0#256) (by rw [Ec_zero]; rfl) rfl fun b4 => ?_
  refine o_nil ?_
  refine x_then (hK1 _ _ ?_)
  refine c_seq fun _ hK2 => ?_
  refine c_region ?_
  refine o_step rfl (s_move rfl) ?_
  refine o_step rfl (step_cast (v' := .int .u8 ((x / 64 : Nat) : Int)) (s_quo rfl rfl (by decide)) (congrArg _ (quo64 hx))) ?_
  refine o_step rfl (s_move rfl) ?_
  refine o_step rfl (step_cast (v' := .int .u8 ((x / 64 : Nat) : Int)) (s_quo rfl rfl (by decide)) (congrArg _ (quo64 hx))) ?_
  refine o_step rfl (s_idx1 rfl rfl (by omega)) ?_
  refine o_step rfl (s_ld rfl ((RdPK.own meA).cel (j := x / 64) (Ec_get _ (by omega)) (by omega))) ?_
  refine o_step rfl (s_move rfl) ?_
  refine o_step rfl (step_cast (v' := .int .u8 ((x % 64 : Nat) : Int)) (s_rem rfl rfl (by decide)) (congrArg _ (rem64 hx))) ?_
  refine o_step rfl (step_cast (v' := Ew (1#64 <<< (x % 64))) (s_shl rfl rfl (by omega)) (v_shl1 (by omega))) ?_
  refine o_step rfl (step_cast (s_or rfl rfl) (v_or (wd c (x / 64)) (1#64 <<< (x % 64)))) ?_
  refine o_step rfl (s_idx1 rfl rfl (by omega)) ?_
  refine o_store rfl rfl rfl upA (by show x / 64 < 4; omega) rfl ?_
  rw [Ec_set _ _ (by omega)]
  refine o_nil ?_
  refine x_then (hK2 _ _ ?_)
  refine c_seq fun _ hK3 => ?_
  refine c_region ?_
  refine o_step rfl (s_ldB rfl (RdPK.cels (.own meA)) lnA) ?_
  refine o_stW rfl rfl upA lnA lnA (by first | exact Ec_one _ | exact flat_one _ _ | exact one_rep rfl | (simp [Value.oneCell']; done)) ?_
  refine o_nil ?_
  refine x_then (hK3 _ _ ?_)
  refine c_ret ?_
  refine ?_
  exact x_ret rfl (.agg inferInstance inferInstance rfl (RdPK.cels (.own meA)) lnA (.nil)) (rfl)

theorem or_fn (a b : Cl) : HL.Fn Tryd.prog 18 [.agg (Ec a).toArray, .agg (Ec b).toArray] (fun _ => True) [] (fun v _ => v = .agg (Ec (a ||| b)).toArray) := by
  refine fn_of Tryd.func18 rfl rfl rfl fun w0 hw => ?_
  rw [← mapW_or a b]
  refine c_seq fun _ hK1 => ?_
  refine c_region ?_
  refine o_box rfl rfl rfl fun b2 => ?_
  refine o_box rfl rfl rfl fun b3 => ?_
  refine o_alloc (l := Ec 0#256) (by rw [Ec_zero]; rfl) rfl fun b4 => ?_
  refine o_nil ?_
  refine x_then (hK1 _ _ ?_)
  refine c_seq fun _ hK2 => ?_
  refine c_seq fun _ hK3 => ?_
  refine c_region ?_
  refine o_step rfl (s_move rfl) ?_
  refine o_nil ?_
  refine x_then (hK3 _ _ ?_)
  refine c_block ?_
  refine c_loopB (fun (i : Nat) => i ≤ 4) (fun (i : Nat) => [(6, .int .i64 i)]) [(2, _), (3, _), (4, _)] (fun (i : Nat) => [(b4, .cells (Ec 0#256).toArray 28 (0, 0)), (b3, .cells (Ec b).toArray 28 (0, 0)), (b2, .cells (Ec (mapW (fun i w => w ||| wd b i) a i)).toArray 28 (0, 0))]) (fun (i : Nat) => 4 - i) 0 (by omega) sbA sbA hzA ?_
  rintro i hI
  refine c_seq fun _ hK4 => ?_
  refine c_region ?_
  refine o_step rfl (s_lss rfl rfl) ?_
  refine o_nil ?_
  refine x_then (hK4 _ _ ?_)
  refine c_seq fun _ hK5 => ?_
  refine c_if rfl (fun hlt => ?_) (fun hlt => ?_)
  · skip
    refine c_skip ?_
    refine x_then (hK5 _ _ ?_)
    refine c_seq fun _ hK6 => ?_
    refine c_block ?_
    refine c_seq fun _ hK7 => ?_
    refine c_region ?_
    refine o_step rfl (s_move rfl) ?_
    refine o_step rfl (s_assign rfl) ?_
    refine o_nil ?_
    refine x_then (hK7 _ _ ?_)
    refine c_tail 8 (by kernel_rfl) ?_
    refine .op rfl (s_move rfl) ?_
    refine .op rfl (s_idx1 rfl rfl (by omega)) ?_
    refine .op rfl (s_ld rfl ((RdPK.own meA).cel (j := i) (Ec_get _ (by omega)) (by omega))) ?_
    refine .op rfl (s_move rfl) ?_
    refine .op rfl (s_idx1 rfl rfl (by omega)) ?_
    refine .op rfl (s_ld rfl ((RdPK.own meA).cel (j := i) (Ec_get _ (by omega)) (by omega))) ?_
    refine .op rfl (step_cast (s_or rfl rfl) (v_or (wd _ i) (wd b i))) ?_
    refine .op rfl (s_idx1 rfl rfl (by omega)) ?_
    refine .nil ?_
    refine o_store rfl rfl rfl upA (by show i < 4; omega) rfl ?_
    rw [Ec_set _ _ (by omega)]
    refine o_nil ?_
    refine x_block ?_
    refine x_then (hK6 _ _ ?_)
    refine c_region ?_
    refine o_step rfl (s_add rfl rfl (by omega)) ?_
    refine o_step rfl (s_move rfl) ?_
    refine o_nil ?_
    exact x_then (x_inv (i + 1) (by omega) (by first | omega | (dsimp only; omega)) sbA hzA)
  · skip
    obtain rfl : i = 4 := by omega
    refine c_exit ?_
    refine x_then_exit ?_
    refine x_then_exit ?_
    refine x_block_exit ?_
    refine x_then (hK2 _ _ ?_)
    refine c_seq fun _ hK8 => ?_
    refine c_region ?_
    refine o_step rfl (s_ldB rfl (RdPK.cels (.own meA)) lnA) ?_
    refine o_stW rfl rfl upA lnA lnA (by first | exact Ec_one _ | exact flat_one _ _ | exact one_rep rfl | (simp [Value.oneCell']; done)) ?_
    refine o_nil ?_
    refine x_then (hK8 _ _ ?_)
    refine c_ret ?_
    refine ?_
    exact x_ret rfl (.agg inferInstance inferInstance rfl (RdPK.cels (.own meA)) lnA (.nil)) (rfl)

theorem and_fn (a b : Cl) : HL.Fn Tryd.prog 39 [.agg (Ec a).toArray, .agg (Ec b).toArray] (fun _ => True) [] (fun v _ => v = .agg (Ec (a &&& b)).toArray) := by
  refine fn_of Tryd.func39 rfl rfl rfl fun w0 hw => ?_
  rw [← mapW_and a b]
  refine c_seq fun _ hK1 => ?_
  refine c_region ?_
  refine o_box rfl rfl rfl fun b2 => ?_
  refine o_box rfl rfl rfl fun b3 => ?_
  refine o_alloc (l := Ec 0#256) (by rw [Ec_zero]; rfl) rfl fun b4 => ?_
  refine o_nil ?_
  refine x_then (hK1 _ _ ?_)
  refine c_seq fun _ hK2 => ?_
  refine c_seq fun _ hK3 => ?_
  refine c_region ?_
  refine o_step rfl (s_move rfl) ?_
  refine o_nil ?_
  refine x_then (hK3 _ _ ?_)
  refine c_block ?_
  refine c_loopB (fun (i : Nat) => i ≤ 4) (fun (i : Nat) => [(6, .int .i64 i)]) [(2, _), (3, _), (4, _)] (fun (i : Nat) => [(b4, .cells (Ec 0#256).toArray 28 (0, 0)), (b3, .cells (Ec b).toArray 28 (0, 0)), (b2, .cells (Ec (mapW (fun i w => w &&& wd b i) a i)).toArray 28 (0, 0))]) (fun (i : Nat) => 4 - i) 0 (by omega) sbA sbA hzA ?_
  rintro i hI
  refine c_seq fun _ hK4 => ?_
  refine c_region ?_
  refine o_step rfl (s_lss rfl rfl) ?_
  refine o_nil ?_
  refine x_then (hK4 _ _ ?_)
  refine c_seq fun _ hK5 => ?_
  refine c_if rfl (fun hlt => ?_) (fun hlt => ?_)
  · skip
    refine c_skip ?_
    refine x_then (hK5 _ _ ?_)
    refine c_seq fun _ hK6 => ?_
    refine c_block ?_
    refine c_seq fun _ hK7 => ?_
    refine c_region ?_
    refine o_step rfl (s_move rfl) ?_
    refine o_step rfl (s_assign rfl) ?_
    refine o_nil ?_
    refine x_then (hK7 _ _ ?_)
    refine c_tail 8 (by kernel_rfl) ?_
    refine .op rfl (s_move rfl) ?_
    refine .op rfl (s_idx1 rfl rfl (by omega)) ?_
    refine .op rfl (s_ld rfl ((RdPK.own meA).cel (j := i) (Ec_get _ (by omega)) (by omega))) ?_
    refine .op rfl (s_move rfl) ?_
    refine .op rfl (s_idx1 rfl rfl (by omega)) ?_
    refine .op rfl (s_ld rfl ((RdPK.own meA).cel (j := i) (Ec_get _ (by omega)) (by omega))) ?_
    refine .op rfl (step_cast (s_and rfl rfl) (v_and (wd _ i) (wd b i))) ?_
    refine .op rfl (s_idx1 rfl rfl (by omega)) ?_
    refine .nil ?_
    refine o_store rfl rfl rfl upA (by show i < 4; omega) rfl ?_
    rw [Ec_set _ _ (by omega)]
    refine o_nil ?_
    refine x_block ?_
    refine x_then (hK6 _ _ ?_)
    refine c_region ?_
    refine o_step rfl (s_add rfl rfl (by omega)) ?_
    refine o_step rfl (s_move rfl) ?_
    refine o_nil ?_
    exact x_then (x_inv (i + 1) (by omega) (by first | omega | (dsimp only; omega)) sbA hzA)
  · skip
    obtain rfl : i = 4 := by omega
    refine c_exit ?_
    refine x_then_exit ?_
    refine x_then_exit ?_
    refine x_block_exit ?_
    refine x_then (hK2 _ _ ?_)
    refine c_seq fun _ hK8 => ?_
    refine c_region ?_
    refine o_step rfl (s_ldB rfl (RdPK.cels (.own meA)) lnA) ?_
    refine o_stW rfl rfl upA lnA lnA (by first | exact Ec_one _ | exact flat_one _ _ | exact one_rep rfl | (simp [Value.oneCell']; done)) ?_
    refine o_nil ?_
    refine x_then (hK8 _ _ ?_)
    refine c_ret ?_
    refine ?_
    exact x_ret rfl (.agg inferInstance inferInstance rfl (RdPK.cels (.own meA)) lnA (.nil)) (rfl)

theorem not_fn (a : Cl) : HL.Fn Tryd.prog 25 [.agg (Ec a).toArray] (fun _ => True) [] (fun v _ => v = .agg (Ec (~~~a)).toArray) := by
  refine fn_of Tryd.func25 rfl rfl rfl fun w0 hw => ?_
  rw [← mapW_not a]
  refine c_seq fun _ hK1 => ?_
  refine c_region ?_
  refine o_box rfl rfl rfl fun b1 => ?_
  refine o_alloc (l := Ec 0#256) (by rw [Ec_zero]; rfl) rfl fun b2 => ?_
  refine o_nil ?_
  refine x_then (hK1 _ _ ?_)
  refine c_seq fun _ hK2 => ?_
  refine c_seq fun _ hK3 => ?_
  refine c_region ?_
  refine o_step rfl (s_move rfl) ?_
  refine o_nil ?_
  refine x_then (hK3 _ _ ?_)
  refine c_block ?_
  refine c_loopB (fun (i : Nat) => i ≤ 4) (fun (i : Nat) => [(4, .int .i64 i)]) [(1, _), (2, _)] (fun (i : Nat) => [(b2, .cells (Ec 0#256).toArray 28 (0, 0)), (b1, .cells (Ec (mapW (fun _ w => ~~~w) a i)).toArray 28 (0, 0))]) (fun (i : Nat) => 4 - i) 0 (by omega) sbA sbA hzA ?_
  rintro i hI
  refine c_seq fun _ hK4 => ?_
  refine c_region ?_
  refine o_step rfl (s_lss rfl rfl) ?_
  refine o_nil ?_
  refine x_then (hK4 _ _ ?_)
  refine c_seq fun _ hK5 => ?_
  refine c_if rfl (fun hlt => ?_) (fun hlt => ?_)
  · skip
    refine c_skip ?_
    refine x_then (hK5 _ _ ?_)
    refine c_seq fun _ hK6 => ?_
    refine c_block ?_
    refine c_seq fun _ hK7 => ?_
    refine c_region ?_
    refine o_step rfl (s_move rfl) ?_
    refine o_step rfl (s_assign rfl) ?_
    refine o_nil ?_
    refine x_then (hK7 _ _ ?_)
    refine c_region ?_
    refine o_step rfl (s_move rfl) ?_
    refine o_step rfl (s_move rfl) ?_
    refine o_step rfl (s_idx1 rfl rfl (by omega)) ?_
    refine o_step rfl (s_ld rfl ((RdPK.own meA).cel (j := i) (Ec_get _ (by omega)) (by omega))) ?_
    refine o_step rfl (step_cast (s_com rfl) (v_com (wd _ i))) ?_
    refine o_step rfl (s_idx1 rfl rfl (by omega)) ?_
    refine o_store rfl rfl rfl upA (by show i < 4; omega) rfl ?_
    rw [Ec_set _ _ (by omega)]
    refine o_nil ?_
    refine x_block ?_
    refine x_then (hK6 _ _ ?_)
    refine c_region ?_
    refine o_step rfl (s_add rfl rfl (by omega)) ?_
    refine o_step rfl (s_move rfl) ?_
    refine o_nil ?_
    exact x_then (x_inv (i + 1) (by omega) (by first | omega | (dsimp only; omega)) sbA hzA)
  · skip
    obtain rfl : i = 4 := by omega
    refine c_exit ?_
    refine x_then_exit ?_
    refine x_then_exit ?_
    refine x_block_exit ?_
    refine x_then (hK2 _ _ ?_)
    refine c_seq fun _ hK8 => ?_
    refine c_region ?_
    refine o_step rfl (s_ldB rfl (RdPK.cels (.own meA)) lnA) ?_
    refine o_stW rfl rfl upA lnA lnA (by first | exact Ec_one _ | exact flat_one _ _ | exact one_rep rfl | (simp [Value.oneCell']; done)) ?_
    refine o_nil ?_
    refine x_then (hK8 _ _ ?_)
    refine c_ret ?_
    refine ?_
    exact x_ret rfl (.agg inferInstance inferInstance rfl (RdPK.cels (.own meA)) lnA (.nil)) (rfl)

theorem range_fn (lo hi : Nat) (hlo : lo < 256) (hhi : hi < 256) : HL.Fn Tryd.prog 21 [.int .u8 lo, .int .u8 hi] (fun _ => True) [] (fun v _ => v = .agg (Ec (rng lo hi)).toArray) := by
  refine fn_of Tryd.func21 rfl rfl rfl fun w0 hw => ?_
  refine c_seq fun _ hK1 => ?_
  refine c_region ?_
  refine o_alloc (l := Ec 0#256) (by rw [Ec_zero]; rfl) rfl fun b4 => ?_
  refine o_nil ?_
  refine x_then (hK1 _ _ ?_)
  refine c_seq fun _ hK2 => ?_
  refine c_region ?_
  refine o_alloc (l := Ec 0#256) (by rw [Ec_zero]; rfl) rfl fun b5 => ?_
  refine o_nil ?_
  refine x_then (hK2 _ _ ?_)
  refine c_seq fun _ hK3 => ?_
  refine c_seq fun _ hK4 => ?_
  refine c_region ?_
  refine o_step rfl (s_move rfl) ?_
  refine o_step rfl (step_cast (v' := .int .i64 ((lo : Nat) : Int)) (s_conv rfl) (congrArg _ (conv64 (by omega)))) ?_
  refine o_step rfl (s_assign rfl) ?_
  refine o_nil ?_
  refine x_then (hK4 _ _ ?_)
  refine c_block ?_
  rw [← show rngTo lo lo = 0#256 from rngTo_low (Nat.le_refl _)]
  refine c_loopB (fun (x : Nat) => lo ≤ x ∧ x ≤ max lo (hi + 1)) (fun (x : Nat) => [(6, .int .i64 x)]) [(1, _), (4, _), (5, _)] (fun (x : Nat) => [(b5, .cells (Ec (rngTo lo x)).toArray 28 (0, 0)), (b4, .cells (Ec (rngTo lo lo)).toArray 28 (0, 0))]) (fun (x : Nat) => 256 - x) lo ⟨by omega, by omega⟩ sbA sbA hzA ?_
  rintro x ⟨hx1, hx2⟩
  refine c_seq fun _ hK5 => ?_
  refine c_seq fun _ hK6 => ?_
  refine c_region ?_
  refine o_step rfl (s_move rfl) ?_
  refine o_step rfl (s_move rfl) ?_
  refine o_step rfl (step_cast (v' := .int .i64 ((hi : Nat) : Int)) (s_conv rfl) (congrArg _ (conv64 (by omega)))) ?_
  refine o_step rfl (s_leq rfl rfl) ?_
  refine o_nil ?_
  refine x_then (hK6 _ _ ?_)
  refine c_if rfl (fun hle => ?_) (fun hle => ?_)
  · skip
    have hx : x < 256 := by omega
    refine c_skip ?_
    refine x_then (hK5 _ _ ?_)
    refine c_seq fun _ hK7 => ?_
    refine c_block ?_
    refine c_tail 9 (by kernel_rfl) ?_
    refine .op rfl (s_move rfl) ?_
    refine .op rfl (step_cast (v' := .int .i64 ((x / 64 : Nat) : Int)) (s_shr rfl rfl (by decide)) (congrArg _ (shr6_i64 hx))) ?_
    refine .op rfl (s_idx1 rfl rfl (by omega)) ?_
    refine .op rfl (s_ld rfl ((RdPK.own meA).cel (j := x / 64) (Ec_get _ (by omega)) (by omega))) ?_
    refine .op rfl (s_move rfl) ?_
    refine .op rfl (step_cast (v' := .int .i64 ((x % 64 : Nat) : Int)) (s_and rfl rfl) (congrArg _ (and63_i64 hx))) ?_
    refine .op rfl (step_cast (v' := Ew (1#64 <<< (x % 64))) (s_shl rfl rfl (by omega)) (v_shl1 (by omega))) ?_
    refine .op rfl (step_cast (s_or rfl rfl) (v_or (wd (rngTo lo x) (x / 64)) (1#64 <<< (x % 64)))) ?_
    refine .op rfl (s_idx1 rfl rfl (by omega)) ?_
    refine .nil ?_
    refine o_store rfl rfl rfl upA (by show x / 64 < 4; omega) rfl ?_
    rw [Ec_set _ _ (by omega)]
    refine o_nil ?_
    refine x_block ?_
    refine x_then (hK7 _ _ ?_)
    refine c_region ?_
    refine o_step rfl (s_move rfl) ?_
    refine o_step rfl (s_add rfl rfl (by omega)) ?_
    refine o_step rfl (s_assign rfl) ?_
    refine o_nil ?_
    rw [with_eq _ (by omega), ← rngTo_step (by omega)]
    exact x_then (x_inv (x + 1) ⟨by omega, by omega⟩ (by first | omega | (dsimp only; omega)) sbA hzA)
  · skip
    have hend := rng_end (lo := lo) (hi := hi) (x := x) (by omega) (by omega) (by omega)
    rw [hend]
    refine c_exit ?_
    refine x_then_exit ?_
    refine x_then_exit ?_
    refine x_block_exit ?_
    refine x_then (hK3 _ _ ?_)
    refine c_seq fun _ hK8 => ?_
    refine c_region ?_
    refine o_step rfl (s_ldB rfl (RdPK.cels (.own meA)) lnA) ?_
    refine o_stW rfl rfl upA lnA lnA (by first | exact Ec_one _ | exact flat_one _ _ | exact one_rep rfl | (simp [Value.oneCell']; done)) ?_
    refine o_nil ?_
    refine x_then (hK8 _ _ ?_)
    refine c_ret ?_
    refine ?_
    exact x_ret rfl (.agg inferInstance inferInstance rfl (RdPK.cels (.own meA)) lnA (.nil)) (rfl)

theorem rRange_fn (lo hi : Nat) (hlo : lo < 256) (hhi : hi < 256) : HL.Fn Tryd.prog 41 [.int .u8 lo, .int .u8 hi] (fun _ => True) [] (fun v _ => v = .agg (Ec (rng lo hi)).toArray) := by
  refine fn_of Tryd.func41 rfl rfl rfl fun w0 hw => ?_
  refine c_seq fun _ hK1 => ?_
  refine c_region ?_
  refine o_alloc (l := Ec 0#256) (by rw [Ec_zero]; rfl) rfl fun b4 => ?_
  refine o_nil ?_
  refine x_then (hK1 _ _ ?_)
  refine c_seq fun _ hK2 => ?_
  refine c_region ?_
  refine o_step rfl (step_cast (v' := .agg (Ec 0#256).toArray) (s_build0 rfl) (by rw [Ec_zero]; rfl)) ?_
  refine o_alloc (l := Ec 0#256) (by rw [Ec_zero]; rfl) rfl fun b5 => ?_
  refine o_stW rfl rfl upA lnA lnA (by first | exact Ec_one _ | exact flat_one _ _ | exact one_rep rfl | (simp [Value.oneCell']; done)) ?_
  refine o_nil ?_
  refine x_then (hK2 _ _ ?_)
  refine c_seq fun _ hK3 => ?_
  refine c_seq fun _ hK4 => ?_
  refine c_region ?_
  refine o_step rfl (s_move rfl) ?_
  refine o_step rfl (step_cast (v' := .int .i64 ((lo : Nat) : Int)) (s_conv rfl) (congrArg _ (conv64 (by omega)))) ?_
  refine o_step rfl (s_assign rfl) ?_
  refine o_nil ?_
  refine x_then (hK4 _ _ ?_)
  refine c_block ?_
  rw [← show rngTo lo lo = 0#256 from rngTo_low (Nat.le_refl _)]
  refine c_loopB (fun (x : Nat) => lo ≤ x ∧ x ≤ max lo (hi + 1)) (fun (x : Nat) => [(6, .int .i64 x)]) [(1, _), (4, _), (5, _)] (fun (x : Nat) => [(b5, .cells (Ec (rngTo lo x)).toArray 28 (0, 0)), (b4, .cells (Ec (rngTo lo lo)).toArray 28 (0, 0))]) (fun (x : Nat) => 256 - x) lo ⟨by omega, by omega⟩ sbA sbA hzA ?_
  rintro x ⟨hx1, hx2⟩
  refine c_seq fun _ hK5 => ?_
  refine c_seq fun _ hK6 => ?_
  refine c_region ?_
  refine o_step rfl (s_move rfl) ?_
  refine o_step rfl (s_move rfl) ?_
  refine o_step rfl (step_cast (v' := .int .i64 ((hi : Nat) : Int)) (s_conv rfl) (congrArg _ (conv64 (by omega)))) ?_
  refine o_step rfl (s_leq rfl rfl) ?_
  refine o_nil ?_
  refine x_then (hK6 _ _ ?_)
  refine c_if rfl (fun hle => ?_) (fun hle => ?_)
  · skip
    have hx : x < 256 := by omega
    refine c_skip ?_
    refine x_then (hK5 _ _ ?_)
    refine c_seq fun _ hK7 => ?_
    refine c_block ?_
    refine c_region ?_
    refine o_step rfl (s_ldB rfl (RdPK.cels (.own meA)) lnA) ?_
    refine o_step rfl (s_move rfl) ?_
    refine o_step rfl (step_cast (v' := .int .u8 ((x : Nat) : Int)) (s_conv rfl) (congrArg _ (conv8 (by omega)))) ?_
    refine o_callP (with_fn _ x hx) rfl rfl rfl (fun _ _ => trivial) (fun v19 hv19 => ?_)
    subst hv19
    refine o_stW rfl rfl upA lnA lnA (by first | exact Ec_one _ | exact flat_one _ _ | exact one_rep rfl | (simp [Value.oneCell']; done)) ?_
    refine o_nil ?_
    refine x_block ?_
    refine x_then (hK7 _ _ ?_)
    refine c_region ?_
    refine o_step rfl (s_move rfl) ?_
    refine o_step rfl (s_add rfl rfl (by omega)) ?_
    refine o_step rfl (s_assign rfl) ?_
    refine o_nil ?_
    rw [← rngTo_step (by omega)]
    exact x_then (x_inv (x + 1) ⟨by omega, by omega⟩ (by first | omega | (dsimp only; omega)) sbA hzA)
  · skip
    have hend := rng_end (lo := lo) (hi := hi) (x := x) (by omega) (by omega) (by omega)
    rw [hend]
    refine c_exit ?_
    refine x_then_exit ?_
    refine x_then_exit ?_
    refine x_block_exit ?_
    refine x_then (hK3 _ _ ?_)
    refine c_seq fun _ hK8 => ?_
    refine c_region ?_
    refine o_step rfl (s_ldB rfl (RdPK.cels (.own meA)) lnA) ?_
    refine o_stW rfl rfl upA lnA lnA (by first | exact Ec_one _ | exact flat_one _ _ | exact one_rep rfl | (simp [Value.oneCell']; done)) ?_
    refine o_nil ?_
    refine x_then (hK8 _ _ ?_)
    refine c_ret ?_
    refine ?_
    exact x_ret rfl (.agg inferInstance inferInstance rfl (RdPK.cels (.own meA)) lnA (.nil)) (rfl)

theorem of_fn (a : Option Addr) (n : Nat) (l : List UInt8) : HL.Fn Tryd.prog 19 [.slice a l.length n] (fun w => Rd Eb w (.slice a l.length n) l) [] (fun v _ => v = .agg (Ec (ofL l)).toArray) := by
  refine fn_of Tryd.func19 rfl rfl rfl fun w0 hw => ?_
  have hsl := hw.sl
  have hbl := hsl.le
  refine c_seq fun _ hK1 => ?_
  refine c_region ?_
  refine o_alloc (l := Ec 0#256) (by rw [Ec_zero]; rfl) rfl fun b2 => ?_
  refine o_nil ?_
  refine x_then (hK1 _ _ ?_)
  refine c_seq fun _ hK2 => ?_
  refine c_region ?_
  refine o_alloc (l := Ec 0#256) (by rw [Ec_zero]; rfl) rfl fun b3 => ?_
  refine o_nil ?_
  refine x_then (hK2 _ _ ?_)
  refine c_seq fun _ hK3 => ?_
  refine c_seq fun _ hK4 => ?_
  refine c_region ?_
  refine o_step rfl (s_move rfl) ?_
  refine o_step rfl (s_len rfl) ?_
  refine o_step rfl (s_move rfl) ?_
  refine o_nil ?_
  refine x_then (hK4 _ _ ?_)
  refine c_block ?_
  rw [← show ofL (l.take 0) = 0#256 from rfl]
  refine c_loopB (fun (i : Nat) => i ≤ l.length) (fun (i : Nat) => [(8, .int .i64 i)]) [(2, _), (3, _), (6, _), (7, _)] (fun (i : Nat) => [(b3, .cells (Ec (ofL (l.take i))).toArray 28 (0, 0)), (b2, .cells (Ec 0#256).toArray 28 (0, 0))]) (fun (i : Nat) => l.length - i) 0 (by omega) sbA sbA hzA ?_
  rintro i hI
  refine c_seq fun _ hK5 => ?_
  refine c_region ?_
  refine o_step rfl (s_lss rfl rfl) ?_
  refine o_nil ?_
  refine x_then (hK5 _ _ ?_)
  refine c_seq fun _ hK6 => ?_
  refine c_if rfl (fun hlt0 => ?_) (fun hlt0 => ?_)
  · skip
    have hlt : i < l.length := by omega
    have hbt : (l[i]).toNat < 256 := (l[i]).toNat_lt
    have hget := List.getElem?_eq_getElem (l := l) (i := i) (by omega)
    refine c_skip ?_
    refine x_then (hK6 _ _ ?_)
    refine c_seq fun _ hK7 => ?_
    refine c_block ?_
    refine c_seq fun _ hK8 => ?_
    refine c_region ?_
    refine o_step rfl (s_idx rfl rfl (by assumption) (by omega)) ?_
    refine o_step rfl (s_ld rfl ((RdK.old0 hw).ld i 0 hget rfl (by decide) (by omega))) ?_
    refine o_step rfl (s_assign rfl) ?_
    refine o_nil ?_
    refine x_then (hK8 _ _ ?_)
    refine c_region ?_
    refine o_step rfl (s_move rfl) ?_
    refine o_step rfl (step_cast (v' := .int .u8 (((l[i]).toNat / 64 : Nat) : Int)) (s_shr rfl rfl (by decide)) (congrArg _ (shr6_u8 hbt))) ?_
    refine o_step rfl (s_idx1 rfl rfl (by omega)) ?_
    refine o_step rfl (s_ld rfl ((RdPK.own meA).cel (j := (l[i]).toNat / 64) (Ec_get _ (by omega)) (by omega))) ?_
    refine o_step rfl (s_move rfl) ?_
    refine o_step rfl (step_cast (v' := .int .u8 (((l[i]).toNat % 64 : Nat) : Int)) (s_and rfl rfl) (congrArg _ (v_and63 hbt))) ?_
    refine o_step rfl (step_cast (v' := Ew (1#64 <<< ((l[i]).toNat % 64))) (s_shl rfl rfl (by omega)) (v_shl1 (by omega))) ?_
    refine o_step rfl (step_cast (s_or rfl rfl) (v_or (wd (ofL (l.take i)) ((l[i]).toNat / 64)) (1#64 <<< ((l[i]).toNat % 64)))) ?_
    refine o_step rfl (s_idx1 rfl rfl (by omega)) ?_
    refine o_store rfl rfl rfl upA (by show (l[i]).toNat / 64 < 4; omega) rfl ?_
    rw [Ec_set _ _ (by omega)]
    refine o_nil ?_
    refine x_block ?_
    refine x_then (hK7 _ _ ?_)
    refine c_region ?_
    refine o_step rfl (s_add rfl rfl (by omega)) ?_
    refine o_step rfl (s_move rfl) ?_
    refine o_nil ?_
    rw [with_eq _ hbt, ← ofL_step hlt]
    exact x_then (x_inv (i + 1) (by omega) (by first | omega | (dsimp only; omega)) sbA hzA)
  · skip
    rw [ofL_all (by omega)]
    refine c_exit ?_
    refine x_then_exit ?_
    refine x_then_exit ?_
    refine x_block_exit ?_
    refine x_then (hK3 _ _ ?_)
    refine c_seq fun _ hK9 => ?_
    refine c_region ?_
    refine o_step rfl (s_ldB rfl (RdPK.cels (.own meA)) lnA) ?_
    refine o_stW rfl rfl upA lnA lnA (by first | exact Ec_one _ | exact flat_one _ _ | exact one_rep rfl | (simp [Value.oneCell']; done)) ?_
    refine o_nil ?_
    refine x_then (hK9 _ _ ?_)
    refine c_ret ?_
    refine ?_
    exact x_ret rfl (.agg inferInstance inferInstance rfl (RdPK.cels (.own meA)) lnA (.nil)) (rfl)

theorem rOf_fn (a : Option Addr) (n : Nat) (l : List UInt8) : HL.Fn Tryd.prog 77 [.slice a l.length n] (fun w => Rd Eb w (.slice a l.length n) l) [] (fun v _ => v = .agg (Ec (ofL l)).toArray) := by
  refine fn_of Tryd.func77 rfl rfl rfl fun w0 hw => ?_
  have hsl := hw.sl
  have hbl := hsl.le
  refine c_seq fun _ hK1 => ?_
  refine c_region ?_
  refine o_alloc (l := Ec 0#256) (by rw [Ec_zero]; rfl) rfl fun b2 => ?_
  refine o_nil ?_
  refine x_then (hK1 _ _ ?_)
  refine c_seq fun _ hK2 => ?_
  refine c_region ?_
  refine o_step rfl (step_cast (v' := .agg (Ec 0#256).toArray) (s_build0 rfl) (by rw [Ec_zero]; rfl)) ?_
  refine o_alloc (l := Ec 0#256) (by rw [Ec_zero]; rfl) rfl fun b3 => ?_
  refine o_stW rfl rfl upA lnA lnA (by first | exact Ec_one _ | exact flat_one _ _ | exact one_rep rfl | (simp [Value.oneCell']; done)) ?_
  refine o_nil ?_
  refine x_then (hK2 _ _ ?_)
  refine c_seq fun _ hK3 => ?_
  refine c_seq fun _ hK4 => ?_
  refine c_region ?_
  refine o_step rfl (s_assign rfl) ?_
  refine o_nil ?_
  refine x_then (hK4 _ _ ?_)
  refine c_block ?_
  rw [← show ofL (l.take 0) = 0#256 from rfl]
  refine c_loopB (fun (i : Nat) => i ≤ l.length) (fun (i : Nat) => [(4, .int .i64 i)]) [(0, _), (2, _), (3, _)] (fun (i : Nat) => [(b3, .cells (Ec (ofL (l.take i))).toArray 28 (0, 0)), (b2, .cells (Ec 0#256).toArray 28 (0, 0))]) (fun (i : Nat) => l.length - i) 0 (by omega) sbA sbA hzA ?_
  rintro i hI
  refine c_seq fun _ hK5 => ?_
  refine c_seq fun _ hK6 => ?_
  refine c_region ?_
  refine o_step rfl (s_move rfl) ?_
  refine o_step rfl (s_move rfl) ?_
  refine o_step rfl (s_len rfl) ?_
  refine o_step rfl (s_lss rfl rfl) ?_
  refine o_nil ?_
  refine x_then (hK6 _ _ ?_)
  refine c_if rfl (fun hlt0 => ?_) (fun hlt0 => ?_)
  · skip
    have hlt : i < l.length := by omega
    have hbt : (l[i]).toNat < 256 := (l[i]).toNat_lt
    have hget := List.getElem?_eq_getElem (l := l) (i := i) (by omega)
    refine c_skip ?_
    refine x_then (hK5 _ _ ?_)
    refine c_seq fun _ hK7 => ?_
    refine c_block ?_
    refine c_drawE ([(b3, .cells (Ec (ofL (l.take i))).toArray 28 (0, 0)), (b2, .cells (Ec 0#256).toArray 28 (0, 0))]) (fun i => Nat.beq i 6) ?_
    refine e_take 0 rfl (by kernel_rfl) (by kernel_rfl) (by kernel_rfl) (by kernel_rfl) (fun _ _ => rfl) rfl hzA (s_ldB rfl (RdPK.cels (.own meA)) lnA) ?_
    refine e_take 1 rfl (by kernel_rfl) (by kernel_rfl) (by kernel_rfl) (by kernel_rfl) (fun _ _ => rfl) rfl hzA (s_move rfl) ?_
    refine e_take 2 rfl (by kernel_rfl) (by kernel_rfl) (by kernel_rfl) (by kernel_rfl) (fun _ _ => rfl) rfl hzA (s_move rfl) ?_
    refine e_take 3 rfl (by kernel_rfl) (by kernel_rfl) (by kernel_rfl) (by kernel_rfl) (fun _ _ => rfl) rfl hzA (s_idx rfl rfl (by assumption) (by omega)) ?_
    refine e_take 4 rfl (by kernel_rfl) (by kernel_rfl) (by kernel_rfl) (by kernel_rfl) (fun _ _ => rfl) rfl hzA (s_ld rfl ((RdK.old0 hw).ld i 0 hget rfl (by decide) (by omega))) ?_
    refine e_one 5 rfl (by kernel_rfl) ?_
    refine o_callP (with_fn _ (l[i]).toNat hbt) rfl rfl rfl (fun _ _ => trivial) (fun v17 hv17 => ?_)
    subst hv17
    refine o_nil ?_
    refine x_oneS hzA ?_
    refine e_one 6 rfl (by kernel_rfl) ?_
    refine o_stW rfl rfl upA lnA lnA (by first | exact Ec_one _ | exact flat_one _ _ | exact one_rep rfl | (simp [Value.oneCell']; done)) ?_
    refine o_nil ?_
    refine x_oneL rfl ?_
    refine e_done (by kernel_rfl) ?_
    refine x_block ?_
    refine x_then (hK7 _ _ ?_)
    refine c_region ?_
    refine o_step rfl (s_move rfl) ?_
    refine o_step rfl (s_add rfl rfl (by omega)) ?_
    refine o_step rfl (s_assign rfl) ?_
    refine o_nil ?_
    rw [← ofL_step hlt]
    exact x_then (x_inv (i + 1) (by omega) (by first | omega | (dsimp only; omega)) sbA hzA)
  · skip
    rw [ofL_all (by omega)]
    refine c_exit ?_
    refine x_then_exit ?_
    refine x_then_exit ?_
    refine x_block_exit ?_
    refine x_then (hK3 _ _ ?_)
    refine c_seq fun _ hK8 => ?_
    refine c_region ?_
    refine o_step rfl (s_ldB rfl (RdPK.cels (.own meA)) lnA) ?_
    refine o_stW rfl rfl upA lnA lnA (by first | exact Ec_one _ | exact flat_one _ _ | exact one_rep rfl | (simp [Value.oneCell']; done)) ?_
    refine o_nil ?_
    refine x_then (hK8 _ _ ?_)
    refine c_ret ?_
    refine ?_
    exact x_ret rfl (.agg inferInstance inferInstance rfl (RdPK.cels (.own meA)) lnA (.nil)) (rfl)

theorem rOr_fn (a b : Cl) : HL.Fn Tryd.prog 33 [.agg (Ec a).toArray, .agg (Ec b).toArray] (fun _ => True) [] (fun v _ => v = .agg (Ec (a ||| b)).toArray) := by
  refine fn_of Tryd.func33 rfl rfl rfl fun w0 hw => ?_
  refine c_seq fun _ hK1 => ?_
  refine c_region ?_
  refine o_box rfl rfl rfl fun b2 => ?_
  refine o_box rfl rfl rfl fun b3 => ?_
  refine o_alloc (l := Ec 0#256) (by rw [Ec_zero]; rfl) rfl fun b4 => ?_
  refine o_nil ?_
  refine x_then (hK1 _ _ ?_)
  refine c_seq fun _ hK2 => ?_
  refine c_region ?_
  refine o_step rfl (step_cast (v' := .agg (Ec 0#256).toArray) (s_build0 rfl) (by rw [Ec_zero]; rfl)) ?_
  refine o_alloc (l := Ec 0#256) (by rw [Ec_zero]; rfl) rfl fun b5 => ?_
  refine o_stW rfl rfl upA lnA lnA (by first | exact Ec_one _ | exact flat_one _ _ | exact one_rep rfl | (simp [Value.oneCell']; done)) ?_
  refine o_nil ?_
  refine x_then (hK2 _ _ ?_)
  refine c_seq fun _ hK3 => ?_
  refine c_seq fun _ hK4 => ?_
  refine c_region ?_
  refine o_step rfl (s_assign rfl) ?_
  refine o_nil ?_
  refine x_then (hK4 _ _ ?_)
  refine c_block ?_
  refine c_loop2 (fun (i : Nat) (c : Cl) => i ≤ 256 ∧ Part (fun j => a.getLsbD j || b.getLsbD j) i c) (fun (i : Nat) (c : Cl) => [(6, .int .i64 i)]) [(2, _), (3, _), (4, _), (5, _)] (fun (i : Nat) (c : Cl) => [(b5, .cells (Ec c).toArray 28 (0, 0)), (b4, .cells (Ec 0#256).toArray 28 (0, 0)), (b3, .cells (Ec b).toArray 28 (0, 0)), (b2, .cells (Ec a).toArray 28 (0, 0))]) (fun (i : Nat) (c : Cl) => 256 - i) 0 0#256 ⟨by omega, .zero⟩ sbA sbA hzA ?_
  rintro i c ⟨hi, hp⟩
  refine c_seq fun _ hK5 => ?_
  refine c_seq fun _ hK6 => ?_
  refine c_region ?_
  refine o_step rfl (s_move rfl) ?_
  refine o_step rfl (s_lss rfl rfl) ?_
  refine o_nil ?_
  refine x_then (hK6 _ _ ?_)
  refine c_if rfl (fun hlt => ?_) (fun hlt => ?_)
  · skip
    refine c_skip ?_
    refine x_then (hK5 _ _ ?_)
    refine c_seq fun _ hK7 => ?_
    refine c_block ?_
    refine c_seq fun _ hK8 => ?_
    refine c_region ?_
    refine o_step rfl (s_ldB rfl (RdPK.cels (.own meA)) lnA) ?_
    refine o_step rfl (s_move rfl) ?_
    refine o_step rfl (step_cast (v' := .int .u8 ((i : Nat) : Int)) (s_conv rfl) (congrArg _ (conv8 (by omega)))) ?_
    refine o_callP (rHas_fn a i (by omega)) rfl rfl rfl (fun _ _ => trivial) (fun v15 hv15 => ?_)
    cases ha : BitVec.getLsbD a i
    · skip
      rw [ha] at hv15
      subst hv15
      refine o_step rfl (s_move rfl) ?_
      refine o_yes rfl rfl ?_
      refine o_step rfl (s_ldB rfl (RdPK.cels (.own meA)) lnA) ?_
      refine o_yes rfl rfl ?_
      refine o_step rfl (s_move rfl) ?_
      refine o_yes rfl rfl ?_
      refine o_step rfl (step_cast (v' := .int .u8 ((i : Nat) : Int)) (s_conv rfl) (congrArg _ (conv8 (by omega)))) ?_
      refine o_yes rfl rfl ?_
      refine o_callP (rHas_fn b i (by omega)) rfl rfl rfl (fun _ _ => trivial) (fun v20 hv20 => ?_)
      cases hb : BitVec.getLsbD b i
      · skip
        rw [hb] at hv20
        subst hv20
        refine o_step rfl (s_pick_f rfl rfl) ?_
        refine o_nil ?_
        refine x_then (hK8 _ _ ?_)
        refine c_false rfl ?_
        refine c_skip ?_
        refine x_block ?_
        refine x_then (hK7 _ _ ?_)
        refine c_region ?_
        refine o_step rfl (s_move rfl) ?_
        refine o_step rfl (s_add rfl rfl (by omega)) ?_
        refine o_step rfl (s_assign rfl) ?_
        refine o_nil ?_
        exact x_then (x_inv (i + 1, _) ⟨by omega, hp.no (by simp [*])⟩ (by first | omega | (dsimp only; omega)) sbA hzA)
      · skip
        rw [hb] at hv20
        subst hv20
        refine o_step rfl (s_pick_f rfl rfl) ?_
        refine o_nil ?_
        refine x_then (hK8 _ _ ?_)
        refine c_true rfl ?_
        refine c_region ?_
        refine o_step rfl (s_ldB rfl (RdPK.cels (.own meA)) lnA) ?_
        refine o_step rfl (s_move rfl) ?_
        refine o_step rfl (step_cast (v' := .int .u8 ((i : Nat) : Int)) (s_conv rfl) (congrArg _ (conv8 (by omega)))) ?_
        refine o_callP (with_fn c i (by omega)) rfl rfl rfl (fun _ _ => trivial) (fun v25 hv25 => ?_)
        subst hv25
        refine o_stW rfl rfl upA lnA lnA (by first | exact Ec_one _ | exact flat_one _ _ | exact one_rep rfl | (simp [Value.oneCell']; done)) ?_
        refine o_nil ?_
        refine x_block ?_
        refine x_then (hK7 _ _ ?_)
        refine c_region ?_
        refine o_step rfl (s_move rfl) ?_
        refine o_step rfl (s_add rfl rfl (by omega)) ?_
        refine o_step rfl (s_assign rfl) ?_
        refine o_nil ?_
        exact x_then (x_inv (i + 1, _) ⟨by omega, hp.yes (by simp [*])⟩ (by first | omega | (dsimp only; omega)) sbA hzA)
    · skip
      rw [ha] at hv15
      subst hv15
      refine o_step rfl (s_move rfl) ?_
      refine o_no rfl rfl rfl rfl ?_
      refine o_no rfl rfl rfl rfl ?_
      refine o_no rfl rfl rfl rfl ?_
      refine o_no rfl rfl rfl rfl ?_
      refine o_step rfl (s_pick_t rfl rfl) ?_
      refine o_nil ?_
      refine x_then (hK8 _ _ ?_)
      refine c_true rfl ?_
      refine c_region ?_
      refine o_step rfl (s_ldB rfl (RdPK.cels (.own meA)) lnA) ?_
      refine o_step rfl (s_move rfl) ?_
      refine o_step rfl (step_cast (v' := .int .u8 ((i : Nat) : Int)) (s_conv rfl) (congrArg _ (conv8 (by omega)))) ?_
      refine o_callP (with_fn c i (by omega)) rfl rfl rfl (fun _ _ => trivial) (fun v25 hv25 => ?_)
      subst hv25
      refine o_stW rfl rfl upA lnA lnA (by first | exact Ec_one _ | exact flat_one _ _ | exact one_rep rfl | (simp [Value.oneCell']; done)) ?_
      refine o_nil ?_
      refine x_block ?_
      refine x_then (hK7 _ _ ?_)
      refine c_region ?_
      refine o_step rfl (s_move rfl) ?_
      refine o_step rfl (s_add rfl rfl (by omega)) ?_
      refine o_step rfl (s_assign rfl) ?_
      refine o_nil ?_
      exact x_then (x_inv (i + 1, _) ⟨by omega, hp.yes (by simp [*])⟩ (by first | omega | (dsimp only; omega)) sbA hzA)
  · skip
    obtain rfl := hp.or (by omega)
    refine c_exit ?_
    refine x_then_exit ?_
    refine x_then_exit ?_
    refine x_block_exit ?_
    refine x_then (hK3 _ _ ?_)
    refine c_seq fun _ hK9 => ?_
    refine c_region ?_
    refine o_step rfl (s_ldB rfl (RdPK.cels (.own meA)) lnA) ?_
    refine o_stW rfl rfl upA lnA lnA (by first | exact Ec_one _ | exact flat_one _ _ | exact one_rep rfl | (simp [Value.oneCell']; done)) ?_
    refine o_nil ?_
    refine x_then (hK9 _ _ ?_)
    refine c_ret ?_
    refine ?_
    exact x_ret rfl (.agg inferInstance inferInstance rfl (RdPK.cels (.own meA)) lnA (.nil)) (rfl)

theorem rAnd_fn (a b : Cl) : HL.Fn Tryd.prog 81 [.agg (Ec a).toArray, .agg (Ec b).toArray] (fun _ => True) [] (fun v _ => v = .agg (Ec (a &&& b)).toArray) := by
  refine fn_of Tryd.func81 rfl rfl rfl fun w0 hw => ?_
  refine c_seq fun _ hK1 => ?_
  refine c_region ?_
  refine o_box rfl rfl rfl fun b2 => ?_
  refine o_box rfl rfl rfl fun b3 => ?_
  refine o_alloc (l := Ec 0#256) (by rw [Ec_zero]; rfl) rfl fun b4 => ?_
  refine o_nil ?_
  refine x_then (hK1 _ _ ?_)
  refine c_seq fun _ hK2 => ?_
  refine c_region ?_
  refine o_step rfl (step_cast (v' := .agg (Ec 0#256).toArray) (s_build0 rfl) (by rw [Ec_zero]; rfl)) ?_
  refine o_alloc (l := Ec 0#256) (by rw [Ec_zero]; rfl) rfl fun b5 => ?_
  refine o_stW rfl rfl upA lnA lnA (by first | exact Ec_one _ | exact flat_one _ _ | exact one_rep rfl | (simp [Value.oneCell']; done)) ?_
  refine o_nil ?_
  refine x_then (hK2 _ _ ?_)
  refine c_seq fun _ hK3 => ?_
  refine c_seq fun _ hK4 => ?_
  refine c_region ?_
  refine o_step rfl (s_assign rfl) ?_
  refine o_nil ?_
  refine x_then (hK4 _ _ ?_)
  refine c_block ?_
  refine c_loop2 (fun (i : Nat) (c : Cl) => i ≤ 256 ∧ Part (fun j => a.getLsbD j && b.getLsbD j) i c) (fun (i : Nat) (c : Cl) => [(6, .int .i64 i)]) [(2, _), (3, _), (4, _), (5, _)] (fun (i : Nat) (c : Cl) => [(b5, .cells (Ec c).toArray 28 (0, 0)), (b4, .cells (Ec 0#256).toArray 28 (0, 0)), (b3, .cells (Ec b).toArray 28 (0, 0)), (b2, .cells (Ec a).toArray 28 (0, 0))]) (fun (i : Nat) (c : Cl) => 256 - i) 0 0#256 ⟨by omega, .zero⟩ sbA sbA hzA ?_
  rintro i c ⟨hi, hp⟩
  refine c_seq fun _ hK5 => ?_
  refine c_seq fun _ hK6 => ?_
  refine c_region ?_
  refine o_step rfl (s_move rfl) ?_
  refine o_step rfl (s_lss rfl rfl) ?_
  refine o_nil ?_
  refine x_then (hK6 _ _ ?_)
  refine c_if rfl (fun hlt => ?_) (fun hlt => ?_)
  · skip
    refine c_skip ?_
    refine x_then (hK5 _ _ ?_)
    refine c_seq fun _ hK7 => ?_
    refine c_block ?_
    refine c_seq fun _ hK8 => ?_
    refine c_region ?_
    refine o_step rfl (s_ldB rfl (RdPK.cels (.own meA)) lnA) ?_
    refine o_step rfl (s_move rfl) ?_
    refine o_step rfl (step_cast (v' := .int .u8 ((i : Nat) : Int)) (s_conv rfl) (congrArg _ (conv8 (by omega)))) ?_
    refine o_callP (rHas_fn a i (by omega)) rfl rfl rfl (fun _ _ => trivial) (fun v15 hv15 => ?_)
    cases ha : BitVec.getLsbD a i
    · skip
      rw [ha] at hv15
      subst hv15
      refine o_step rfl (s_move rfl) ?_
      refine o_no rfl rfl rfl rfl ?_
      refine o_no rfl rfl rfl rfl ?_
      refine o_no rfl rfl rfl rfl ?_
      refine o_no rfl rfl rfl rfl ?_
      refine o_step rfl (s_pick_f rfl rfl) ?_
      refine o_nil ?_
      refine x_then (hK8 _ _ ?_)
      refine c_false rfl ?_
      refine c_skip ?_
      refine x_block ?_
      refine x_then (hK7 _ _ ?_)
      refine c_region ?_
      refine o_step rfl (s_move rfl) ?_
      refine o_step rfl (s_add rfl rfl (by omega)) ?_
      refine o_step rfl (s_assign rfl) ?_
      refine o_nil ?_
      exact x_then (x_inv (i + 1, _) ⟨by omega, hp.no (by simp [*])⟩ (by first | omega | (dsimp only; omega)) sbA hzA)
    · skip
      rw [ha] at hv15
      subst hv15
      refine o_step rfl (s_move rfl) ?_
      refine o_yes rfl rfl ?_
      refine o_step rfl (s_ldB rfl (RdPK.cels (.own meA)) lnA) ?_
      refine o_yes rfl rfl ?_
      refine o_step rfl (s_move rfl) ?_
      refine o_yes rfl rfl ?_
      refine o_step rfl (step_cast (v' := .int .u8 ((i : Nat) : Int)) (s_conv rfl) (congrArg _ (conv8 (by omega)))) ?_
      refine o_yes rfl rfl ?_
      refine o_callP (rHas_fn b i (by omega)) rfl rfl rfl (fun _ _ => trivial) (fun v20 hv20 => ?_)
      cases hb : BitVec.getLsbD b i
      · skip
        rw [hb] at hv20
        subst hv20
        refine o_step rfl (s_pick_t rfl rfl) ?_
        refine o_nil ?_
        refine x_then (hK8 _ _ ?_)
        refine c_false rfl ?_
        refine c_skip ?_
        refine x_block ?_
        refine x_then (hK7 _ _ ?_)
        refine c_region ?_
        refine o_step rfl (s_move rfl) ?_
        refine o_step rfl (s_add rfl rfl (by omega)) ?_
        refine o_step rfl (s_assign rfl) ?_
        refine o_nil ?_
        exact x_then (x_inv (i + 1, _) ⟨by omega, hp.no (by simp [*])⟩ (by first | omega | (dsimp only; omega)) sbA hzA)
      · skip
        rw [hb] at hv20
        subst hv20
        refine o_step rfl (s_pick_t rfl rfl) ?_
        refine o_nil ?_
        refine x_then (hK8 _ _ ?_)
        refine c_true rfl ?_
        refine c_region ?_
        refine o_step rfl (s_ldB rfl (RdPK.cels (.own meA)) lnA) ?_
        refine o_step rfl (s_move rfl) ?_
        refine o_step rfl (step_cast (v' := .int .u8 ((i : Nat) : Int)) (s_conv rfl) (congrArg _ (conv8 (by omega)))) ?_
        refine o_callP (with_fn c i (by omega)) rfl rfl rfl (fun _ _ => trivial) (fun v25 hv25 => ?_)
        subst hv25
        refine o_stW rfl rfl upA lnA lnA (by first | exact Ec_one _ | exact flat_one _ _ | exact one_rep rfl | (simp [Value.oneCell']; done)) ?_
        refine o_nil ?_
        refine x_block ?_
        refine x_then (hK7 _ _ ?_)
        refine c_region ?_
        refine o_step rfl (s_move rfl) ?_
        refine o_step rfl (s_add rfl rfl (by omega)) ?_
        refine o_step rfl (s_assign rfl) ?_
        refine o_nil ?_
        exact x_then (x_inv (i + 1, _) ⟨by omega, hp.yes (by simp [*])⟩ (by first | omega | (dsimp only; omega)) sbA hzA)
  · skip
    obtain rfl := hp.and (by omega)
    refine c_exit ?_
    refine x_then_exit ?_
    refine x_then_exit ?_
    refine x_block_exit ?_
    refine x_then (hK3 _ _ ?_)
    refine c_seq fun _ hK9 => ?_
    refine c_region ?_
    refine o_step rfl (s_ldB rfl (RdPK.cels (.own meA)) lnA) ?_
    refine o_stW rfl rfl upA lnA lnA (by first | exact Ec_one _ | exact flat_one _ _ | exact one_rep rfl | (simp [Value.oneCell']; done)) ?_
    refine o_nil ?_
    refine x_then (hK9 _ _ ?_)
    refine c_ret ?_
    refine ?_
    exact x_ret rfl (.agg inferInstance inferInstance rfl (RdPK.cels (.own meA)) lnA (.nil)) (rfl)

theorem rNot_fn (a : Cl) : HL.Fn Tryd.prog 34 [.agg (Ec a).toArray] (fun _ => True) [] (fun v _ => v = .agg (Ec (~~~a)).toArray) := by
  refine fn_of Tryd.func34 rfl rfl rfl fun w0 hw => ?_
  refine c_seq fun _ hK1 => ?_
  refine c_region ?_
  refine o_box rfl rfl rfl fun b1 => ?_
  refine o_alloc (l := Ec 0#256) (by rw [Ec_zero]; rfl) rfl fun b2 => ?_
  refine o_nil ?_
  refine x_then (hK1 _ _ ?_)
  refine c_seq fun _ hK2 => ?_
  refine c_region ?_
  refine o_step rfl (step_cast (v' := .agg (Ec 0#256).toArray) (s_build0 rfl) (by rw [Ec_zero]; rfl)) ?_
  refine o_alloc (l := Ec 0#256) (by rw [Ec_zero]; rfl) rfl fun b3 => ?_
  refine o_stW rfl rfl upA lnA lnA (by first | exact Ec_one _ | exact flat_one _ _ | exact one_rep rfl | (simp [Value.oneCell']; done)) ?_
  refine o_nil ?_
  refine x_then (hK2 _ _ ?_)
  refine c_seq fun _ hK3 => ?_
  refine c_seq fun _ hK4 => ?_
  refine c_region ?_
  refine o_step rfl (s_assign rfl) ?_
  refine o_nil ?_
  refine x_then (hK4 _ _ ?_)
  refine c_block ?_
  refine c_loop2 (fun (i : Nat) (c : Cl) => i ≤ 256 ∧ Part (fun j => !a.getLsbD j) i c) (fun (i : Nat) (c : Cl) => [(4, .int .i64 i)]) [(1, _), (2, _), (3, _)] (fun (i : Nat) (c : Cl) => [(b3, .cells (Ec c).toArray 28 (0, 0)), (b2, .cells (Ec 0#256).toArray 28 (0, 0)), (b1, .cells (Ec a).toArray 28 (0, 0))]) (fun (i : Nat) (c : Cl) => 256 - i) 0 0#256 ⟨by omega, .zero⟩ sbA sbA hzA ?_
  rintro i c ⟨hi, hp⟩
  refine c_seq fun _ hK5 => ?_
  refine c_seq fun _ hK6 => ?_
  refine c_region ?_
  refine o_step rfl (s_move rfl) ?_
  refine o_step rfl (s_lss rfl rfl) ?_
  refine o_nil ?_
  refine x_then (hK6 _ _ ?_)
  refine c_if rfl (fun hlt => ?_) (fun hlt => ?_)
  · skip
    refine c_skip ?_
    refine x_then (hK5 _ _ ?_)
    refine c_seq fun _ hK7 => ?_
    refine c_block ?_
    refine c_seq fun _ hK8 => ?_
    refine c_region ?_
    refine o_step rfl (s_ldB rfl (RdPK.cels (.own meA)) lnA) ?_
    refine o_step rfl (s_move rfl) ?_
    refine o_step rfl (step_cast (v' := .int .u8 ((i : Nat) : Int)) (s_conv rfl) (congrArg _ (conv8 (by omega)))) ?_
    refine o_callP (rHas_fn a i (by omega)) rfl rfl rfl (fun _ _ => trivial) (fun v13 hv13 => ?_)
    cases ha : BitVec.getLsbD a i
    · skip
      rw [ha] at hv13
      subst hv13
      refine o_step rfl (s_not rfl) ?_
      refine o_nil ?_
      refine x_then (hK8 _ _ ?_)
      refine c_true rfl ?_
      refine c_region ?_
      refine o_step rfl (s_ldB rfl (RdPK.cels (.own meA)) lnA) ?_
      refine o_step rfl (s_move rfl) ?_
      refine o_step rfl (step_cast (v' := .int .u8 ((i : Nat) : Int)) (s_conv rfl) (congrArg _ (conv8 (by omega)))) ?_
      refine o_callP (with_fn c i (by omega)) rfl rfl rfl (fun _ _ => trivial) (fun v18 hv18 => ?_)
      subst hv18
      refine o_stW rfl rfl upA lnA lnA (by first | exact Ec_one _ | exact flat_one _ _ | exact one_rep rfl | (simp [Value.oneCell']; done)) ?_
      refine o_nil ?_
      refine x_block ?_
      refine x_then (hK7 _ _ ?_)
      refine c_region ?_
      refine o_step rfl (s_move rfl) ?_
      refine o_step rfl (s_add rfl rfl (by omega)) ?_
      refine o_step rfl (s_assign rfl) ?_
      refine o_nil ?_
      exact x_then (x_inv (i + 1, _) ⟨by omega, hp.yes (by simp [*])⟩ (by first | omega | (dsimp only; omega)) sbA hzA)
    · skip
      rw [ha] at hv13
      subst hv13
      refine o_step rfl (s_not rfl) ?_
      refine o_nil ?_
      refine x_then (hK8 _ _ ?_)
      refine c_false rfl ?_
      refine c_skip ?_
      refine x_block ?_
      refine x_then (hK7 _ _ ?_)
      refine c_region ?_
      refine o_step rfl (s_move rfl) ?_
      refine o_step rfl (s_add rfl rfl (by omega)) ?_
      refine o_step rfl (s_assign rfl) ?_
      refine o_nil ?_
      exact x_then (x_inv (i + 1, _) ⟨by omega, hp.no (by simp [*])⟩ (by first | omega | (dsimp only; omega)) sbA hzA)
  · skip
    obtain rfl := hp.not (by omega)
    refine c_exit ?_
    refine x_then_exit ?_
    refine x_then_exit ?_
    refine x_block_exit ?_
    refine x_then (hK3 _ _ ?_)
    refine c_seq fun _ hK9 => ?_
    refine c_region ?_
    refine o_step rfl (s_ldB rfl (RdPK.cels (.own meA)) lnA) ?_
    refine o_stW rfl rfl upA lnA lnA (by first | exact Ec_one _ | exact flat_one _ _ | exact one_rep rfl | (simp [Value.oneCell']; done)) ?_
    refine o_nil ?_
    refine x_then (hK9 _ _ ?_)
    refine c_ret ?_
    refine ?_
    exact x_ret rfl (.agg inferInstance inferInstance rfl (RdPK.cels (.own meA)) lnA (.nil)) (rfl)
end Go.Proofs.YtafbigmneipkiaaDoor
