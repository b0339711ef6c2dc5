/- Part of the proofs over this seat: see the text that holds the theorem. Conditions: each theorem bears its own. -/
import Derived.Test.YtafbigmneipkiaaDoorBC1
import Derived.Test.YtafbigmneipkiaaDoorMC8
namespace Go.Proofs.YtafbigmneipkiaaDoor
open Go Go.HL Go.Proofs Go.HL.Kl

theorem rSize_fn (c : Cl) : HL.Fn Tryd.prog 40 [.agg (Ec c).toArray] (fun _ => True) [] (fun v _ => v = .int .i64 (size c)) := by
  refine fn_of Tryd.func40 rfl rfl rfl fun w0 hw => ?_
  refine c_seq fun _ hK1 => ?_
  refine c_region ?_
  refine o_box rfl rfl rfl fun b1 => ?_
  refine o_step rfl (s_assign rfl) ?_
  refine o_nil ?_
  refine x_then (hK1 _ _ ?_)
  refine c_seq fun _ hK2 => ?_
  refine c_region ?_
  refine o_step rfl (s_assign rfl) ?_
  refine o_nil ?_
  refine x_then (hK2 _ _ ?_)
  refine c_seq fun _ hK3 => ?_
  refine c_seq fun _ hK4 => ?_
  refine c_region ?_
  refine o_step rfl (s_assign rfl) ?_
  refine o_nil ?_
  refine x_then (hK4 _ _ ?_)
  refine c_block ?_
  refine c_loopB (fun (i : Nat) => i ≤ 256) (fun (i : Nat) => [(4, .int .i64 i), (3, .int .i64 (sizeTo c i))]) [(1, _), (2, _)] (fun (i : Nat) => [(b1, .cells (Ec c).toArray 28 (0, 0))]) (fun (i : Nat) => 256 - i) 0 (by omega) sbA sbA hzB ?_
  rintro i hi
  have hsz := sizeTo_le c i
  have hst := sizeTo_step c i
  refine c_seq fun _ hK5 => ?_
  refine c_seq fun _ hK6 => ?_
  refine c_region ?_
  refine o_step rfl (s_move rfl) ?_
  refine o_step rfl (s_lss rfl rfl) ?_
  refine o_nil ?_
  refine x_then (hK6 _ _ ?_)
  refine c_if rfl (fun hlt => ?_) (fun hlt => ?_)
  · skip
    refine c_skip ?_
    refine x_then (hK5 _ _ ?_)
    refine c_seq fun _ hK7 => ?_
    refine c_block ?_
    refine c_seq fun _ hK8 => ?_
    refine c_region ?_
    refine o_step rfl (s_ldB rfl (RdPK.cels (.own meA)) lnA) ?_
    refine o_step rfl (s_move rfl) ?_
    refine o_step rfl (step_cast (v' := .int .u8 ((i : Nat) : Int)) (s_conv rfl) (congrArg _ (conv8 (by omega)))) ?_
    refine o_callP (rHas_fn c i (by omega)) rfl rfl rfl (fun _ _ => trivial) (fun v12 hv12 => ?_)
    cases ha : BitVec.getLsbD c i
    · skip
      rw [ha] at hv12
      subst hv12
      refine o_nil ?_
      refine x_then (hK8 _ _ ?_)
      refine c_false rfl ?_
      refine c_skip ?_
      refine x_block ?_
      refine x_then (hK7 _ _ ?_)
      refine c_region ?_
      refine o_step rfl (s_move rfl) ?_
      refine o_step rfl (s_add rfl rfl (by omega)) ?_
      refine o_step rfl (s_assign rfl) ?_
      refine o_nil ?_
      exact x_then (x_inv (i + 1) (by omega) (by first | omega | (dsimp only; omega)) (by refine Sub.cons rfl (Sub.cons' rfl (by rw [hst, ha]; rfl) sbA)) hzB)
    · skip
      rw [ha] at hv12
      subst hv12
      refine o_nil ?_
      refine x_then (hK8 _ _ ?_)
      refine c_true rfl ?_
      refine c_region ?_
      refine o_step rfl (s_move rfl) ?_
      refine o_step rfl (s_add rfl rfl (by omega)) ?_
      refine o_step rfl (s_assign rfl) ?_
      refine o_nil ?_
      refine x_block ?_
      refine x_then (hK7 _ _ ?_)
      refine c_region ?_
      refine o_step rfl (s_move rfl) ?_
      refine o_step rfl (s_add rfl rfl (by omega)) ?_
      refine o_step rfl (s_assign rfl) ?_
      refine o_nil ?_
      exact x_then (x_inv (i + 1) (by omega) (by first | omega | (dsimp only; omega)) (by refine Sub.cons rfl (Sub.cons' rfl (by rw [hst, ha]; rfl) sbA)) hzB)
  · skip
    obtain rfl : i = 256 := by omega
    refine c_exit ?_
    refine x_then_exit ?_
    refine x_then_exit ?_
    refine x_block_exit ?_
    refine x_then (hK3 _ _ ?_)
    refine c_seq fun _ hK9 => ?_
    refine c_region ?_
    refine o_step rfl (s_move rfl) ?_
    refine o_step rfl (s_assign rfl) ?_
    refine o_nil ?_
    refine x_then (hK9 _ _ ?_)
    refine c_ret ?_
    refine ?_
    exact x_ret rfl (.tmp rfl (.nil)) (rfl)

theorem rRuns_fn (c : Cl) : HL.Fn Tryd.prog 43 [.agg (Ec c).toArray] (fun _ => True) [] (fun v S' => ∃ a n, v = .slice a (runs c).length n ∧ OwnS Er 2 99 (.slice a (runs c).length n) (runs c) S') := by
  refine fn_of Tryd.func43 rfl rfl rfl fun w0 hw => ?_
  refine c_seq fun _ hK1 => ?_
  refine c_region ?_
  refine o_box rfl rfl rfl fun b1 => ?_
  refine o_step rfl (s_assign rfl) ?_
  refine o_nil ?_
  refine x_then (hK1 _ _ ?_)
  refine c_seq fun _ hK2 => ?_
  refine c_region ?_
  refine o_step rfl (s_assign rfl) ?_
  refine o_nil ?_
  refine x_then (hK2 _ _ ?_)
  refine c_seq fun _ hK3 => ?_
  refine c_seq fun _ hK4 => ?_
  refine c_region ?_
  refine o_step rfl (s_assign rfl) ?_
  refine o_nil ?_
  refine x_then (hK4 _ _ ?_)
  refine c_block ?_
  refine c_loop4 (fun (i : Nat) (a : Option Addr) (n : Nat) (S : Hp) => i ≤ 256 ∧ OwnS Er 2 99 (.slice a (runsB (memsTo c i)).length n) (runsB (memsTo c i)) S) (fun (i : Nat) (a : Option Addr) (n : Nat) (S : Hp) => [(4, .int .i64 i), (3, .slice a (runsB (memsTo c i)).length n)]) [(1, _), (2, _)] (fun (i : Nat) (a : Option Addr) (n : Nat) (S : Hp) => S ++ [(b1, .cells (Ec c).toArray 28 (0, 0))]) (fun (i : Nat) (a : Option Addr) (n : Nat) (S : Hp) => 256 - i) 0 none 0 [] ⟨by omega, .nil⟩ sbA sbA hzB ?_
  rintro i a n S ⟨hi, hS⟩
  have hsl := hS.sl
  have hbl := runsB_le (memsTo c i)
  have hml := memsTo_len c i
  refine c_seq fun _ hK5 => ?_
  refine c_seq fun _ hK6 => ?_
  refine c_region ?_
  refine o_step rfl (s_move rfl) ?_
  refine o_step rfl (s_lss rfl rfl) ?_
  refine o_nil ?_
  refine x_then (hK6 _ _ ?_)
  refine c_if rfl (fun hlt => ?_) (fun hlt => ?_)
  · skip
    refine c_skip ?_
    refine x_then (hK5 _ _ ?_)
    refine c_seq fun _ hK7 => ?_
    refine c_block ?_
    refine c_seq fun _ hK8 => ?_
    refine c_seq fun _ hK9 => ?_
    refine c_region ?_
    refine o_step rfl (s_ldB rfl (RdPK.cels (.own meA)) lnA) ?_
    refine o_step rfl (s_move rfl) ?_
    refine o_step rfl (step_cast (v' := .int .u8 ((i : Nat) : Int)) (s_conv rfl) (congrArg _ (conv8 (by omega)))) ?_
    refine o_callP (rHas_fn c i (by omega)) rfl rfl rfl (fun _ _ => trivial) (fun v12 hv12 => ?_)
    cases ha : BitVec.getLsbD c i
    · skip
      rw [ha] at hv12
      subst hv12
      refine o_step rfl (s_not rfl) ?_
      refine o_nil ?_
      refine x_then (hK9 _ _ ?_)
      refine c_true rfl ?_
      refine c_exit ?_
      refine x_then_exit ?_
      refine x_block_exit ?_
      refine x_then (hK7 _ _ ?_)
      refine c_region ?_
      refine o_step rfl (s_move rfl) ?_
      refine o_step rfl (s_add rfl rfl (by omega)) ?_
      refine o_step rfl (s_assign rfl) ?_
      refine o_nil ?_
      have hy : runsB (memsTo c (i + 1)) = (runsB (memsTo c i)) := by rw [memsTo_no ha]
      exact x_then (x_inv (i + 1, a, n, S) ⟨by omega, by rw [hy]; exact hS⟩ (by first | omega | (dsimp only; omega)) (by refine Sub.cons rfl (Sub.cons' rfl (by rw [hy]) sbA)) hzB)
    · skip
      rw [ha] at hv12
      subst hv12
      refine o_step rfl (s_not rfl) ?_
      refine o_nil ?_
      refine x_then (hK9 _ _ ?_)
      refine c_false rfl ?_
      refine c_skip ?_
      refine x_then (hK8 _ _ ?_)
      refine c_seq fun _ hK10 => ?_
      refine c_region ?_
      refine o_step rfl (s_move rfl) ?_
      by_cases h0 : 0 < i
      · skip
        refine o_step rfl (step_cast (v' := .bool true) (s_gtr rfl rfl) (congrArg Value.bool (decide_eq_true (by omega)))) ?_
        refine o_step rfl (s_move rfl) ?_
        refine o_yes rfl rfl ?_
        refine o_step rfl (s_ldB rfl (RdPK.cels (.own meA)) lnA) ?_
        refine o_yes rfl rfl ?_
        refine o_step rfl (s_move rfl) ?_
        refine o_yes rfl rfl ?_
        refine o_step rfl (step_cast (v' := .int .i64 ((i - 1 : Nat) : Int)) (s_sub rfl rfl (by omega)) (congrArg _ (by omega))) ?_
        refine o_yes rfl rfl ?_
        refine o_step rfl (step_cast (v' := .int .u8 ((i - 1 : Nat) : Int)) (s_conv rfl) (congrArg _ (conv8 (by omega)))) ?_
        refine o_yes rfl rfl ?_
        refine o_callP (rHas_fn c (i - 1) (by omega)) rfl rfl rfl (fun _ _ => trivial) (fun v21 hv21 => ?_)
        cases hb : BitVec.getLsbD c (i - 1)
        · skip
          rw [hb] at hv21
          subst hv21
          refine o_step rfl (s_pick_t rfl rfl) ?_
          refine o_nil ?_
          refine x_then (hK10 _ _ ?_)
          refine c_false rfl ?_
          refine c_region ?_
          refine o_step rfl (s_move rfl) ?_
          refine o_step rfl (s_move rfl) ?_
          refine o_step rfl (step_cast (v' := .int .u8 ((i : Nat) : Int)) (s_conv rfl) (congrArg _ (conv8 (by omega)))) ?_
          refine o_step rfl (s_move rfl) ?_
          refine o_step rfl (step_cast (v' := .int .u8 ((i : Nat) : Int)) (s_conv rfl) (congrArg _ (conv8 (by omega)))) ?_
          refine o_step rfl (s_build (cs := [_, _]) (vs := [_, _]) rfl rfl (.cons rfl rfl rfl rfl rfl (.cons rfl rfl rfl rfl rfl (.nil)))) ?_
          refine o_bs (E := Er) (xs := [(i, i)]) (vs := [_]) rfl rfl rfl rfl rfl (by decide) (by decide) fun b37 S37 hS37 => ?_
          refine o_app hS (hS37.rdk hiA) rfl rfl rfl rfl (by show ((runsB (memsTo c i)).length + 1) * 2 ≤ _; omega) (by show (runsB (memsTo c i)).length + 1 ≤ _; omega) rfl pkA fun a38 c38 S38 hS38 => ?_
          refine o_step rfl (s_assign rfl) ?_
          refine o_nil ?_
          refine x_block ?_
          refine x_then (hK7 _ _ ?_)
          refine c_region ?_
          refine o_step rfl (s_move rfl) ?_
          refine o_step rfl (s_add rfl rfl (by omega)) ?_
          refine o_step rfl (s_assign rfl) ?_
          refine o_nil ?_
          have hy : runsB (memsTo c (i + 1)) = (runsB (memsTo c i)) ++ [(i, i)] := by rw [memsTo_yes ha]; exact runsB_new (runs_gap (.inr hb))
          exact x_then (x_inv (i + 1, a38, c38, S38) ⟨by omega, by rw [hy]; exact hS38⟩ (by first | omega | (dsimp only; omega)) (by refine Sub.cons rfl (Sub.cons' rfl (by rw [hy]) sbA)) hzB)
        · skip
          rw [hb] at hv21
          subst hv21
          obtain ⟨hk, hq⟩ := runs_adj h0 hb
          have hg := last_get hk
          refine o_step rfl (s_pick_t rfl rfl) ?_
          refine o_nil ?_
          refine x_then (hK10 _ _ ?_)
          refine c_true rfl ?_
          refine c_region ?_
          refine o_step rfl (s_move rfl) ?_
          refine o_step rfl (s_move rfl) ?_
          refine o_step rfl (s_len rfl) ?_
          refine o_step rfl (s_sub rfl rfl (by omega)) ?_
          refine o_step rfl (s_move rfl) ?_
          refine o_step rfl (step_cast (v' := .int .u8 ((i : Nat) : Int)) (s_conv rfl) (congrArg _ (conv8 (by omega)))) ?_
          refine o_step rfl (s_idx rfl rfl hsl (by omega)) ?_
          refine o_step rfl (s_field rfl rfl (by decide)) ?_
          refine o_stS (i := (runsB (memsTo c i)).length - 1) (off := 1) (cs := [.int .u8 (i : Nat)]) ((lastR (runsB (memsTo c i))).1, i) hS pkA rfl rfl rfl rfl (by omega) (by omega) (Nat.le_refl 2) (fun e he => by rw [last_get hk] at he; cases he; rfl) (by simp [Value.oneCell']) fun S9 hS9 => ?_
          refine o_nil ?_
          refine x_block ?_
          refine x_then (hK7 _ _ ?_)
          refine c_region ?_
          refine o_step rfl (s_move rfl) ?_
          refine o_step rfl (s_add rfl rfl (by omega)) ?_
          refine o_step rfl (s_assign rfl) ?_
          refine o_nil ?_
          have hy : runsB (memsTo c (i + 1)) = (runsB (memsTo c i)).set ((runsB (memsTo c i)).length - 1) ((lastR (runsB (memsTo c i))).1, i) := by rw [memsTo_yes ha]; exact runsB_set hk hq
          have hln : (runsB (memsTo c (i + 1))).length = (runsB (memsTo c i)).length := by rw [hy, List.length_set]
          exact x_then (x_inv (i + 1, a, n, S9) ⟨by omega, by rw [hln, hy]; exact hS9⟩ (by first | omega | (dsimp only; omega)) (by refine Sub.cons rfl (Sub.cons' rfl (by rw [hln]) sbA)) hzB)
      · skip
        refine o_step rfl (step_cast (v' := .bool false) (s_gtr rfl rfl) (congrArg Value.bool (decide_eq_false (by omega)))) ?_
        refine o_step rfl (s_move rfl) ?_
        refine o_no rfl rfl rfl rfl ?_
        refine o_no rfl rfl rfl rfl ?_
        refine o_no rfl rfl rfl rfl ?_
        refine o_no rfl rfl rfl rfl ?_
        refine o_no rfl rfl rfl rfl ?_
        refine o_step rfl (s_pick_f rfl rfl) ?_
        refine o_nil ?_
        refine x_then (hK10 _ _ ?_)
        refine c_false rfl ?_
        refine c_region ?_
        refine o_step rfl (s_move rfl) ?_
        refine o_step rfl (s_move rfl) ?_
        refine o_step rfl (step_cast (v' := .int .u8 ((i : Nat) : Int)) (s_conv rfl) (congrArg _ (conv8 (by omega)))) ?_
        refine o_step rfl (s_move rfl) ?_
        refine o_step rfl (step_cast (v' := .int .u8 ((i : Nat) : Int)) (s_conv rfl) (congrArg _ (conv8 (by omega)))) ?_
        refine o_step rfl (s_build (cs := [_, _]) (vs := [_, _]) rfl rfl (.cons rfl rfl rfl rfl rfl (.cons rfl rfl rfl rfl rfl (.nil)))) ?_
        refine o_bs (E := Er) (xs := [(i, i)]) (vs := [_]) rfl rfl rfl rfl rfl (by decide) (by decide) fun b37 S37 hS37 => ?_
        refine o_app hS (hS37.rdk hiA) rfl rfl rfl rfl (by show ((runsB (memsTo c i)).length + 1) * 2 ≤ _; omega) (by show (runsB (memsTo c i)).length + 1 ≤ _; omega) rfl pkA fun a38 c38 S38 hS38 => ?_
        refine o_step rfl (s_assign rfl) ?_
        refine o_nil ?_
        refine x_block ?_
        refine x_then (hK7 _ _ ?_)
        refine c_region ?_
        refine o_step rfl (s_move rfl) ?_
        refine o_step rfl (s_add rfl rfl (by omega)) ?_
        refine o_step rfl (s_assign rfl) ?_
        refine o_nil ?_
        have hy : runsB (memsTo c (i + 1)) = (runsB (memsTo c i)) ++ [(i, i)] := by rw [memsTo_yes ha]; exact runsB_new (runs_gap (.inl (by omega)))
        exact x_then (x_inv (i + 1, a38, c38, S38) ⟨by omega, by rw [hy]; exact hS38⟩ (by first | omega | (dsimp only; omega)) (by refine Sub.cons rfl (Sub.cons' rfl (by rw [hy]) sbA)) hzB)
  · skip
    obtain rfl : i = 256 := by omega
    refine c_exit ?_
    refine x_then_exit ?_
    refine x_then_exit ?_
    refine x_block_exit ?_
    refine x_then (hK3 _ _ ?_)
    refine c_seq fun _ hK11 => ?_
    refine c_region ?_
    refine o_step rfl (s_move rfl) ?_
    refine o_step rfl (s_assign rfl) ?_
    refine o_nil ?_
    refine x_then (hK11 _ _ ?_)
    refine c_ret ?_
    refine ?_
    refine x_sub (Sub.refl _) (H' := S) hzB ?_
    exact x_ret rfl (.tmp rfl (.nil)) (⟨_, _, rfl, hS⟩)
end Go.Proofs.YtafbigmneipkiaaDoor
