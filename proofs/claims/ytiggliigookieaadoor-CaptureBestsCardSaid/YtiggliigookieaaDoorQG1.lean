/- Part of the proofs over this seat: see the text that holds the theorem. Conditions: each theorem bears its own. -/
import Derived.Test.YtiggliigookieaaDoorMK1Z
import Derived.Test.YtiggliigookieaaDoorQF1Z
namespace Go.Proofs.YtiggliigookieaaDoor
open Go Go.HL Go.Proofs
theorem apartBytes0_fn (b : Nat) (cs : List Value) (hb : cs[0]? = some (.slice none 0 0)) : HL.Fn Tryd.prog 32 [.pointer (some ⟨b, 0, none⟩)] (fun w => RdP w b 0 cs) [] (fun v _ => v = .bool true) := by
  refine fn_of Tryd.func32 rfl rfl rfl fun w0 hw => ?_
  refine c_seq fun _ hK1 => ?_
  refine c_region ?_
  refine o_step rfl (s_assign rfl) ?_
  refine o_nil ?_
  refine x_then (hK1 _ _ ?_)
  refine c_seq fun _ hK2 => ?_
  refine c_seq fun _ hK3 => ?_
  refine c_region ?_
  refine o_step rfl (s_assign rfl) ?_
  refine o_nil ?_
  refine x_then (hK3 _ _ ?_)
  refine c_block ?_
  refine c_loopB (fun (k : Nat) => k = 0) (fun (k : Nat) => [(3, .int .i64 k)]) [(0, _), (2, _)] (fun (k : Nat) => []) (fun (k : Nat) => k) 0 rfl sbA sbA hzB ?_
  rintro k hk
  subst hk
  refine c_seq fun _ hK4 => ?_
  refine c_seq fun _ hK5 => ?_
  refine c_region ?_
  refine o_step rfl (s_move rfl) ?_
  refine o_step rfl (s_move rfl) ?_
  refine o_step rfl (s_nil rfl) ?_
  refine o_step rfl (s_field rfl rfl (by decide)) ?_
  refine o_step rfl (s_ld rfl ((RdPK.old0 hw).cel hb rfl)) ?_
  refine o_step rfl (s_len rfl) ?_
  refine o_step rfl (s_lss_f rfl rfl (by decide)) ?_
  refine o_nil ?_
  refine x_then (hK5 _ _ ?_)
  refine c_false rfl ?_
  refine c_exit ?_
  refine x_then_exit ?_
  refine x_then_exit ?_
  refine x_block_exit ?_
  refine x_then (hK2 _ _ ?_)
  refine c_seq fun _ hK6 => ?_
  refine c_region ?_
  refine o_step rfl (s_assign rfl) ?_
  refine o_step rfl (s_assign rfl) ?_
  refine o_nil ?_
  refine x_then (hK6 _ _ ?_)
  refine c_seq fun _ hK7 => ?_
  refine c_seq fun _ hK8 => ?_
  refine c_region ?_
  refine o_step rfl (s_assign rfl) ?_
  refine o_nil ?_
  refine x_then (hK8 _ _ ?_)
  refine c_block ?_
  refine c_loopB (fun (k : Nat) => k = 0) (fun (k : Nat) => [(7, .int .i64 k), (6, .slice none 0 0), (5, .slice none 0 0)]) [(0, _), (2, _)] (fun (k : Nat) => []) (fun (k : Nat) => k) 0 rfl sbA sbA hzB ?_
  rintro k hk
  subst hk
  refine c_seq fun _ hK9 => ?_
  refine c_seq fun _ hK10 => ?_
  refine c_region ?_
  refine o_step rfl (s_move rfl) ?_
  refine o_step rfl (s_move rfl) ?_
  refine o_step rfl (s_nil rfl) ?_
  refine o_step rfl (s_field rfl rfl (by decide)) ?_
  refine o_step rfl (s_ld rfl ((RdPK.old0 hw).cel hb rfl)) ?_
  refine o_step rfl (s_len rfl) ?_
  refine o_step rfl (s_lss_f rfl rfl (by decide)) ?_
  refine o_nil ?_
  refine x_then (hK10 _ _ ?_)
  refine c_false rfl ?_
  refine c_exit ?_
  refine x_then_exit ?_
  refine x_then_exit ?_
  refine x_block_exit ?_
  refine x_then (hK7 _ _ ?_)
  refine c_seq fun _ hK11 => ?_
  refine c_seq fun _ hK12 => ?_
  refine c_region ?_
  refine o_step rfl (s_assign rfl) ?_
  refine o_nil ?_
  refine x_then (hK12 _ _ ?_)
  refine c_block ?_
  -- not carried: 2
  refine c_loopB (fun (k : Nat) => k = 0) (fun (k : Nat) => [(10, .int .i64 k)]) [(0, _), (5, _), (6, _)] (fun (k : Nat) => []) (fun (k : Nat) => k) 0 rfl sbA sbA hzB ?_
  rintro k hk
  subst hk
  refine c_seq fun _ hK13 => ?_
  refine c_seq fun _ hK14 => ?_
  refine c_region ?_
  refine o_step rfl (s_move rfl) ?_
  refine o_step rfl (s_move rfl) ?_
  refine o_step rfl (s_len rfl) ?_
  refine o_step rfl (s_lss_f rfl rfl (by decide)) ?_
  refine o_nil ?_
  refine x_then (hK14 _ _ ?_)
  refine c_false rfl ?_
  refine c_exit ?_
  refine x_then_exit ?_
  refine x_then_exit ?_
  refine x_block_exit ?_
  refine x_then (hK11 _ _ ?_)
  refine c_seq fun _ hK15 => ?_
  refine c_region ?_
  refine o_step rfl (s_assign rfl) ?_
  refine o_nil ?_
  refine x_then (hK15 _ _ ?_)
  refine c_ret ?_
  refine ?_
  exact x_ret rfl (.tmp rfl (.nil)) (rfl)

theorem apartInts0_fn (b : Nat) (cs : List Value) (hb : cs[1]? = some (.slice none 0 0)) : HL.Fn Tryd.prog 33 [.pointer (some ⟨b, 0, none⟩)] (fun w => RdP w b 0 cs) [] (fun v _ => v = .bool true) := by
  refine fn_of Tryd.func33 rfl rfl rfl fun w0 hw => ?_
  refine c_seq fun _ hK1 => ?_
  refine c_region ?_
  refine o_step rfl (s_assign rfl) ?_
  refine o_nil ?_
  refine x_then (hK1 _ _ ?_)
  refine c_seq fun _ hK2 => ?_
  refine c_seq fun _ hK3 => ?_
  refine c_region ?_
  refine o_step rfl (s_assign rfl) ?_
  refine o_nil ?_
  refine x_then (hK3 _ _ ?_)
  refine c_block ?_
  refine c_loopB (fun (k : Nat) => k = 0) (fun (k : Nat) => [(3, .int .i64 k)]) [(0, _), (2, _)] (fun (k : Nat) => []) (fun (k : Nat) => k) 0 rfl sbA sbA hzB ?_
  rintro k hk
  subst hk
  refine c_seq fun _ hK4 => ?_
  refine c_seq fun _ hK5 => ?_
  refine c_region ?_
  refine o_step rfl (s_move rfl) ?_
  refine o_step rfl (s_move rfl) ?_
  refine o_step rfl (s_nil rfl) ?_
  refine o_step rfl (s_field rfl rfl (by decide)) ?_
  refine o_step rfl (s_ld rfl ((RdPK.old0 hw).cel hb rfl)) ?_
  refine o_step rfl (s_len rfl) ?_
  refine o_step rfl (s_lss_f rfl rfl (by decide)) ?_
  refine o_nil ?_
  refine x_then (hK5 _ _ ?_)
  refine c_false rfl ?_
  refine c_exit ?_
  refine x_then_exit ?_
  refine x_then_exit ?_
  refine x_block_exit ?_
  refine x_then (hK2 _ _ ?_)
  refine c_seq fun _ hK6 => ?_
  refine c_region ?_
  refine o_step rfl (s_assign rfl) ?_
  refine o_step rfl (s_assign rfl) ?_
  refine o_nil ?_
  refine x_then (hK6 _ _ ?_)
  refine c_seq fun _ hK7 => ?_
  refine c_seq fun _ hK8 => ?_
  refine c_region ?_
  refine o_step rfl (s_assign rfl) ?_
  refine o_nil ?_
  refine x_then (hK8 _ _ ?_)
  refine c_block ?_
  refine c_loopB (fun (k : Nat) => k = 0) (fun (k : Nat) => [(7, .int .i64 k), (6, .slice none 0 0), (5, .slice none 0 0)]) [(0, _), (2, _)] (fun (k : Nat) => []) (fun (k : Nat) => k) 0 rfl sbA sbA hzB ?_
  rintro k hk
  subst hk
  refine c_seq fun _ hK9 => ?_
  refine c_seq fun _ hK10 => ?_
  refine c_region ?_
  refine o_step rfl (s_move rfl) ?_
  refine o_step rfl (s_move rfl) ?_
  refine o_step rfl (s_nil rfl) ?_
  refine o_step rfl (s_field rfl rfl (by decide)) ?_
  refine o_step rfl (s_ld rfl ((RdPK.old0 hw).cel hb rfl)) ?_
  refine o_step rfl (s_len rfl) ?_
  refine o_step rfl (s_lss_f rfl rfl (by decide)) ?_
  refine o_nil ?_
  refine x_then (hK10 _ _ ?_)
  refine c_false rfl ?_
  refine c_exit ?_
  refine x_then_exit ?_
  refine x_then_exit ?_
  refine x_block_exit ?_
  refine x_then (hK7 _ _ ?_)
  refine c_seq fun _ hK11 => ?_
  refine c_seq fun _ hK12 => ?_
  refine c_region ?_
  refine o_step rfl (s_assign rfl) ?_
  refine o_nil ?_
  refine x_then (hK12 _ _ ?_)
  refine c_block ?_
  -- not carried: 2
  refine c_loopB (fun (k : Nat) => k = 0) (fun (k : Nat) => [(10, .int .i64 k)]) [(0, _), (5, _), (6, _)] (fun (k : Nat) => []) (fun (k : Nat) => k) 0 rfl sbA sbA hzB ?_
  rintro k hk
  subst hk
  refine c_seq fun _ hK13 => ?_
  refine c_seq fun _ hK14 => ?_
  refine c_region ?_
  refine o_step rfl (s_move rfl) ?_
  refine o_step rfl (s_move rfl) ?_
  refine o_step rfl (s_len rfl) ?_
  refine o_step rfl (s_lss_f rfl rfl (by decide)) ?_
  refine o_nil ?_
  refine x_then (hK14 _ _ ?_)
  refine c_false rfl ?_
  refine c_exit ?_
  refine x_then_exit ?_
  refine x_then_exit ?_
  refine x_block_exit ?_
  refine x_then (hK11 _ _ ?_)
  refine c_seq fun _ hK15 => ?_
  refine c_region ?_
  refine o_step rfl (s_assign rfl) ?_
  refine o_nil ?_
  refine x_then (hK15 _ _ ?_)
  refine c_ret ?_
  refine ?_
  exact x_ret rfl (.tmp rfl (.nil)) (rfl)

theorem apartBools0_fn (b : Nat) (cs : List Value) (hb : cs[2]? = some (.slice none 0 0)) : HL.Fn Tryd.prog 34 [.pointer (some ⟨b, 0, none⟩)] (fun w => RdP w b 0 cs) [] (fun v _ => v = .bool true) := by
  refine fn_of Tryd.func34 rfl rfl rfl fun w0 hw => ?_
  refine c_seq fun _ hK1 => ?_
  refine c_region ?_
  refine o_step rfl (s_assign rfl) ?_
  refine o_nil ?_
  refine x_then (hK1 _ _ ?_)
  refine c_seq fun _ hK2 => ?_
  refine c_seq fun _ hK3 => ?_
  refine c_region ?_
  refine o_step rfl (s_assign rfl) ?_
  refine o_nil ?_
  refine x_then (hK3 _ _ ?_)
  refine c_block ?_
  refine c_loopB (fun (k : Nat) => k = 0) (fun (k : Nat) => [(3, .int .i64 k)]) [(0, _), (2, _)] (fun (k : Nat) => []) (fun (k : Nat) => k) 0 rfl sbA sbA hzB ?_
  rintro k hk
  subst hk
  refine c_seq fun _ hK4 => ?_
  refine c_seq fun _ hK5 => ?_
  refine c_region ?_
  refine o_step rfl (s_move rfl) ?_
  refine o_step rfl (s_move rfl) ?_
  refine o_step rfl (s_nil rfl) ?_
  refine o_step rfl (s_field rfl rfl (by decide)) ?_
  refine o_step rfl (s_ld rfl ((RdPK.old0 hw).cel hb rfl)) ?_
  refine o_step rfl (s_len rfl) ?_
  refine o_step rfl (s_lss_f rfl rfl (by decide)) ?_
  refine o_nil ?_
  refine x_then (hK5 _ _ ?_)
  refine c_false rfl ?_
  refine c_exit ?_
  refine x_then_exit ?_
  refine x_then_exit ?_
  refine x_block_exit ?_
  refine x_then (hK2 _ _ ?_)
  refine c_seq fun _ hK6 => ?_
  refine c_region ?_
  refine o_step rfl (s_assign rfl) ?_
  refine o_step rfl (s_assign rfl) ?_
  refine o_nil ?_
  refine x_then (hK6 _ _ ?_)
  refine c_seq fun _ hK7 => ?_
  refine c_seq fun _ hK8 => ?_
  refine c_region ?_
  refine o_step rfl (s_assign rfl) ?_
  refine o_nil ?_
  refine x_then (hK8 _ _ ?_)
  refine c_block ?_
  refine c_loopB (fun (k : Nat) => k = 0) (fun (k : Nat) => [(7, .int .i64 k), (6, .slice none 0 0), (5, .slice none 0 0)]) [(0, _), (2, _)] (fun (k : Nat) => []) (fun (k : Nat) => k) 0 rfl sbA sbA hzB ?_
  rintro k hk
  subst hk
  refine c_seq fun _ hK9 => ?_
  refine c_seq fun _ hK10 => ?_
  refine c_region ?_
  refine o_step rfl (s_move rfl) ?_
  refine o_step rfl (s_move rfl) ?_
  refine o_step rfl (s_nil rfl) ?_
  refine o_step rfl (s_field rfl rfl (by decide)) ?_
  refine o_step rfl (s_ld rfl ((RdPK.old0 hw).cel hb rfl)) ?_
  refine o_step rfl (s_len rfl) ?_
  refine o_step rfl (s_lss_f rfl rfl (by decide)) ?_
  refine o_nil ?_
  refine x_then (hK10 _ _ ?_)
  refine c_false rfl ?_
  refine c_exit ?_
  refine x_then_exit ?_
  refine x_then_exit ?_
  refine x_block_exit ?_
  refine x_then (hK7 _ _ ?_)
  refine c_seq fun _ hK11 => ?_
  refine c_seq fun _ hK12 => ?_
  refine c_region ?_
  refine o_step rfl (s_assign rfl) ?_
  refine o_nil ?_
  refine x_then (hK12 _ _ ?_)
  refine c_block ?_
  -- not carried: 2
  refine c_loopB (fun (k : Nat) => k = 0) (fun (k : Nat) => [(10, .int .i64 k)]) [(0, _), (5, _), (6, _)] (fun (k : Nat) => []) (fun (k : Nat) => k) 0 rfl sbA sbA hzB ?_
  rintro k hk
  subst hk
  refine c_seq fun _ hK13 => ?_
  refine c_seq fun _ hK14 => ?_
  refine c_region ?_
  refine o_step rfl (s_move rfl) ?_
  refine o_step rfl (s_move rfl) ?_
  refine o_step rfl (s_len rfl) ?_
  refine o_step rfl (s_lss_f rfl rfl (by decide)) ?_
  refine o_nil ?_
  refine x_then (hK14 _ _ ?_)
  refine c_false rfl ?_
  refine c_exit ?_
  refine x_then_exit ?_
  refine x_then_exit ?_
  refine x_block_exit ?_
  refine x_then (hK11 _ _ ?_)
  refine c_seq fun _ hK15 => ?_
  refine c_region ?_
  refine o_step rfl (s_assign rfl) ?_
  refine o_nil ?_
  refine x_then (hK15 _ _ ?_)
  refine c_ret ?_
  refine ?_
  exact x_ret rfl (.tmp rfl (.nil)) (rfl)

theorem apartTexts0_fn (b : Nat) (cs : List Value) (hb : cs[3]? = some (.slice none 0 0)) : HL.Fn Tryd.prog 35 [.pointer (some ⟨b, 0, none⟩)] (fun w => RdP w b 0 cs) [] (fun v _ => v = .bool true) := by
  refine fn_of Tryd.func35 rfl rfl rfl fun w0 hw => ?_
  refine c_seq fun _ hK1 => ?_
  refine c_region ?_
  refine o_step rfl (s_assign rfl) ?_
  refine o_nil ?_
  refine x_then (hK1 _ _ ?_)
  refine c_seq fun _ hK2 => ?_
  refine c_seq fun _ hK3 => ?_
  refine c_region ?_
  refine o_step rfl (s_assign rfl) ?_
  refine o_nil ?_
  refine x_then (hK3 _ _ ?_)
  refine c_block ?_
  refine c_loopB (fun (k : Nat) => k = 0) (fun (k : Nat) => [(3, .int .i64 k)]) [(0, _), (2, _)] (fun (k : Nat) => []) (fun (k : Nat) => k) 0 rfl sbA sbA hzB ?_
  rintro k hk
  subst hk
  refine c_seq fun _ hK4 => ?_
  refine c_seq fun _ hK5 => ?_
  refine c_region ?_
  refine o_step rfl (s_move rfl) ?_
  refine o_step rfl (s_move rfl) ?_
  refine o_step rfl (s_nil rfl) ?_
  refine o_step rfl (s_field rfl rfl (by decide)) ?_
  refine o_step rfl (s_ld rfl ((RdPK.old0 hw).cel hb rfl)) ?_
  refine o_step rfl (s_len rfl) ?_
  refine o_step rfl (s_lss_f rfl rfl (by decide)) ?_
  refine o_nil ?_
  refine x_then (hK5 _ _ ?_)
  refine c_false rfl ?_
  refine c_exit ?_
  refine x_then_exit ?_
  refine x_then_exit ?_
  refine x_block_exit ?_
  refine x_then (hK2 _ _ ?_)
  refine c_seq fun _ hK6 => ?_
  refine c_region ?_
  refine o_step rfl (s_assign rfl) ?_
  refine o_step rfl (s_assign rfl) ?_
  refine o_nil ?_
  refine x_then (hK6 _ _ ?_)
  refine c_seq fun _ hK7 => ?_
  refine c_seq fun _ hK8 => ?_
  refine c_region ?_
  refine o_step rfl (s_assign rfl) ?_
  refine o_nil ?_
  refine x_then (hK8 _ _ ?_)
  refine c_block ?_
  refine c_loopB (fun (k : Nat) => k = 0) (fun (k : Nat) => [(7, .int .i64 k), (6, .slice none 0 0), (5, .slice none 0 0)]) [(0, _), (2, _)] (fun (k : Nat) => []) (fun (k : Nat) => k) 0 rfl sbA sbA hzB ?_
  rintro k hk
  subst hk
  refine c_seq fun _ hK9 => ?_
  refine c_seq fun _ hK10 => ?_
  refine c_region ?_
  refine o_step rfl (s_move rfl) ?_
  refine o_step rfl (s_move rfl) ?_
  refine o_step rfl (s_nil rfl) ?_
  refine o_step rfl (s_field rfl rfl (by decide)) ?_
  refine o_step rfl (s_ld rfl ((RdPK.old0 hw).cel hb rfl)) ?_
  refine o_step rfl (s_len rfl) ?_
  refine o_step rfl (s_lss_f rfl rfl (by decide)) ?_
  refine o_nil ?_
  refine x_then (hK10 _ _ ?_)
  refine c_false rfl ?_
  refine c_exit ?_
  refine x_then_exit ?_
  refine x_then_exit ?_
  refine x_block_exit ?_
  refine x_then (hK7 _ _ ?_)
  refine c_seq fun _ hK11 => ?_
  refine c_seq fun _ hK12 => ?_
  refine c_region ?_
  refine o_step rfl (s_assign rfl) ?_
  refine o_nil ?_
  refine x_then (hK12 _ _ ?_)
  refine c_block ?_
  -- not carried: 2
  refine c_loopB (fun (k : Nat) => k = 0) (fun (k : Nat) => [(10, .int .i64 k)]) [(0, _), (5, _), (6, _)] (fun (k : Nat) => []) (fun (k : Nat) => k) 0 rfl sbA sbA hzB ?_
  rintro k hk
  subst hk
  refine c_seq fun _ hK13 => ?_
  refine c_seq fun _ hK14 => ?_
  refine c_region ?_
  refine o_step rfl (s_move rfl) ?_
  refine o_step rfl (s_move rfl) ?_
  refine o_step rfl (s_len rfl) ?_
  refine o_step rfl (s_lss_f rfl rfl (by decide)) ?_
  refine o_nil ?_
  refine x_then (hK14 _ _ ?_)
  refine c_false rfl ?_
  refine c_exit ?_
  refine x_then_exit ?_
  refine x_then_exit ?_
  refine x_block_exit ?_
  refine x_then (hK11 _ _ ?_)
  refine c_seq fun _ hK15 => ?_
  refine c_region ?_
  refine o_step rfl (s_assign rfl) ?_
  refine o_nil ?_
  refine x_then (hK15 _ _ ?_)
  refine c_ret ?_
  refine ?_
  exact x_ret rfl (.tmp rfl (.nil)) (rfl)

theorem apartMarks0_fn (b : Nat) (cs : List Value) (hb : cs[4]? = some (.slice none 0 0)) : HL.Fn Tryd.prog 36 [.pointer (some ⟨b, 0, none⟩)] (fun w => RdP w b 0 cs) [] (fun v _ => v = .bool true) := by
  refine fn_of Tryd.func36 rfl rfl rfl fun w0 hw => ?_
  refine c_seq fun _ hK1 => ?_
  refine c_region ?_
  refine o_step rfl (s_assign rfl) ?_
  refine o_nil ?_
  refine x_then (hK1 _ _ ?_)
  refine c_seq fun _ hK2 => ?_
  refine c_seq fun _ hK3 => ?_
  refine c_region ?_
  refine o_step rfl (s_assign rfl) ?_
  refine o_nil ?_
  refine x_then (hK3 _ _ ?_)
  refine c_block ?_
  refine c_loopB (fun (k : Nat) => k = 0) (fun (k : Nat) => [(3, .int .i64 k)]) [(0, _), (2, _)] (fun (k : Nat) => []) (fun (k : Nat) => k) 0 rfl sbA sbA hzB ?_
  rintro k hk
  subst hk
  refine c_seq fun _ hK4 => ?_
  refine c_seq fun _ hK5 => ?_
  refine c_region ?_
  refine o_step rfl (s_move rfl) ?_
  refine o_step rfl (s_move rfl) ?_
  refine o_step rfl (s_nil rfl) ?_
  refine o_step rfl (s_field rfl rfl (by decide)) ?_
  refine o_step rfl (s_ld rfl ((RdPK.old0 hw).cel hb rfl)) ?_
  refine o_step rfl (s_len rfl) ?_
  refine o_step rfl (s_lss_f rfl rfl (by decide)) ?_
  refine o_nil ?_
  refine x_then (hK5 _ _ ?_)
  refine c_false rfl ?_
  refine c_exit ?_
  refine x_then_exit ?_
  refine x_then_exit ?_
  refine x_block_exit ?_
  refine x_then (hK2 _ _ ?_)
  refine c_seq fun _ hK6 => ?_
  refine c_region ?_
  refine o_step rfl (s_assign rfl) ?_
  refine o_step rfl (s_assign rfl) ?_
  refine o_nil ?_
  refine x_then (hK6 _ _ ?_)
  refine c_seq fun _ hK7 => ?_
  refine c_seq fun _ hK8 => ?_
  refine c_region ?_
  refine o_step rfl (s_assign rfl) ?_
  refine o_nil ?_
  refine x_then (hK8 _ _ ?_)
  refine c_block ?_
  refine c_loopB (fun (k : Nat) => k = 0) (fun (k : Nat) => [(7, .int .i64 k), (6, .slice none 0 0), (5, .slice none 0 0)]) [(0, _), (2, _)] (fun (k : Nat) => []) (fun (k : Nat) => k) 0 rfl sbA sbA hzB ?_
  rintro k hk
  subst hk
  refine c_seq fun _ hK9 => ?_
  refine c_seq fun _ hK10 => ?_
  refine c_region ?_
  refine o_step rfl (s_move rfl) ?_
  refine o_step rfl (s_move rfl) ?_
  refine o_step rfl (s_nil rfl) ?_
  refine o_step rfl (s_field rfl rfl (by decide)) ?_
  refine o_step rfl (s_ld rfl ((RdPK.old0 hw).cel hb rfl)) ?_
  refine o_step rfl (s_len rfl) ?_
  refine o_step rfl (s_lss_f rfl rfl (by decide)) ?_
  refine o_nil ?_
  refine x_then (hK10 _ _ ?_)
  refine c_false rfl ?_
  refine c_exit ?_
  refine x_then_exit ?_
  refine x_then_exit ?_
  refine x_block_exit ?_
  refine x_then (hK7 _ _ ?_)
  refine c_seq fun _ hK11 => ?_
  refine c_seq fun _ hK12 => ?_
  refine c_region ?_
  refine o_step rfl (s_assign rfl) ?_
  refine o_nil ?_
  refine x_then (hK12 _ _ ?_)
  refine c_block ?_
  -- not carried: 2
  refine c_loopB (fun (k : Nat) => k = 0) (fun (k : Nat) => [(10, .int .i64 k)]) [(0, _), (5, _), (6, _)] (fun (k : Nat) => []) (fun (k : Nat) => k) 0 rfl sbA sbA hzB ?_
  rintro k hk
  subst hk
  refine c_seq fun _ hK13 => ?_
  refine c_seq fun _ hK14 => ?_
  refine c_region ?_
  refine o_step rfl (s_move rfl) ?_
  refine o_step rfl (s_move rfl) ?_
  refine o_step rfl (s_len rfl) ?_
  refine o_step rfl (s_lss_f rfl rfl (by decide)) ?_
  refine o_nil ?_
  refine x_then (hK14 _ _ ?_)
  refine c_false rfl ?_
  refine c_exit ?_
  refine x_then_exit ?_
  refine x_then_exit ?_
  refine x_block_exit ?_
  refine x_then (hK11 _ _ ?_)
  refine c_seq fun _ hK15 => ?_
  refine c_region ?_
  refine o_step rfl (s_assign rfl) ?_
  refine o_nil ?_
  refine x_then (hK15 _ _ ?_)
  refine c_ret ?_
  refine ?_
  exact x_ret rfl (.tmp rfl (.nil)) (rfl)

theorem apartRuns0_fn (b : Nat) (cs : List Value) (hb : cs[6]? = some (.slice none 0 0)) : HL.Fn Tryd.prog 38 [.pointer (some ⟨b, 0, none⟩)] (fun w => RdP w b 0 cs) [] (fun v _ => v = .bool true) := by
  refine fn_of Tryd.func38 rfl rfl rfl fun w0 hw => ?_
  refine c_seq fun _ hK1 => ?_
  refine c_region ?_
  refine o_step rfl (s_assign rfl) ?_
  refine o_nil ?_
  refine x_then (hK1 _ _ ?_)
  refine c_seq fun _ hK2 => ?_
  refine c_seq fun _ hK3 => ?_
  refine c_region ?_
  refine o_step rfl (s_assign rfl) ?_
  refine o_nil ?_
  refine x_then (hK3 _ _ ?_)
  refine c_block ?_
  refine c_loopB (fun (k : Nat) => k = 0) (fun (k : Nat) => [(3, .int .i64 k)]) [(0, _), (2, _)] (fun (k : Nat) => []) (fun (k : Nat) => k) 0 rfl sbA sbA hzB ?_
  rintro k hk
  subst hk
  refine c_seq fun _ hK4 => ?_
  refine c_seq fun _ hK5 => ?_
  refine c_region ?_
  refine o_step rfl (s_move rfl) ?_
  refine o_step rfl (s_move rfl) ?_
  refine o_step rfl (s_nil rfl) ?_
  refine o_step rfl (s_field rfl rfl (by decide)) ?_
  refine o_step rfl (s_ld rfl ((RdPK.old0 hw).cel hb rfl)) ?_
  refine o_step rfl (s_len rfl) ?_
  refine o_step rfl (s_lss_f rfl rfl (by decide)) ?_
  refine o_nil ?_
  refine x_then (hK5 _ _ ?_)
  refine c_false rfl ?_
  refine c_exit ?_
  refine x_then_exit ?_
  refine x_then_exit ?_
  refine x_block_exit ?_
  refine x_then (hK2 _ _ ?_)
  refine c_seq fun _ hK6 => ?_
  refine c_region ?_
  refine o_step rfl (s_assign rfl) ?_
  refine o_step rfl (s_assign rfl) ?_
  refine o_nil ?_
  refine x_then (hK6 _ _ ?_)
  refine c_seq fun _ hK7 => ?_
  refine c_seq fun _ hK8 => ?_
  refine c_region ?_
  refine o_step rfl (s_assign rfl) ?_
  refine o_nil ?_
  refine x_then (hK8 _ _ ?_)
  refine c_block ?_
  refine c_loopB (fun (k : Nat) => k = 0) (fun (k : Nat) => [(7, .int .i64 k), (6, .slice none 0 0), (5, .slice none 0 0)]) [(0, _), (2, _)] (fun (k : Nat) => []) (fun (k : Nat) => k) 0 rfl sbA sbA hzB ?_
  rintro k hk
  subst hk
  refine c_seq fun _ hK9 => ?_
  refine c_seq fun _ hK10 => ?_
  refine c_region ?_
  refine o_step rfl (s_move rfl) ?_
  refine o_step rfl (s_move rfl) ?_
  refine o_step rfl (s_nil rfl) ?_
  refine o_step rfl (s_field rfl rfl (by decide)) ?_
  refine o_step rfl (s_ld rfl ((RdPK.old0 hw).cel hb rfl)) ?_
  refine o_step rfl (s_len rfl) ?_
  refine o_step rfl (s_lss_f rfl rfl (by decide)) ?_
  refine o_nil ?_
  refine x_then (hK10 _ _ ?_)
  refine c_false rfl ?_
  refine c_exit ?_
  refine x_then_exit ?_
  refine x_then_exit ?_
  refine x_block_exit ?_
  refine x_then (hK7 _ _ ?_)
  refine c_seq fun _ hK11 => ?_
  refine c_seq fun _ hK12 => ?_
  refine c_region ?_
  refine o_step rfl (s_assign rfl) ?_
  refine o_nil ?_
  refine x_then (hK12 _ _ ?_)
  refine c_block ?_
  -- not carried: 2
  refine c_loopB (fun (k : Nat) => k = 0) (fun (k : Nat) => [(10, .int .i64 k)]) [(0, _), (5, _), (6, _)] (fun (k : Nat) => []) (fun (k : Nat) => k) 0 rfl sbA sbA hzB ?_
  rintro k hk
  subst hk
  refine c_seq fun _ hK13 => ?_
  refine c_seq fun _ hK14 => ?_
  refine c_region ?_
  refine o_step rfl (s_move rfl) ?_
  refine o_step rfl (s_move rfl) ?_
  refine o_step rfl (s_len rfl) ?_
  refine o_step rfl (s_lss_f rfl rfl (by decide)) ?_
  refine o_nil ?_
  refine x_then (hK14 _ _ ?_)
  refine c_false rfl ?_
  refine c_exit ?_
  refine x_then_exit ?_
  refine x_then_exit ?_
  refine x_block_exit ?_
  refine x_then (hK11 _ _ ?_)
  refine c_seq fun _ hK15 => ?_
  refine c_region ?_
  refine o_step rfl (s_assign rfl) ?_
  refine o_nil ?_
  refine x_then (hK15 _ _ ?_)
  refine c_ret ?_
  refine ?_
  exact x_ret rfl (.tmp rfl (.nil)) (rfl)

theorem apartClasses0_fn (b : Nat) (cs : List Value) (hb : cs[7]? = some (.slice none 0 0)) : HL.Fn Tryd.prog 39 [.pointer (some ⟨b, 0, none⟩)] (fun w => RdP w b 0 cs) [] (fun v _ => v = .bool true) := by
  refine fn_of Tryd.func39 rfl rfl rfl fun w0 hw => ?_
  refine c_seq fun _ hK1 => ?_
  refine c_region ?_
  refine o_step rfl (s_assign rfl) ?_
  refine o_nil ?_
  refine x_then (hK1 _ _ ?_)
  refine c_seq fun _ hK2 => ?_
  refine c_seq fun _ hK3 => ?_
  refine c_region ?_
  refine o_step rfl (s_assign rfl) ?_
  refine o_nil ?_
  refine x_then (hK3 _ _ ?_)
  refine c_block ?_
  refine c_loopB (fun (k : Nat) => k = 0) (fun (k : Nat) => [(3, .int .i64 k)]) [(0, _), (2, _)] (fun (k : Nat) => []) (fun (k : Nat) => k) 0 rfl sbA sbA hzB ?_
  rintro k hk
  subst hk
  refine c_seq fun _ hK4 => ?_
  refine c_seq fun _ hK5 => ?_
  refine c_region ?_
  refine o_step rfl (s_move rfl) ?_
  refine o_step rfl (s_move rfl) ?_
  refine o_step rfl (s_nil rfl) ?_
  refine o_step rfl (s_field rfl rfl (by decide)) ?_
  refine o_step rfl (s_ld rfl ((RdPK.old0 hw).cel hb rfl)) ?_
  refine o_step rfl (s_len rfl) ?_
  refine o_step rfl (s_lss_f rfl rfl (by decide)) ?_
  refine o_nil ?_
  refine x_then (hK5 _ _ ?_)
  refine c_false rfl ?_
  refine c_exit ?_
  refine x_then_exit ?_
  refine x_then_exit ?_
  refine x_block_exit ?_
  refine x_then (hK2 _ _ ?_)
  refine c_seq fun _ hK6 => ?_
  refine c_region ?_
  refine o_step rfl (s_assign rfl) ?_
  refine o_step rfl (s_assign rfl) ?_
  refine o_nil ?_
  refine x_then (hK6 _ _ ?_)
  refine c_seq fun _ hK7 => ?_
  refine c_seq fun _ hK8 => ?_
  refine c_region ?_
  refine o_step rfl (s_assign rfl) ?_
  refine o_nil ?_
  refine x_then (hK8 _ _ ?_)
  refine c_block ?_
  refine c_loopB (fun (k : Nat) => k = 0) (fun (k : Nat) => [(7, .int .i64 k), (6, .slice none 0 0), (5, .slice none 0 0)]) [(0, _), (2, _)] (fun (k : Nat) => []) (fun (k : Nat) => k) 0 rfl sbA sbA hzB ?_
  rintro k hk
  subst hk
  refine c_seq fun _ hK9 => ?_
  refine c_seq fun _ hK10 => ?_
  refine c_region ?_
  refine o_step rfl (s_move rfl) ?_
  refine o_step rfl (s_move rfl) ?_
  refine o_step rfl (s_nil rfl) ?_
  refine o_step rfl (s_field rfl rfl (by decide)) ?_
  refine o_step rfl (s_ld rfl ((RdPK.old0 hw).cel hb rfl)) ?_
  refine o_step rfl (s_len rfl) ?_
  refine o_step rfl (s_lss_f rfl rfl (by decide)) ?_
  refine o_nil ?_
  refine x_then (hK10 _ _ ?_)
  refine c_false rfl ?_
  refine c_exit ?_
  refine x_then_exit ?_
  refine x_then_exit ?_
  refine x_block_exit ?_
  refine x_then (hK7 _ _ ?_)
  refine c_seq fun _ hK11 => ?_
  refine c_seq fun _ hK12 => ?_
  refine c_region ?_
  refine o_step rfl (s_assign rfl) ?_
  refine o_nil ?_
  refine x_then (hK12 _ _ ?_)
  refine c_block ?_
  -- not carried: 2
  refine c_loopB (fun (k : Nat) => k = 0) (fun (k : Nat) => [(10, .int .i64 k)]) [(0, _), (5, _), (6, _)] (fun (k : Nat) => []) (fun (k : Nat) => k) 0 rfl sbA sbA hzB ?_
  rintro k hk
  subst hk
  refine c_seq fun _ hK13 => ?_
  refine c_seq fun _ hK14 => ?_
  refine c_region ?_
  refine o_step rfl (s_move rfl) ?_
  refine o_step rfl (s_move rfl) ?_
  refine o_step rfl (s_len rfl) ?_
  refine o_step rfl (s_lss_f rfl rfl (by decide)) ?_
  refine o_nil ?_
  refine x_then (hK14 _ _ ?_)
  refine c_false rfl ?_
  refine c_exit ?_
  refine x_then_exit ?_
  refine x_then_exit ?_
  refine x_block_exit ?_
  refine x_then (hK11 _ _ ?_)
  refine c_seq fun _ hK15 => ?_
  refine c_region ?_
  refine o_step rfl (s_assign rfl) ?_
  refine o_nil ?_
  refine x_then (hK15 _ _ ?_)
  refine c_ret ?_
  refine ?_
  exact x_ret rfl (.tmp rfl (.nil)) (rfl)

theorem apartNodes0_fn (b : Nat) (cs : List Value) (hb : cs[8]? = some (.slice none 0 0)) : HL.Fn Tryd.prog 40 [.pointer (some ⟨b, 0, none⟩)] (fun w => RdP w b 0 cs) [] (fun v _ => v = .bool true) := by
  refine fn_of Tryd.func40 rfl rfl rfl fun w0 hw => ?_
  refine c_seq fun _ hK1 => ?_
  refine c_region ?_
  refine o_step rfl (s_assign rfl) ?_
  refine o_nil ?_
  refine x_then (hK1 _ _ ?_)
  refine c_seq fun _ hK2 => ?_
  refine c_seq fun _ hK3 => ?_
  refine c_region ?_
  refine o_step rfl (s_assign rfl) ?_
  refine o_nil ?_
  refine x_then (hK3 _ _ ?_)
  refine c_block ?_
  refine c_loopB (fun (k : Nat) => k = 0) (fun (k : Nat) => [(3, .int .i64 k)]) [(0, _), (2, _)] (fun (k : Nat) => []) (fun (k : Nat) => k) 0 rfl sbA sbA hzB ?_
  rintro k hk
  subst hk
  refine c_seq fun _ hK4 => ?_
  refine c_seq fun _ hK5 => ?_
  refine c_region ?_
  refine o_step rfl (s_move rfl) ?_
  refine o_step rfl (s_move rfl) ?_
  refine o_step rfl (s_nil rfl) ?_
  refine o_step rfl (s_field rfl rfl (by decide)) ?_
  refine o_step rfl (s_ld rfl ((RdPK.old0 hw).cel hb rfl)) ?_
  refine o_step rfl (s_len rfl) ?_
  refine o_step rfl (s_lss_f rfl rfl (by decide)) ?_
  refine o_nil ?_
  refine x_then (hK5 _ _ ?_)
  refine c_false rfl ?_
  refine c_exit ?_
  refine x_then_exit ?_
  refine x_then_exit ?_
  refine x_block_exit ?_
  refine x_then (hK2 _ _ ?_)
  refine c_seq fun _ hK6 => ?_
  refine c_region ?_
  refine o_step rfl (s_assign rfl) ?_
  refine o_step rfl (s_assign rfl) ?_
  refine o_nil ?_
  refine x_then (hK6 _ _ ?_)
  refine c_seq fun _ hK7 => ?_
  refine c_seq fun _ hK8 => ?_
  refine c_region ?_
  refine o_step rfl (s_assign rfl) ?_
  refine o_nil ?_
  refine x_then (hK8 _ _ ?_)
  refine c_block ?_
  refine c_loopB (fun (k : Nat) => k = 0) (fun (k : Nat) => [(7, .int .i64 k), (6, .slice none 0 0), (5, .slice none 0 0)]) [(0, _), (2, _)] (fun (k : Nat) => []) (fun (k : Nat) => k) 0 rfl sbA sbA hzB ?_
  rintro k hk
  subst hk
  refine c_seq fun _ hK9 => ?_
  refine c_seq fun _ hK10 => ?_
  refine c_region ?_
  refine o_step rfl (s_move rfl) ?_
  refine o_step rfl (s_move rfl) ?_
  refine o_step rfl (s_nil rfl) ?_
  refine o_step rfl (s_field rfl rfl (by decide)) ?_
  refine o_step rfl (s_ld rfl ((RdPK.old0 hw).cel hb rfl)) ?_
  refine o_step rfl (s_len rfl) ?_
  refine o_step rfl (s_lss_f rfl rfl (by decide)) ?_
  refine o_nil ?_
  refine x_then (hK10 _ _ ?_)
  refine c_false rfl ?_
  refine c_exit ?_
  refine x_then_exit ?_
  refine x_then_exit ?_
  refine x_block_exit ?_
  refine x_then (hK7 _ _ ?_)
  refine c_seq fun _ hK11 => ?_
  refine c_seq fun _ hK12 => ?_
  refine c_region ?_
  refine o_step rfl (s_assign rfl) ?_
  refine o_nil ?_
  refine x_then (hK12 _ _ ?_)
  refine c_block ?_
  -- not carried: 2
  refine c_loopB (fun (k : Nat) => k = 0) (fun (k : Nat) => [(10, .int .i64 k)]) [(0, _), (5, _), (6, _)] (fun (k : Nat) => []) (fun (k : Nat) => k) 0 rfl sbA sbA hzB ?_
  rintro k hk
  subst hk
  refine c_seq fun _ hK13 => ?_
  refine c_seq fun _ hK14 => ?_
  refine c_region ?_
  refine o_step rfl (s_move rfl) ?_
  refine o_step rfl (s_move rfl) ?_
  refine o_step rfl (s_len rfl) ?_
  refine o_step rfl (s_lss_f rfl rfl (by decide)) ?_
  refine o_nil ?_
  refine x_then (hK14 _ _ ?_)
  refine c_false rfl ?_
  refine c_exit ?_
  refine x_then_exit ?_
  refine x_then_exit ?_
  refine x_block_exit ?_
  refine x_then (hK11 _ _ ?_)
  refine c_seq fun _ hK15 => ?_
  refine c_region ?_
  refine o_step rfl (s_assign rfl) ?_
  refine o_nil ?_
  refine x_then (hK15 _ _ ?_)
  refine c_ret ?_
  refine ?_
  exact x_ret rfl (.tmp rfl (.nil)) (rfl)

theorem apartInstrs0_fn (b : Nat) (cs : List Value) (hb : cs[9]? = some (.slice none 0 0)) : HL.Fn Tryd.prog 41 [.pointer (some ⟨b, 0, none⟩)] (fun w => RdP w b 0 cs) [] (fun v _ => v = .bool true) := by
  refine fn_of Tryd.func41 rfl rfl rfl fun w0 hw => ?_
  refine c_seq fun _ hK1 => ?_
  refine c_region ?_
  refine o_step rfl (s_assign rfl) ?_
  refine o_nil ?_
  refine x_then (hK1 _ _ ?_)
  refine c_seq fun _ hK2 => ?_
  refine c_seq fun _ hK3 => ?_
  refine c_region ?_
  refine o_step rfl (s_assign rfl) ?_
  refine o_nil ?_
  refine x_then (hK3 _ _ ?_)
  refine c_block ?_
  refine c_loopB (fun (k : Nat) => k = 0) (fun (k : Nat) => [(3, .int .i64 k)]) [(0, _), (2, _)] (fun (k : Nat) => []) (fun (k : Nat) => k) 0 rfl sbA sbA hzB ?_
  rintro k hk
  subst hk
  refine c_seq fun _ hK4 => ?_
  refine c_seq fun _ hK5 => ?_
  refine c_region ?_
  refine o_step rfl (s_move rfl) ?_
  refine o_step rfl (s_move rfl) ?_
  refine o_step rfl (s_nil rfl) ?_
  refine o_step rfl (s_field rfl rfl (by decide)) ?_
  refine o_step rfl (s_ld rfl ((RdPK.old0 hw).cel hb rfl)) ?_
  refine o_step rfl (s_len rfl) ?_
  refine o_step rfl (s_lss_f rfl rfl (by decide)) ?_
  refine o_nil ?_
  refine x_then (hK5 _ _ ?_)
  refine c_false rfl ?_
  refine c_exit ?_
  refine x_then_exit ?_
  refine x_then_exit ?_
  refine x_block_exit ?_
  refine x_then (hK2 _ _ ?_)
  refine c_seq fun _ hK6 => ?_
  refine c_region ?_
  refine o_step rfl (s_assign rfl) ?_
  refine o_step rfl (s_assign rfl) ?_
  refine o_nil ?_
  refine x_then (hK6 _ _ ?_)
  refine c_seq fun _ hK7 => ?_
  refine c_seq fun _ hK8 => ?_
  refine c_region ?_
  refine o_step rfl (s_assign rfl) ?_
  refine o_nil ?_
  refine x_then (hK8 _ _ ?_)
  refine c_block ?_
  refine c_loopB (fun (k : Nat) => k = 0) (fun (k : Nat) => [(7, .int .i64 k), (6, .slice none 0 0), (5, .slice none 0 0)]) [(0, _), (2, _)] (fun (k : Nat) => []) (fun (k : Nat) => k) 0 rfl sbA sbA hzB ?_
  rintro k hk
  subst hk
  refine c_seq fun _ hK9 => ?_
  refine c_seq fun _ hK10 => ?_
  refine c_region ?_
  refine o_step rfl (s_move rfl) ?_
  refine o_step rfl (s_move rfl) ?_
  refine o_step rfl (s_nil rfl) ?_
  refine o_step rfl (s_field rfl rfl (by decide)) ?_
  refine o_step rfl (s_ld rfl ((RdPK.old0 hw).cel hb rfl)) ?_
  refine o_step rfl (s_len rfl) ?_
  refine o_step rfl (s_lss_f rfl rfl (by decide)) ?_
  refine o_nil ?_
  refine x_then (hK10 _ _ ?_)
  refine c_false rfl ?_
  refine c_exit ?_
  refine x_then_exit ?_
  refine x_then_exit ?_
  refine x_block_exit ?_
  refine x_then (hK7 _ _ ?_)
  refine c_seq fun _ hK11 => ?_
  refine c_seq fun _ hK12 => ?_
  refine c_region ?_
  refine o_step rfl (s_assign rfl) ?_
  refine o_nil ?_
  refine x_then (hK12 _ _ ?_)
  refine c_block ?_
  -- not carried: 2
  refine c_loopB (fun (k : Nat) => k = 0) (fun (k : Nat) => [(10, .int .i64 k)]) [(0, _), (5, _), (6, _)] (fun (k : Nat) => []) (fun (k : Nat) => k) 0 rfl sbA sbA hzB ?_
  rintro k hk
  subst hk
  refine c_seq fun _ hK13 => ?_
  refine c_seq fun _ hK14 => ?_
  refine c_region ?_
  refine o_step rfl (s_move rfl) ?_
  refine o_step rfl (s_move rfl) ?_
  refine o_step rfl (s_len rfl) ?_
  refine o_step rfl (s_lss_f rfl rfl (by decide)) ?_
  refine o_nil ?_
  refine x_then (hK14 _ _ ?_)
  refine c_false rfl ?_
  refine c_exit ?_
  refine x_then_exit ?_
  refine x_then_exit ?_
  refine x_block_exit ?_
  refine x_then (hK11 _ _ ?_)
  refine c_seq fun _ hK15 => ?_
  refine c_region ?_
  refine o_step rfl (s_assign rfl) ?_
  refine o_nil ?_
  refine x_then (hK15 _ _ ?_)
  refine c_ret ?_
  refine ?_
  exact x_ret rfl (.tmp rfl (.nil)) (rfl)

theorem apartFaults0_fn (b : Nat) (cs : List Value) (hb : cs[10]? = some (.slice none 0 0)) : HL.Fn Tryd.prog 42 [.pointer (some ⟨b, 0, none⟩)] (fun w => RdP w b 0 cs) [] (fun v _ => v = .bool true) := by
  refine fn_of Tryd.func42 rfl rfl rfl fun w0 hw => ?_
  refine c_seq fun _ hK1 => ?_
  refine c_region ?_
  refine o_step rfl (s_assign rfl) ?_
  refine o_nil ?_
  refine x_then (hK1 _ _ ?_)
  refine c_seq fun _ hK2 => ?_
  refine c_seq fun _ hK3 => ?_
  refine c_region ?_
  refine o_step rfl (s_assign rfl) ?_
  refine o_nil ?_
  refine x_then (hK3 _ _ ?_)
  refine c_block ?_
  refine c_loopB (fun (k : Nat) => k = 0) (fun (k : Nat) => [(3, .int .i64 k)]) [(0, _), (2, _)] (fun (k : Nat) => []) (fun (k : Nat) => k) 0 rfl sbA sbA hzB ?_
  rintro k hk
  subst hk
  refine c_seq fun _ hK4 => ?_
  refine c_seq fun _ hK5 => ?_
  refine c_region ?_
  refine o_step rfl (s_move rfl) ?_
  refine o_step rfl (s_move rfl) ?_
  refine o_step rfl (s_nil rfl) ?_
  refine o_step rfl (s_field rfl rfl (by decide)) ?_
  refine o_step rfl (s_ld rfl ((RdPK.old0 hw).cel hb rfl)) ?_
  refine o_step rfl (s_len rfl) ?_
  refine o_step rfl (s_lss_f rfl rfl (by decide)) ?_
  refine o_nil ?_
  refine x_then (hK5 _ _ ?_)
  refine c_false rfl ?_
  refine c_exit ?_
  refine x_then_exit ?_
  refine x_then_exit ?_
  refine x_block_exit ?_
  refine x_then (hK2 _ _ ?_)
  refine c_seq fun _ hK6 => ?_
  refine c_region ?_
  refine o_step rfl (s_assign rfl) ?_
  refine o_step rfl (s_assign rfl) ?_
  refine o_nil ?_
  refine x_then (hK6 _ _ ?_)
  refine c_seq fun _ hK7 => ?_
  refine c_seq fun _ hK8 => ?_
  refine c_region ?_
  refine o_step rfl (s_assign rfl) ?_
  refine o_nil ?_
  refine x_then (hK8 _ _ ?_)
  refine c_block ?_
  refine c_loopB (fun (k : Nat) => k = 0) (fun (k : Nat) => [(7, .int .i64 k), (6, .slice none 0 0), (5, .slice none 0 0)]) [(0, _), (2, _)] (fun (k : Nat) => []) (fun (k : Nat) => k) 0 rfl sbA sbA hzB ?_
  rintro k hk
  subst hk
  refine c_seq fun _ hK9 => ?_
  refine c_seq fun _ hK10 => ?_
  refine c_region ?_
  refine o_step rfl (s_move rfl) ?_
  refine o_step rfl (s_move rfl) ?_
  refine o_step rfl (s_nil rfl) ?_
  refine o_step rfl (s_field rfl rfl (by decide)) ?_
  refine o_step rfl (s_ld rfl ((RdPK.old0 hw).cel hb rfl)) ?_
  refine o_step rfl (s_len rfl) ?_
  refine o_step rfl (s_lss_f rfl rfl (by decide)) ?_
  refine o_nil ?_
  refine x_then (hK10 _ _ ?_)
  refine c_false rfl ?_
  refine c_exit ?_
  refine x_then_exit ?_
  refine x_then_exit ?_
  refine x_block_exit ?_
  refine x_then (hK7 _ _ ?_)
  refine c_seq fun _ hK11 => ?_
  refine c_seq fun _ hK12 => ?_
  refine c_region ?_
  refine o_step rfl (s_assign rfl) ?_
  refine o_nil ?_
  refine x_then (hK12 _ _ ?_)
  refine c_block ?_
  -- not carried: 2
  refine c_loopB (fun (k : Nat) => k = 0) (fun (k : Nat) => [(10, .int .i64 k)]) [(0, _), (5, _), (6, _)] (fun (k : Nat) => []) (fun (k : Nat) => k) 0 rfl sbA sbA hzB ?_
  rintro k hk
  subst hk
  refine c_seq fun _ hK13 => ?_
  refine c_seq fun _ hK14 => ?_
  refine c_region ?_
  refine o_step rfl (s_move rfl) ?_
  refine o_step rfl (s_move rfl) ?_
  refine o_step rfl (s_len rfl) ?_
  refine o_step rfl (s_lss_f rfl rfl (by decide)) ?_
  refine o_nil ?_
  refine x_then (hK14 _ _ ?_)
  refine c_false rfl ?_
  refine c_exit ?_
  refine x_then_exit ?_
  refine x_then_exit ?_
  refine x_block_exit ?_
  refine x_then (hK11 _ _ ?_)
  refine c_seq fun _ hK15 => ?_
  refine c_region ?_
  refine o_step rfl (s_assign rfl) ?_
  refine o_nil ?_
  refine x_then (hK15 _ _ ?_)
  refine c_ret ?_
  refine ?_
  exact x_ret rfl (.tmp rfl (.nil)) (rfl)

theorem apartNotes0_fn (b : Nat) (cs : List Value) (hb : cs[11]? = some (.slice none 0 0)) : HL.Fn Tryd.prog 43 [.pointer (some ⟨b, 0, none⟩)] (fun w => RdP w b 0 cs) [] (fun v _ => v = .bool true) := by
  refine fn_of Tryd.func43 rfl rfl rfl fun w0 hw => ?_
  refine c_seq fun _ hK1 => ?_
  refine c_region ?_
  refine o_step rfl (s_assign rfl) ?_
  refine o_nil ?_
  refine x_then (hK1 _ _ ?_)
  refine c_seq fun _ hK2 => ?_
  refine c_seq fun _ hK3 => ?_
  refine c_region ?_
  refine o_step rfl (s_assign rfl) ?_
  refine o_nil ?_
  refine x_then (hK3 _ _ ?_)
  refine c_block ?_
  refine c_loopB (fun (k : Nat) => k = 0) (fun (k : Nat) => [(3, .int .i64 k)]) [(0, _), (2, _)] (fun (k : Nat) => []) (fun (k : Nat) => k) 0 rfl sbA sbA hzB ?_
  rintro k hk
  subst hk
  refine c_seq fun _ hK4 => ?_
  refine c_seq fun _ hK5 => ?_
  refine c_region ?_
  refine o_step rfl (s_move rfl) ?_
  refine o_step rfl (s_move rfl) ?_
  refine o_step rfl (s_nil rfl) ?_
  refine o_step rfl (s_field rfl rfl (by decide)) ?_
  refine o_step rfl (s_ld rfl ((RdPK.old0 hw).cel hb rfl)) ?_
  refine o_step rfl (s_len rfl) ?_
  refine o_step rfl (s_lss_f rfl rfl (by decide)) ?_
  refine o_nil ?_
  refine x_then (hK5 _ _ ?_)
  refine c_false rfl ?_
  refine c_exit ?_
  refine x_then_exit ?_
  refine x_then_exit ?_
  refine x_block_exit ?_
  refine x_then (hK2 _ _ ?_)
  refine c_seq fun _ hK6 => ?_
  refine c_region ?_
  refine o_step rfl (s_assign rfl) ?_
  refine o_step rfl (s_assign rfl) ?_
  refine o_nil ?_
  refine x_then (hK6 _ _ ?_)
  refine c_seq fun _ hK7 => ?_
  refine c_seq fun _ hK8 => ?_
  refine c_region ?_
  refine o_step rfl (s_assign rfl) ?_
  refine o_nil ?_
  refine x_then (hK8 _ _ ?_)
  refine c_block ?_
  refine c_loopB (fun (k : Nat) => k = 0) (fun (k : Nat) => [(7, .int .i64 k), (6, .slice none 0 0), (5, .slice none 0 0)]) [(0, _), (2, _)] (fun (k : Nat) => []) (fun (k : Nat) => k) 0 rfl sbA sbA hzB ?_
  rintro k hk
  subst hk
  refine c_seq fun _ hK9 => ?_
  refine c_seq fun _ hK10 => ?_
  refine c_region ?_
  refine o_step rfl (s_move rfl) ?_
  refine o_step rfl (s_move rfl) ?_
  refine o_step rfl (s_nil rfl) ?_
  refine o_step rfl (s_field rfl rfl (by decide)) ?_
  refine o_step rfl (s_ld rfl ((RdPK.old0 hw).cel hb rfl)) ?_
  refine o_step rfl (s_len rfl) ?_
  refine o_step rfl (s_lss_f rfl rfl (by decide)) ?_
  refine o_nil ?_
  refine x_then (hK10 _ _ ?_)
  refine c_false rfl ?_
  refine c_exit ?_
  refine x_then_exit ?_
  refine x_then_exit ?_
  refine x_block_exit ?_
  refine x_then (hK7 _ _ ?_)
  refine c_seq fun _ hK11 => ?_
  refine c_seq fun _ hK12 => ?_
  refine c_region ?_
  refine o_step rfl (s_assign rfl) ?_
  refine o_nil ?_
  refine x_then (hK12 _ _ ?_)
  refine c_block ?_
  -- not carried: 2
  refine c_loopB (fun (k : Nat) => k = 0) (fun (k : Nat) => [(10, .int .i64 k)]) [(0, _), (5, _), (6, _)] (fun (k : Nat) => []) (fun (k : Nat) => k) 0 rfl sbA sbA hzB ?_
  rintro k hk
  subst hk
  refine c_seq fun _ hK13 => ?_
  refine c_seq fun _ hK14 => ?_
  refine c_region ?_
  refine o_step rfl (s_move rfl) ?_
  refine o_step rfl (s_move rfl) ?_
  refine o_step rfl (s_len rfl) ?_
  refine o_step rfl (s_lss_f rfl rfl (by decide)) ?_
  refine o_nil ?_
  refine x_then (hK14 _ _ ?_)
  refine c_false rfl ?_
  refine c_exit ?_
  refine x_then_exit ?_
  refine x_then_exit ?_
  refine x_block_exit ?_
  refine x_then (hK11 _ _ ?_)
  refine c_seq fun _ hK15 => ?_
  refine c_region ?_
  refine o_step rfl (s_assign rfl) ?_
  refine o_nil ?_
  refine x_then (hK15 _ _ ?_)
  refine c_ret ?_
  refine ?_
  exact x_ret rfl (.tmp rfl (.nil)) (rfl)

theorem apartParts0_fn (b : Nat) (cs : List Value) (hb : cs[12]? = some (.slice none 0 0)) : HL.Fn Tryd.prog 44 [.pointer (some ⟨b, 0, none⟩)] (fun w => RdP w b 0 cs) [] (fun v _ => v = .bool true) := by
  refine fn_of Tryd.func44 rfl rfl rfl fun w0 hw => ?_
  refine c_seq fun _ hK1 => ?_
  refine c_region ?_
  refine o_step rfl (s_assign rfl) ?_
  refine o_nil ?_
  refine x_then (hK1 _ _ ?_)
  refine c_seq fun _ hK2 => ?_
  refine c_seq fun _ hK3 => ?_
  refine c_region ?_
  refine o_step rfl (s_assign rfl) ?_
  refine o_nil ?_
  refine x_then (hK3 _ _ ?_)
  refine c_block ?_
  refine c_loopB (fun (k : Nat) => k = 0) (fun (k : Nat) => [(3, .int .i64 k)]) [(0, _), (2, _)] (fun (k : Nat) => []) (fun (k : Nat) => k) 0 rfl sbA sbA hzB ?_
  rintro k hk
  subst hk
  refine c_seq fun _ hK4 => ?_
  refine c_seq fun _ hK5 => ?_
  refine c_region ?_
  refine o_step rfl (s_move rfl) ?_
  refine o_step rfl (s_move rfl) ?_
  refine o_step rfl (s_nil rfl) ?_
  refine o_step rfl (s_field rfl rfl (by decide)) ?_
  refine o_step rfl (s_ld rfl ((RdPK.old0 hw).cel hb rfl)) ?_
  refine o_step rfl (s_len rfl) ?_
  refine o_step rfl (s_lss_f rfl rfl (by decide)) ?_
  refine o_nil ?_
  refine x_then (hK5 _ _ ?_)
  refine c_false rfl ?_
  refine c_exit ?_
  refine x_then_exit ?_
  refine x_then_exit ?_
  refine x_block_exit ?_
  refine x_then (hK2 _ _ ?_)
  refine c_seq fun _ hK6 => ?_
  refine c_region ?_
  refine o_step rfl (s_assign rfl) ?_
  refine o_step rfl (s_assign rfl) ?_
  refine o_nil ?_
  refine x_then (hK6 _ _ ?_)
  refine c_seq fun _ hK7 => ?_
  refine c_seq fun _ hK8 => ?_
  refine c_region ?_
  refine o_step rfl (s_assign rfl) ?_
  refine o_nil ?_
  refine x_then (hK8 _ _ ?_)
  refine c_block ?_
  refine c_loopB (fun (k : Nat) => k = 0) (fun (k : Nat) => [(7, .int .i64 k), (6, .slice none 0 0), (5, .slice none 0 0)]) [(0, _), (2, _)] (fun (k : Nat) => []) (fun (k : Nat) => k) 0 rfl sbA sbA hzB ?_
  rintro k hk
  subst hk
  refine c_seq fun _ hK9 => ?_
  refine c_seq fun _ hK10 => ?_
  refine c_region ?_
  refine o_step rfl (s_move rfl) ?_
  refine o_step rfl (s_move rfl) ?_
  refine o_step rfl (s_nil rfl) ?_
  refine o_step rfl (s_field rfl rfl (by decide)) ?_
  refine o_step rfl (s_ld rfl ((RdPK.old0 hw).cel hb rfl)) ?_
  refine o_step rfl (s_len rfl) ?_
  refine o_step rfl (s_lss_f rfl rfl (by decide)) ?_
  refine o_nil ?_
  refine x_then (hK10 _ _ ?_)
  refine c_false rfl ?_
  refine c_exit ?_
  refine x_then_exit ?_
  refine x_then_exit ?_
  refine x_block_exit ?_
  refine x_then (hK7 _ _ ?_)
  refine c_seq fun _ hK11 => ?_
  refine c_seq fun _ hK12 => ?_
  refine c_region ?_
  refine o_step rfl (s_assign rfl) ?_
  refine o_nil ?_
  refine x_then (hK12 _ _ ?_)
  refine c_block ?_
  -- not carried: 2
  refine c_loopB (fun (k : Nat) => k = 0) (fun (k : Nat) => [(10, .int .i64 k)]) [(0, _), (5, _), (6, _)] (fun (k : Nat) => []) (fun (k : Nat) => k) 0 rfl sbA sbA hzB ?_
  rintro k hk
  subst hk
  refine c_seq fun _ hK13 => ?_
  refine c_seq fun _ hK14 => ?_
  refine c_region ?_
  refine o_step rfl (s_move rfl) ?_
  refine o_step rfl (s_move rfl) ?_
  refine o_step rfl (s_len rfl) ?_
  refine o_step rfl (s_lss_f rfl rfl (by decide)) ?_
  refine o_nil ?_
  refine x_then (hK14 _ _ ?_)
  refine c_false rfl ?_
  refine c_exit ?_
  refine x_then_exit ?_
  refine x_then_exit ?_
  refine x_block_exit ?_
  refine x_then (hK11 _ _ ?_)
  refine c_seq fun _ hK15 => ?_
  refine c_region ?_
  refine o_step rfl (s_assign rfl) ?_
  refine o_nil ?_
  refine x_then (hK15 _ _ ?_)
  refine c_ret ?_
  refine ?_
  exact x_ret rfl (.tmp rfl (.nil)) (rfl)

theorem apartRows0_fn (b : Nat) (cs : List Value) (hb : cs[13]? = some (.slice none 0 0)) : HL.Fn Tryd.prog 45 [.pointer (some ⟨b, 0, none⟩)] (fun w => RdP w b 0 cs) [] (fun v _ => v = .bool true) := by
  refine fn_of Tryd.func45 rfl rfl rfl fun w0 hw => ?_
  refine c_seq fun _ hK1 => ?_
  refine c_region ?_
  refine o_step rfl (s_assign rfl) ?_
  refine o_nil ?_
  refine x_then (hK1 _ _ ?_)
  refine c_seq fun _ hK2 => ?_
  refine c_seq fun _ hK3 => ?_
  refine c_region ?_
  refine o_step rfl (s_assign rfl) ?_
  refine o_nil ?_
  refine x_then (hK3 _ _ ?_)
  refine c_block ?_
  refine c_loopB (fun (k : Nat) => k = 0) (fun (k : Nat) => [(3, .int .i64 k)]) [(0, _), (2, _)] (fun (k : Nat) => []) (fun (k : Nat) => k) 0 rfl sbA sbA hzB ?_
  rintro k hk
  subst hk
  refine c_seq fun _ hK4 => ?_
  refine c_seq fun _ hK5 => ?_
  refine c_region ?_
  refine o_step rfl (s_move rfl) ?_
  refine o_step rfl (s_move rfl) ?_
  refine o_step rfl (s_nil rfl) ?_
  refine o_step rfl (s_field rfl rfl (by decide)) ?_
  refine o_step rfl (s_ld rfl ((RdPK.old0 hw).cel hb rfl)) ?_
  refine o_step rfl (s_len rfl) ?_
  refine o_step rfl (s_lss_f rfl rfl (by decide)) ?_
  refine o_nil ?_
  refine x_then (hK5 _ _ ?_)
  refine c_false rfl ?_
  refine c_exit ?_
  refine x_then_exit ?_
  refine x_then_exit ?_
  refine x_block_exit ?_
  refine x_then (hK2 _ _ ?_)
  refine c_seq fun _ hK6 => ?_
  refine c_region ?_
  refine o_step rfl (s_assign rfl) ?_
  refine o_step rfl (s_assign rfl) ?_
  refine o_nil ?_
  refine x_then (hK6 _ _ ?_)
  refine c_seq fun _ hK7 => ?_
  refine c_seq fun _ hK8 => ?_
  refine c_region ?_
  refine o_step rfl (s_assign rfl) ?_
  refine o_nil ?_
  refine x_then (hK8 _ _ ?_)
  refine c_block ?_
  refine c_loopB (fun (k : Nat) => k = 0) (fun (k : Nat) => [(7, .int .i64 k), (6, .slice none 0 0), (5, .slice none 0 0)]) [(0, _), (2, _)] (fun (k : Nat) => []) (fun (k : Nat) => k) 0 rfl sbA sbA hzB ?_
  rintro k hk
  subst hk
  refine c_seq fun _ hK9 => ?_
  refine c_seq fun _ hK10 => ?_
  refine c_region ?_
  refine o_step rfl (s_move rfl) ?_
  refine o_step rfl (s_move rfl) ?_
  refine o_step rfl (s_nil rfl) ?_
  refine o_step rfl (s_field rfl rfl (by decide)) ?_
  refine o_step rfl (s_ld rfl ((RdPK.old0 hw).cel hb rfl)) ?_
  refine o_step rfl (s_len rfl) ?_
  refine o_step rfl (s_lss_f rfl rfl (by decide)) ?_
  refine o_nil ?_
  refine x_then (hK10 _ _ ?_)
  refine c_false rfl ?_
  refine c_exit ?_
  refine x_then_exit ?_
  refine x_then_exit ?_
  refine x_block_exit ?_
  refine x_then (hK7 _ _ ?_)
  refine c_seq fun _ hK11 => ?_
  refine c_seq fun _ hK12 => ?_
  refine c_region ?_
  refine o_step rfl (s_assign rfl) ?_
  refine o_nil ?_
  refine x_then (hK12 _ _ ?_)
  refine c_block ?_
  -- not carried: 2
  refine c_loopB (fun (k : Nat) => k = 0) (fun (k : Nat) => [(10, .int .i64 k)]) [(0, _), (5, _), (6, _)] (fun (k : Nat) => []) (fun (k : Nat) => k) 0 rfl sbA sbA hzB ?_
  rintro k hk
  subst hk
  refine c_seq fun _ hK13 => ?_
  refine c_seq fun _ hK14 => ?_
  refine c_region ?_
  refine o_step rfl (s_move rfl) ?_
  refine o_step rfl (s_move rfl) ?_
  refine o_step rfl (s_len rfl) ?_
  refine o_step rfl (s_lss_f rfl rfl (by decide)) ?_
  refine o_nil ?_
  refine x_then (hK14 _ _ ?_)
  refine c_false rfl ?_
  refine c_exit ?_
  refine x_then_exit ?_
  refine x_then_exit ?_
  refine x_block_exit ?_
  refine x_then (hK11 _ _ ?_)
  refine c_seq fun _ hK15 => ?_
  refine c_region ?_
  refine o_step rfl (s_assign rfl) ?_
  refine o_nil ?_
  refine x_then (hK15 _ _ ?_)
  refine c_ret ?_
  refine ?_
  exact x_ret rfl (.tmp rfl (.nil)) (rfl)

theorem apartIntss0_fn (b : Nat) (cs : List Value) (hb : cs[14]? = some (.slice none 0 0)) : HL.Fn Tryd.prog 46 [.pointer (some ⟨b, 0, none⟩)] (fun w => RdP w b 0 cs) [] (fun v _ => v = .bool true) := by
  refine fn_of Tryd.func46 rfl rfl rfl fun w0 hw => ?_
  refine c_seq fun _ hK1 => ?_
  refine c_region ?_
  refine o_step rfl (s_assign rfl) ?_
  refine o_nil ?_
  refine x_then (hK1 _ _ ?_)
  refine c_seq fun _ hK2 => ?_
  refine c_seq fun _ hK3 => ?_
  refine c_region ?_
  refine o_step rfl (s_assign rfl) ?_
  refine o_nil ?_
  refine x_then (hK3 _ _ ?_)
  refine c_block ?_
  refine c_loopB (fun (k : Nat) => k = 0) (fun (k : Nat) => [(3, .int .i64 k)]) [(0, _), (2, _)] (fun (k : Nat) => []) (fun (k : Nat) => k) 0 rfl sbA sbA hzB ?_
  rintro k hk
  subst hk
  refine c_seq fun _ hK4 => ?_
  refine c_seq fun _ hK5 => ?_
  refine c_region ?_
  refine o_step rfl (s_move rfl) ?_
  refine o_step rfl (s_move rfl) ?_
  refine o_step rfl (s_nil rfl) ?_
  refine o_step rfl (s_field rfl rfl (by decide)) ?_
  refine o_step rfl (s_ld rfl ((RdPK.old0 hw).cel hb rfl)) ?_
  refine o_step rfl (s_len rfl) ?_
  refine o_step rfl (s_lss_f rfl rfl (by decide)) ?_
  refine o_nil ?_
  refine x_then (hK5 _ _ ?_)
  refine c_false rfl ?_
  refine c_exit ?_
  refine x_then_exit ?_
  refine x_then_exit ?_
  refine x_block_exit ?_
  refine x_then (hK2 _ _ ?_)
  refine c_seq fun _ hK6 => ?_
  refine c_region ?_
  refine o_step rfl (s_assign rfl) ?_
  refine o_step rfl (s_assign rfl) ?_
  refine o_nil ?_
  refine x_then (hK6 _ _ ?_)
  refine c_seq fun _ hK7 => ?_
  refine c_seq fun _ hK8 => ?_
  refine c_region ?_
  refine o_step rfl (s_assign rfl) ?_
  refine o_nil ?_
  refine x_then (hK8 _ _ ?_)
  refine c_block ?_
  refine c_loopB (fun (k : Nat) => k = 0) (fun (k : Nat) => [(7, .int .i64 k), (6, .slice none 0 0), (5, .slice none 0 0)]) [(0, _), (2, _)] (fun (k : Nat) => []) (fun (k : Nat) => k) 0 rfl sbA sbA hzB ?_
  rintro k hk
  subst hk
  refine c_seq fun _ hK9 => ?_
  refine c_seq fun _ hK10 => ?_
  refine c_region ?_
  refine o_step rfl (s_move rfl) ?_
  refine o_step rfl (s_move rfl) ?_
  refine o_step rfl (s_nil rfl) ?_
  refine o_step rfl (s_field rfl rfl (by decide)) ?_
  refine o_step rfl (s_ld rfl ((RdPK.old0 hw).cel hb rfl)) ?_
  refine o_step rfl (s_len rfl) ?_
  refine o_step rfl (s_lss_f rfl rfl (by decide)) ?_
  refine o_nil ?_
  refine x_then (hK10 _ _ ?_)
  refine c_false rfl ?_
  refine c_exit ?_
  refine x_then_exit ?_
  refine x_then_exit ?_
  refine x_block_exit ?_
  refine x_then (hK7 _ _ ?_)
  refine c_seq fun _ hK11 => ?_
  refine c_seq fun _ hK12 => ?_
  refine c_region ?_
  refine o_step rfl (s_assign rfl) ?_
  refine o_nil ?_
  refine x_then (hK12 _ _ ?_)
  refine c_block ?_
  -- not carried: 2
  refine c_loopB (fun (k : Nat) => k = 0) (fun (k : Nat) => [(10, .int .i64 k)]) [(0, _), (5, _), (6, _)] (fun (k : Nat) => []) (fun (k : Nat) => k) 0 rfl sbA sbA hzB ?_
  rintro k hk
  subst hk
  refine c_seq fun _ hK13 => ?_
  refine c_seq fun _ hK14 => ?_
  refine c_region ?_
  refine o_step rfl (s_move rfl) ?_
  refine o_step rfl (s_move rfl) ?_
  refine o_step rfl (s_len rfl) ?_
  refine o_step rfl (s_lss_f rfl rfl (by decide)) ?_
  refine o_nil ?_
  refine x_then (hK14 _ _ ?_)
  refine c_false rfl ?_
  refine c_exit ?_
  refine x_then_exit ?_
  refine x_then_exit ?_
  refine x_block_exit ?_
  refine x_then (hK11 _ _ ?_)
  refine c_seq fun _ hK15 => ?_
  refine c_region ?_
  refine o_step rfl (s_assign rfl) ?_
  refine o_nil ?_
  refine x_then (hK15 _ _ ?_)
  refine c_ret ?_
  refine ?_
  exact x_ret rfl (.tmp rfl (.nil)) (rfl)

theorem apartSpanss0_fn (b : Nat) (cs : List Value) (hb : cs[15]? = some (.slice none 0 0)) : HL.Fn Tryd.prog 47 [.pointer (some ⟨b, 0, none⟩)] (fun w => RdP w b 0 cs) [] (fun v _ => v = .bool true) := by
  refine fn_of Tryd.func47 rfl rfl rfl fun w0 hw => ?_
  refine c_seq fun _ hK1 => ?_
  refine c_region ?_
  refine o_step rfl (s_assign rfl) ?_
  refine o_nil ?_
  refine x_then (hK1 _ _ ?_)
  refine c_seq fun _ hK2 => ?_
  refine c_seq fun _ hK3 => ?_
  refine c_region ?_
  refine o_step rfl (s_assign rfl) ?_
  refine o_nil ?_
  refine x_then (hK3 _ _ ?_)
  refine c_block ?_
  refine c_loopB (fun (k : Nat) => k = 0) (fun (k : Nat) => [(3, .int .i64 k)]) [(0, _), (2, _)] (fun (k : Nat) => []) (fun (k : Nat) => k) 0 rfl sbA sbA hzB ?_
  rintro k hk
  subst hk
  refine c_seq fun _ hK4 => ?_
  refine c_seq fun _ hK5 => ?_
  refine c_region ?_
  refine o_step rfl (s_move rfl) ?_
  refine o_step rfl (s_move rfl) ?_
  refine o_step rfl (s_nil rfl) ?_
  refine o_step rfl (s_field rfl rfl (by decide)) ?_
  refine o_step rfl (s_ld rfl ((RdPK.old0 hw).cel hb rfl)) ?_
  refine o_step rfl (s_len rfl) ?_
  refine o_step rfl (s_lss_f rfl rfl (by decide)) ?_
  refine o_nil ?_
  refine x_then (hK5 _ _ ?_)
  refine c_false rfl ?_
  refine c_exit ?_
  refine x_then_exit ?_
  refine x_then_exit ?_
  refine x_block_exit ?_
  refine x_then (hK2 _ _ ?_)
  refine c_seq fun _ hK6 => ?_
  refine c_region ?_
  refine o_step rfl (s_assign rfl) ?_
  refine o_step rfl (s_assign rfl) ?_
  refine o_nil ?_
  refine x_then (hK6 _ _ ?_)
  refine c_seq fun _ hK7 => ?_
  refine c_seq fun _ hK8 => ?_
  refine c_region ?_
  refine o_step rfl (s_assign rfl) ?_
  refine o_nil ?_
  refine x_then (hK8 _ _ ?_)
  refine c_block ?_
  refine c_loopB (fun (k : Nat) => k = 0) (fun (k : Nat) => [(7, .int .i64 k), (6, .slice none 0 0), (5, .slice none 0 0)]) [(0, _), (2, _)] (fun (k : Nat) => []) (fun (k : Nat) => k) 0 rfl sbA sbA hzB ?_
  rintro k hk
  subst hk
  refine c_seq fun _ hK9 => ?_
  refine c_seq fun _ hK10 => ?_
  refine c_region ?_
  refine o_step rfl (s_move rfl) ?_
  refine o_step rfl (s_move rfl) ?_
  refine o_step rfl (s_nil rfl) ?_
  refine o_step rfl (s_field rfl rfl (by decide)) ?_
  refine o_step rfl (s_ld rfl ((RdPK.old0 hw).cel hb rfl)) ?_
  refine o_step rfl (s_len rfl) ?_
  refine o_step rfl (s_lss_f rfl rfl (by decide)) ?_
  refine o_nil ?_
  refine x_then (hK10 _ _ ?_)
  refine c_false rfl ?_
  refine c_exit ?_
  refine x_then_exit ?_
  refine x_then_exit ?_
  refine x_block_exit ?_
  refine x_then (hK7 _ _ ?_)
  refine c_seq fun _ hK11 => ?_
  refine c_seq fun _ hK12 => ?_
  refine c_region ?_
  refine o_step rfl (s_assign rfl) ?_
  refine o_nil ?_
  refine x_then (hK12 _ _ ?_)
  refine c_block ?_
  -- not carried: 2
  refine c_loopB (fun (k : Nat) => k = 0) (fun (k : Nat) => [(10, .int .i64 k)]) [(0, _), (5, _), (6, _)] (fun (k : Nat) => []) (fun (k : Nat) => k) 0 rfl sbA sbA hzB ?_
  rintro k hk
  subst hk
  refine c_seq fun _ hK13 => ?_
  refine c_seq fun _ hK14 => ?_
  refine c_region ?_
  refine o_step rfl (s_move rfl) ?_
  refine o_step rfl (s_move rfl) ?_
  refine o_step rfl (s_len rfl) ?_
  refine o_step rfl (s_lss_f rfl rfl (by decide)) ?_
  refine o_nil ?_
  refine x_then (hK14 _ _ ?_)
  refine c_false rfl ?_
  refine c_exit ?_
  refine x_then_exit ?_
  refine x_then_exit ?_
  refine x_block_exit ?_
  refine x_then (hK11 _ _ ?_)
  refine c_seq fun _ hK15 => ?_
  refine c_region ?_
  refine o_step rfl (s_assign rfl) ?_
  refine o_nil ?_
  refine x_then (hK15 _ _ ?_)
  refine c_ret ?_
  refine ?_
  exact x_ret rfl (.tmp rfl (.nil)) (rfl)

theorem apartPieces0_fn (b : Nat) (cs : List Value) (hb : cs[16]? = some (.slice none 0 0)) : HL.Fn Tryd.prog 48 [.pointer (some ⟨b, 0, none⟩)] (fun w => RdP w b 0 cs) [] (fun v _ => v = .bool true) := by
  refine fn_of Tryd.func48 rfl rfl rfl fun w0 hw => ?_
  refine c_seq fun _ hK1 => ?_
  refine c_region ?_
  refine o_step rfl (s_assign rfl) ?_
  refine o_nil ?_
  refine x_then (hK1 _ _ ?_)
  refine c_seq fun _ hK2 => ?_
  refine c_seq fun _ hK3 => ?_
  refine c_region ?_
  refine o_step rfl (s_assign rfl) ?_
  refine o_nil ?_
  refine x_then (hK3 _ _ ?_)
  refine c_block ?_
  refine c_loopB (fun (k : Nat) => k = 0) (fun (k : Nat) => [(3, .int .i64 k)]) [(0, _), (2, _)] (fun (k : Nat) => []) (fun (k : Nat) => k) 0 rfl sbA sbA hzB ?_
  rintro k hk
  subst hk
  refine c_seq fun _ hK4 => ?_
  refine c_seq fun _ hK5 => ?_
  refine c_region ?_
  refine o_step rfl (s_move rfl) ?_
  refine o_step rfl (s_move rfl) ?_
  refine o_step rfl (s_nil rfl) ?_
  refine o_step rfl (s_field rfl rfl (by decide)) ?_
  refine o_step rfl (s_ld rfl ((RdPK.old0 hw).cel hb rfl)) ?_
  refine o_step rfl (s_len rfl) ?_
  refine o_step rfl (s_lss_f rfl rfl (by decide)) ?_
  refine o_nil ?_
  refine x_then (hK5 _ _ ?_)
  refine c_false rfl ?_
  refine c_exit ?_
  refine x_then_exit ?_
  refine x_then_exit ?_
  refine x_block_exit ?_
  refine x_then (hK2 _ _ ?_)
  refine c_seq fun _ hK6 => ?_
  refine c_region ?_
  refine o_step rfl (s_assign rfl) ?_
  refine o_step rfl (s_assign rfl) ?_
  refine o_nil ?_
  refine x_then (hK6 _ _ ?_)
  refine c_seq fun _ hK7 => ?_
  refine c_seq fun _ hK8 => ?_
  refine c_region ?_
  refine o_step rfl (s_assign rfl) ?_
  refine o_nil ?_
  refine x_then (hK8 _ _ ?_)
  refine c_block ?_
  refine c_loopB (fun (k : Nat) => k = 0) (fun (k : Nat) => [(7, .int .i64 k), (6, .slice none 0 0), (5, .slice none 0 0)]) [(0, _), (2, _)] (fun (k : Nat) => []) (fun (k : Nat) => k) 0 rfl sbA sbA hzB ?_
  rintro k hk
  subst hk
  refine c_seq fun _ hK9 => ?_
  refine c_seq fun _ hK10 => ?_
  refine c_region ?_
  refine o_step rfl (s_move rfl) ?_
  refine o_step rfl (s_move rfl) ?_
  refine o_step rfl (s_nil rfl) ?_
  refine o_step rfl (s_field rfl rfl (by decide)) ?_
  refine o_step rfl (s_ld rfl ((RdPK.old0 hw).cel hb rfl)) ?_
  refine o_step rfl (s_len rfl) ?_
  refine o_step rfl (s_lss_f rfl rfl (by decide)) ?_
  refine o_nil ?_
  refine x_then (hK10 _ _ ?_)
  refine c_false rfl ?_
  refine c_exit ?_
  refine x_then_exit ?_
  refine x_then_exit ?_
  refine x_block_exit ?_
  refine x_then (hK7 _ _ ?_)
  refine c_seq fun _ hK11 => ?_
  refine c_seq fun _ hK12 => ?_
  refine c_region ?_
  refine o_step rfl (s_assign rfl) ?_
  refine o_nil ?_
  refine x_then (hK12 _ _ ?_)
  refine c_block ?_
  -- not carried: 2
  refine c_loopB (fun (k : Nat) => k = 0) (fun (k : Nat) => [(10, .int .i64 k)]) [(0, _), (5, _), (6, _)] (fun (k : Nat) => []) (fun (k : Nat) => k) 0 rfl sbA sbA hzB ?_
  rintro k hk
  subst hk
  refine c_seq fun _ hK13 => ?_
  refine c_seq fun _ hK14 => ?_
  refine c_region ?_
  refine o_step rfl (s_move rfl) ?_
  refine o_step rfl (s_move rfl) ?_
  refine o_step rfl (s_len rfl) ?_
  refine o_step rfl (s_lss_f rfl rfl (by decide)) ?_
  refine o_nil ?_
  refine x_then (hK14 _ _ ?_)
  refine c_false rfl ?_
  refine c_exit ?_
  refine x_then_exit ?_
  refine x_then_exit ?_
  refine x_block_exit ?_
  refine x_then (hK11 _ _ ?_)
  refine c_seq fun _ hK15 => ?_
  refine c_region ?_
  refine o_step rfl (s_assign rfl) ?_
  refine o_nil ?_
  refine x_then (hK15 _ _ ?_)
  refine c_ret ?_
  refine ?_
  exact x_ret rfl (.tmp rfl (.nil)) (rfl)

theorem apartFiles0_fn (b : Nat) (cs : List Value) (hb : cs[17]? = some (.slice none 0 0)) : HL.Fn Tryd.prog 49 [.pointer (some ⟨b, 0, none⟩)] (fun w => RdP w b 0 cs) [] (fun v _ => v = .bool true) := by
  refine fn_of Tryd.func49 rfl rfl rfl fun w0 hw => ?_
  refine c_seq fun _ hK1 => ?_
  refine c_region ?_
  refine o_step rfl (s_assign rfl) ?_
  refine o_nil ?_
  refine x_then (hK1 _ _ ?_)
  refine c_seq fun _ hK2 => ?_
  refine c_seq fun _ hK3 => ?_
  refine c_region ?_
  refine o_step rfl (s_assign rfl) ?_
  refine o_nil ?_
  refine x_then (hK3 _ _ ?_)
  refine c_block ?_
  refine c_loopB (fun (k : Nat) => k = 0) (fun (k : Nat) => [(3, .int .i64 k)]) [(0, _), (2, _)] (fun (k : Nat) => []) (fun (k : Nat) => k) 0 rfl sbA sbA hzB ?_
  rintro k hk
  subst hk
  refine c_seq fun _ hK4 => ?_
  refine c_seq fun _ hK5 => ?_
  refine c_region ?_
  refine o_step rfl (s_move rfl) ?_
  refine o_step rfl (s_move rfl) ?_
  refine o_step rfl (s_nil rfl) ?_
  refine o_step rfl (s_field rfl rfl (by decide)) ?_
  refine o_step rfl (s_ld rfl ((RdPK.old0 hw).cel hb rfl)) ?_
  refine o_step rfl (s_len rfl) ?_
  refine o_step rfl (s_lss_f rfl rfl (by decide)) ?_
  refine o_nil ?_
  refine x_then (hK5 _ _ ?_)
  refine c_false rfl ?_
  refine c_exit ?_
  refine x_then_exit ?_
  refine x_then_exit ?_
  refine x_block_exit ?_
  refine x_then (hK2 _ _ ?_)
  refine c_seq fun _ hK6 => ?_
  refine c_region ?_
  refine o_step rfl (s_assign rfl) ?_
  refine o_step rfl (s_assign rfl) ?_
  refine o_nil ?_
  refine x_then (hK6 _ _ ?_)
  refine c_seq fun _ hK7 => ?_
  refine c_seq fun _ hK8 => ?_
  refine c_region ?_
  refine o_step rfl (s_assign rfl) ?_
  refine o_nil ?_
  refine x_then (hK8 _ _ ?_)
  refine c_block ?_
  refine c_loopB (fun (k : Nat) => k = 0) (fun (k : Nat) => [(7, .int .i64 k), (6, .slice none 0 0), (5, .slice none 0 0)]) [(0, _), (2, _)] (fun (k : Nat) => []) (fun (k : Nat) => k) 0 rfl sbA sbA hzB ?_
  rintro k hk
  subst hk
  refine c_seq fun _ hK9 => ?_
  refine c_seq fun _ hK10 => ?_
  refine c_region ?_
  refine o_step rfl (s_move rfl) ?_
  refine o_step rfl (s_move rfl) ?_
  refine o_step rfl (s_nil rfl) ?_
  refine o_step rfl (s_field rfl rfl (by decide)) ?_
  refine o_step rfl (s_ld rfl ((RdPK.old0 hw).cel hb rfl)) ?_
  refine o_step rfl (s_len rfl) ?_
  refine o_step rfl (s_lss_f rfl rfl (by decide)) ?_
  refine o_nil ?_
  refine x_then (hK10 _ _ ?_)
  refine c_false rfl ?_
  refine c_exit ?_
  refine x_then_exit ?_
  refine x_then_exit ?_
  refine x_block_exit ?_
  refine x_then (hK7 _ _ ?_)
  refine c_seq fun _ hK11 => ?_
  refine c_seq fun _ hK12 => ?_
  refine c_region ?_
  refine o_step rfl (s_assign rfl) ?_
  refine o_nil ?_
  refine x_then (hK12 _ _ ?_)
  refine c_block ?_
  -- not carried: 2
  refine c_loopB (fun (k : Nat) => k = 0) (fun (k : Nat) => [(10, .int .i64 k)]) [(0, _), (5, _), (6, _)] (fun (k : Nat) => []) (fun (k : Nat) => k) 0 rfl sbA sbA hzB ?_
  rintro k hk
  subst hk
  refine c_seq fun _ hK13 => ?_
  refine c_seq fun _ hK14 => ?_
  refine c_region ?_
  refine o_step rfl (s_move rfl) ?_
  refine o_step rfl (s_move rfl) ?_
  refine o_step rfl (s_len rfl) ?_
  refine o_step rfl (s_lss_f rfl rfl (by decide)) ?_
  refine o_nil ?_
  refine x_then (hK14 _ _ ?_)
  refine c_false rfl ?_
  refine c_exit ?_
  refine x_then_exit ?_
  refine x_then_exit ?_
  refine x_block_exit ?_
  refine x_then (hK11 _ _ ?_)
  refine c_seq fun _ hK15 => ?_
  refine c_region ?_
  refine o_step rfl (s_assign rfl) ?_
  refine o_nil ?_
  refine x_then (hK15 _ _ ?_)
  refine c_ret ?_
  refine ?_
  exact x_ret rfl (.tmp rfl (.nil)) (rfl)

theorem apartCmds0_fn (b : Nat) (cs : List Value) (hb : cs[18]? = some (.slice none 0 0)) : HL.Fn Tryd.prog 50 [.pointer (some ⟨b, 0, none⟩)] (fun w => RdP w b 0 cs) [] (fun v _ => v = .bool true) := by
  refine fn_of Tryd.func50 rfl rfl rfl fun w0 hw => ?_
  refine c_seq fun _ hK1 => ?_
  refine c_region ?_
  refine o_step rfl (s_assign rfl) ?_
  refine o_nil ?_
  refine x_then (hK1 _ _ ?_)
  refine c_seq fun _ hK2 => ?_
  refine c_seq fun _ hK3 => ?_
  refine c_region ?_
  refine o_step rfl (s_assign rfl) ?_
  refine o_nil ?_
  refine x_then (hK3 _ _ ?_)
  refine c_block ?_
  refine c_loopB (fun (k : Nat) => k = 0) (fun (k : Nat) => [(3, .int .i64 k)]) [(0, _), (2, _)] (fun (k : Nat) => []) (fun (k : Nat) => k) 0 rfl sbA sbA hzB ?_
  rintro k hk
  subst hk
  refine c_seq fun _ hK4 => ?_
  refine c_seq fun _ hK5 => ?_
  refine c_region ?_
  refine o_step rfl (s_move rfl) ?_
  refine o_step rfl (s_move rfl) ?_
  refine o_step rfl (s_nil rfl) ?_
  refine o_step rfl (s_field rfl rfl (by decide)) ?_
  refine o_step rfl (s_ld rfl ((RdPK.old0 hw).cel hb rfl)) ?_
  refine o_step rfl (s_len rfl) ?_
  refine o_step rfl (s_lss_f rfl rfl (by decide)) ?_
  refine o_nil ?_
  refine x_then (hK5 _ _ ?_)
  refine c_false rfl ?_
  refine c_exit ?_
  refine x_then_exit ?_
  refine x_then_exit ?_
  refine x_block_exit ?_
  refine x_then (hK2 _ _ ?_)
  refine c_seq fun _ hK6 => ?_
  refine c_region ?_
  refine o_step rfl (s_assign rfl) ?_
  refine o_step rfl (s_assign rfl) ?_
  refine o_nil ?_
  refine x_then (hK6 _ _ ?_)
  refine c_seq fun _ hK7 => ?_
  refine c_seq fun _ hK8 => ?_
  refine c_region ?_
  refine o_step rfl (s_assign rfl) ?_
  refine o_nil ?_
  refine x_then (hK8 _ _ ?_)
  refine c_block ?_
  refine c_loopB (fun (k : Nat) => k = 0) (fun (k : Nat) => [(7, .int .i64 k), (6, .slice none 0 0), (5, .slice none 0 0)]) [(0, _), (2, _)] (fun (k : Nat) => []) (fun (k : Nat) => k) 0 rfl sbA sbA hzB ?_
  rintro k hk
  subst hk
  refine c_seq fun _ hK9 => ?_
  refine c_seq fun _ hK10 => ?_
  refine c_region ?_
  refine o_step rfl (s_move rfl) ?_
  refine o_step rfl (s_move rfl) ?_
  refine o_step rfl (s_nil rfl) ?_
  refine o_step rfl (s_field rfl rfl (by decide)) ?_
  refine o_step rfl (s_ld rfl ((RdPK.old0 hw).cel hb rfl)) ?_
  refine o_step rfl (s_len rfl) ?_
  refine o_step rfl (s_lss_f rfl rfl (by decide)) ?_
  refine o_nil ?_
  refine x_then (hK10 _ _ ?_)
  refine c_false rfl ?_
  refine c_exit ?_
  refine x_then_exit ?_
  refine x_then_exit ?_
  refine x_block_exit ?_
  refine x_then (hK7 _ _ ?_)
  refine c_seq fun _ hK11 => ?_
  refine c_seq fun _ hK12 => ?_
  refine c_region ?_
  refine o_step rfl (s_assign rfl) ?_
  refine o_nil ?_
  refine x_then (hK12 _ _ ?_)
  refine c_block ?_
  -- not carried: 2
  refine c_loopB (fun (k : Nat) => k = 0) (fun (k : Nat) => [(10, .int .i64 k)]) [(0, _), (5, _), (6, _)] (fun (k : Nat) => []) (fun (k : Nat) => k) 0 rfl sbA sbA hzB ?_
  rintro k hk
  subst hk
  refine c_seq fun _ hK13 => ?_
  refine c_seq fun _ hK14 => ?_
  refine c_region ?_
  refine o_step rfl (s_move rfl) ?_
  refine o_step rfl (s_move rfl) ?_
  refine o_step rfl (s_len rfl) ?_
  refine o_step rfl (s_lss_f rfl rfl (by decide)) ?_
  refine o_nil ?_
  refine x_then (hK14 _ _ ?_)
  refine c_false rfl ?_
  refine c_exit ?_
  refine x_then_exit ?_
  refine x_then_exit ?_
  refine x_block_exit ?_
  refine x_then (hK11 _ _ ?_)
  refine c_seq fun _ hK15 => ?_
  refine c_region ?_
  refine o_step rfl (s_assign rfl) ?_
  refine o_nil ?_
  refine x_then (hK15 _ _ ?_)
  refine c_ret ?_
  refine ?_
  exact x_ret rfl (.tmp rfl (.nil)) (rfl)
end Go.Proofs.YtiggliigookieaaDoor
