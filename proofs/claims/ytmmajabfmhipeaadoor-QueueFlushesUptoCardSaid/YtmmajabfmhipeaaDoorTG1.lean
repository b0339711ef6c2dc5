/- Part of the proofs over this seat: see the text that holds the theorem. Conditions: each theorem bears its own. -/
import Derived.Test.YtmmajabfmhipeaaDoorFM18Z
import Derived.Test.YtmmajabfmhipeaaDoorTF1
namespace Go.Proofs.YtmmajabfmhipeaaDoor
open Go Go.HL Go.Proofs
theorem apartBytes0_fn (b : Nat) (cs : List Value) (hb : cs[0]? = some (.slice none 0 0)) : HL.Fn Tryd.prog 57 [.pointer (some ⟨b, 0, none⟩)] (fun w => RdP w b 0 cs) [] (fun v _ => v = .bool true) := by
  refine fn_of Tryd.func57 rfl rfl rfl fun w0 hw => ?_
  refine c_seq fun _ hK1 => ?_
  refine c_region ?_
  refine o_step rfl (s_assign rfl) ?_
  refine o_nil ?_
  refine x_then (hK1 _ _ ?_)
  refine c_seq fun _ hK2 => ?_
  refine c_seq fun _ hK3 => ?_
  refine c_region ?_
  refine o_step rfl (s_assign rfl) ?_
  refine o_nil ?_
  refine x_then (hK3 _ _ ?_)
  refine c_block ?_
  refine c_loopB (fun (k : Nat) => k = 0) (fun (k : Nat) => [(3, .int .i64 k)]) [(0, _), (2, _)] (fun (k : Nat) => []) (fun (k : Nat) => k) 0 rfl sbA sbA hzB ?_
  rintro k hk
  subst hk
  refine c_seq fun _ hK4 => ?_
  refine c_seq fun _ hK5 => ?_
  refine c_region ?_
  refine o_step rfl (s_move rfl) ?_
  refine o_step rfl (s_move rfl) ?_
  refine o_step rfl (s_nil rfl) ?_
  refine o_step rfl (s_field rfl rfl (by decide)) ?_
  refine o_step rfl (s_ld rfl ((RdPK.old0 hw).cel hb rfl)) ?_
  refine o_step rfl (s_len rfl) ?_
  refine o_step rfl (s_lss_f rfl rfl (by decide)) ?_
  refine o_nil ?_
  refine x_then (hK5 _ _ ?_)
  refine c_false rfl ?_
  refine c_exit ?_
  refine x_then_exit ?_
  refine x_then_exit ?_
  refine x_block_exit ?_
  refine x_then (hK2 _ _ ?_)
  refine c_seq fun _ hK6 => ?_
  refine c_region ?_
  refine o_step rfl (s_assign rfl) ?_
  refine o_step rfl (s_assign rfl) ?_
  refine o_nil ?_
  refine x_then (hK6 _ _ ?_)
  refine c_seq fun _ hK7 => ?_
  refine c_seq fun _ hK8 => ?_
  refine c_region ?_
  refine o_step rfl (s_assign rfl) ?_
  refine o_nil ?_
  refine x_then (hK8 _ _ ?_)
  refine c_block ?_
  refine c_loopB (fun (k : Nat) => k = 0) (fun (k : Nat) => [(7, .int .i64 k), (6, .slice none 0 0), (5, .slice none 0 0)]) [(0, _), (2, _)] (fun (k : Nat) => []) (fun (k : Nat) => k) 0 rfl sbA sbA hzB ?_
  rintro k hk
  subst hk
  refine c_seq fun _ hK9 => ?_
  refine c_seq fun _ hK10 => ?_
  refine c_region ?_
  refine o_step rfl (s_move rfl) ?_
  refine o_step rfl (s_move rfl) ?_
  refine o_step rfl (s_nil rfl) ?_
  refine o_step rfl (s_field rfl rfl (by decide)) ?_
  refine o_step rfl (s_ld rfl ((RdPK.old0 hw).cel hb rfl)) ?_
  refine o_step rfl (s_len rfl) ?_
  refine o_step rfl (s_lss_f rfl rfl (by decide)) ?_
  refine o_nil ?_
  refine x_then (hK10 _ _ ?_)
  refine c_false rfl ?_
  refine c_exit ?_
  refine x_then_exit ?_
  refine x_then_exit ?_
  refine x_block_exit ?_
  refine x_then (hK7 _ _ ?_)
  refine c_seq fun _ hK11 => ?_
  refine c_seq fun _ hK12 => ?_
  refine c_region ?_
  refine o_step rfl (s_assign rfl) ?_
  refine o_nil ?_
  refine x_then (hK12 _ _ ?_)
  refine c_block ?_
  -- not carried: 2
  refine c_loopB (fun (k : Nat) => k = 0) (fun (k : Nat) => [(10, .int .i64 k)]) [(0, _), (5, _), (6, _)] (fun (k : Nat) => []) (fun (k : Nat) => k) 0 rfl sbA sbA hzB ?_
  rintro k hk
  subst hk
  refine c_seq fun _ hK13 => ?_
  refine c_seq fun _ hK14 => ?_
  refine c_region ?_
  refine o_step rfl (s_move rfl) ?_
  refine o_step rfl (s_move rfl) ?_
  refine o_step rfl (s_len rfl) ?_
  refine o_step rfl (s_lss_f rfl rfl (by decide)) ?_
  refine o_nil ?_
  refine x_then (hK14 _ _ ?_)
  refine c_false rfl ?_
  refine c_exit ?_
  refine x_then_exit ?_
  refine x_then_exit ?_
  refine x_block_exit ?_
  refine x_then (hK11 _ _ ?_)
  refine c_seq fun _ hK15 => ?_
  refine c_region ?_
  refine o_step rfl (s_assign rfl) ?_
  refine o_nil ?_
  refine x_then (hK15 _ _ ?_)
  refine c_ret ?_
  refine ?_
  exact x_ret rfl (.tmp rfl (.nil)) (rfl)
theorem apartInts0_fn (b : Nat) (cs : List Value) (hb : cs[1]? = some (.slice none 0 0)) : HL.Fn Tryd.prog 58 [.pointer (some ⟨b, 0, none⟩)] (fun w => RdP w b 0 cs) [] (fun v _ => v = .bool true) := by
  refine fn_of Tryd.func58 rfl rfl rfl fun w0 hw => ?_
  refine c_seq fun _ hK1 => ?_
  refine c_region ?_
  refine o_step rfl (s_assign rfl) ?_
  refine o_nil ?_
  refine x_then (hK1 _ _ ?_)
  refine c_seq fun _ hK2 => ?_
  refine c_seq fun _ hK3 => ?_
  refine c_region ?_
  refine o_step rfl (s_assign rfl) ?_
  refine o_nil ?_
  refine x_then (hK3 _ _ ?_)
  refine c_block ?_
  refine c_loopB (fun (k : Nat) => k = 0) (fun (k : Nat) => [(3, .int .i64 k)]) [(0, _), (2, _)] (fun (k : Nat) => []) (fun (k : Nat) => k) 0 rfl sbA sbA hzB ?_
  rintro k hk
  subst hk
  refine c_seq fun _ hK4 => ?_
  refine c_seq fun _ hK5 => ?_
  refine c_region ?_
  refine o_step rfl (s_move rfl) ?_
  refine o_step rfl (s_move rfl) ?_
  refine o_step rfl (s_nil rfl) ?_
  refine o_step rfl (s_field rfl rfl (by decide)) ?_
  refine o_step rfl (s_ld rfl ((RdPK.old0 hw).cel hb rfl)) ?_
  refine o_step rfl (s_len rfl) ?_
  refine o_step rfl (s_lss_f rfl rfl (by decide)) ?_
  refine o_nil ?_
  refine x_then (hK5 _ _ ?_)
  refine c_false rfl ?_
  refine c_exit ?_
  refine x_then_exit ?_
  refine x_then_exit ?_
  refine x_block_exit ?_
  refine x_then (hK2 _ _ ?_)
  refine c_seq fun _ hK6 => ?_
  refine c_region ?_
  refine o_step rfl (s_assign rfl) ?_
  refine o_step rfl (s_assign rfl) ?_
  refine o_nil ?_
  refine x_then (hK6 _ _ ?_)
  refine c_seq fun _ hK7 => ?_
  refine c_seq fun _ hK8 => ?_
  refine c_region ?_
  refine o_step rfl (s_assign rfl) ?_
  refine o_nil ?_
  refine x_then (hK8 _ _ ?_)
  refine c_block ?_
  refine c_loopB (fun (k : Nat) => k = 0) (fun (k : Nat) => [(7, .int .i64 k), (6, .slice none 0 0), (5, .slice none 0 0)]) [(0, _), (2, _)] (fun (k : Nat) => []) (fun (k : Nat) => k) 0 rfl sbA sbA hzB ?_
  rintro k hk
  subst hk
  refine c_seq fun _ hK9 => ?_
  refine c_seq fun _ hK10 => ?_
  refine c_region ?_
  refine o_step rfl (s_move rfl) ?_
  refine o_step rfl (s_move rfl) ?_
  refine o_step rfl (s_nil rfl) ?_
  refine o_step rfl (s_field rfl rfl (by decide)) ?_
  refine o_step rfl (s_ld rfl ((RdPK.old0 hw).cel hb rfl)) ?_
  refine o_step rfl (s_len rfl) ?_
  refine o_step rfl (s_lss_f rfl rfl (by decide)) ?_
  refine o_nil ?_
  refine x_then (hK10 _ _ ?_)
  refine c_false rfl ?_
  refine c_exit ?_
  refine x_then_exit ?_
  refine x_then_exit ?_
  refine x_block_exit ?_
  refine x_then (hK7 _ _ ?_)
  refine c_seq fun _ hK11 => ?_
  refine c_seq fun _ hK12 => ?_
  refine c_region ?_
  refine o_step rfl (s_assign rfl) ?_
  refine o_nil ?_
  refine x_then (hK12 _ _ ?_)
  refine c_block ?_
  -- not carried: 2
  refine c_loopB (fun (k : Nat) => k = 0) (fun (k : Nat) => [(10, .int .i64 k)]) [(0, _), (5, _), (6, _)] (fun (k : Nat) => []) (fun (k : Nat) => k) 0 rfl sbA sbA hzB ?_
  rintro k hk
  subst hk
  refine c_seq fun _ hK13 => ?_
  refine c_seq fun _ hK14 => ?_
  refine c_region ?_
  refine o_step rfl (s_move rfl) ?_
  refine o_step rfl (s_move rfl) ?_
  refine o_step rfl (s_len rfl) ?_
  refine o_step rfl (s_lss_f rfl rfl (by decide)) ?_
  refine o_nil ?_
  refine x_then (hK14 _ _ ?_)
  refine c_false rfl ?_
  refine c_exit ?_
  refine x_then_exit ?_
  refine x_then_exit ?_
  refine x_block_exit ?_
  refine x_then (hK11 _ _ ?_)
  refine c_seq fun _ hK15 => ?_
  refine c_region ?_
  refine o_step rfl (s_assign rfl) ?_
  refine o_nil ?_
  refine x_then (hK15 _ _ ?_)
  refine c_ret ?_
  refine ?_
  exact x_ret rfl (.tmp rfl (.nil)) (rfl)
theorem apartBools0_fn (b : Nat) (cs : List Value) (hb : cs[2]? = some (.slice none 0 0)) : HL.Fn Tryd.prog 59 [.pointer (some ⟨b, 0, none⟩)] (fun w => RdP w b 0 cs) [] (fun v _ => v = .bool true) := by
  refine fn_of Tryd.func59 rfl rfl rfl fun w0 hw => ?_
  refine c_seq fun _ hK1 => ?_
  refine c_region ?_
  refine o_step rfl (s_assign rfl) ?_
  refine o_nil ?_
  refine x_then (hK1 _ _ ?_)
  refine c_seq fun _ hK2 => ?_
  refine c_seq fun _ hK3 => ?_
  refine c_region ?_
  refine o_step rfl (s_assign rfl) ?_
  refine o_nil ?_
  refine x_then (hK3 _ _ ?_)
  refine c_block ?_
  refine c_loopB (fun (k : Nat) => k = 0) (fun (k : Nat) => [(3, .int .i64 k)]) [(0, _), (2, _)] (fun (k : Nat) => []) (fun (k : Nat) => k) 0 rfl sbA sbA hzB ?_
  rintro k hk
  subst hk
  refine c_seq fun _ hK4 => ?_
  refine c_seq fun _ hK5 => ?_
  refine c_region ?_
  refine o_step rfl (s_move rfl) ?_
  refine o_step rfl (s_move rfl) ?_
  refine o_step rfl (s_nil rfl) ?_
  refine o_step rfl (s_field rfl rfl (by decide)) ?_
  refine o_step rfl (s_ld rfl ((RdPK.old0 hw).cel hb rfl)) ?_
  refine o_step rfl (s_len rfl) ?_
  refine o_step rfl (s_lss_f rfl rfl (by decide)) ?_
  refine o_nil ?_
  refine x_then (hK5 _ _ ?_)
  refine c_false rfl ?_
  refine c_exit ?_
  refine x_then_exit ?_
  refine x_then_exit ?_
  refine x_block_exit ?_
  refine x_then (hK2 _ _ ?_)
  refine c_seq fun _ hK6 => ?_
  refine c_region ?_
  refine o_step rfl (s_assign rfl) ?_
  refine o_step rfl (s_assign rfl) ?_
  refine o_nil ?_
  refine x_then (hK6 _ _ ?_)
  refine c_seq fun _ hK7 => ?_
  refine c_seq fun _ hK8 => ?_
  refine c_region ?_
  refine o_step rfl (s_assign rfl) ?_
  refine o_nil ?_
  refine x_then (hK8 _ _ ?_)
  refine c_block ?_
  refine c_loopB (fun (k : Nat) => k = 0) (fun (k : Nat) => [(7, .int .i64 k), (6, .slice none 0 0), (5, .slice none 0 0)]) [(0, _), (2, _)] (fun (k : Nat) => []) (fun (k : Nat) => k) 0 rfl sbA sbA hzB ?_
  rintro k hk
  subst hk
  refine c_seq fun _ hK9 => ?_
  refine c_seq fun _ hK10 => ?_
  refine c_region ?_
  refine o_step rfl (s_move rfl) ?_
  refine o_step rfl (s_move rfl) ?_
  refine o_step rfl (s_nil rfl) ?_
  refine o_step rfl (s_field rfl rfl (by decide)) ?_
  refine o_step rfl (s_ld rfl ((RdPK.old0 hw).cel hb rfl)) ?_
  refine o_step rfl (s_len rfl) ?_
  refine o_step rfl (s_lss_f rfl rfl (by decide)) ?_
  refine o_nil ?_
  refine x_then (hK10 _ _ ?_)
  refine c_false rfl ?_
  refine c_exit ?_
  refine x_then_exit ?_
  refine x_then_exit ?_
  refine x_block_exit ?_
  refine x_then (hK7 _ _ ?_)
  refine c_seq fun _ hK11 => ?_
  refine c_seq fun _ hK12 => ?_
  refine c_region ?_
  refine o_step rfl (s_assign rfl) ?_
  refine o_nil ?_
  refine x_then (hK12 _ _ ?_)
  refine c_block ?_
  -- not carried: 2
  refine c_loopB (fun (k : Nat) => k = 0) (fun (k : Nat) => [(10, .int .i64 k)]) [(0, _), (5, _), (6, _)] (fun (k : Nat) => []) (fun (k : Nat) => k) 0 rfl sbA sbA hzB ?_
  rintro k hk
  subst hk
  refine c_seq fun _ hK13 => ?_
  refine c_seq fun _ hK14 => ?_
  refine c_region ?_
  refine o_step rfl (s_move rfl) ?_
  refine o_step rfl (s_move rfl) ?_
  refine o_step rfl (s_len rfl) ?_
  refine o_step rfl (s_lss_f rfl rfl (by decide)) ?_
  refine o_nil ?_
  refine x_then (hK14 _ _ ?_)
  refine c_false rfl ?_
  refine c_exit ?_
  refine x_then_exit ?_
  refine x_then_exit ?_
  refine x_block_exit ?_
  refine x_then (hK11 _ _ ?_)
  refine c_seq fun _ hK15 => ?_
  refine c_region ?_
  refine o_step rfl (s_assign rfl) ?_
  refine o_nil ?_
  refine x_then (hK15 _ _ ?_)
  refine c_ret ?_
  refine ?_
  exact x_ret rfl (.tmp rfl (.nil)) (rfl)
theorem apartTexts0_fn (b : Nat) (cs : List Value) (hb : cs[3]? = some (.slice none 0 0)) : HL.Fn Tryd.prog 60 [.pointer (some ⟨b, 0, none⟩)] (fun w => RdP w b 0 cs) [] (fun v _ => v = .bool true) := by
  refine fn_of Tryd.func60 rfl rfl rfl fun w0 hw => ?_
  refine c_seq fun _ hK1 => ?_
  refine c_region ?_
  refine o_step rfl (s_assign rfl) ?_
  refine o_nil ?_
  refine x_then (hK1 _ _ ?_)
  refine c_seq fun _ hK2 => ?_
  refine c_seq fun _ hK3 => ?_
  refine c_region ?_
  refine o_step rfl (s_assign rfl) ?_
  refine o_nil ?_
  refine x_then (hK3 _ _ ?_)
  refine c_block ?_
  refine c_loopB (fun (k : Nat) => k = 0) (fun (k : Nat) => [(3, .int .i64 k)]) [(0, _), (2, _)] (fun (k : Nat) => []) (fun (k : Nat) => k) 0 rfl sbA sbA hzB ?_
  rintro k hk
  subst hk
  refine c_seq fun _ hK4 => ?_
  refine c_seq fun _ hK5 => ?_
  refine c_region ?_
  refine o_step rfl (s_move rfl) ?_
  refine o_step rfl (s_move rfl) ?_
  refine o_step rfl (s_nil rfl) ?_
  refine o_step rfl (s_field rfl rfl (by decide)) ?_
  refine o_step rfl (s_ld rfl ((RdPK.old0 hw).cel hb rfl)) ?_
  refine o_step rfl (s_len rfl) ?_
  refine o_step rfl (s_lss_f rfl rfl (by decide)) ?_
  refine o_nil ?_
  refine x_then (hK5 _ _ ?_)
  refine c_false rfl ?_
  refine c_exit ?_
  refine x_then_exit ?_
  refine x_then_exit ?_
  refine x_block_exit ?_
  refine x_then (hK2 _ _ ?_)
  refine c_seq fun _ hK6 => ?_
  refine c_region ?_
  refine o_step rfl (s_assign rfl) ?_
  refine o_step rfl (s_assign rfl) ?_
  refine o_nil ?_
  refine x_then (hK6 _ _ ?_)
  refine c_seq fun _ hK7 => ?_
  refine c_seq fun _ hK8 => ?_
  refine c_region ?_
  refine o_step rfl (s_assign rfl) ?_
  refine o_nil ?_
  refine x_then (hK8 _ _ ?_)
  refine c_block ?_
  refine c_loopB (fun (k : Nat) => k = 0) (fun (k : Nat) => [(7, .int .i64 k), (6, .slice none 0 0), (5, .slice none 0 0)]) [(0, _), (2, _)] (fun (k : Nat) => []) (fun (k : Nat) => k) 0 rfl sbA sbA hzB ?_
  rintro k hk
  subst hk
  refine c_seq fun _ hK9 => ?_
  refine c_seq fun _ hK10 => ?_
  refine c_region ?_
  refine o_step rfl (s_move rfl) ?_
  refine o_step rfl (s_move rfl) ?_
  refine o_step rfl (s_nil rfl) ?_
  refine o_step rfl (s_field rfl rfl (by decide)) ?_
  refine o_step rfl (s_ld rfl ((RdPK.old0 hw).cel hb rfl)) ?_
  refine o_step rfl (s_len rfl) ?_
  refine o_step rfl (s_lss_f rfl rfl (by decide)) ?_
  refine o_nil ?_
  refine x_then (hK10 _ _ ?_)
  refine c_false rfl ?_
  refine c_exit ?_
  refine x_then_exit ?_
  refine x_then_exit ?_
  refine x_block_exit ?_
  refine x_then (hK7 _ _ ?_)
  refine c_seq fun _ hK11 => ?_
  refine c_seq fun _ hK12 => ?_
  refine c_region ?_
  refine o_step rfl (s_assign rfl) ?_
  refine o_nil ?_
  refine x_then (hK12 _ _ ?_)
  refine c_block ?_
  -- not carried: 2
  refine c_loopB (fun (k : Nat) => k = 0) (fun (k : Nat) => [(10, .int .i64 k)]) [(0, _), (5, _), (6, _)] (fun (k : Nat) => []) (fun (k : Nat) => k) 0 rfl sbA sbA hzB ?_
  rintro k hk
  subst hk
  refine c_seq fun _ hK13 => ?_
  refine c_seq fun _ hK14 => ?_
  refine c_region ?_
  refine o_step rfl (s_move rfl) ?_
  refine o_step rfl (s_move rfl) ?_
  refine o_step rfl (s_len rfl) ?_
  refine o_step rfl (s_lss_f rfl rfl (by decide)) ?_
  refine o_nil ?_
  refine x_then (hK14 _ _ ?_)
  refine c_false rfl ?_
  refine c_exit ?_
  refine x_then_exit ?_
  refine x_then_exit ?_
  refine x_block_exit ?_
  refine x_then (hK11 _ _ ?_)
  refine c_seq fun _ hK15 => ?_
  refine c_region ?_
  refine o_step rfl (s_assign rfl) ?_
  refine o_nil ?_
  refine x_then (hK15 _ _ ?_)
  refine c_ret ?_
  refine ?_
  exact x_ret rfl (.tmp rfl (.nil)) (rfl)
theorem apartMarks0_fn (b : Nat) (cs : List Value) (hb : cs[4]? = some (.slice none 0 0)) : HL.Fn Tryd.prog 61 [.pointer (some ⟨b, 0, none⟩)] (fun w => RdP w b 0 cs) [] (fun v _ => v = .bool true) := by
  refine fn_of Tryd.func61 rfl rfl rfl fun w0 hw => ?_
  refine c_seq fun _ hK1 => ?_
  refine c_region ?_
  refine o_step rfl (s_assign rfl) ?_
  refine o_nil ?_
  refine x_then (hK1 _ _ ?_)
  refine c_seq fun _ hK2 => ?_
  refine c_seq fun _ hK3 => ?_
  refine c_region ?_
  refine o_step rfl (s_assign rfl) ?_
  refine o_nil ?_
  refine x_then (hK3 _ _ ?_)
  refine c_block ?_
  refine c_loopB (fun (k : Nat) => k = 0) (fun (k : Nat) => [(3, .int .i64 k)]) [(0, _), (2, _)] (fun (k : Nat) => []) (fun (k : Nat) => k) 0 rfl sbA sbA hzB ?_
  rintro k hk
  subst hk
  refine c_seq fun _ hK4 => ?_
  refine c_seq fun _ hK5 => ?_
  refine c_region ?_
  refine o_step rfl (s_move rfl) ?_
  refine o_step rfl (s_move rfl) ?_
  refine o_step rfl (s_nil rfl) ?_
  refine o_step rfl (s_field rfl rfl (by decide)) ?_
  refine o_step rfl (s_ld rfl ((RdPK.old0 hw).cel hb rfl)) ?_
  refine o_step rfl (s_len rfl) ?_
  refine o_step rfl (s_lss_f rfl rfl (by decide)) ?_
  refine o_nil ?_
  refine x_then (hK5 _ _ ?_)
  refine c_false rfl ?_
  refine c_exit ?_
  refine x_then_exit ?_
  refine x_then_exit ?_
  refine x_block_exit ?_
  refine x_then (hK2 _ _ ?_)
  refine c_seq fun _ hK6 => ?_
  refine c_region ?_
  refine o_step rfl (s_assign rfl) ?_
  refine o_step rfl (s_assign rfl) ?_
  refine o_nil ?_
  refine x_then (hK6 _ _ ?_)
  refine c_seq fun _ hK7 => ?_
  refine c_seq fun _ hK8 => ?_
  refine c_region ?_
  refine o_step rfl (s_assign rfl) ?_
  refine o_nil ?_
  refine x_then (hK8 _ _ ?_)
  refine c_block ?_
  refine c_loopB (fun (k : Nat) => k = 0) (fun (k : Nat) => [(7, .int .i64 k), (6, .slice none 0 0), (5, .slice none 0 0)]) [(0, _), (2, _)] (fun (k : Nat) => []) (fun (k : Nat) => k) 0 rfl sbA sbA hzB ?_
  rintro k hk
  subst hk
  refine c_seq fun _ hK9 => ?_
  refine c_seq fun _ hK10 => ?_
  refine c_region ?_
  refine o_step rfl (s_move rfl) ?_
  refine o_step rfl (s_move rfl) ?_
  refine o_step rfl (s_nil rfl) ?_
  refine o_step rfl (s_field rfl rfl (by decide)) ?_
  refine o_step rfl (s_ld rfl ((RdPK.old0 hw).cel hb rfl)) ?_
  refine o_step rfl (s_len rfl) ?_
  refine o_step rfl (s_lss_f rfl rfl (by decide)) ?_
  refine o_nil ?_
  refine x_then (hK10 _ _ ?_)
  refine c_false rfl ?_
  refine c_exit ?_
  refine x_then_exit ?_
  refine x_then_exit ?_
  refine x_block_exit ?_
  refine x_then (hK7 _ _ ?_)
  refine c_seq fun _ hK11 => ?_
  refine c_seq fun _ hK12 => ?_
  refine c_region ?_
  refine o_step rfl (s_assign rfl) ?_
  refine o_nil ?_
  refine x_then (hK12 _ _ ?_)
  refine c_block ?_
  -- not carried: 2
  refine c_loopB (fun (k : Nat) => k = 0) (fun (k : Nat) => [(10, .int .i64 k)]) [(0, _), (5, _), (6, _)] (fun (k : Nat) => []) (fun (k : Nat) => k) 0 rfl sbA sbA hzB ?_
  rintro k hk
  subst hk
  refine c_seq fun _ hK13 => ?_
  refine c_seq fun _ hK14 => ?_
  refine c_region ?_
  refine o_step rfl (s_move rfl) ?_
  refine o_step rfl (s_move rfl) ?_
  refine o_step rfl (s_len rfl) ?_
  refine o_step rfl (s_lss_f rfl rfl (by decide)) ?_
  refine o_nil ?_
  refine x_then (hK14 _ _ ?_)
  refine c_false rfl ?_
  refine c_exit ?_
  refine x_then_exit ?_
  refine x_then_exit ?_
  refine x_block_exit ?_
  refine x_then (hK11 _ _ ?_)
  refine c_seq fun _ hK15 => ?_
  refine c_region ?_
  refine o_step rfl (s_assign rfl) ?_
  refine o_nil ?_
  refine x_then (hK15 _ _ ?_)
  refine c_ret ?_
  refine ?_
  exact x_ret rfl (.tmp rfl (.nil)) (rfl)
theorem apartSpans0_fn (b : Nat) (cs : List Value) (hb : cs[5]? = some (.slice none 0 0)) : HL.Fn Tryd.prog 62 [.pointer (some ⟨b, 0, none⟩)] (fun w => RdP w b 0 cs) [] (fun v _ => v = .bool true) := by
  refine fn_of Tryd.func62 rfl rfl rfl fun w0 hw => ?_
  refine c_seq fun _ hK1 => ?_
  refine c_region ?_
  refine o_step rfl (s_assign rfl) ?_
  refine o_nil ?_
  refine x_then (hK1 _ _ ?_)
  refine c_seq fun _ hK2 => ?_
  refine c_seq fun _ hK3 => ?_
  refine c_region ?_
  refine o_step rfl (s_assign rfl) ?_
  refine o_nil ?_
  refine x_then (hK3 _ _ ?_)
  refine c_block ?_
  refine c_loopB (fun (k : Nat) => k = 0) (fun (k : Nat) => [(3, .int .i64 k)]) [(0, _), (2, _)] (fun (k : Nat) => []) (fun (k : Nat) => k) 0 rfl sbA sbA hzB ?_
  rintro k hk
  subst hk
  refine c_seq fun _ hK4 => ?_
  refine c_seq fun _ hK5 => ?_
  refine c_region ?_
  refine o_step rfl (s_move rfl) ?_
  refine o_step rfl (s_move rfl) ?_
  refine o_step rfl (s_nil rfl) ?_
  refine o_step rfl (s_field rfl rfl (by decide)) ?_
  refine o_step rfl (s_ld rfl ((RdPK.old0 hw).cel hb rfl)) ?_
  refine o_step rfl (s_len rfl) ?_
  refine o_step rfl (s_lss_f rfl rfl (by decide)) ?_
  refine o_nil ?_
  refine x_then (hK5 _ _ ?_)
  refine c_false rfl ?_
  refine c_exit ?_
  refine x_then_exit ?_
  refine x_then_exit ?_
  refine x_block_exit ?_
  refine x_then (hK2 _ _ ?_)
  refine c_seq fun _ hK6 => ?_
  refine c_region ?_
  refine o_step rfl (s_assign rfl) ?_
  refine o_step rfl (s_assign rfl) ?_
  refine o_nil ?_
  refine x_then (hK6 _ _ ?_)
  refine c_seq fun _ hK7 => ?_
  refine c_seq fun _ hK8 => ?_
  refine c_region ?_
  refine o_step rfl (s_assign rfl) ?_
  refine o_nil ?_
  refine x_then (hK8 _ _ ?_)
  refine c_block ?_
  refine c_loopB (fun (k : Nat) => k = 0) (fun (k : Nat) => [(7, .int .i64 k), (6, .slice none 0 0), (5, .slice none 0 0)]) [(0, _), (2, _)] (fun (k : Nat) => []) (fun (k : Nat) => k) 0 rfl sbA sbA hzB ?_
  rintro k hk
  subst hk
  refine c_seq fun _ hK9 => ?_
  refine c_seq fun _ hK10 => ?_
  refine c_region ?_
  refine o_step rfl (s_move rfl) ?_
  refine o_step rfl (s_move rfl) ?_
  refine o_step rfl (s_nil rfl) ?_
  refine o_step rfl (s_field rfl rfl (by decide)) ?_
  refine o_step rfl (s_ld rfl ((RdPK.old0 hw).cel hb rfl)) ?_
  refine o_step rfl (s_len rfl) ?_
  refine o_step rfl (s_lss_f rfl rfl (by decide)) ?_
  refine o_nil ?_
  refine x_then (hK10 _ _ ?_)
  refine c_false rfl ?_
  refine c_exit ?_
  refine x_then_exit ?_
  refine x_then_exit ?_
  refine x_block_exit ?_
  refine x_then (hK7 _ _ ?_)
  refine c_seq fun _ hK11 => ?_
  refine c_seq fun _ hK12 => ?_
  refine c_region ?_
  refine o_step rfl (s_assign rfl) ?_
  refine o_nil ?_
  refine x_then (hK12 _ _ ?_)
  refine c_block ?_
  -- not carried: 2
  refine c_loopB (fun (k : Nat) => k = 0) (fun (k : Nat) => [(10, .int .i64 k)]) [(0, _), (5, _), (6, _)] (fun (k : Nat) => []) (fun (k : Nat) => k) 0 rfl sbA sbA hzB ?_
  rintro k hk
  subst hk
  refine c_seq fun _ hK13 => ?_
  refine c_seq fun _ hK14 => ?_
  refine c_region ?_
  refine o_step rfl (s_move rfl) ?_
  refine o_step rfl (s_move rfl) ?_
  refine o_step rfl (s_len rfl) ?_
  refine o_step rfl (s_lss_f rfl rfl (by decide)) ?_
  refine o_nil ?_
  refine x_then (hK14 _ _ ?_)
  refine c_false rfl ?_
  refine c_exit ?_
  refine x_then_exit ?_
  refine x_then_exit ?_
  refine x_block_exit ?_
  refine x_then (hK11 _ _ ?_)
  refine c_seq fun _ hK15 => ?_
  refine c_region ?_
  refine o_step rfl (s_assign rfl) ?_
  refine o_nil ?_
  refine x_then (hK15 _ _ ?_)
  refine c_ret ?_
  refine ?_
  exact x_ret rfl (.tmp rfl (.nil)) (rfl)
theorem apartRuns0_fn (b : Nat) (cs : List Value) (hb : cs[6]? = some (.slice none 0 0)) : HL.Fn Tryd.prog 63 [.pointer (some ⟨b, 0, none⟩)] (fun w => RdP w b 0 cs) [] (fun v _ => v = .bool true) := by
  refine fn_of Tryd.func63 rfl rfl rfl fun w0 hw => ?_
  refine c_seq fun _ hK1 => ?_
  refine c_region ?_
  refine o_step rfl (s_assign rfl) ?_
  refine o_nil ?_
  refine x_then (hK1 _ _ ?_)
  refine c_seq fun _ hK2 => ?_
  refine c_seq fun _ hK3 => ?_
  refine c_region ?_
  refine o_step rfl (s_assign rfl) ?_
  refine o_nil ?_
  refine x_then (hK3 _ _ ?_)
  refine c_block ?_
  refine c_loopB (fun (k : Nat) => k = 0) (fun (k : Nat) => [(3, .int .i64 k)]) [(0, _), (2, _)] (fun (k : Nat) => []) (fun (k : Nat) => k) 0 rfl sbA sbA hzB ?_
  rintro k hk
  subst hk
  refine c_seq fun _ hK4 => ?_
  refine c_seq fun _ hK5 => ?_
  refine c_region ?_
  refine o_step rfl (s_move rfl) ?_
  refine o_step rfl (s_move rfl) ?_
  refine o_step rfl (s_nil rfl) ?_
  refine o_step rfl (s_field rfl rfl (by decide)) ?_
  refine o_step rfl (s_ld rfl ((RdPK.old0 hw).cel hb rfl)) ?_
  refine o_step rfl (s_len rfl) ?_
  refine o_step rfl (s_lss_f rfl rfl (by decide)) ?_
  refine o_nil ?_
  refine x_then (hK5 _ _ ?_)
  refine c_false rfl ?_
  refine c_exit ?_
  refine x_then_exit ?_
  refine x_then_exit ?_
  refine x_block_exit ?_
  refine x_then (hK2 _ _ ?_)
  refine c_seq fun _ hK6 => ?_
  refine c_region ?_
  refine o_step rfl (s_assign rfl) ?_
  refine o_step rfl (s_assign rfl) ?_
  refine o_nil ?_
  refine x_then (hK6 _ _ ?_)
  refine c_seq fun _ hK7 => ?_
  refine c_seq fun _ hK8 => ?_
  refine c_region ?_
  refine o_step rfl (s_assign rfl) ?_
  refine o_nil ?_
  refine x_then (hK8 _ _ ?_)
  refine c_block ?_
  refine c_loopB (fun (k : Nat) => k = 0) (fun (k : Nat) => [(7, .int .i64 k), (6, .slice none 0 0), (5, .slice none 0 0)]) [(0, _), (2, _)] (fun (k : Nat) => []) (fun (k : Nat) => k) 0 rfl sbA sbA hzB ?_
  rintro k hk
  subst hk
  refine c_seq fun _ hK9 => ?_
  refine c_seq fun _ hK10 => ?_
  refine c_region ?_
  refine o_step rfl (s_move rfl) ?_
  refine o_step rfl (s_move rfl) ?_
  refine o_step rfl (s_nil rfl) ?_
  refine o_step rfl (s_field rfl rfl (by decide)) ?_
  refine o_step rfl (s_ld rfl ((RdPK.old0 hw).cel hb rfl)) ?_
  refine o_step rfl (s_len rfl) ?_
  refine o_step rfl (s_lss_f rfl rfl (by decide)) ?_
  refine o_nil ?_
  refine x_then (hK10 _ _ ?_)
  refine c_false rfl ?_
  refine c_exit ?_
  refine x_then_exit ?_
  refine x_then_exit ?_
  refine x_block_exit ?_
  refine x_then (hK7 _ _ ?_)
  refine c_seq fun _ hK11 => ?_
  refine c_seq fun _ hK12 => ?_
  refine c_region ?_
  refine o_step rfl (s_assign rfl) ?_
  refine o_nil ?_
  refine x_then (hK12 _ _ ?_)
  refine c_block ?_
  -- not carried: 2
  refine c_loopB (fun (k : Nat) => k = 0) (fun (k : Nat) => [(10, .int .i64 k)]) [(0, _), (5, _), (6, _)] (fun (k : Nat) => []) (fun (k : Nat) => k) 0 rfl sbA sbA hzB ?_
  rintro k hk
  subst hk
  refine c_seq fun _ hK13 => ?_
  refine c_seq fun _ hK14 => ?_
  refine c_region ?_
  refine o_step rfl (s_move rfl) ?_
  refine o_step rfl (s_move rfl) ?_
  refine o_step rfl (s_len rfl) ?_
  refine o_step rfl (s_lss_f rfl rfl (by decide)) ?_
  refine o_nil ?_
  refine x_then (hK14 _ _ ?_)
  refine c_false rfl ?_
  refine c_exit ?_
  refine x_then_exit ?_
  refine x_then_exit ?_
  refine x_block_exit ?_
  refine x_then (hK11 _ _ ?_)
  refine c_seq fun _ hK15 => ?_
  refine c_region ?_
  refine o_step rfl (s_assign rfl) ?_
  refine o_nil ?_
  refine x_then (hK15 _ _ ?_)
  refine c_ret ?_
  refine ?_
  exact x_ret rfl (.tmp rfl (.nil)) (rfl)
theorem apartClasses0_fn (b : Nat) (cs : List Value) (hb : cs[7]? = some (.slice none 0 0)) : HL.Fn Tryd.prog 64 [.pointer (some ⟨b, 0, none⟩)] (fun w => RdP w b 0 cs) [] (fun v _ => v = .bool true) := by
  refine fn_of Tryd.func64 rfl rfl rfl fun w0 hw => ?_
  refine c_seq fun _ hK1 => ?_
  refine c_region ?_
  refine o_step rfl (s_assign rfl) ?_
  refine o_nil ?_
  refine x_then (hK1 _ _ ?_)
  refine c_seq fun _ hK2 => ?_
  refine c_seq fun _ hK3 => ?_
  refine c_region ?_
  refine o_step rfl (s_assign rfl) ?_
  refine o_nil ?_
  refine x_then (hK3 _ _ ?_)
  refine c_block ?_
  refine c_loopB (fun (k : Nat) => k = 0) (fun (k : Nat) => [(3, .int .i64 k)]) [(0, _), (2, _)] (fun (k : Nat) => []) (fun (k : Nat) => k) 0 rfl sbA sbA hzB ?_
  rintro k hk
  subst hk
  refine c_seq fun _ hK4 => ?_
  refine c_seq fun _ hK5 => ?_
  refine c_region ?_
  refine o_step rfl (s_move rfl) ?_
  refine o_step rfl (s_move rfl) ?_
  refine o_step rfl (s_nil rfl) ?_
  refine o_step rfl (s_field rfl rfl (by decide)) ?_
  refine o_step rfl (s_ld rfl ((RdPK.old0 hw).cel hb rfl)) ?_
  refine o_step rfl (s_len rfl) ?_
  refine o_step rfl (s_lss_f rfl rfl (by decide)) ?_
  refine o_nil ?_
  refine x_then (hK5 _ _ ?_)
  refine c_false rfl ?_
  refine c_exit ?_
  refine x_then_exit ?_
  refine x_then_exit ?_
  refine x_block_exit ?_
  refine x_then (hK2 _ _ ?_)
  refine c_seq fun _ hK6 => ?_
  refine c_region ?_
  refine o_step rfl (s_assign rfl) ?_
  refine o_step rfl (s_assign rfl) ?_
  refine o_nil ?_
  refine x_then (hK6 _ _ ?_)
  refine c_seq fun _ hK7 => ?_
  refine c_seq fun _ hK8 => ?_
  refine c_region ?_
  refine o_step rfl (s_assign rfl) ?_
  refine o_nil ?_
  refine x_then (hK8 _ _ ?_)
  refine c_block ?_
  refine c_loopB (fun (k : Nat) => k = 0) (fun (k : Nat) => [(7, .int .i64 k), (6, .slice none 0 0), (5, .slice none 0 0)]) [(0, _), (2, _)] (fun (k : Nat) => []) (fun (k : Nat) => k) 0 rfl sbA sbA hzB ?_
  rintro k hk
  subst hk
  refine c_seq fun _ hK9 => ?_
  refine c_seq fun _ hK10 => ?_
  refine c_region ?_
  refine o_step rfl (s_move rfl) ?_
  refine o_step rfl (s_move rfl) ?_
  refine o_step rfl (s_nil rfl) ?_
  refine o_step rfl (s_field rfl rfl (by decide)) ?_
  refine o_step rfl (s_ld rfl ((RdPK.old0 hw).cel hb rfl)) ?_
  refine o_step rfl (s_len rfl) ?_
  refine o_step rfl (s_lss_f rfl rfl (by decide)) ?_
  refine o_nil ?_
  refine x_then (hK10 _ _ ?_)
  refine c_false rfl ?_
  refine c_exit ?_
  refine x_then_exit ?_
  refine x_then_exit ?_
  refine x_block_exit ?_
  refine x_then (hK7 _ _ ?_)
  refine c_seq fun _ hK11 => ?_
  refine c_seq fun _ hK12 => ?_
  refine c_region ?_
  refine o_step rfl (s_assign rfl) ?_
  refine o_nil ?_
  refine x_then (hK12 _ _ ?_)
  refine c_block ?_
  -- not carried: 2
  refine c_loopB (fun (k : Nat) => k = 0) (fun (k : Nat) => [(10, .int .i64 k)]) [(0, _), (5, _), (6, _)] (fun (k : Nat) => []) (fun (k : Nat) => k) 0 rfl sbA sbA hzB ?_
  rintro k hk
  subst hk
  refine c_seq fun _ hK13 => ?_
  refine c_seq fun _ hK14 => ?_
  refine c_region ?_
  refine o_step rfl (s_move rfl) ?_
  refine o_step rfl (s_move rfl) ?_
  refine o_step rfl (s_len rfl) ?_
  refine o_step rfl (s_lss_f rfl rfl (by decide)) ?_
  refine o_nil ?_
  refine x_then (hK14 _ _ ?_)
  refine c_false rfl ?_
  refine c_exit ?_
  refine x_then_exit ?_
  refine x_then_exit ?_
  refine x_block_exit ?_
  refine x_then (hK11 _ _ ?_)
  refine c_seq fun _ hK15 => ?_
  refine c_region ?_
  refine o_step rfl (s_assign rfl) ?_
  refine o_nil ?_
  refine x_then (hK15 _ _ ?_)
  refine c_ret ?_
  refine ?_
  exact x_ret rfl (.tmp rfl (.nil)) (rfl)
theorem apartNodes0_fn (b : Nat) (cs : List Value) (hb : cs[8]? = some (.slice none 0 0)) : HL.Fn Tryd.prog 65 [.pointer (some ⟨b, 0, none⟩)] (fun w => RdP w b 0 cs) [] (fun v _ => v = .bool true) := by
  refine fn_of Tryd.func65 rfl rfl rfl fun w0 hw => ?_
  refine c_seq fun _ hK1 => ?_
  refine c_region ?_
  refine o_step rfl (s_assign rfl) ?_
  refine o_nil ?_
  refine x_then (hK1 _ _ ?_)
  refine c_seq fun _ hK2 => ?_
  refine c_seq fun _ hK3 => ?_
  refine c_region ?_
  refine o_step rfl (s_assign rfl) ?_
  refine o_nil ?_
  refine x_then (hK3 _ _ ?_)
  refine c_block ?_
  refine c_loopB (fun (k : Nat) => k = 0) (fun (k : Nat) => [(3, .int .i64 k)]) [(0, _), (2, _)] (fun (k : Nat) => []) (fun (k : Nat) => k) 0 rfl sbA sbA hzB ?_
  rintro k hk
  subst hk
  refine c_seq fun _ hK4 => ?_
  refine c_seq fun _ hK5 => ?_
  refine c_region ?_
  refine o_step rfl (s_move rfl) ?_
  refine o_step rfl (s_move rfl) ?_
  refine o_step rfl (s_nil rfl) ?_
  refine o_step rfl (s_field rfl rfl (by decide)) ?_
  refine o_step rfl (s_ld rfl ((RdPK.old0 hw).cel hb rfl)) ?_
  refine o_step rfl (s_len rfl) ?_
  refine o_step rfl (s_lss_f rfl rfl (by decide)) ?_
  refine o_nil ?_
  refine x_then (hK5 _ _ ?_)
  refine c_false rfl ?_
  refine c_exit ?_
  refine x_then_exit ?_
  refine x_then_exit ?_
  refine x_block_exit ?_
  refine x_then (hK2 _ _ ?_)
  refine c_seq fun _ hK6 => ?_
  refine c_region ?_
  refine o_step rfl (s_assign rfl) ?_
  refine o_step rfl (s_assign rfl) ?_
  refine o_nil ?_
  refine x_then (hK6 _ _ ?_)
  refine c_seq fun _ hK7 => ?_
  refine c_seq fun _ hK8 => ?_
  refine c_region ?_
  refine o_step rfl (s_assign rfl) ?_
  refine o_nil ?_
  refine x_then (hK8 _ _ ?_)
  refine c_block ?_
  refine c_loopB (fun (k : Nat) => k = 0) (fun (k : Nat) => [(7, .int .i64 k), (6, .slice none 0 0), (5, .slice none 0 0)]) [(0, _), (2, _)] (fun (k : Nat) => []) (fun (k : Nat) => k) 0 rfl sbA sbA hzB ?_
  rintro k hk
  subst hk
  refine c_seq fun _ hK9 => ?_
  refine c_seq fun _ hK10 => ?_
  refine c_region ?_
  refine o_step rfl (s_move rfl) ?_
  refine o_step rfl (s_move rfl) ?_
  refine o_step rfl (s_nil rfl) ?_
  refine o_step rfl (s_field rfl rfl (by decide)) ?_
  refine o_step rfl (s_ld rfl ((RdPK.old0 hw).cel hb rfl)) ?_
  refine o_step rfl (s_len rfl) ?_
  refine o_step rfl (s_lss_f rfl rfl (by decide)) ?_
  refine o_nil ?_
  refine x_then (hK10 _ _ ?_)
  refine c_false rfl ?_
  refine c_exit ?_
  refine x_then_exit ?_
  refine x_then_exit ?_
  refine x_block_exit ?_
  refine x_then (hK7 _ _ ?_)
  refine c_seq fun _ hK11 => ?_
  refine c_seq fun _ hK12 => ?_
  refine c_region ?_
  refine o_step rfl (s_assign rfl) ?_
  refine o_nil ?_
  refine x_then (hK12 _ _ ?_)
  refine c_block ?_
  -- not carried: 2
  refine c_loopB (fun (k : Nat) => k = 0) (fun (k : Nat) => [(10, .int .i64 k)]) [(0, _), (5, _), (6, _)] (fun (k : Nat) => []) (fun (k : Nat) => k) 0 rfl sbA sbA hzB ?_
  rintro k hk
  subst hk
  refine c_seq fun _ hK13 => ?_
  refine c_seq fun _ hK14 => ?_
  refine c_region ?_
  refine o_step rfl (s_move rfl) ?_
  refine o_step rfl (s_move rfl) ?_
  refine o_step rfl (s_len rfl) ?_
  refine o_step rfl (s_lss_f rfl rfl (by decide)) ?_
  refine o_nil ?_
  refine x_then (hK14 _ _ ?_)
  refine c_false rfl ?_
  refine c_exit ?_
  refine x_then_exit ?_
  refine x_then_exit ?_
  refine x_block_exit ?_
  refine x_then (hK11 _ _ ?_)
  refine c_seq fun _ hK15 => ?_
  refine c_region ?_
  refine o_step rfl (s_assign rfl) ?_
  refine o_nil ?_
  refine x_then (hK15 _ _ ?_)
  refine c_ret ?_
  refine ?_
  exact x_ret rfl (.tmp rfl (.nil)) (rfl)
theorem apartInstrs0_fn (b : Nat) (cs : List Value) (hb : cs[9]? = some (.slice none 0 0)) : HL.Fn Tryd.prog 66 [.pointer (some ⟨b, 0, none⟩)] (fun w => RdP w b 0 cs) [] (fun v _ => v = .bool true) := by
  refine fn_of Tryd.func66 rfl rfl rfl fun w0 hw => ?_
  refine c_seq fun _ hK1 => ?_
  refine c_region ?_
  refine o_step rfl (s_assign rfl) ?_
  refine o_nil ?_
  refine x_then (hK1 _ _ ?_)
  refine c_seq fun _ hK2 => ?_
  refine c_seq fun _ hK3 => ?_
  refine c_region ?_
  refine o_step rfl (s_assign rfl) ?_
  refine o_nil ?_
  refine x_then (hK3 _ _ ?_)
  refine c_block ?_
  refine c_loopB (fun (k : Nat) => k = 0) (fun (k : Nat) => [(3, .int .i64 k)]) [(0, _), (2, _)] (fun (k : Nat) => []) (fun (k : Nat) => k) 0 rfl sbA sbA hzB ?_
  rintro k hk
  subst hk
  refine c_seq fun _ hK4 => ?_
  refine c_seq fun _ hK5 => ?_
  refine c_region ?_
  refine o_step rfl (s_move rfl) ?_
  refine o_step rfl (s_move rfl) ?_
  refine o_step rfl (s_nil rfl) ?_
  refine o_step rfl (s_field rfl rfl (by decide)) ?_
  refine o_step rfl (s_ld rfl ((RdPK.old0 hw).cel hb rfl)) ?_
  refine o_step rfl (s_len rfl) ?_
  refine o_step rfl (s_lss_f rfl rfl (by decide)) ?_
  refine o_nil ?_
  refine x_then (hK5 _ _ ?_)
  refine c_false rfl ?_
  refine c_exit ?_
  refine x_then_exit ?_
  refine x_then_exit ?_
  refine x_block_exit ?_
  refine x_then (hK2 _ _ ?_)
  refine c_seq fun _ hK6 => ?_
  refine c_region ?_
  refine o_step rfl (s_assign rfl) ?_
  refine o_step rfl (s_assign rfl) ?_
  refine o_nil ?_
  refine x_then (hK6 _ _ ?_)
  refine c_seq fun _ hK7 => ?_
  refine c_seq fun _ hK8 => ?_
  refine c_region ?_
  refine o_step rfl (s_assign rfl) ?_
  refine o_nil ?_
  refine x_then (hK8 _ _ ?_)
  refine c_block ?_
  refine c_loopB (fun (k : Nat) => k = 0) (fun (k : Nat) => [(7, .int .i64 k), (6, .slice none 0 0), (5, .slice none 0 0)]) [(0, _), (2, _)] (fun (k : Nat) => []) (fun (k : Nat) => k) 0 rfl sbA sbA hzB ?_
  rintro k hk
  subst hk
  refine c_seq fun _ hK9 => ?_
  refine c_seq fun _ hK10 => ?_
  refine c_region ?_
  refine o_step rfl (s_move rfl) ?_
  refine o_step rfl (s_move rfl) ?_
  refine o_step rfl (s_nil rfl) ?_
  refine o_step rfl (s_field rfl rfl (by decide)) ?_
  refine o_step rfl (s_ld rfl ((RdPK.old0 hw).cel hb rfl)) ?_
  refine o_step rfl (s_len rfl) ?_
  refine o_step rfl (s_lss_f rfl rfl (by decide)) ?_
  refine o_nil ?_
  refine x_then (hK10 _ _ ?_)
  refine c_false rfl ?_
  refine c_exit ?_
  refine x_then_exit ?_
  refine x_then_exit ?_
  refine x_block_exit ?_
  refine x_then (hK7 _ _ ?_)
  refine c_seq fun _ hK11 => ?_
  refine c_seq fun _ hK12 => ?_
  refine c_region ?_
  refine o_step rfl (s_assign rfl) ?_
  refine o_nil ?_
  refine x_then (hK12 _ _ ?_)
  refine c_block ?_
  -- not carried: 2
  refine c_loopB (fun (k : Nat) => k = 0) (fun (k : Nat) => [(10, .int .i64 k)]) [(0, _), (5, _), (6, _)] (fun (k : Nat) => []) (fun (k : Nat) => k) 0 rfl sbA sbA hzB ?_
  rintro k hk
  subst hk
  refine c_seq fun _ hK13 => ?_
  refine c_seq fun _ hK14 => ?_
  refine c_region ?_
  refine o_step rfl (s_move rfl) ?_
  refine o_step rfl (s_move rfl) ?_
  refine o_step rfl (s_len rfl) ?_
  refine o_step rfl (s_lss_f rfl rfl (by decide)) ?_
  refine o_nil ?_
  refine x_then (hK14 _ _ ?_)
  refine c_false rfl ?_
  refine c_exit ?_
  refine x_then_exit ?_
  refine x_then_exit ?_
  refine x_block_exit ?_
  refine x_then (hK11 _ _ ?_)
  refine c_seq fun _ hK15 => ?_
  refine c_region ?_
  refine o_step rfl (s_assign rfl) ?_
  refine o_nil ?_
  refine x_then (hK15 _ _ ?_)
  refine c_ret ?_
  refine ?_
  exact x_ret rfl (.tmp rfl (.nil)) (rfl)
theorem apartFaults0_fn (b : Nat) (cs : List Value) (hb : cs[10]? = some (.slice none 0 0)) : HL.Fn Tryd.prog 67 [.pointer (some ⟨b, 0, none⟩)] (fun w => RdP w b 0 cs) [] (fun v _ => v = .bool true) := by
  refine fn_of Tryd.func67 rfl rfl rfl fun w0 hw => ?_
  refine c_seq fun _ hK1 => ?_
  refine c_region ?_
  refine o_step rfl (s_assign rfl) ?_
  refine o_nil ?_
  refine x_then (hK1 _ _ ?_)
  refine c_seq fun _ hK2 => ?_
  refine c_seq fun _ hK3 => ?_
  refine c_region ?_
  refine o_step rfl (s_assign rfl) ?_
  refine o_nil ?_
  refine x_then (hK3 _ _ ?_)
  refine c_block ?_
  refine c_loopB (fun (k : Nat) => k = 0) (fun (k : Nat) => [(3, .int .i64 k)]) [(0, _), (2, _)] (fun (k : Nat) => []) (fun (k : Nat) => k) 0 rfl sbA sbA hzB ?_
  rintro k hk
  subst hk
  refine c_seq fun _ hK4 => ?_
  refine c_seq fun _ hK5 => ?_
  refine c_region ?_
  refine o_step rfl (s_move rfl) ?_
  refine o_step rfl (s_move rfl) ?_
  refine o_step rfl (s_nil rfl) ?_
  refine o_step rfl (s_field rfl rfl (by decide)) ?_
  refine o_step rfl (s_ld rfl ((RdPK.old0 hw).cel hb rfl)) ?_
  refine o_step rfl (s_len rfl) ?_
  refine o_step rfl (s_lss_f rfl rfl (by decide)) ?_
  refine o_nil ?_
  refine x_then (hK5 _ _ ?_)
  refine c_false rfl ?_
  refine c_exit ?_
  refine x_then_exit ?_
  refine x_then_exit ?_
  refine x_block_exit ?_
  refine x_then (hK2 _ _ ?_)
  refine c_seq fun _ hK6 => ?_
  refine c_region ?_
  refine o_step rfl (s_assign rfl) ?_
  refine o_step rfl (s_assign rfl) ?_
  refine o_nil ?_
  refine x_then (hK6 _ _ ?_)
  refine c_seq fun _ hK7 => ?_
  refine c_seq fun _ hK8 => ?_
  refine c_region ?_
  refine o_step rfl (s_assign rfl) ?_
  refine o_nil ?_
  refine x_then (hK8 _ _ ?_)
  refine c_block ?_
  refine c_loopB (fun (k : Nat) => k = 0) (fun (k : Nat) => [(7, .int .i64 k), (6, .slice none 0 0), (5, .slice none 0 0)]) [(0, _), (2, _)] (fun (k : Nat) => []) (fun (k : Nat) => k) 0 rfl sbA sbA hzB ?_
  rintro k hk
  subst hk
  refine c_seq fun _ hK9 => ?_
  refine c_seq fun _ hK10 => ?_
  refine c_region ?_
  refine o_step rfl (s_move rfl) ?_
  refine o_step rfl (s_move rfl) ?_
  refine o_step rfl (s_nil rfl) ?_
  refine o_step rfl (s_field rfl rfl (by decide)) ?_
  refine o_step rfl (s_ld rfl ((RdPK.old0 hw).cel hb rfl)) ?_
  refine o_step rfl (s_len rfl) ?_
  refine o_step rfl (s_lss_f rfl rfl (by decide)) ?_
  refine o_nil ?_
  refine x_then (hK10 _ _ ?_)
  refine c_false rfl ?_
  refine c_exit ?_
  refine x_then_exit ?_
  refine x_then_exit ?_
  refine x_block_exit ?_
  refine x_then (hK7 _ _ ?_)
  refine c_seq fun _ hK11 => ?_
  refine c_seq fun _ hK12 => ?_
  refine c_region ?_
  refine o_step rfl (s_assign rfl) ?_
  refine o_nil ?_
  refine x_then (hK12 _ _ ?_)
  refine c_block ?_
  -- not carried: 2
  refine c_loopB (fun (k : Nat) => k = 0) (fun (k : Nat) => [(10, .int .i64 k)]) [(0, _), (5, _), (6, _)] (fun (k : Nat) => []) (fun (k : Nat) => k) 0 rfl sbA sbA hzB ?_
  rintro k hk
  subst hk
  refine c_seq fun _ hK13 => ?_
  refine c_seq fun _ hK14 => ?_
  refine c_region ?_
  refine o_step rfl (s_move rfl) ?_
  refine o_step rfl (s_move rfl) ?_
  refine o_step rfl (s_len rfl) ?_
  refine o_step rfl (s_lss_f rfl rfl (by decide)) ?_
  refine o_nil ?_
  refine x_then (hK14 _ _ ?_)
  refine c_false rfl ?_
  refine c_exit ?_
  refine x_then_exit ?_
  refine x_then_exit ?_
  refine x_block_exit ?_
  refine x_then (hK11 _ _ ?_)
  refine c_seq fun _ hK15 => ?_
  refine c_region ?_
  refine o_step rfl (s_assign rfl) ?_
  refine o_nil ?_
  refine x_then (hK15 _ _ ?_)
  refine c_ret ?_
  refine ?_
  exact x_ret rfl (.tmp rfl (.nil)) (rfl)
theorem apartNotes0_fn (b : Nat) (cs : List Value) (hb : cs[11]? = some (.slice none 0 0)) : HL.Fn Tryd.prog 68 [.pointer (some ⟨b, 0, none⟩)] (fun w => RdP w b 0 cs) [] (fun v _ => v = .bool true) := by
  refine fn_of Tryd.func68 rfl rfl rfl fun w0 hw => ?_
  refine c_seq fun _ hK1 => ?_
  refine c_region ?_
  refine o_step rfl (s_assign rfl) ?_
  refine o_nil ?_
  refine x_then (hK1 _ _ ?_)
  refine c_seq fun _ hK2 => ?_
  refine c_seq fun _ hK3 => ?_
  refine c_region ?_
  refine o_step rfl (s_assign rfl) ?_
  refine o_nil ?_
  refine x_then (hK3 _ _ ?_)
  refine c_block ?_
  refine c_loopB (fun (k : Nat) => k = 0) (fun (k : Nat) => [(3, .int .i64 k)]) [(0, _), (2, _)] (fun (k : Nat) => []) (fun (k : Nat) => k) 0 rfl sbA sbA hzB ?_
  rintro k hk
  subst hk
  refine c_seq fun _ hK4 => ?_
  refine c_seq fun _ hK5 => ?_
  refine c_region ?_
  refine o_step rfl (s_move rfl) ?_
  refine o_step rfl (s_move rfl) ?_
  refine o_step rfl (s_nil rfl) ?_
  refine o_step rfl (s_field rfl rfl (by decide)) ?_
  refine o_step rfl (s_ld rfl ((RdPK.old0 hw).cel hb rfl)) ?_
  refine o_step rfl (s_len rfl) ?_
  refine o_step rfl (s_lss_f rfl rfl (by decide)) ?_
  refine o_nil ?_
  refine x_then (hK5 _ _ ?_)
  refine c_false rfl ?_
  refine c_exit ?_
  refine x_then_exit ?_
  refine x_then_exit ?_
  refine x_block_exit ?_
  refine x_then (hK2 _ _ ?_)
  refine c_seq fun _ hK6 => ?_
  refine c_region ?_
  refine o_step rfl (s_assign rfl) ?_
  refine o_step rfl (s_assign rfl) ?_
  refine o_nil ?_
  refine x_then (hK6 _ _ ?_)
  refine c_seq fun _ hK7 => ?_
  refine c_seq fun _ hK8 => ?_
  refine c_region ?_
  refine o_step rfl (s_assign rfl) ?_
  refine o_nil ?_
  refine x_then (hK8 _ _ ?_)
  refine c_block ?_
  refine c_loopB (fun (k : Nat) => k = 0) (fun (k : Nat) => [(7, .int .i64 k), (6, .slice none 0 0), (5, .slice none 0 0)]) [(0, _), (2, _)] (fun (k : Nat) => []) (fun (k : Nat) => k) 0 rfl sbA sbA hzB ?_
  rintro k hk
  subst hk
  refine c_seq fun _ hK9 => ?_
  refine c_seq fun _ hK10 => ?_
  refine c_region ?_
  refine o_step rfl (s_move rfl) ?_
  refine o_step rfl (s_move rfl) ?_
  refine o_step rfl (s_nil rfl) ?_
  refine o_step rfl (s_field rfl rfl (by decide)) ?_
  refine o_step rfl (s_ld rfl ((RdPK.old0 hw).cel hb rfl)) ?_
  refine o_step rfl (s_len rfl) ?_
  refine o_step rfl (s_lss_f rfl rfl (by decide)) ?_
  refine o_nil ?_
  refine x_then (hK10 _ _ ?_)
  refine c_false rfl ?_
  refine c_exit ?_
  refine x_then_exit ?_
  refine x_then_exit ?_
  refine x_block_exit ?_
  refine x_then (hK7 _ _ ?_)
  refine c_seq fun _ hK11 => ?_
  refine c_seq fun _ hK12 => ?_
  refine c_region ?_
  refine o_step rfl (s_assign rfl) ?_
  refine o_nil ?_
  refine x_then (hK12 _ _ ?_)
  refine c_block ?_
  -- not carried: 2
  refine c_loopB (fun (k : Nat) => k = 0) (fun (k : Nat) => [(10, .int .i64 k)]) [(0, _), (5, _), (6, _)] (fun (k : Nat) => []) (fun (k : Nat) => k) 0 rfl sbA sbA hzB ?_
  rintro k hk
  subst hk
  refine c_seq fun _ hK13 => ?_
  refine c_seq fun _ hK14 => ?_
  refine c_region ?_
  refine o_step rfl (s_move rfl) ?_
  refine o_step rfl (s_move rfl) ?_
  refine o_step rfl (s_len rfl) ?_
  refine o_step rfl (s_lss_f rfl rfl (by decide)) ?_
  refine o_nil ?_
  refine x_then (hK14 _ _ ?_)
  refine c_false rfl ?_
  refine c_exit ?_
  refine x_then_exit ?_
  refine x_then_exit ?_
  refine x_block_exit ?_
  refine x_then (hK11 _ _ ?_)
  refine c_seq fun _ hK15 => ?_
  refine c_region ?_
  refine o_step rfl (s_assign rfl) ?_
  refine o_nil ?_
  refine x_then (hK15 _ _ ?_)
  refine c_ret ?_
  refine ?_
  exact x_ret rfl (.tmp rfl (.nil)) (rfl)
theorem apartParts0_fn (b : Nat) (cs : List Value) (hb : cs[12]? = some (.slice none 0 0)) : HL.Fn Tryd.prog 69 [.pointer (some ⟨b, 0, none⟩)] (fun w => RdP w b 0 cs) [] (fun v _ => v = .bool true) := by
  refine fn_of Tryd.func69 rfl rfl rfl fun w0 hw => ?_
  refine c_seq fun _ hK1 => ?_
  refine c_region ?_
  refine o_step rfl (s_assign rfl) ?_
  refine o_nil ?_
  refine x_then (hK1 _ _ ?_)
  refine c_seq fun _ hK2 => ?_
  refine c_seq fun _ hK3 => ?_
  refine c_region ?_
  refine o_step rfl (s_assign rfl) ?_
  refine o_nil ?_
  refine x_then (hK3 _ _ ?_)
  refine c_block ?_
  refine c_loopB (fun (k : Nat) => k = 0) (fun (k : Nat) => [(3, .int .i64 k)]) [(0, _), (2, _)] (fun (k : Nat) => []) (fun (k : Nat) => k) 0 rfl sbA sbA hzB ?_
  rintro k hk
  subst hk
  refine c_seq fun _ hK4 => ?_
  refine c_seq fun _ hK5 => ?_
  refine c_region ?_
  refine o_step rfl (s_move rfl) ?_
  refine o_step rfl (s_move rfl) ?_
  refine o_step rfl (s_nil rfl) ?_
  refine o_step rfl (s_field rfl rfl (by decide)) ?_
  refine o_step rfl (s_ld rfl ((RdPK.old0 hw).cel hb rfl)) ?_
  refine o_step rfl (s_len rfl) ?_
  refine o_step rfl (s_lss_f rfl rfl (by decide)) ?_
  refine o_nil ?_
  refine x_then (hK5 _ _ ?_)
  refine c_false rfl ?_
  refine c_exit ?_
  refine x_then_exit ?_
  refine x_then_exit ?_
  refine x_block_exit ?_
  refine x_then (hK2 _ _ ?_)
  refine c_seq fun _ hK6 => ?_
  refine c_region ?_
  refine o_step rfl (s_assign rfl) ?_
  refine o_step rfl (s_assign rfl) ?_
  refine o_nil ?_
  refine x_then (hK6 _ _ ?_)
  refine c_seq fun _ hK7 => ?_
  refine c_seq fun _ hK8 => ?_
  refine c_region ?_
  refine o_step rfl (s_assign rfl) ?_
  refine o_nil ?_
  refine x_then (hK8 _ _ ?_)
  refine c_block ?_
  refine c_loopB (fun (k : Nat) => k = 0) (fun (k : Nat) => [(7, .int .i64 k), (6, .slice none 0 0), (5, .slice none 0 0)]) [(0, _), (2, _)] (fun (k : Nat) => []) (fun (k : Nat) => k) 0 rfl sbA sbA hzB ?_
  rintro k hk
  subst hk
  refine c_seq fun _ hK9 => ?_
  refine c_seq fun _ hK10 => ?_
  refine c_region ?_
  refine o_step rfl (s_move rfl) ?_
  refine o_step rfl (s_move rfl) ?_
  refine o_step rfl (s_nil rfl) ?_
  refine o_step rfl (s_field rfl rfl (by decide)) ?_
  refine o_step rfl (s_ld rfl ((RdPK.old0 hw).cel hb rfl)) ?_
  refine o_step rfl (s_len rfl) ?_
  refine o_step rfl (s_lss_f rfl rfl (by decide)) ?_
  refine o_nil ?_
  refine x_then (hK10 _ _ ?_)
  refine c_false rfl ?_
  refine c_exit ?_
  refine x_then_exit ?_
  refine x_then_exit ?_
  refine x_block_exit ?_
  refine x_then (hK7 _ _ ?_)
  refine c_seq fun _ hK11 => ?_
  refine c_seq fun _ hK12 => ?_
  refine c_region ?_
  refine o_step rfl (s_assign rfl) ?_
  refine o_nil ?_
  refine x_then (hK12 _ _ ?_)
  refine c_block ?_
  -- not carried: 2
  refine c_loopB (fun (k : Nat) => k = 0) (fun (k : Nat) => [(10, .int .i64 k)]) [(0, _), (5, _), (6, _)] (fun (k : Nat) => []) (fun (k : Nat) => k) 0 rfl sbA sbA hzB ?_
  rintro k hk
  subst hk
  refine c_seq fun _ hK13 => ?_
  refine c_seq fun _ hK14 => ?_
  refine c_region ?_
  refine o_step rfl (s_move rfl) ?_
  refine o_step rfl (s_move rfl) ?_
  refine o_step rfl (s_len rfl) ?_
  refine o_step rfl (s_lss_f rfl rfl (by decide)) ?_
  refine o_nil ?_
  refine x_then (hK14 _ _ ?_)
  refine c_false rfl ?_
  refine c_exit ?_
  refine x_then_exit ?_
  refine x_then_exit ?_
  refine x_block_exit ?_
  refine x_then (hK11 _ _ ?_)
  refine c_seq fun _ hK15 => ?_
  refine c_region ?_
  refine o_step rfl (s_assign rfl) ?_
  refine o_nil ?_
  refine x_then (hK15 _ _ ?_)
  refine c_ret ?_
  refine ?_
  exact x_ret rfl (.tmp rfl (.nil)) (rfl)
theorem apartRows0_fn (b : Nat) (cs : List Value) (hb : cs[13]? = some (.slice none 0 0)) : HL.Fn Tryd.prog 70 [.pointer (some ⟨b, 0, none⟩)] (fun w => RdP w b 0 cs) [] (fun v _ => v = .bool true) := by
  refine fn_of Tryd.func70 rfl rfl rfl fun w0 hw => ?_
  refine c_seq fun _ hK1 => ?_
  refine c_region ?_
  refine o_step rfl (s_assign rfl) ?_
  refine o_nil ?_
  refine x_then (hK1 _ _ ?_)
  refine c_seq fun _ hK2 => ?_
  refine c_seq fun _ hK3 => ?_
  refine c_region ?_
  refine o_step rfl (s_assign rfl) ?_
  refine o_nil ?_
  refine x_then (hK3 _ _ ?_)
  refine c_block ?_
  refine c_loopB (fun (k : Nat) => k = 0) (fun (k : Nat) => [(3, .int .i64 k)]) [(0, _), (2, _)] (fun (k : Nat) => []) (fun (k : Nat) => k) 0 rfl sbA sbA hzB ?_
  rintro k hk
  subst hk
  refine c_seq fun _ hK4 => ?_
  refine c_seq fun _ hK5 => ?_
  refine c_region ?_
  refine o_step rfl (s_move rfl) ?_
  refine o_step rfl (s_move rfl) ?_
  refine o_step rfl (s_nil rfl) ?_
  refine o_step rfl (s_field rfl rfl (by decide)) ?_
  refine o_step rfl (s_ld rfl ((RdPK.old0 hw).cel hb rfl)) ?_
  refine o_step rfl (s_len rfl) ?_
  refine o_step rfl (s_lss_f rfl rfl (by decide)) ?_
  refine o_nil ?_
  refine x_then (hK5 _ _ ?_)
  refine c_false rfl ?_
  refine c_exit ?_
  refine x_then_exit ?_
  refine x_then_exit ?_
  refine x_block_exit ?_
  refine x_then (hK2 _ _ ?_)
  refine c_seq fun _ hK6 => ?_
  refine c_region ?_
  refine o_step rfl (s_assign rfl) ?_
  refine o_step rfl (s_assign rfl) ?_
  refine o_nil ?_
  refine x_then (hK6 _ _ ?_)
  refine c_seq fun _ hK7 => ?_
  refine c_seq fun _ hK8 => ?_
  refine c_region ?_
  refine o_step rfl (s_assign rfl) ?_
  refine o_nil ?_
  refine x_then (hK8 _ _ ?_)
  refine c_block ?_
  refine c_loopB (fun (k : Nat) => k = 0) (fun (k : Nat) => [(7, .int .i64 k), (6, .slice none 0 0), (5, .slice none 0 0)]) [(0, _), (2, _)] (fun (k : Nat) => []) (fun (k : Nat) => k) 0 rfl sbA sbA hzB ?_
  rintro k hk
  subst hk
  refine c_seq fun _ hK9 => ?_
  refine c_seq fun _ hK10 => ?_
  refine c_region ?_
  refine o_step rfl (s_move rfl) ?_
  refine o_step rfl (s_move rfl) ?_
  refine o_step rfl (s_nil rfl) ?_
  refine o_step rfl (s_field rfl rfl (by decide)) ?_
  refine o_step rfl (s_ld rfl ((RdPK.old0 hw).cel hb rfl)) ?_
  refine o_step rfl (s_len rfl) ?_
  refine o_step rfl (s_lss_f rfl rfl (by decide)) ?_
  refine o_nil ?_
  refine x_then (hK10 _ _ ?_)
  refine c_false rfl ?_
  refine c_exit ?_
  refine x_then_exit ?_
  refine x_then_exit ?_
  refine x_block_exit ?_
  refine x_then (hK7 _ _ ?_)
  refine c_seq fun _ hK11 => ?_
  refine c_seq fun _ hK12 => ?_
  refine c_region ?_
  refine o_step rfl (s_assign rfl) ?_
  refine o_nil ?_
  refine x_then (hK12 _ _ ?_)
  refine c_block ?_
  -- not carried: 2
  refine c_loopB (fun (k : Nat) => k = 0) (fun (k : Nat) => [(10, .int .i64 k)]) [(0, _), (5, _), (6, _)] (fun (k : Nat) => []) (fun (k : Nat) => k) 0 rfl sbA sbA hzB ?_
  rintro k hk
  subst hk
  refine c_seq fun _ hK13 => ?_
  refine c_seq fun _ hK14 => ?_
  refine c_region ?_
  refine o_step rfl (s_move rfl) ?_
  refine o_step rfl (s_move rfl) ?_
  refine o_step rfl (s_len rfl) ?_
  refine o_step rfl (s_lss_f rfl rfl (by decide)) ?_
  refine o_nil ?_
  refine x_then (hK14 _ _ ?_)
  refine c_false rfl ?_
  refine c_exit ?_
  refine x_then_exit ?_
  refine x_then_exit ?_
  refine x_block_exit ?_
  refine x_then (hK11 _ _ ?_)
  refine c_seq fun _ hK15 => ?_
  refine c_region ?_
  refine o_step rfl (s_assign rfl) ?_
  refine o_nil ?_
  refine x_then (hK15 _ _ ?_)
  refine c_ret ?_
  refine ?_
  exact x_ret rfl (.tmp rfl (.nil)) (rfl)
theorem apartIntss0_fn (b : Nat) (cs : List Value) (hb : cs[14]? = some (.slice none 0 0)) : HL.Fn Tryd.prog 71 [.pointer (some ⟨b, 0, none⟩)] (fun w => RdP w b 0 cs) [] (fun v _ => v = .bool true) := by
  refine fn_of Tryd.func71 rfl rfl rfl fun w0 hw => ?_
  refine c_seq fun _ hK1 => ?_
  refine c_region ?_
  refine o_step rfl (s_assign rfl) ?_
  refine o_nil ?_
  refine x_then (hK1 _ _ ?_)
  refine c_seq fun _ hK2 => ?_
  refine c_seq fun _ hK3 => ?_
  refine c_region ?_
  refine o_step rfl (s_assign rfl) ?_
  refine o_nil ?_
  refine x_then (hK3 _ _ ?_)
  refine c_block ?_
  refine c_loopB (fun (k : Nat) => k = 0) (fun (k : Nat) => [(3, .int .i64 k)]) [(0, _), (2, _)] (fun (k : Nat) => []) (fun (k : Nat) => k) 0 rfl sbA sbA hzB ?_
  rintro k hk
  subst hk
  refine c_seq fun _ hK4 => ?_
  refine c_seq fun _ hK5 => ?_
  refine c_region ?_
  refine o_step rfl (s_move rfl) ?_
  refine o_step rfl (s_move rfl) ?_
  refine o_step rfl (s_nil rfl) ?_
  refine o_step rfl (s_field rfl rfl (by decide)) ?_
  refine o_step rfl (s_ld rfl ((RdPK.old0 hw).cel hb rfl)) ?_
  refine o_step rfl (s_len rfl) ?_
  refine o_step rfl (s_lss_f rfl rfl (by decide)) ?_
  refine o_nil ?_
  refine x_then (hK5 _ _ ?_)
  refine c_false rfl ?_
  refine c_exit ?_
  refine x_then_exit ?_
  refine x_then_exit ?_
  refine x_block_exit ?_
  refine x_then (hK2 _ _ ?_)
  refine c_seq fun _ hK6 => ?_
  refine c_region ?_
  refine o_step rfl (s_assign rfl) ?_
  refine o_step rfl (s_assign rfl) ?_
  refine o_nil ?_
  refine x_then (hK6 _ _ ?_)
  refine c_seq fun _ hK7 => ?_
  refine c_seq fun _ hK8 => ?_
  refine c_region ?_
  refine o_step rfl (s_assign rfl) ?_
  refine o_nil ?_
  refine x_then (hK8 _ _ ?_)
  refine c_block ?_
  refine c_loopB (fun (k : Nat) => k = 0) (fun (k : Nat) => [(7, .int .i64 k), (6, .slice none 0 0), (5, .slice none 0 0)]) [(0, _), (2, _)] (fun (k : Nat) => []) (fun (k : Nat) => k) 0 rfl sbA sbA hzB ?_
  rintro k hk
  subst hk
  refine c_seq fun _ hK9 => ?_
  refine c_seq fun _ hK10 => ?_
  refine c_region ?_
  refine o_step rfl (s_move rfl) ?_
  refine o_step rfl (s_move rfl) ?_
  refine o_step rfl (s_nil rfl) ?_
  refine o_step rfl (s_field rfl rfl (by decide)) ?_
  refine o_step rfl (s_ld rfl ((RdPK.old0 hw).cel hb rfl)) ?_
  refine o_step rfl (s_len rfl) ?_
  refine o_step rfl (s_lss_f rfl rfl (by decide)) ?_
  refine o_nil ?_
  refine x_then (hK10 _ _ ?_)
  refine c_false rfl ?_
  refine c_exit ?_
  refine x_then_exit ?_
  refine x_then_exit ?_
  refine x_block_exit ?_
  refine x_then (hK7 _ _ ?_)
  refine c_seq fun _ hK11 => ?_
  refine c_seq fun _ hK12 => ?_
  refine c_region ?_
  refine o_step rfl (s_assign rfl) ?_
  refine o_nil ?_
  refine x_then (hK12 _ _ ?_)
  refine c_block ?_
  -- not carried: 2
  refine c_loopB (fun (k : Nat) => k = 0) (fun (k : Nat) => [(10, .int .i64 k)]) [(0, _), (5, _), (6, _)] (fun (k : Nat) => []) (fun (k : Nat) => k) 0 rfl sbA sbA hzB ?_
  rintro k hk
  subst hk
  refine c_seq fun _ hK13 => ?_
  refine c_seq fun _ hK14 => ?_
  refine c_region ?_
  refine o_step rfl (s_move rfl) ?_
  refine o_step rfl (s_move rfl) ?_
  refine o_step rfl (s_len rfl) ?_
  refine o_step rfl (s_lss_f rfl rfl (by decide)) ?_
  refine o_nil ?_
  refine x_then (hK14 _ _ ?_)
  refine c_false rfl ?_
  refine c_exit ?_
  refine x_then_exit ?_
  refine x_then_exit ?_
  refine x_block_exit ?_
  refine x_then (hK11 _ _ ?_)
  refine c_seq fun _ hK15 => ?_
  refine c_region ?_
  refine o_step rfl (s_assign rfl) ?_
  refine o_nil ?_
  refine x_then (hK15 _ _ ?_)
  refine c_ret ?_
  refine ?_
  exact x_ret rfl (.tmp rfl (.nil)) (rfl)
theorem apartSpanss0_fn (b : Nat) (cs : List Value) (hb : cs[15]? = some (.slice none 0 0)) : HL.Fn Tryd.prog 72 [.pointer (some ⟨b, 0, none⟩)] (fun w => RdP w b 0 cs) [] (fun v _ => v = .bool true) := by
  refine fn_of Tryd.func72 rfl rfl rfl fun w0 hw => ?_
  refine c_seq fun _ hK1 => ?_
  refine c_region ?_
  refine o_step rfl (s_assign rfl) ?_
  refine o_nil ?_
  refine x_then (hK1 _ _ ?_)
  refine c_seq fun _ hK2 => ?_
  refine c_seq fun _ hK3 => ?_
  refine c_region ?_
  refine o_step rfl (s_assign rfl) ?_
  refine o_nil ?_
  refine x_then (hK3 _ _ ?_)
  refine c_block ?_
  refine c_loopB (fun (k : Nat) => k = 0) (fun (k : Nat) => [(3, .int .i64 k)]) [(0, _), (2, _)] (fun (k : Nat) => []) (fun (k : Nat) => k) 0 rfl sbA sbA hzB ?_
  rintro k hk
  subst hk
  refine c_seq fun _ hK4 => ?_
  refine c_seq fun _ hK5 => ?_
  refine c_region ?_
  refine o_step rfl (s_move rfl) ?_
  refine o_step rfl (s_move rfl) ?_
  refine o_step rfl (s_nil rfl) ?_
  refine o_step rfl (s_field rfl rfl (by decide)) ?_
  refine o_step rfl (s_ld rfl ((RdPK.old0 hw).cel hb rfl)) ?_
  refine o_step rfl (s_len rfl) ?_
  refine o_step rfl (s_lss_f rfl rfl (by decide)) ?_
  refine o_nil ?_
  refine x_then (hK5 _ _ ?_)
  refine c_false rfl ?_
  refine c_exit ?_
  refine x_then_exit ?_
  refine x_then_exit ?_
  refine x_block_exit ?_
  refine x_then (hK2 _ _ ?_)
  refine c_seq fun _ hK6 => ?_
  refine c_region ?_
  refine o_step rfl (s_assign rfl) ?_
  refine o_step rfl (s_assign rfl) ?_
  refine o_nil ?_
  refine x_then (hK6 _ _ ?_)
  refine c_seq fun _ hK7 => ?_
  refine c_seq fun _ hK8 => ?_
  refine c_region ?_
  refine o_step rfl (s_assign rfl) ?_
  refine o_nil ?_
  refine x_then (hK8 _ _ ?_)
  refine c_block ?_
  refine c_loopB (fun (k : Nat) => k = 0) (fun (k : Nat) => [(7, .int .i64 k), (6, .slice none 0 0), (5, .slice none 0 0)]) [(0, _), (2, _)] (fun (k : Nat) => []) (fun (k : Nat) => k) 0 rfl sbA sbA hzB ?_
  rintro k hk
  subst hk
  refine c_seq fun _ hK9 => ?_
  refine c_seq fun _ hK10 => ?_
  refine c_region ?_
  refine o_step rfl (s_move rfl) ?_
  refine o_step rfl (s_move rfl) ?_
  refine o_step rfl (s_nil rfl) ?_
  refine o_step rfl (s_field rfl rfl (by decide)) ?_
  refine o_step rfl (s_ld rfl ((RdPK.old0 hw).cel hb rfl)) ?_
  refine o_step rfl (s_len rfl) ?_
  refine o_step rfl (s_lss_f rfl rfl (by decide)) ?_
  refine o_nil ?_
  refine x_then (hK10 _ _ ?_)
  refine c_false rfl ?_
  refine c_exit ?_
  refine x_then_exit ?_
  refine x_then_exit ?_
  refine x_block_exit ?_
  refine x_then (hK7 _ _ ?_)
  refine c_seq fun _ hK11 => ?_
  refine c_seq fun _ hK12 => ?_
  refine c_region ?_
  refine o_step rfl (s_assign rfl) ?_
  refine o_nil ?_
  refine x_then (hK12 _ _ ?_)
  refine c_block ?_
  -- not carried: 2
  refine c_loopB (fun (k : Nat) => k = 0) (fun (k : Nat) => [(10, .int .i64 k)]) [(0, _), (5, _), (6, _)] (fun (k : Nat) => []) (fun (k : Nat) => k) 0 rfl sbA sbA hzB ?_
  rintro k hk
  subst hk
  refine c_seq fun _ hK13 => ?_
  refine c_seq fun _ hK14 => ?_
  refine c_region ?_
  refine o_step rfl (s_move rfl) ?_
  refine o_step rfl (s_move rfl) ?_
  refine o_step rfl (s_len rfl) ?_
  refine o_step rfl (s_lss_f rfl rfl (by decide)) ?_
  refine o_nil ?_
  refine x_then (hK14 _ _ ?_)
  refine c_false rfl ?_
  refine c_exit ?_
  refine x_then_exit ?_
  refine x_then_exit ?_
  refine x_block_exit ?_
  refine x_then (hK11 _ _ ?_)
  refine c_seq fun _ hK15 => ?_
  refine c_region ?_
  refine o_step rfl (s_assign rfl) ?_
  refine o_nil ?_
  refine x_then (hK15 _ _ ?_)
  refine c_ret ?_
  refine ?_
  exact x_ret rfl (.tmp rfl (.nil)) (rfl)
theorem apartPieces0_fn (b : Nat) (cs : List Value) (hb : cs[16]? = some (.slice none 0 0)) : HL.Fn Tryd.prog 73 [.pointer (some ⟨b, 0, none⟩)] (fun w => RdP w b 0 cs) [] (fun v _ => v = .bool true) := by
  refine fn_of Tryd.func73 rfl rfl rfl fun w0 hw => ?_
  refine c_seq fun _ hK1 => ?_
  refine c_region ?_
  refine o_step rfl (s_assign rfl) ?_
  refine o_nil ?_
  refine x_then (hK1 _ _ ?_)
  refine c_seq fun _ hK2 => ?_
  refine c_seq fun _ hK3 => ?_
  refine c_region ?_
  refine o_step rfl (s_assign rfl) ?_
  refine o_nil ?_
  refine x_then (hK3 _ _ ?_)
  refine c_block ?_
  refine c_loopB (fun (k : Nat) => k = 0) (fun (k : Nat) => [(3, .int .i64 k)]) [(0, _), (2, _)] (fun (k : Nat) => []) (fun (k : Nat) => k) 0 rfl sbA sbA hzB ?_
  rintro k hk
  subst hk
  refine c_seq fun _ hK4 => ?_
  refine c_seq fun _ hK5 => ?_
  refine c_region ?_
  refine o_step rfl (s_move rfl) ?_
  refine o_step rfl (s_move rfl) ?_
  refine o_step rfl (s_nil rfl) ?_
  refine o_step rfl (s_field rfl rfl (by decide)) ?_
  refine o_step rfl (s_ld rfl ((RdPK.old0 hw).cel hb rfl)) ?_
  refine o_step rfl (s_len rfl) ?_
  refine o_step rfl (s_lss_f rfl rfl (by decide)) ?_
  refine o_nil ?_
  refine x_then (hK5 _ _ ?_)
  refine c_false rfl ?_
  refine c_exit ?_
  refine x_then_exit ?_
  refine x_then_exit ?_
  refine x_block_exit ?_
  refine x_then (hK2 _ _ ?_)
  refine c_seq fun _ hK6 => ?_
  refine c_region ?_
  refine o_step rfl (s_assign rfl) ?_
  refine o_step rfl (s_assign rfl) ?_
  refine o_nil ?_
  refine x_then (hK6 _ _ ?_)
  refine c_seq fun _ hK7 => ?_
  refine c_seq fun _ hK8 => ?_
  refine c_region ?_
  refine o_step rfl (s_assign rfl) ?_
  refine o_nil ?_
  refine x_then (hK8 _ _ ?_)
  refine c_block ?_
  refine c_loopB (fun (k : Nat) => k = 0) (fun (k : Nat) => [(7, .int .i64 k), (6, .slice none 0 0), (5, .slice none 0 0)]) [(0, _), (2, _)] (fun (k : Nat) => []) (fun (k : Nat) => k) 0 rfl sbA sbA hzB ?_
  rintro k hk
  subst hk
  refine c_seq fun _ hK9 => ?_
  refine c_seq fun _ hK10 => ?_
  refine c_region ?_
  refine o_step rfl (s_move rfl) ?_
  refine o_step rfl (s_move rfl) ?_
  refine o_step rfl (s_nil rfl) ?_
  refine o_step rfl (s_field rfl rfl (by decide)) ?_
  refine o_step rfl (s_ld rfl ((RdPK.old0 hw).cel hb rfl)) ?_
  refine o_step rfl (s_len rfl) ?_
  refine o_step rfl (s_lss_f rfl rfl (by decide)) ?_
  refine o_nil ?_
  refine x_then (hK10 _ _ ?_)
  refine c_false rfl ?_
  refine c_exit ?_
  refine x_then_exit ?_
  refine x_then_exit ?_
  refine x_block_exit ?_
  refine x_then (hK7 _ _ ?_)
  refine c_seq fun _ hK11 => ?_
  refine c_seq fun _ hK12 => ?_
  refine c_region ?_
  refine o_step rfl (s_assign rfl) ?_
  refine o_nil ?_
  refine x_then (hK12 _ _ ?_)
  refine c_block ?_
  -- not carried: 2
  refine c_loopB (fun (k : Nat) => k = 0) (fun (k : Nat) => [(10, .int .i64 k)]) [(0, _), (5, _), (6, _)] (fun (k : Nat) => []) (fun (k : Nat) => k) 0 rfl sbA sbA hzB ?_
  rintro k hk
  subst hk
  refine c_seq fun _ hK13 => ?_
  refine c_seq fun _ hK14 => ?_
  refine c_region ?_
  refine o_step rfl (s_move rfl) ?_
  refine o_step rfl (s_move rfl) ?_
  refine o_step rfl (s_len rfl) ?_
  refine o_step rfl (s_lss_f rfl rfl (by decide)) ?_
  refine o_nil ?_
  refine x_then (hK14 _ _ ?_)
  refine c_false rfl ?_
  refine c_exit ?_
  refine x_then_exit ?_
  refine x_then_exit ?_
  refine x_block_exit ?_
  refine x_then (hK11 _ _ ?_)
  refine c_seq fun _ hK15 => ?_
  refine c_region ?_
  refine o_step rfl (s_assign rfl) ?_
  refine o_nil ?_
  refine x_then (hK15 _ _ ?_)
  refine c_ret ?_
  refine ?_
  exact x_ret rfl (.tmp rfl (.nil)) (rfl)
theorem apartFiles0_fn (b : Nat) (cs : List Value) (hb : cs[17]? = some (.slice none 0 0)) : HL.Fn Tryd.prog 74 [.pointer (some ⟨b, 0, none⟩)] (fun w => RdP w b 0 cs) [] (fun v _ => v = .bool true) := by
  refine fn_of Tryd.func74 rfl rfl rfl fun w0 hw => ?_
  refine c_seq fun _ hK1 => ?_
  refine c_region ?_
  refine o_step rfl (s_assign rfl) ?_
  refine o_nil ?_
  refine x_then (hK1 _ _ ?_)
  refine c_seq fun _ hK2 => ?_
  refine c_seq fun _ hK3 => ?_
  refine c_region ?_
  refine o_step rfl (s_assign rfl) ?_
  refine o_nil ?_
  refine x_then (hK3 _ _ ?_)
  refine c_block ?_
  refine c_loopB (fun (k : Nat) => k = 0) (fun (k : Nat) => [(3, .int .i64 k)]) [(0, _), (2, _)] (fun (k : Nat) => []) (fun (k : Nat) => k) 0 rfl sbA sbA hzB ?_
  rintro k hk
  subst hk
  refine c_seq fun _ hK4 => ?_
  refine c_seq fun _ hK5 => ?_
  refine c_region ?_
  refine o_step rfl (s_move rfl) ?_
  refine o_step rfl (s_move rfl) ?_
  refine o_step rfl (s_nil rfl) ?_
  refine o_step rfl (s_field rfl rfl (by decide)) ?_
  refine o_step rfl (s_ld rfl ((RdPK.old0 hw).cel hb rfl)) ?_
  refine o_step rfl (s_len rfl) ?_
  refine o_step rfl (s_lss_f rfl rfl (by decide)) ?_
  refine o_nil ?_
  refine x_then (hK5 _ _ ?_)
  refine c_false rfl ?_
  refine c_exit ?_
  refine x_then_exit ?_
  refine x_then_exit ?_
  refine x_block_exit ?_
  refine x_then (hK2 _ _ ?_)
  refine c_seq fun _ hK6 => ?_
  refine c_region ?_
  refine o_step rfl (s_assign rfl) ?_
  refine o_step rfl (s_assign rfl) ?_
  refine o_nil ?_
  refine x_then (hK6 _ _ ?_)
  refine c_seq fun _ hK7 => ?_
  refine c_seq fun _ hK8 => ?_
  refine c_region ?_
  refine o_step rfl (s_assign rfl) ?_
  refine o_nil ?_
  refine x_then (hK8 _ _ ?_)
  refine c_block ?_
  refine c_loopB (fun (k : Nat) => k = 0) (fun (k : Nat) => [(7, .int .i64 k), (6, .slice none 0 0), (5, .slice none 0 0)]) [(0, _), (2, _)] (fun (k : Nat) => []) (fun (k : Nat) => k) 0 rfl sbA sbA hzB ?_
  rintro k hk
  subst hk
  refine c_seq fun _ hK9 => ?_
  refine c_seq fun _ hK10 => ?_
  refine c_region ?_
  refine o_step rfl (s_move rfl) ?_
  refine o_step rfl (s_move rfl) ?_
  refine o_step rfl (s_nil rfl) ?_
  refine o_step rfl (s_field rfl rfl (by decide)) ?_
  refine o_step rfl (s_ld rfl ((RdPK.old0 hw).cel hb rfl)) ?_
  refine o_step rfl (s_len rfl) ?_
  refine o_step rfl (s_lss_f rfl rfl (by decide)) ?_
  refine o_nil ?_
  refine x_then (hK10 _ _ ?_)
  refine c_false rfl ?_
  refine c_exit ?_
  refine x_then_exit ?_
  refine x_then_exit ?_
  refine x_block_exit ?_
  refine x_then (hK7 _ _ ?_)
  refine c_seq fun _ hK11 => ?_
  refine c_seq fun _ hK12 => ?_
  refine c_region ?_
  refine o_step rfl (s_assign rfl) ?_
  refine o_nil ?_
  refine x_then (hK12 _ _ ?_)
  refine c_block ?_
  -- not carried: 2
  refine c_loopB (fun (k : Nat) => k = 0) (fun (k : Nat) => [(10, .int .i64 k)]) [(0, _), (5, _), (6, _)] (fun (k : Nat) => []) (fun (k : Nat) => k) 0 rfl sbA sbA hzB ?_
  rintro k hk
  subst hk
  refine c_seq fun _ hK13 => ?_
  refine c_seq fun _ hK14 => ?_
  refine c_region ?_
  refine o_step rfl (s_move rfl) ?_
  refine o_step rfl (s_move rfl) ?_
  refine o_step rfl (s_len rfl) ?_
  refine o_step rfl (s_lss_f rfl rfl (by decide)) ?_
  refine o_nil ?_
  refine x_then (hK14 _ _ ?_)
  refine c_false rfl ?_
  refine c_exit ?_
  refine x_then_exit ?_
  refine x_then_exit ?_
  refine x_block_exit ?_
  refine x_then (hK11 _ _ ?_)
  refine c_seq fun _ hK15 => ?_
  refine c_region ?_
  refine o_step rfl (s_assign rfl) ?_
  refine o_nil ?_
  refine x_then (hK15 _ _ ?_)
  refine c_ret ?_
  refine ?_
  exact x_ret rfl (.tmp rfl (.nil)) (rfl)
theorem apartCmds0_fn (b : Nat) (cs : List Value) (hb : cs[18]? = some (.slice none 0 0)) : HL.Fn Tryd.prog 75 [.pointer (some ⟨b, 0, none⟩)] (fun w => RdP w b 0 cs) [] (fun v _ => v = .bool true) := by
  refine fn_of Tryd.func75 rfl rfl rfl fun w0 hw => ?_
  refine c_seq fun _ hK1 => ?_
  refine c_region ?_
  refine o_step rfl (s_assign rfl) ?_
  refine o_nil ?_
  refine x_then (hK1 _ _ ?_)
  refine c_seq fun _ hK2 => ?_
  refine c_seq fun _ hK3 => ?_
  refine c_region ?_
  refine o_step rfl (s_assign rfl) ?_
  refine o_nil ?_
  refine x_then (hK3 _ _ ?_)
  refine c_block ?_
  refine c_loopB (fun (k : Nat) => k = 0) (fun (k : Nat) => [(3, .int .i64 k)]) [(0, _), (2, _)] (fun (k : Nat) => []) (fun (k : Nat) => k) 0 rfl sbA sbA hzB ?_
  rintro k hk
  subst hk
  refine c_seq fun _ hK4 => ?_
  refine c_seq fun _ hK5 => ?_
  refine c_region ?_
  refine o_step rfl (s_move rfl) ?_
  refine o_step rfl (s_move rfl) ?_
  refine o_step rfl (s_nil rfl) ?_
  refine o_step rfl (s_field rfl rfl (by decide)) ?_
  refine o_step rfl (s_ld rfl ((RdPK.old0 hw).cel hb rfl)) ?_
  refine o_step rfl (s_len rfl) ?_
  refine o_step rfl (s_lss_f rfl rfl (by decide)) ?_
  refine o_nil ?_
  refine x_then (hK5 _ _ ?_)
  refine c_false rfl ?_
  refine c_exit ?_
  refine x_then_exit ?_
  refine x_then_exit ?_
  refine x_block_exit ?_
  refine x_then (hK2 _ _ ?_)
  refine c_seq fun _ hK6 => ?_
  refine c_region ?_
  refine o_step rfl (s_assign rfl) ?_
  refine o_step rfl (s_assign rfl) ?_
  refine o_nil ?_
  refine x_then (hK6 _ _ ?_)
  refine c_seq fun _ hK7 => ?_
  refine c_seq fun _ hK8 => ?_
  refine c_region ?_
  refine o_step rfl (s_assign rfl) ?_
  refine o_nil ?_
  refine x_then (hK8 _ _ ?_)
  refine c_block ?_
  refine c_loopB (fun (k : Nat) => k = 0) (fun (k : Nat) => [(7, .int .i64 k), (6, .slice none 0 0), (5, .slice none 0 0)]) [(0, _), (2, _)] (fun (k : Nat) => []) (fun (k : Nat) => k) 0 rfl sbA sbA hzB ?_
  rintro k hk
  subst hk
  refine c_seq fun _ hK9 => ?_
  refine c_seq fun _ hK10 => ?_
  refine c_region ?_
  refine o_step rfl (s_move rfl) ?_
  refine o_step rfl (s_move rfl) ?_
  refine o_step rfl (s_nil rfl) ?_
  refine o_step rfl (s_field rfl rfl (by decide)) ?_
  refine o_step rfl (s_ld rfl ((RdPK.old0 hw).cel hb rfl)) ?_
  refine o_step rfl (s_len rfl) ?_
  refine o_step rfl (s_lss_f rfl rfl (by decide)) ?_
  refine o_nil ?_
  refine x_then (hK10 _ _ ?_)
  refine c_false rfl ?_
  refine c_exit ?_
  refine x_then_exit ?_
  refine x_then_exit ?_
  refine x_block_exit ?_
  refine x_then (hK7 _ _ ?_)
  refine c_seq fun _ hK11 => ?_
  refine c_seq fun _ hK12 => ?_
  refine c_region ?_
  refine o_step rfl (s_assign rfl) ?_
  refine o_nil ?_
  refine x_then (hK12 _ _ ?_)
  refine c_block ?_
  -- not carried: 2
  refine c_loopB (fun (k : Nat) => k = 0) (fun (k : Nat) => [(10, .int .i64 k)]) [(0, _), (5, _), (6, _)] (fun (k : Nat) => []) (fun (k : Nat) => k) 0 rfl sbA sbA hzB ?_
  rintro k hk
  subst hk
  refine c_seq fun _ hK13 => ?_
  refine c_seq fun _ hK14 => ?_
  refine c_region ?_
  refine o_step rfl (s_move rfl) ?_
  refine o_step rfl (s_move rfl) ?_
  refine o_step rfl (s_len rfl) ?_
  refine o_step rfl (s_lss_f rfl rfl (by decide)) ?_
  refine o_nil ?_
  refine x_then (hK14 _ _ ?_)
  refine c_false rfl ?_
  refine c_exit ?_
  refine x_then_exit ?_
  refine x_then_exit ?_
  refine x_block_exit ?_
  refine x_then (hK11 _ _ ?_)
  refine c_seq fun _ hK15 => ?_
  refine c_region ?_
  refine o_step rfl (s_assign rfl) ?_
  refine o_nil ?_
  refine x_then (hK15 _ _ ?_)
  refine c_ret ?_
  refine ?_
  exact x_ret rfl (.tmp rfl (.nil)) (rfl)
end Go.Proofs.YtmmajabfmhipeaaDoor
