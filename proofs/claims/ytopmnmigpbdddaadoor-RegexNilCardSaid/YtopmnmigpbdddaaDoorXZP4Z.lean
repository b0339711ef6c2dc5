/- Part of the proofs over this seat: see the text that holds the theorem. Conditions: each theorem bears its own. -/
import Derived.Test.YtopmnmigpbdddaaDoorMK1Z
import Derived.Test.YtopmnmigpbdddaaDoorMT9Z
import Derived.Test.YtopmnmigpbdddaaDoorHlB
import Derived.Test.YtopmnmigpbdddaaDoorM1Z
import Derived.Test.YtopmnmigpbdddaaDoorMT3Z
namespace Go.Proofs.YtopmnmigpbdddaaDoor
open Go Go.HL Go.Proofs Go.HL.Kl Go.HL.Kl.Mc Go.HL.Kl.Mc.AskE Go.Tab
set_option maxHeartbeats 4000000 in
theorem row_fn (bR : Nat) (la : Option Addr) (lc : Nat) (l : List Mk) (hll : l.length ≤ 4096) (hlit : ∀ m ∈ l, Lit m) : HL.Fn Tryd.prog 59 [pt bR] (fun W => Rd Em W (.slice la l.length lc) l ∧ Apart (keys [(bR, .cells (rdC (.slice la l.length lc) 0 bR).toArray 135 (0, 0))]) (.slice la l.length lc)) [(bR, .cells (rdC (.slice la l.length lc) 0 bR).toArray 135 (0, 0))] (fun v S' => ∃ a c S2, v = .tuple #[.int .i64 l.length, .slice a (l.map litN).length c] ∧ S' = (bR, .cells (rdC (.slice la l.length lc) l.length bR).toArray 135 (0, 0)) :: S2 ∧ OwnS En 9 51 (.slice a (l.map litN).length c) (l.map litN) S2) := by
  refine fn_of Tryd.func59 rfl rfl rfl fun w0 hw => ?_
  have hsl := hw.1.sl
  have hbl := hsl.le
  refine c_seq fun _ hK1 => ?_
  refine c_region ?_
  refine o_step rfl (s_assign rfl) ?_
  refine o_step rfl (s_assign rfl) ?_
  refine o_nil ?_
  refine x_then (hK1 _ _ ?_)
  refine c_scope ?_
  refine c_seq fun _ hK2 => ?_
  refine c_region ?_
  refine o_step rfl (s_assign rfl) ?_
  refine o_nil ?_
  refine x_then (hK2 _ _ ?_)
  refine c_seq fun _ hK3 => ?_
  refine c_region ?_
  refine o_step rfl (s_assign rfl) ?_
  refine o_nil ?_
  refine x_then (hK3 _ _ ?_)
  refine c_seq fun _ hK4 => ?_
  refine c_region ?_
  refine o_step rfl (s_assign rfl) ?_
  refine o_nil ?_
  refine x_then (hK4 _ _ ?_)
  refine c_seq fun _ hK5 => ?_
  refine c_label ?_
  refine x_then (hK5 _ _ ?_)
  refine c_seq fun _ hK6 => ?_
  refine c_block ?_
  -- not carried: 6
  refine c_loop4 (fun (i : Nat) (a : Option Addr) (c : Nat) (S : Hp) => i ≤ l.length ∧ OwnS En 9 51 (.slice a ((l.take i).map litN).length c) ((l.take i).map litN) S) (fun (i : Nat) (a : Option Addr) (c : Nat) (S : Hp) => [(4, .slice a ((l.take i).map litN).length c), (5, .int .i64 i)]) [(0, _), (2, _), (3, _)] (fun (i : Nat) (a : Option Addr) (c : Nat) (S : Hp) => (bR, .cells (rdC (.slice la l.length lc) i bR).toArray 135 (0, 0)) :: S) (fun (i : Nat) (a : Option Addr) (c : Nat) (S : Hp) => l.length - i) 0 none 0 [] ⟨Nat.zero_le _, .nil⟩ sbA sbA hzB ?_
  rintro i a c S ⟨hi, hS⟩
  refine c_seq fun _ hK7 => ?_
  refine c_seq fun _ hK8 => ?_
  refine c_drawE ([(bR, .cells (rdC (.slice la l.length lc) i bR).toArray 135 (0, 0))]) (fun i => false) ?_
  refine e_take 0 rfl (by kernel_rfl) (by kernel_rfl) (by kernel_rfl) (by kernel_rfl) (fun _ _ => rfl) rfl hzB (s_move rfl) ?_
  refine e_take 1 rfl (by kernel_rfl) (by kernel_rfl) (by kernel_rfl) (by kernel_rfl) (fun _ _ => rfl) rfl hzB (s_nil rfl) ?_
  refine e_take 2 rfl (by kernel_rfl) (by kernel_rfl) (by kernel_rfl) (by kernel_rfl) (fun _ _ => rfl) rfl hzB (s_field rfl rfl (by decide)) ?_
  refine e_take 3 rfl (by kernel_rfl) (by kernel_rfl) (by kernel_rfl) (by kernel_rfl) (fun _ _ => rfl) rfl hzB (s_ld rfl (.own meA rfl)) ?_
  refine e_take 4 rfl (by kernel_rfl) (by kernel_rfl) (by kernel_rfl) (by kernel_rfl) (fun _ _ => rfl) rfl hzB (s_move rfl) ?_
  refine e_take 5 rfl (by kernel_rfl) (by kernel_rfl) (by kernel_rfl) (by kernel_rfl) (fun _ _ => rfl) rfl hzB (s_nil rfl) ?_
  refine e_take 6 rfl (by kernel_rfl) (by kernel_rfl) (by kernel_rfl) (by kernel_rfl) (fun _ _ => rfl) rfl hzB (s_field rfl rfl (by decide)) ?_
  refine e_take 7 rfl (by kernel_rfl) (by kernel_rfl) (by kernel_rfl) (by kernel_rfl) (fun _ _ => rfl) rfl hzB (s_ld rfl (.own meA rfl)) ?_
  refine e_take 8 rfl (by kernel_rfl) (by kernel_rfl) (by kernel_rfl) (by kernel_rfl) (fun _ _ => rfl) rfl hzB (s_len rfl) ?_
  by_cases hil : (i : Int) < l.length
  ·
   obtain ⟨m, hm⟩ : ∃ m, l[i]? = some m := ⟨_, List.getElem?_eq_getElem (by omega)⟩
   have hL := hlit m (List.mem_of_getElem? hm)
   have hLn := hL.nat
   have hmb : m.b.toNat < 256 := m.b.toNat_lt
   have hto : (l.take (i + 1)).map litN = (l.take i).map litN ++ [litN m] := by rw [List.take_add_one, hm]; simp
   refine e_take 9 rfl (by kernel_rfl) (by kernel_rfl) (by kernel_rfl) (by kernel_rfl) (fun _ _ => rfl) rfl hzB (step_cast (v' := .bool true) (s_lss rfl rfl) (by rw [decide_eq_true (by omega)])) ?_
   refine e_done (by kernel_rfl) ?_
   refine x_then (hK8 _ _ ?_)
   refine c_true rfl ?_
   refine c_skip ?_
   refine x_then (hK7 _ _ ?_)
   refine c_seq fun _ hK9 => ?_
   refine c_block ?_
   refine c_seq fun _ hK10 => ?_
   refine c_block ?_
   refine c_seq fun _ hK11 => ?_
   refine c_region ?_
   refine o_step rfl (s_move rfl) ?_
   refine o_step rfl (s_nil rfl) ?_
   refine o_step rfl (s_field rfl rfl (by decide)) ?_
   refine o_step rfl (s_ld rfl (.own meA rfl)) ?_
   refine o_step rfl (s_move rfl) ?_
   refine o_no rfl rfl rfl rfl ?_
   refine o_no rfl rfl rfl rfl ?_
   refine o_step rfl (s_pick_f rfl rfl) ?_
   refine o_step rfl (s_assign rfl) ?_
   refine o_nil ?_
   refine x_then (hK11 _ _ ?_)
   refine c_false rfl ?_
   refine c_seq fun _ hK12 => ?_
   refine c_region ?_
   refine o_step rfl (s_move rfl) ?_
   refine o_step rfl (s_move rfl) ?_
   refine o_callP (sign_fn bR la lc l i (by omega) (by omega) (.slice none 0 0 :: .int .i64 0 :: begT bR) ⟨#[41]⟩ (by decide)) rfl rfl rfl (fun _ st => ⟨(RdPK.own meA).out _ st, (RdK.old hw.1 hw.2).out _ st⟩) (fun v35 hv35 => ?_)
   subst hv35
   refine o_callP (sees_fn bR false la lc l i (by omega) (by omega) (.slice none 0 0 :: .int .i64 0 :: begT bR) (⟨#[92]⟩ ++ ⟨#[41]⟩) (by decide)) rfl rfl rfl (fun _ st => ⟨(RdPK.own meA).out _ st, (RdK.old hw.1 hw.2).out _ st⟩) (fun v36 hv36 => ?_)
   rw [show seesB l i (⟨#[92]⟩ ++ ⟨#[41]⟩ : ByteArray).data.toList = false from lit_92 hlit _ _] at hv36
   subst hv36
   refine o_step rfl (s_assign rfl) ?_
   refine o_nil ?_
   refine x_then (hK12 _ _ ?_)
   refine c_false rfl ?_
   refine c_skip ?_
   refine x_block ?_
   refine x_then (hK10 _ _ ?_)
   refine c_seq fun _ hK13 => ?_
   refine c_seq fun _ hK14 => ?_
   refine c_region ?_
   refine o_step rfl (s_move rfl) ?_
   refine o_callP (repeats_fn bR la lc l i (by omega) (by omega) hlit) rfl rfl rfl (fun _ st => ⟨(RdPK.own meA).out _ st, (RdK.old hw.1 hw.2).out _ st⟩) (fun v49 hv49 => ?_)
   subst hv49
   refine o_step rfl (s_move rfl) ?_
   refine o_no rfl rfl rfl rfl ?_
   refine o_no rfl rfl rfl rfl ?_
   refine o_no rfl rfl rfl rfl ?_
   refine o_no rfl rfl rfl rfl ?_
   refine o_no rfl rfl rfl rfl ?_
   refine o_noU rfl rfl rfl ?_
   refine o_noU rfl rfl rfl ?_
   refine o_no rfl rfl rfl rfl ?_
   refine o_no rfl rfl rfl rfl ?_
   refine o_noU rfl rfl rfl ?_
   refine o_noU rfl rfl rfl ?_
   refine o_noU rfl rfl rfl ?_
   refine o_no rfl rfl rfl rfl ?_
   refine o_step rfl (s_pick_f rfl rfl) ?_
   refine o_nil ?_
   refine x_then (hK14 _ _ ?_)
   refine c_false rfl ?_
   refine c_skip ?_
   refine x_then (hK13 _ _ ?_)
   refine c_seq fun _ hK15 => ?_
   refine c_drawE ([(bR, .cells (rdC (.slice la l.length lc) i bR).toArray 135 (0, 0))]) (fun i => false) ?_
   refine e_take 0 rfl (by kernel_rfl) (by kernel_rfl) (by kernel_rfl) (by kernel_rfl) (fun _ _ => rfl) rfl hzB (s_move rfl) ?_
   refine e_take 1 rfl (by kernel_rfl) (by kernel_rfl) (by kernel_rfl) (by kernel_rfl) (fun _ _ => rfl) rfl hzB (s_nil rfl) ?_
   refine e_take 2 rfl (by kernel_rfl) (by kernel_rfl) (by kernel_rfl) (by kernel_rfl) (fun _ _ => rfl) rfl hzB (s_field rfl rfl (by decide)) ?_
   refine e_take 3 rfl (by kernel_rfl) (by kernel_rfl) (by kernel_rfl) (by kernel_rfl) (fun _ _ => rfl) rfl hzB (s_ld rfl (.own meA rfl)) ?_
   refine e_take 4 rfl (by kernel_rfl) (by kernel_rfl) (by kernel_rfl) (by kernel_rfl) (fun _ _ => rfl) rfl hzB (s_move rfl) ?_
   refine e_take 5 rfl (by kernel_rfl) (by kernel_rfl) (by kernel_rfl) (by kernel_rfl) (fun _ _ => rfl) rfl hzB (s_nil rfl) ?_
   refine e_take 6 rfl (by kernel_rfl) (by kernel_rfl) (by kernel_rfl) (by kernel_rfl) (fun _ _ => rfl) rfl hzB (s_field rfl rfl (by decide)) ?_
   refine e_take 7 rfl (by kernel_rfl) (by kernel_rfl) (by kernel_rfl) (by kernel_rfl) (fun _ _ => rfl) rfl hzB (s_ld rfl (.own meA rfl)) ?_
   refine e_take 8 rfl (by kernel_rfl) (by kernel_rfl) (by kernel_rfl) (by kernel_rfl) (fun _ _ => rfl) rfl hzB (s_idx rfl rfl hsl (by omega)) ?_
   refine e_take 9 rfl (by kernel_rfl) (by kernel_rfl) (by kernel_rfl) (by kernel_rfl) (fun _ _ => rfl) rfl hzB (s_ldB rfl ((RdK.old hw.1 hw.2).cels hm) lnA) ?_
   refine e_one 10 rfl (by kernel_rfl) ?_
   refine o_alloc (l := Em ⟨0, false⟩) rfl rfl fun b7 => ?_
   refine o_nil ?_
   refine x_oneS hzB ?_
   refine e_one 11 rfl (by kernel_rfl) ?_
   refine o_stW rfl rfl upA lnA lnA onA ?_
   refine o_nil ?_
   refine x_oneS hzB ?_
   refine e_done (by kernel_rfl) ?_
   refine x_then (hK15 _ _ ?_)
   refine c_seq fun _ hK16 => ?_
   refine c_region ?_
   refine o_step rfl (s_assign rfl) ?_
   refine o_nil ?_
   refine x_then (hK16 _ _ ?_)
   refine c_seq fun _ hK17 => ?_
   refine c_region ?_
   refine o_step rfl (s_assign rfl) ?_
   refine o_nil ?_
   refine x_then (hK17 _ _ ?_)
   refine c_seq fun _ hK18 => ?_
   refine c_seq fun _ hK19 => ?_
   refine c_drawE ([(b7, .cells (Em m).toArray 60 (0, 0)), (bR, .cells (rdC (.slice la l.length lc) i bR).toArray 135 (0, 0))]) (fun i => false) ?_
   refine e_take 0 rfl (by kernel_rfl) (by kernel_rfl) (by kernel_rfl) (by kernel_rfl) (fun _ _ => rfl) rfl hzB (s_move rfl) ?_
   refine e_take 1 rfl (by kernel_rfl) (by kernel_rfl) (by kernel_rfl) (by kernel_rfl) (fun _ _ => rfl) rfl hzB (s_field rfl rfl (by decide)) ?_
   refine e_take 2 rfl (by kernel_rfl) (by kernel_rfl) (by kernel_rfl) (by kernel_rfl) (fun _ _ => rfl) rfl hzB (s_ld rfl (.own meA rfl)) ?_
   refine e_take 3 rfl (by kernel_rfl) (by kernel_rfl) (by kernel_rfl) (by kernel_rfl) (fun _ _ => rfl) rfl hzB (s_nil rfl) ?_
   refine e_take 4 rfl (by kernel_rfl) (by kernel_rfl) (by kernel_rfl) (by kernel_rfl) (fun _ _ => rfl) rfl hzB (s_field rfl rfl (by decide)) ?_
   refine e_take 5 rfl (by kernel_rfl) (by kernel_rfl) (by kernel_rfl) (by kernel_rfl) (fun _ _ => rfl) rfl hzB (s_indexA rfl rfl (by omega)) ?_
   refine e_take 6 rfl (by kernel_rfl) (by kernel_rfl) (by kernel_rfl) (by kernel_rfl) (fun _ _ => rfl) rfl hzB (s_ld rfl ((RdPK.own meA).cel (j := 5 + m.b.toNat) (rdC_beg hmb ⟨hLn.1, hLn.2.1, hLn.2.2.1, hLn.2.2.2.1, hLn.2.2.2.2⟩) (by omega))) ?_
   refine e_one 7 rfl (by kernel_rfl) ?_
   refine o_step rfl (s_assign rfl) ?_
   refine o_nil ?_
   refine x_oneS hzB ?_
   refine e_done (by kernel_rfl) ?_
   refine x_then (hK19 _ _ ?_)
   refine c_seq fun _ hK20 => ?_
   refine c_region ?_
   refine o_step rfl (s_move rfl) ?_
   refine o_step rfl (s_neq_nilff rfl rfl) ?_
   refine o_step rfl (s_move rfl) ?_
   refine o_no rfl rfl rfl rfl ?_
   refine o_no rfl rfl rfl rfl ?_
   refine o_no rfl rfl rfl rfl ?_
   refine o_step rfl (s_pick_f rfl rfl) ?_
   refine o_nil ?_
   refine x_then (hK20 _ _ ?_)
   refine c_false rfl ?_
   refine c_seq fun _ hK21 => ?_
   refine c_region ?_
   refine o_step rfl (s_move rfl) ?_
   refine o_step rfl (s_nil rfl) ?_
   refine o_step rfl (s_field rfl rfl (by decide)) ?_
   refine o_step rfl (s_ld rfl (.own meA rfl)) ?_
   refine o_step rfl (s_add rfl rfl (by omega)) ?_
   refine o_step rfl (s_nil rfl) ?_
   refine o_step rfl (s_field rfl rfl (by decide)) ?_
   refine o_store rfl rfl rfl upA ltA rfl ?_
   refine o_nil ?_
   refine x_then (hK21 _ _ ?_)
   refine c_region ?_
   refine o_step rfl (s_field rfl rfl (by decide)) ?_
   refine o_step rfl (s_ld rfl (.own meA rfl)) ?_
   refine o_callP (one_fn m.b) rfl rfl rfl (fun _ _ => trivial) (fun v111 hv111 => ?_)
   subst hv111
   refine o_bs (E := En) (xs := [litN m]) (vs := [_]) rfl rfl rfl rfl rfl (by decide) (by decide) fun b112 S112 hS112 => ?_
   refine o_step rfl (s_assign rfl) ?_
   refine o_nil ?_
   refine x_then (hK18 _ _ ?_)
   refine c_seq fun _ hK22 => ?_
   refine c_region ?_
   refine o_step rfl (s_move rfl) ?_
   refine o_step rfl (s_idx rfl rfl (by have := hS112.sl; exact this) (by omega)) ?_
   refine o_step rfl (s_field rfl rfl (by decide)) ?_
   refine o_step rfl (s_ld rfl ((hS112.rdk hiA).ld 0 0 rfl rfl (by decide) (by omega))) ?_
   refine o_step rfl (step_cast (v' := .bool false) (s_eql rfl rfl) rfl) ?_
   refine o_step rfl (s_assign rfl) ?_
   refine o_nil ?_
   refine x_then (hK22 _ _ ?_)
   refine c_seq fun _ hK23 => ?_
   refine c_seq fun _ hK24 => ?_
   refine c_region ?_
   refine o_step rfl (s_move rfl) ?_
   refine o_step rfl (s_move rfl) ?_
   refine o_yes rfl rfl ?_
   refine o_step rfl (s_move rfl) ?_
   refine o_yes rfl rfl ?_
   refine o_callP (repeats_fn bR la lc l (i + 1) (by omega) (by omega) hlit) rfl rfl rfl (fun _ st => ⟨(RdPK.own meA).out _ st, (RdK.old hw.1 hw.2).out _ st⟩) (fun v121 hv121 => ?_)
   subst hv121
   refine o_step rfl (s_pick_t rfl rfl) ?_
   refine o_nil ?_
   refine x_then (hK24 _ _ ?_)
   refine c_false rfl ?_
   refine c_skip ?_
   refine x_then (hK23 _ _ ?_)
   refine c_region ?_
   refine o_step rfl (s_move rfl) ?_
   refine o_step rfl (s_move rfl) ?_
   refine o_app hS (hS112.rdk hiA) rfl rfl rfl rfl (by simp; omega) (by simp; omega) rfl pkA fun a130 c130 S130 hS130 => ?_
   rw [← hto] at hS130
   rw [← hto]
   refine o_step rfl (s_assign rfl) ?_
   refine o_nil ?_
   refine x_block ?_
   refine x_then (hK9 _ _ ?_)
   refine c_region ?_
   refine o_step rfl (s_move rfl) ?_
   refine o_step rfl (s_add rfl rfl (by omega)) ?_
   refine o_step rfl (s_assign rfl) ?_
   refine o_nil ?_
   exact x_then (x_inv (i + 1, _, _, _) ⟨by dsimp only; omega, hS130⟩ (by first | omega | (dsimp only; omega)) sbA hzB)
  ·
   refine e_take 9 rfl (by kernel_rfl) (by kernel_rfl) (by kernel_rfl) (by kernel_rfl) (fun _ _ => rfl) rfl hzB (step_cast (v' := .bool false) (s_lss rfl rfl) (by rw [decide_eq_false (by omega)])) ?_
   refine e_done (by kernel_rfl) ?_
   refine x_then (hK8 _ _ ?_)
   refine c_false rfl ?_
   refine c_exit ?_
   refine x_then_exit ?_
   refine x_then_exit ?_
   refine x_block_exit ?_
   refine x_then (hK6 _ _ ?_)
   refine c_seq fun _ hK25 => ?_
   refine c_region ?_
   refine o_step rfl (s_move rfl) ?_
   refine o_step rfl (s_move rfl) ?_
   refine o_step rfl (s_assign rfl) ?_
   refine o_step rfl (s_assign rfl) ?_
   refine o_nil ?_
   refine x_then (hK25 _ _ ?_)
   refine c_ret ?_
   refine x_scope_ret (?_)
   obtain rfl : i = l.length := by omega
   rw [List.take_length] at hS
   exact x_ret rfl (.tmp rfl (.tmp rfl (.nil))) (⟨a, c, S, by rw [List.take_length]; rfl, rfl, hS⟩)
end Go.Proofs.YtopmnmigpbdddaaDoor

/- Part of the proofs over this seat: see the text that holds the theorem. Conditions: each theorem bears its own. -/
namespace Go.Proofs.YtopmnmigpbdddaaDoor
open Go Go.HL Go.Proofs Go.HL.Kl Go.HL.Kl.Mc Go.HL.Kl.Mc.AskE Go.Tab
theorem En_catn (n : Int) : En (⟨4, 0, 0, 0, 0, n⟩ : Nd) = [.int .i8 4, .int .u64 0, .int .u64 0, .int .u64 0, .int .u64 0, .int .i64 0, .int .i64 0, .int .i64 0, .int .i64 n] := by
  show _ :: (Ec 0#256 ++ _) = _
  rw [Ec_zero]; rfl
def rowL (l : List Mk) : List Nd := ⟨4, 0, 0, 0, 0, (l.length : Int)⟩ :: l.map litN
theorem rowL_len {l : List Mk} : (rowL l).length = l.length + 1 := by simp [rowL]
set_option maxHeartbeats 2000000 in
theorem sides_fn (bR : Nat) (la : Option Addr) (lc : Nat) (l : List Mk) (hll : l.length ≤ 4096) (hlit : ∀ m ∈ l, Lit m) (h2 : 2 ≤ l.length) : HL.Fn Tryd.prog 34 [pt bR] (fun W => Rd Em W (.slice la l.length lc) l ∧ Apart (keys [(bR, .cells (rdC (.slice la l.length lc) 0 bR).toArray 135 (0, 0))]) (.slice la l.length lc)) [(bR, .cells (rdC (.slice la l.length lc) 0 bR).toArray 135 (0, 0))] (fun v S' => ∃ a c S2, v = .slice a (rowL l).length c ∧ S' = (bR, .cells (rdC (.slice la l.length lc) l.length bR).toArray 135 (0, 0)) :: S2 ∧ OwnS En 9 51 (.slice a (rowL l).length c) (rowL l) S2) := by
  refine fn_of Tryd.func34 rfl rfl rfl fun w0 hw => ?_
  have hsl := hw.1.sl
  have hbl := hsl.le
  have hrl := rowL_len (l := l)
  have hml : (l.map litN).length = l.length := List.length_map ..
  refine c_seq fun _ hK1 => ?_
  refine c_region ?_
  refine o_step rfl (s_assign rfl) ?_
  refine o_nil ?_
  refine x_then (hK1 _ _ ?_)
  refine c_scope ?_
  refine c_seq fun _ hK2 => ?_
  refine c_region ?_
  refine o_step rfl (s_assign rfl) ?_
  refine o_nil ?_
  refine x_then (hK2 _ _ ?_)
  refine c_seq fun _ hK3 => ?_
  refine c_region ?_
  refine o_step rfl (s_assign rfl) ?_
  refine o_nil ?_
  refine x_then (hK3 _ _ ?_)
  refine c_seq fun _ hK4 => ?_
  refine c_label ?_
  refine x_then (hK4 _ _ ?_)
  refine c_seq fun _ hK5 => ?_
  refine c_block ?_
  refine c_loopB (fun (_u : Unit) => True) (fun (_u : Unit) => [(3, .slice none 0 0), (4, .int .i64 0)]) [(0, _), (2, _)] (fun (_u : Unit) => [(bR, .cells (rdC (.slice la l.length lc) 0 bR).toArray 135 (0, 0))]) (fun (_u : Unit) => 0) () trivial sbA sbA hzB ?_
  rintro _u _h
  refine c_block ?_
  refine c_seq fun _ hK6 => ?_
  refine c_region ?_
  refine o_step rfl (s_move rfl) ?_
  refine o_call (row_fn bR la lc l hll hlit) rfl rfl rfl (by exact .all) (fun _ st => ⟨(RdK.old hw.1 hw.2).out _ st, St.apart_M st (by exact hiB) hw.1 hw.2 (by decide)⟩) (fun v10 S10 ⟨a1, c1, S1, hv10, hS10, hO1⟩ => ?_)
  subst hv10
  subst hS10
  refine o_step rfl (s_move rfl) ?_
  refine o_step rfl (s_extract rfl rfl) ?_
  refine o_step rfl (s_extract rfl rfl) ?_
  refine o_step rfl (s_assign rfl) ?_
  refine o_step rfl (s_assign rfl) ?_
  refine o_nil ?_
  refine x_then (hK6 _ _ ?_)
  refine c_seq fun _ hK7 => ?_
  refine c_region ?_
  refine o_step rfl (s_move rfl) ?_
  refine o_step rfl (s_nil rfl) ?_
  refine o_step rfl (s_field rfl rfl (by decide)) ?_
  refine o_step rfl (s_ld rfl (.own meA rfl)) ?_
  refine o_step rfl (s_move rfl) ?_
  refine o_no rfl rfl rfl rfl ?_
  refine o_no rfl rfl rfl rfl ?_
  refine o_step rfl (s_pick_f rfl rfl) ?_
  refine o_step rfl (s_assign rfl) ?_
  refine o_nil ?_
  refine x_then (hK7 _ _ ?_)
  refine c_seq fun _ hK8 => ?_
  refine c_seq fun _ hK9 => ?_
  refine c_region ?_
  refine o_step rfl (s_move rfl) ?_
  refine o_step rfl (step_cast (v' := .bool false) (s_eql rfl rfl) (by rw [decide_eq_false (by omega)])) ?_
  refine o_step rfl (s_move rfl) ?_
  refine o_no rfl rfl rfl rfl ?_
  refine o_no rfl rfl rfl rfl ?_
  refine o_noU rfl rfl rfl ?_
  refine o_noU rfl rfl rfl ?_
  refine o_no rfl rfl rfl rfl ?_
  refine o_step rfl (s_pick_f rfl rfl) ?_
  refine o_nil ?_
  refine x_then (hK9 _ _ ?_)
  refine c_false rfl ?_
  refine c_skip ?_
  refine x_then (hK8 _ _ ?_)
  refine c_seq fun _ hK10 => ?_
  refine c_seq fun _ hK11 => ?_
  refine c_region ?_
  refine o_step rfl (s_move rfl) ?_
  refine o_step rfl (step_cast (v' := .bool true) (s_neq rfl rfl) (by rw [decide_eq_true (by omega)])) ?_
  refine o_nil ?_
  refine x_then (hK11 _ _ ?_)
  refine c_true rfl ?_
  refine c_region ?_
  refine o_step rfl (s_move rfl) ?_
  refine o_step rfl (step_cast (v' := .agg (En (⟨4, 0, 0, 0, 0, (l.length : Int)⟩ : Nd)).toArray) (s_build (cs := [_, _, _, _, _, _, _, _, _]) (vs := [_, _]) rfl rfl (.cons rfl rfl rfl rfl rfl (.cons rfl rfl rfl rfl rfl .nil))) (by rw [En_catn]; rfl)) ?_
  refine o_bs (E := En) (xs := [(⟨4, 0, 0, 0, 0, (l.length : Int)⟩ : Nd)]) (vs := [_]) rfl rfl rfl rfl rfl (by decide) (by decide) fun b40 S40 hS40 => ?_
  refine o_step rfl (s_move rfl) ?_
  refine o_app hS40 (hO1.rdk hiA) rfl rfl rfl rfl (by simp; omega) (by simp; omega) rfl pkA fun a42 c42 S42 hS42 => ?_
  have hS42 : OwnS En 9 51 (.slice a42 (rowL l).length c42) (rowL l) S42 := hS42
  refine o_step rfl (s_assign rfl) ?_
  refine o_nil ?_
  refine x_then (hK10 _ _ ?_)
  refine c_seq fun _ hK12 => ?_
  refine c_region ?_
  refine o_step rfl (s_move rfl) ?_
  refine o_step rfl (s_move rfl) ?_
  refine o_app (OwnS.nil : OwnS En 9 51 (.slice none 0 0) [] []) (hS42.rdk hiA) rfl rfl rfl rfl (by simp; omega) (by simp; omega) rfl pkA fun a45 c45 S45 hS45 => ?_
  rw [List.nil_append] at hS45
  rw [List.nil_append]
  refine o_step rfl (s_assign rfl) ?_
  refine o_nil ?_
  refine x_then (hK12 _ _ ?_)
  refine c_seq fun _ hK13 => ?_
  refine c_region ?_
  refine o_step rfl (s_move rfl) ?_
  refine o_step rfl (s_add rfl rfl (by omega)) ?_
  refine o_step rfl (s_assign rfl) ?_
  refine o_nil ?_
  refine x_then (hK13 _ _ ?_)
  refine c_seq fun _ hK14 => ?_
  refine c_seq fun _ hK15 => ?_
  refine c_region ?_
  refine o_step rfl (s_move rfl) ?_
  refine o_step rfl (s_not rfl) ?_
  refine o_nil ?_
  refine x_then (hK15 _ _ ?_)
  refine c_true rfl ?_
  refine c_exit ?_
  refine x_then_exit ?_
  refine x_block_pass rfl ?_
  refine x_then_exit ?_
  refine x_block_exit ?_
  refine x_then (hK5 _ _ ?_)
  refine c_seq fun _ hK16 => ?_
  refine c_seq fun _ hK17 => ?_
  refine c_region ?_
  refine o_step rfl (s_move rfl) ?_
  refine o_step rfl (step_cast (v' := .bool false) (s_gtr rfl rfl) rfl) ?_
  refine o_nil ?_
  refine x_then (hK17 _ _ ?_)
  refine c_false rfl ?_
  refine c_skip ?_
  refine x_then (hK16 _ _ ?_)
  refine c_seq fun _ hK18 => ?_
  refine c_region ?_
  refine o_step rfl (s_move rfl) ?_
  refine o_step rfl (s_assign rfl) ?_
  refine o_nil ?_
  refine x_then (hK18 _ _ ?_)
  refine c_ret ?_
  refine x_scope_ret (?_)
  refine x_sub (Sub.refl _) (H' := (bR, .cells (rdC (.slice la l.length lc) l.length bR).toArray 135 (0, 0)) :: S45) hzB ?_
  exact x_ret rfl (.tmp rfl (.nil)) (⟨a45, c45, S45, rfl, rfl, hS45⟩)
end Go.Proofs.YtopmnmigpbdddaaDoor

/- Part of the proofs over this seat: see the text that holds the theorem. Conditions: each theorem bears its own. -/
namespace Go.Proofs.YtopmnmigpbdddaaDoor
open Go Go.HL Go.Proofs Go.HL.Kl Go.HL.Kl.Mc Go.HL.Kl.Mc.AskE Go.Tab
def rdB (vl : Value) (B : List Value) : List Value := .bool false :: vl :: .int .i64 0 :: (.slice none 0 0 :: .int .i64 0 :: B)
theorem rdB_set {vl v : Value} {B : List Value} {j : Nat} : (rdB vl B).set (5 + j) v = rdB vl (B.set j v) := by
  rw [show 5 + j = j + 1 + 1 + 1 + 1 + 1 by omega]; rfl
theorem rdB_set0 {vl v : Value} {B : List Value} {j : Nat} : (rdB vl B).set (0 + 5 + j) v = rdB vl (B.set j v) := by
  rw [Nat.zero_add]; exact rdB_set
theorem rdB_len {vl : Value} {B : List Value} : (rdB vl B).length = B.length + 5 := rfl
theorem s_brd {κ : Cx} {L : HL.Loc} {H : Hp} {ty : TypeId} {x y : Operand} (a : Option Addr) (n c : Nat) (hx : ev L x = some (.bool false)) (hy : ev L y = some (.slice a n c)) : Step Tryd.prog κ (.build 135 #[(0, x), (1, y)]) ty L H (.agg (rdB (.slice a n c) (List.replicate 256 .nilFunc)).toArray) := by
  refine s_build (zl := rdB (.slice none 0 0) (List.replicate 256 .nilFunc)) (vs := [.bool false, .slice a n c]) (by kernel_rfl) (by simp only [List.map_cons, List.map_nil, hx, hy]) ?_
  refine .cons (cs := [.bool false]) (l' := rdB (.slice none 0 0) (List.replicate 256 .nilFunc)) rfl rfl rfl (by kernel_rfl) rfl ?_
  exact .cons (cs := [.slice a n c]) (l' := rdB (.slice a n c) (List.replicate 256 .nilFunc)) rfl rfl rfl (by kernel_rfl) rfl .nil
set_option maxHeartbeats 2000000 in
theorem newReader_fn (la : Option Addr) (lc : Nat) (l : List Mk) : HL.Fn Tryd.prog 33 [.bool false, .slice la l.length lc] (fun _ => True) [] (fun v S' => ∃ bR, v = pt bR ∧ S' = [(bR, .cells (rdC (.slice la l.length lc) 0 bR).toArray 135 (0, 0))]) := by
  refine fn_of Tryd.func33 rfl rfl rfl fun w0 hw => ?_
  refine c_seq fun _ hK1 => ?_
  refine c_region ?_
  refine o_step rfl (s_assign rfl) ?_
  refine o_nil ?_
  refine x_then (hK1 _ _ ?_)
  refine c_seq fun _ hK2 => ?_
  refine c_region ?_
  refine o_step rfl (s_move rfl) ?_
  refine o_step rfl (s_move rfl) ?_
  refine o_step rfl (s_brd la l.length lc rfl rfl) ?_
  refine o_box rfl rfl rfl fun b9 => ?_
  refine o_step rfl (s_assign rfl) ?_
  refine o_nil ?_
  refine x_then (hK2 _ _ ?_)
  refine c_seq fun _ hK3 => ?_
  refine c_region ?_
  refine o_step rfl (s_move rfl) ?_
  refine o_step rfl (s_move rfl) ?_
  refine o_step rfl (s_func (us := [_]) (vs := []) rfl rfl) ?_
  refine o_step rfl (s_nil rfl) ?_
  refine o_step rfl (s_field rfl rfl (by decide)) ?_
  refine o_step rfl (s_indexA rfl rfl (by omega)) ?_
  refine o_store (l := rdB (.slice la l.length lc) (List.replicate 256 Value.nilFunc)) rfl rfl rfl upA (by rw [rdB_len]; simp only [List.length_set, List.length_replicate]; decide) rfl ?_
  rw [rdB_set0]
  refine o_nil ?_
  refine x_then (hK3 _ _ ?_)
  refine c_seq fun _ hK4 => ?_
  refine c_region ?_
  refine o_step rfl (s_move rfl) ?_
  refine o_step rfl (s_move rfl) ?_
  refine o_step rfl (s_func (us := [_]) (vs := []) rfl rfl) ?_
  refine o_step rfl (s_nil rfl) ?_
  refine o_step rfl (s_field rfl rfl (by decide)) ?_
  refine o_step rfl (s_indexA rfl rfl (by omega)) ?_
  refine o_store (l := rdB (.slice la l.length lc) ((List.replicate 256 Value.nilFunc).set 46 (mfR 53 b9))) rfl rfl rfl upA (by rw [rdB_len]; simp only [List.length_set, List.length_replicate]; decide) rfl ?_
  rw [rdB_set0]
  refine o_nil ?_
  refine x_then (hK4 _ _ ?_)
  refine c_seq fun _ hK5 => ?_
  refine c_region ?_
  refine o_step rfl (s_move rfl) ?_
  refine o_step rfl (s_move rfl) ?_
  refine o_step rfl (s_func (us := [_]) (vs := []) rfl rfl) ?_
  refine o_step rfl (s_nil rfl) ?_
  refine o_step rfl (s_field rfl rfl (by decide)) ?_
  refine o_step rfl (s_indexA rfl rfl (by omega)) ?_
  refine o_store (l := rdB (.slice la l.length lc) (((List.replicate 256 Value.nilFunc).set 46 (mfR 53 b9)).set 91 (mfR 54 b9))) rfl rfl rfl upA (by rw [rdB_len]; simp only [List.length_set, List.length_replicate]; decide) rfl ?_
  rw [rdB_set0]
  refine o_nil ?_
  refine x_then (hK5 _ _ ?_)
  refine c_seq fun _ hK6 => ?_
  refine c_region ?_
  refine o_step rfl (s_move rfl) ?_
  refine o_step rfl (s_move rfl) ?_
  refine o_step rfl (s_func (us := [_]) (vs := []) rfl rfl) ?_
  refine o_step rfl (s_nil rfl) ?_
  refine o_step rfl (s_field rfl rfl (by decide)) ?_
  refine o_step rfl (s_indexA rfl rfl (by omega)) ?_
  refine o_store (l := rdB (.slice la l.length lc) ((((List.replicate 256 Value.nilFunc).set 46 (mfR 53 b9)).set 91 (mfR 54 b9)).set 92 (mfR 55 b9))) rfl rfl rfl upA (by rw [rdB_len]; simp only [List.length_set, List.length_replicate]; decide) rfl ?_
  rw [rdB_set0]
  refine o_nil ?_
  refine x_then (hK6 _ _ ?_)
  refine c_seq fun _ hK7 => ?_
  refine c_region ?_
  refine o_step rfl (s_move rfl) ?_
  refine o_step rfl (s_move rfl) ?_
  refine o_step rfl (s_func (us := [_]) (vs := []) rfl rfl) ?_
  refine o_step rfl (s_nil rfl) ?_
  refine o_step rfl (s_field rfl rfl (by decide)) ?_
  refine o_step rfl (s_indexA rfl rfl (by omega)) ?_
  refine o_store (l := rdB (.slice la l.length lc) (((((List.replicate 256 Value.nilFunc).set 46 (mfR 53 b9)).set 91 (mfR 54 b9)).set 92 (mfR 55 b9)).set 94 (mfR 56 b9))) rfl rfl rfl upA (by rw [rdB_len]; simp only [List.length_set, List.length_replicate]; decide) rfl ?_
  rw [rdB_set0]
  refine o_nil ?_
  refine x_then (hK7 _ _ ?_)
  refine c_seq fun _ hK8 => ?_
  refine c_seq fun _ hK9 => ?_
  refine c_region ?_
  refine o_step rfl (s_move rfl) ?_
  refine o_nil ?_
  refine x_then (hK9 _ _ ?_)
  refine c_false rfl ?_
  refine c_skip ?_
  refine x_then (hK8 _ _ ?_)
  refine c_seq fun _ hK10 => ?_
  refine c_region ?_
  refine o_step rfl (s_move rfl) ?_
  refine o_step rfl (s_assign rfl) ?_
  refine o_nil ?_
  refine x_then (hK10 _ _ ?_)
  refine c_ret ?_
  refine ?_
  exact x_ret rfl (.tmp rfl (.nil)) (⟨b9, rfl, rfl⟩)
end Go.Proofs.YtopmnmigpbdddaaDoor

/- Mathematics of the longest match: the list of instructions to which runs come at a place. Conditions: none. -/
namespace Go.HL.Kl.Mc
open Go Go.HL Go.HL.Kl
/-- a list with one more, if it is not in it -/
def comeL (l : List Nat) (k : Nat) : List Nat := if k ∈ l then l else l ++ [k]
theorem comeL_mem {l : List Nat} {k j : Nat} : j ∈ comeL l k ↔ j ∈ l ∨ j = k := by
  unfold comeL
  split
  · exact ⟨.inl, fun h => h.elim id fun h => h ▸ ‹k ∈ l›⟩
  · simp
theorem comeL_pre {l : List Nat} {k i : Nat} (h : i < l.length) : (comeL l k)[i]? = l[i]? := by
  unfold comeL
  split
  · rfl
  · rw [List.getElem?_append_left h]
theorem comeL_len {l : List Nat} {k : Nat} : l.length ≤ (comeL l k).length ∧ (comeL l k).length ≤ l.length + 1 := by
  unfold comeL
  split <;> simp
theorem comeL_nd {l : List Nat} {k : Nat} (h : l.Nodup) : (comeL l k).Nodup := by
  unfold comeL
  split
  · exact h
  · rw [List.nodup_append]
    refine ⟨h, by simp, fun a ha b hb e => ?_⟩
    simp only [List.mem_singleton] at hb
    subst hb; subst e; exact ‹a ∉ l› ha
/-- which instructions were met: those with the stamp -/
structure MetOk (mt : List Int) (st : Int) (l : List Nat) (N : Nat) : Prop where
  len : mt.length = N
  get : ∀ (k : Nat) v, mt[k]? = some v → (v = st ↔ k ∈ l)
  le : ∀ v ∈ mt, 0 ≤ v ∧ v ≤ st
  lt : ∀ k ∈ l, k < N
  nd : l.Nodup
theorem nodup_le : ∀ {N : Nat} {l : List Nat}, l.Nodup → (∀ k ∈ l, k < N) → l.length ≤ N
  | 0, l, _, hl => by
    cases l with
    | nil => exact Nat.le_refl _
    | cons a l => exact absurd (hl a List.mem_cons_self) (by omega)
  | N + 1, l, h, hl => by
    have h1 := nodup_le (N := N) (h.erase N) fun k hk => by
      have h2 := (h.mem_erase_iff).1 hk
      have := hl k h2.2
      have := h2.1
      omega
    by_cases hm : N ∈ l
    · rw [List.length_erase_of_mem hm] at h1; omega
    · rw [List.erase_of_not_mem hm] at h1; omega
theorem MetOk.big {mt : List Int} {st : Int} {l : List Nat} {N : Nat} (h : MetOk mt st l N) : l.length ≤ N := nodup_le h.nd h.lt
theorem MetOk.come {mt : List Int} {st : Int} {l : List Nat} {N k : Nat} (h : MetOk mt st l N) (hk : k < N) (hn : k ∉ l) (h0 : 0 ≤ st) : MetOk (mt.set k st) st (comeL l k) N := by
  refine ⟨by rw [List.length_set]; exact h.len, fun j v hv => ?_, fun v hv => ?_, fun j hj => ?_, comeL_nd h.nd⟩
  · rw [comeL_mem]
    by_cases e : k = j
    · subst e
      rw [List.getElem?_set_self (by rw [h.len]; exact hk)] at hv
      cases hv
      exact ⟨fun _ => .inr rfl, fun _ => rfl⟩
    · rw [List.getElem?_set_ne e] at hv
      rw [h.get j v hv]
      exact ⟨.inl, fun h => h.elim id fun e' => absurd e'.symm e⟩
  · rcases List.mem_or_eq_of_mem_set hv with h' | rfl
    · exact h.le v h'
    · exact ⟨h0, Int.le_refl _⟩
  · rcases comeL_mem.1 hj with h' | rfl
    · exact h.lt j h'
    · exact hk
variable {m : List In} {w : List UInt8}
/-- the instructions at a place, of which the first i have been gone on from -/
structure Lst (m : List In) (n p : Nat) (B : Nat → Prop) (l : List Nat) (i : Nat) : Prop where
  lt : ∀ k ∈ l, k < m.length
  base : ∀ k, B k → k ∈ l
  src : ∀ k ∈ l, ∃ b, B b ∧ EpsS m n p b k
  cl : ∀ (j k k' : Nat), j < i → l[j]? = some k → Eps m n p k k' → k' ∈ l
theorem Lst.start {n p : Nat} {B : Nat → Prop} {l : List Nat} (hl : ∀ k, k ∈ l ↔ B k) (hb : ∀ k, B k → k < m.length) : Lst m n p B l 0 :=
  ⟨fun k hk => hb k ((hl k).1 hk), fun k hk => (hl k).2 hk, fun k hk => ⟨k, (hl k).1 hk, .refl⟩, fun j k k' h => by omega⟩
/-- the same list, with more of what the i-th one leads to -/
structure LstS (m : List In) (n p : Nat) (B : Nat → Prop) (l : List Nat) (i : Nat) (D : List Nat) : Prop where
  lst : Lst m n p B l i
  pl : i < l.length
  dn : ∀ k ∈ D, k ∈ l
theorem Lst.go {n p : Nat} {B : Nat → Prop} {l : List Nat} {i : Nat} (h : Lst m n p B l i) (hi : i < l.length) : LstS m n p B l i [] := ⟨h, hi, fun k hk => by cases hk⟩
theorem LstS.come {n p : Nat} {B : Nat → Prop} {l D : List Nat} {i k k' : Nat} (hm : MOk m) (h : LstS m n p B l i D) (hk : l[i]? = some k) (he : Eps m n p k k') : LstS m n p B (comeL l k') i (k' :: D) := by
  refine ⟨⟨fun j hj => ?_, fun j hj => comeL_mem.2 (.inl (h.lst.base j hj)), fun j hj => ?_, fun j x x' hj hx hxx => ?_⟩, Nat.lt_of_lt_of_le h.pl comeL_len.1, fun j hj => ?_⟩
  · rcases comeL_mem.1 hj with h' | rfl
    · exact h.lst.lt j h'
    · exact hm.lt he
  · rcases comeL_mem.1 hj with h' | rfl
    · exact h.lst.src j h'
    · obtain ⟨b, hb, hbk⟩ := h.lst.src k (List.mem_of_getElem? hk)
      exact ⟨b, hb, hbk.tail he⟩
  · rw [comeL_pre (Nat.lt_trans hj h.pl)] at hx
    exact comeL_mem.2 (.inl (h.lst.cl j x x' hj hx hxx))
  · rcases List.mem_cons.1 hj with rfl | hj
    · exact comeL_mem.2 (.inr rfl)
    · exact comeL_mem.2 (.inl (h.dn j hj))
theorem LstS.next {n p : Nat} {B : Nat → Prop} {l D : List Nat} {i k : Nat} (h : LstS m n p B l i D) (hk : l[i]? = some k) (hd : ∀ k', Eps m n p k k' → k' ∈ D) : Lst m n p B l (i + 1) := by
  refine ⟨h.lst.lt, h.lst.base, h.lst.src, fun j x x' hj hx hxx => ?_⟩
  by_cases e : j = i
  · subst e; rw [hk] at hx; cases hx
    exact h.dn x' (hd x' hxx)
  · exact h.lst.cl j x x' (by omega) hx hxx
theorem Lst.done {n p : Nat} {B : Nat → Prop} {l : List Nat} {i : Nat} (h : Lst m n p B l i) (hi : l.length ≤ i) (k : Nat) : k ∈ l ↔ ∃ b, B b ∧ EpsS m n p b k := by
  refine ⟨h.src k, fun ⟨b, hb, he⟩ => ?_⟩
  have key : ∀ {x y : Nat}, EpsS m n p x y → x ∈ l → y ∈ l := by
    intro x y he
    induction he with
    | refl => exact id
    | head h1 _ ih =>
      intro hx
      obtain ⟨j, hj⟩ := List.mem_iff_getElem?.1 hx
      exact ih (h.cl j _ _ (Nat.lt_of_lt_of_le (List.getElem?_eq_some_iff.1 hj).1 hi) hj h1)
  exact key he (h.base b hb)
/-- where a byte leads from the first j of a list -/
def wayB (m : List In) (w : List UInt8) (p : Nat) (l : List Nat) (j : Nat) (k : Nat) : Prop := ∃ i x, i < j ∧ l[i]? = some x ∧ Eat m w x p ∧ k = x + 1
theorem wayB_zero {p : Nat} {l : List Nat} {k : Nat} : ¬ wayB m w p l 0 k := fun ⟨i, _, h, _⟩ => by omega
theorem wayB_yes {p j x : Nat} {l : List Nat} {k : Nat} (hx : l[j]? = some x) (he : Eat m w x p) : wayB m w p l (j + 1) k ↔ wayB m w p l j k ∨ k = x + 1 := by
  constructor
  · rintro ⟨i, y, h1, h2, h3, h4⟩
    by_cases e : i = j
    · subst e; rw [hx] at h2; cases h2; exact .inr h4
    · exact .inl ⟨i, y, by omega, h2, h3, h4⟩
  · rintro (⟨i, y, h1, h2, h3, h4⟩ | h)
    · exact ⟨i, y, by omega, h2, h3, h4⟩
    · exact ⟨j, x, by omega, hx, he, h⟩
theorem wayB_no {p j x : Nat} {l : List Nat} {k : Nat} (hx : l[j]? = some x) (he : ¬ Eat m w x p) : wayB m w p l (j + 1) k ↔ wayB m w p l j k := by
  constructor
  · rintro ⟨i, y, h1, h2, h3, h4⟩
    by_cases e : i = j
    · subst e; rw [hx] at h2; cases h2; exact absurd h3 he
    · exact ⟨i, y, by omega, h2, h3, h4⟩
  · rintro ⟨i, y, h1, h2, h3, h4⟩; exact ⟨i, y, by omega, h2, h3, h4⟩
/-- the instructions to which runs from a place come at another one, ahead of the steps without a byte -/
def Base (m : List In) (w : List UInt8) (f p : Nat) (k : Nat) : Prop := (p = f ∧ k = 0) ∨ ∃ q x, p = q + 1 ∧ f ≤ q ∧ Run m w (0, f) (x, q) ∧ Eat m w x q ∧ k = x + 1
theorem run_base2 {f p k : Nat} (hf : f ≤ p) : Run m w (0, f) (k, p) ↔ ∃ b, Base m w f p b ∧ EpsS m w.length p b k := by
  rcases Nat.lt_or_ge f p with h | h
  · obtain ⟨q, rfl⟩ : ∃ q, p = q + 1 := ⟨p - 1, by omega⟩
    rw [run_succ (by omega)]
    constructor
    · rintro ⟨j, h1, h2, h3⟩; exact ⟨j + 1, .inr ⟨q, j, rfl, by omega, h1, h2, rfl⟩, h3⟩
    · rintro ⟨b, (⟨h1, _⟩ | ⟨q', x, h1, _, h2, h3, rfl⟩), h4⟩
      · omega
      · obtain rfl : q = q' := by omega
        exact ⟨x, h2, h3, h4⟩
  · obtain rfl : p = f := by omega
    rw [run_base]
    constructor
    · intro h; exact ⟨0, .inl ⟨rfl, rfl⟩, h⟩
    · rintro ⟨b, (⟨_, rfl⟩ | ⟨q', x, h1, h2, _⟩), h4⟩
      · exact h4
      · omega
theorem base_lt {f p k : Nat} (hm : MOk m) (h : Base m w f p k) : k < m.length := by
  rcases h with ⟨_, rfl⟩ | ⟨q, x, _, _, _, ⟨t, b, ht, ho, _⟩, rfl⟩
  · exact hm.1
  · exact (hm.2.2 x t ht).2 (by omega)
theorem way_base {f p : Nat} {l : List Nat} (hf : f ≤ p) (hl : ∀ k, k ∈ l ↔ Run m w (0, f) (k, p)) {k : Nat} : wayB m w p l l.length k ↔ Base m w f (p + 1) k := by
  constructor
  · rintro ⟨i, x, _, h2, h3, rfl⟩
    exact .inr ⟨p, x, rfl, hf, (hl x).1 (List.mem_of_getElem? h2), h3, rfl⟩
  · rintro (⟨h1, _⟩ | ⟨q, x, h1, _, h2, h3, rfl⟩)
    · omega
    · obtain rfl : p = q := by omega
      obtain ⟨i, hi⟩ := List.mem_iff_getElem?.1 ((hl x).2 h2)
      exact ⟨i, x, (List.getElem?_eq_some_iff.1 hi).1, hi, h3, rfl⟩
/-- the ends up to a place -/
structure EndsTo (m : List In) (w : List UInt8) (f p : Nat) (es : List Bool) (last : Int) : Prop where
  len : es.length = w.length + 1
  get : ∀ q, q ≤ w.length → (es[q]? = some true ↔ f ≤ q ∧ q < p ∧ Hit m w f q)
  last : (last = -1 ∧ ∀ q, q ≤ w.length → ¬ (f ≤ q ∧ q < p ∧ Hit m w f q)) ∨ ∃ q : Nat, last = q ∧ f ≤ q ∧ q < p ∧ q ≤ w.length ∧ Hit m w f q ∧ ∀ q', q < q' → q' < p → q' ≤ w.length → ¬ Hit m w f q'
theorem EndsTo.zero {f : Nat} : EndsTo m w f f (List.replicate (w.length + 1) false) (-1) :=
  ⟨List.length_replicate, fun q hq => ⟨fun h => (by rw [List.getElem?_replicate] at h; split at h <;> cases h), fun ⟨h1, h2, _⟩ => by omega⟩, .inl ⟨rfl, fun q _ ⟨h1, h2, _⟩ => by omega⟩⟩
theorem EndsTo.step {f p : Nat} {es es' : List Bool} {last last' : Int} (h : EndsTo m w f p es last) (hf : f ≤ p) (hp : p ≤ w.length) (h1 : Hit m w f p → es' = es.set p true ∧ last' = p) (h2 : ¬ Hit m w f p → es' = es ∧ last' = last) : EndsTo m w f (p + 1) es' last' := by
  by_cases hh : Hit m w f p
  · obtain ⟨rfl, rfl⟩ := h1 hh
    refine ⟨by rw [List.length_set]; exact h.len, fun q hq => ?_, .inr ⟨p, rfl, hf, by omega, hp, hh, fun q' a b c => by omega⟩⟩
    by_cases e : p = q
    · subst e
      rw [List.getElem?_set_self (by rw [h.len]; omega)]
      exact ⟨fun _ => ⟨hf, by omega, hh⟩, fun _ => rfl⟩
    · rw [List.getElem?_set_ne e, h.get q hq]
      exact ⟨fun ⟨a, b, c⟩ => ⟨a, by omega, c⟩, fun ⟨a, b, c⟩ => ⟨a, by omega, c⟩⟩
  · obtain ⟨rfl, rfl⟩ := h2 hh
    refine ⟨h.len, fun q hq => ?_, ?_⟩
    · rw [h.get q hq]
      exact ⟨fun ⟨a, b, c⟩ => ⟨a, by omega, c⟩, fun ⟨a, b, c⟩ => ⟨a, by (by_cases e : q = p; (· subst e; exact absurd c hh); (· omega)), c⟩⟩
    · rcases h.last with ⟨e, hn⟩ | ⟨q, e, a, b, c, d, g⟩
      · exact .inl ⟨e, fun q hq ⟨a, b, c⟩ => by (by_cases e : q = p; (· subst e; exact hh c); (· exact hn q hq ⟨a, by omega, c⟩))⟩
      · exact .inr ⟨q, e, a, by omega, c, d, fun q' x y z => by (by_cases e' : q' = p; (· subst e'; exact hh); (· exact g q' x (by omega) z))⟩
theorem hit_mem {f p : Nat} {l : List Nat} (hl : ∀ k, k ∈ l ↔ Run m w (0, f) (k, p)) : Hit m w f p ↔ ∃ k t, k ∈ l ∧ m[k]? = some t ∧ t.op = 6 :=
  ⟨fun ⟨i, t, h1, h2, h3⟩ => ⟨i, t, (hl i).2 h1, h2, h3⟩, fun ⟨k, t, h1, h2, h3⟩ => ⟨k, t, (hl k).1 h1, h2, h3⟩⟩
/-- no run goes on: there are no more ends -/
theorem EndsTo.stop {f p : Nat} {es : List Bool} {last : Int} (h : EndsTo m w f p es last) (hn : ∀ k, ¬ Base m w f p k) (hf : f < p) : ∀ q, p ≤ q → ¬ Hit m w f q := by
  have key : ∀ n k, ¬ Run m w (0, f) (k, p + n) := by
    intro n
    induction n with
    | zero => intro k hr; obtain ⟨b, hb, _⟩ := (run_base2 (by omega)).1 hr; exact hn b hb
    | succ n ih =>
      intro k hr
      rw [← Nat.add_assoc, run_succ (by omega)] at hr
      obtain ⟨j, h1, _⟩ := hr
      exact ih j h1
  intro q hq ⟨i, t, hr, _⟩
  exact key (q - p) i (by rw [show p + (q - p) = q by omega]; exact hr)
theorem EndsTo.ext {f p p' : Nat} {es : List Bool} {last : Int} (h : EndsTo m w f p es last) (hp : p ≤ p') (hn : ∀ q, p ≤ q → q ≤ w.length → ¬ Hit m w f q) : EndsTo m w f p' es last := by
  refine ⟨h.len, fun q hq => ?_, ?_⟩
  · rw [h.get q hq]
    exact ⟨fun ⟨a, b, c⟩ => ⟨a, by omega, c⟩, fun ⟨a, b, c⟩ => ⟨a, Nat.lt_of_not_le fun e => hn q e hq c, c⟩⟩
  · rcases h.last with ⟨e, hn'⟩ | ⟨q, e, a, b, c, d, g⟩
    · exact .inl ⟨e, fun q hq ⟨a, b, c⟩ => hn' q hq ⟨a, Nat.lt_of_not_le fun e => hn q e hq c, c⟩⟩
    · exact .inr ⟨q, e, a, by omega, c, d, fun q' x y z c' => (Nat.lt_or_ge q' p).elim (fun e' => g q' x e' z c') fun e' => hn q' e' z c'⟩
/-- what was noted of the first i of a list -/
structure Done6 (m : List In) (l : List Nat) (i p : Nat) (es0 : List Bool) (last0 : Int) (es : List Bool) (last : Int) : Prop where
  y : (∃ j k t, j < i ∧ l[j]? = some k ∧ m[k]? = some t ∧ t.op = 6) → es = es0.set p true ∧ last = p
  n : ¬ (∃ (j k : Nat) (t : In), j < i ∧ l[j]? = some k ∧ m[k]? = some t ∧ t.op = 6) → es = es0 ∧ last = last0
theorem Done6.zero {l : List Nat} {p : Nat} {es0 : List Bool} {last0 : Int} : Done6 m l 0 p es0 last0 es0 last0 := ⟨fun ⟨j, _, _, h, _⟩ => by omega, fun _ => ⟨rfl, rfl⟩⟩
theorem Done6.mono {l l' : List Nat} {i p : Nat} {es0 es : List Bool} {last0 last : Int} (h : Done6 m l i p es0 last0 es last) (hl : ∀ j, j < i → l'[j]? = l[j]?) : Done6 m l' i p es0 last0 es last :=
  ⟨fun ⟨j, k, t, h1, h2, h3⟩ => h.y ⟨j, k, t, h1, by rw [← hl j h1]; exact h2, h3⟩, fun hn => h.n fun ⟨j, k, t, h1, h2, h3⟩ => hn ⟨j, k, t, h1, by rw [hl j h1]; exact h2, h3⟩⟩
theorem Done6.no {l : List Nat} {i p k : Nat} {t : In} {es0 es : List Bool} {last0 last : Int} (h : Done6 m l i p es0 last0 es last) (hk : l[i]? = some k) (ht : m[k]? = some t) (h6 : ¬ t.op = 6) : Done6 m l (i + 1) p es0 last0 es last := by
  have e : ∀ {j k' t'}, j < i + 1 → l[j]? = some k' → m[k']? = some t' → t'.op = 6 → j < i := by
    intro j k' t' h1 h2 h3 h4
    rcases Nat.lt_or_ge j i with h5 | h5
    · exact h5
    · obtain rfl : j = i := by omega
      rw [hk] at h2; cases h2
      rw [ht] at h3; cases h3
      exact absurd h4 h6
  exact ⟨fun ⟨j, k', t', h1, h2, h3, h4⟩ => h.y ⟨j, k', t', e h1 h2 h3 h4, h2, h3, h4⟩, fun hn => h.n fun ⟨j, k', t', h1, h2, h3⟩ => hn ⟨j, k', t', by omega, h2, h3⟩⟩
theorem Done6.yes {l : List Nat} {i p k : Nat} {t : In} {es0 es : List Bool} {last0 last : Int} (h : Done6 m l i p es0 last0 es last) (hk : l[i]? = some k) (ht : m[k]? = some t) (h6 : t.op = 6) : Done6 m l (i + 1) p es0 last0 (es.set p true) p := by
  refine ⟨fun _ => ⟨?_, rfl⟩, fun hn => absurd ⟨i, k, t, by omega, hk, ht, h6⟩ hn⟩
  by_cases hc : ∃ (j k : Nat) (t : In), j < i ∧ l[j]? = some k ∧ m[k]? = some t ∧ t.op = 6
  · rw [(h.y hc).1, List.set_set]
  · rw [(h.n hc).1]
theorem EndsTo.done {f p i : Nat} {l : List Nat} {es es0 : List Bool} {last last0 : Int} (h : EndsTo m w f p es0 last0) (hd : Done6 m l i p es0 last0 es last) (hi : l.length ≤ i) (hf : f ≤ p) (hp : p ≤ w.length) (hl : ∀ k, k ∈ l ↔ Run m w (0, f) (k, p)) : EndsTo m w f (p + 1) es last := by
  refine h.step hf hp (fun hh => ?_) (fun hh => ?_)
  · obtain ⟨k, t, h1, h2, h3⟩ := (hit_mem hl).1 hh
    obtain ⟨j, hj⟩ := List.mem_iff_getElem?.1 h1
    exact hd.y ⟨j, k, t, Nat.lt_of_lt_of_le (List.getElem?_eq_some_iff.1 hj).1 hi, hj, h2, h3⟩
  · exact hd.n fun ⟨j, k, t, _, h1, h2, h3⟩ => hh ((hit_mem hl).2 ⟨k, t, List.mem_of_getElem? h1, h2, h3⟩)
/-- numbers of two bytes -/
def Es16 (x : Int) : List Value := [.int .i16 x]
instance : Enc Es16 1 := ⟨fun _ => rfl, fun x v hv => by
  simp only [Es16, List.mem_cons, List.not_mem_nil, or_false] at hv
  subst hv; rfl⟩
structure FrG where
  (st steps last : Int) (mt : List Int) (ha : Option Addr) (hc : Nat) (l : List Nat) (wa : Option Addr) (wc : Nat) (wl : List Nat) (es : List Bool) (St Sh Sw Se : Hp)
end Go.HL.Kl.Mc

/- Part of the proofs over this seat: see the text that holds the theorem. Conditions: each theorem bears its own. -/
namespace Go.HL.Kl.Mc
/-- the longest match of the least start -/
structure LFound (m : List In) (w : List UInt8) (f p q : Nat) : Prop where
  fp : f ≤ p
  pq : p ≤ q
  qn : q ≤ w.length
  hit : Hit m w p q
  far : ∀ q', q < q' → q' ≤ w.length → ¬ Hit m w p q'
  near : ∀ p' q', f ≤ p' → p' < p → p' ≤ q' → q' ≤ w.length → ¬ Hit m w p' q'
def LNone (m : List In) (w : List UInt8) (f : Nat) : Prop := ∀ p q, f ≤ p → p ≤ q → q ≤ w.length → ¬ Hit m w p q
theorem EndsTo.no {m : List In} {w : List UInt8} {p : Nat} {es : List Bool} {last : Int} (h : EndsTo m w p (w.length + 1) es last) (hl : last < 0) : ∀ q, p ≤ q → q ≤ w.length → ¬ Hit m w p q := fun q h1 h2 hh => by
  rcases h.last with ⟨_, h3⟩ | ⟨q', e, _⟩
  · exact h3 q h2 ⟨h1, by omega, hh⟩
  · omega
theorem EndsTo.yes {m : List In} {w : List UInt8} {f p : Nat} {es : List Bool} {last : Int} (h : EndsTo m w p (w.length + 1) es last) (hl : 0 ≤ last) (hf : f ≤ p) (hn : ∀ p' q', f ≤ p' → p' < p → p' ≤ q' → q' ≤ w.length → ¬ Hit m w p' q') : LFound m w f p last.toNat := by
  rcases h.last with ⟨h1, _⟩ | ⟨q, e, a, b, c, d, g⟩
  · omega
  · subst e
    simp only [Int.toNat_natCast]
    exact ⟨hf, a, c, d, fun q' h1 h2 => g q' h1 (by omega) h2, hn⟩
theorem MetOk.start {N : Nat} : MetOk (List.replicate N 0) 0 (List.range N) N := by
  refine ⟨List.length_replicate, fun k v hv => ?_, fun v hv => ?_, fun k hk => List.mem_range.1 hk, List.nodup_range⟩
  · have h1 := (List.getElem?_eq_some_iff.1 hv).1
    rw [List.length_replicate] at h1
    rw [List.getElem?_replicate, if_pos h1] at hv
    cases hv
    exact ⟨fun _ => List.mem_range.2 h1, fun _ => rfl⟩
  · have := List.eq_of_mem_replicate hv
    subst this
    exact ⟨Int.le_refl _, Int.le_refl _⟩
end Go.HL.Kl.Mc

/- What the reference's code answers: so many instructions. Conditions: none. -/
namespace Go.HL.Kl.Mc
open Go Go.HL Go.HL.Kl
/-- an answer: a list of its own of so many instructions -/
def CodeP (T n : Nat) (v : Value) (S' : Hp) : Prop := ∃ (a : Option Addr) (c : Nat) (m : List In), v = .slice a m.length c ∧ m.length = n ∧ OwnS Ein 7 T (.slice a m.length c) m S'
/-- the contract of code, of sides -/
def CodeC (P : Program) (fn T : Nat) (x : Nd) (ks : F) : Prop := ∀ (ma : Option Addr) (mc : Nat) (m : List In) (Sm : Hp) (ra : Option Addr) (rc : Nat) (re : List Nd) (i i1 : Nat), (∀ x ∈ re, -128 ≤ x.op ∧ x.op < 128) → (∀ x ∈ re, ¬ x.op = 8) → re.length ≤ 1000000 → Part re (.nd x ks .nil) i i1 → OwnS Ein 7 T (.slice ma m.length mc) m Sm → m.length + lenT x ks ≤ 70000 →
  Fn P fn [.slice ma m.length mc, .slice ra re.length rc, .int .i64 i] (fun W => Rd En W (.slice ra re.length rc) re ∧ Apart (keys Sm) (.slice ra re.length rc)) Sm (CodeP T (m.length + lenT x ks))
end Go.HL.Kl.Mc

/- Nodes, instructions and their lists as they come in. Conditions: none. -/
namespace Go.HL.Kl.Mc
open Go Go.HL Go.HL.Kl Go.RowKit Go.ChangeShapes Go.WideShapes Go.ChangeAt
def Ew1 (w : BitVec 64) : List Value := [Ew w]
instance : Enc Ew1 1 := ⟨fun _ => rfl, fun _ v hv => by simp [Ew1, Ew] at hv; subst hv; rfl⟩
def mk4 (a b c d : BitVec 64) : Cl := setw (setw (setw (setw 0 0 a) 1 b) 2 c) 3 d
def Ei8 (n : Int) : List Value := [.int .i8 n]
instance : Enc Ei8 1 := ⟨fun _ => rfl, fun _ _ h => by simp [Ei8] at h; subst h; rfl⟩
end Go.HL.Kl.Mc

/- Part of the proofs over this seat: see the text that holds the theorem. Conditions: each theorem bears its own. -/
namespace Go.HL
open Go
/-! lists of lists: for the bag that looks whether lists share memory -/
section
variable {α : Type} {E : α → List Value} {k : Nat} {T : TypeId}
/-- lists that the heap's part S bears, each owned: headers, and what they hold -/
inductive OwnL (E : α → List Value) (k : Nat) (T : TypeId) : List (Sl α) → List (List α) → Hp → Prop
  | nil : OwnL E k T [] [] []
  | cons {s : Sl α} {xs : List α} {sls : List (Sl α)} {xss : List (List α)} {S R : Hp} (h : OwnS E k T s.v xs S) (hs : OwnL E k T sls xss R) : OwnL E k T (s :: sls) (xs :: xss) (S ++ R)
/-- what is written into the list n -/
def mkL (f : Nat → Nat → α) (n m : Nat) : List α := (List.range m).map (f n)
/-- likewise, all of them marked, from the list n on -/
inductive OwnF (E : α → List Value) (k : Nat) (T : TypeId) (f : Nat → Nat → α) : Nat → List (Sl α) → Hp → Prop
  | nil {n : Nat} : OwnF E k T f n [] []
  | cons {n : Nat} {s : Sl α} {sls : List (Sl α)} {S R : Hp} (h : OwnS E k T s.v (mkL f n s.xs.length) S) (hs : OwnF E k T f (n + 1) sls R) : OwnF E k T f n (s :: sls) (S ++ R)
/-- the first n lists have been gone on with -/
structure Done (E : α → List Value) (f : Nat → Nat → α) (sls ones mores : List (Sl α)) (G : Hp) (n : Nat) : Prop where
  out : ∀ j, j < n → ∃ s o m, sls[j]? = some s ∧ ones[j]? = some o ∧ mores[j]? = some m ∧ o.xs = mkL f j (s.xs.length + 1) ∧ m.xs = mkL f j (s.xs.length + 70) ∧ IsSl s.v s.xs.length ∧ IsSl o.v o.xs.length ∧ IsSl m.v m.xs.length ∧ RdS E s.v (mkL f j s.xs.length) G ∧ RdS E o.v o.xs G ∧ RdS E m.v m.xs G
end
end Go.HL

/- Compile's errors; nodes written over. Conditions: none. -/
namespace Go.HL.Kl.Mc
open Go Go.HL Go.HL.Kl
/-- the error of Compile -/
noncomputable def errC (re : List Nd) : Int := if shapedB re = false then 49 else if refsB re = true then 44 else 0
theorem cut_eq {n : Nat} (h : n ≤ 16384) : cut n = n := by unfold cut; omega
/-- the first j nodes are sets -/
structure SetsTo (l : List Nd) (n j : Nat) : Prop where
  len : l.length = n
  rng : ∀ x ∈ l, -128 ≤ x.op ∧ x.op < 128
  get : ∀ t, t < j → ∃ y, l[t]? = some y ∧ y.op = 1 ∧ y.kids = 0
def cls9 (j : Nat) : Cl := mk4 9#64 0#64 (BitVec.ofNat 64 j) 0#64
attribute [irreducible] cls9
def spN (i : Nat) : Nd := ⟨0, 0, ((1048576 * 9 + i + 1 : Nat) : Int), -7, 0, 0⟩
end Go.HL.Kl.Mc

/- What Best and Find answer. Conditions: none. -/
namespace Go.HL.Kl.Mc
open Go Go.HL Go.HL.Kl AskE
/-- a regex that captures take, and a place of a derivation -/
structure May (re : List Nd) (w : List UInt8) (x : Nd) (ks : F) : Prop where
  sh : shapedB re = true
  rf : refsB re = false
  hs : Shp re x ks
def CapO (T : Nat) (w : List UInt8) (re : List Nd) (x : Nd) (ks : F) (p q : Nat) (v : Value) (S' : Hp) : Prop := ∃ a cc, v = .tuple #[.slice a (capsV w re x ks p q).length cc, .bool true] ∧ OwnS Esp 2 T (.slice a (capsV w re x ks p q).length cc) (capsV w re x ks p q) S'
def BestP (T : Nat) (re : List Nd) (w : List UInt8) (fr to : Int) (v : Value) (S' : Hp) : Prop :=
  (∃ x ks, ∃ p q : Nat, May re w x ks ∧ fr = p ∧ to = q ∧ p ≤ q ∧ q ≤ w.length ∧ der1 w x ks p q ∧ CapO T w re x ks p q v S') ∨
  ((¬ ∃ x ks, ∃ p q : Nat, May re w x ks ∧ fr = p ∧ to = q ∧ p ≤ q ∧ q ≤ w.length ∧ der1 w x ks p q) ∧ v = .tuple #[.slice none 0 0, .bool false] ∧ S' = [])
/-- the leftmost, there the longest -/
structure Lft (w : List UInt8) (x : Nd) (ks : F) (f p q : Nat) : Prop where
  ge : f ≤ p
  le : p ≤ q
  len : q ≤ w.length
  der : der1 w x ks p q
  left : ∀ p' q', f ≤ p' → p' < p → q' ≤ w.length → ¬ der1 w x ks p' q'
  long : ∀ q', q < q' → q' ≤ w.length → ¬ der1 w x ks p q'
def FindP (T : Nat) (re : List Nd) (w : List UInt8) (f : Int) (v : Value) (S' : Hp) : Prop :=
  (∃ x ks, ∃ g p q : Nat, May re w x ks ∧ f = g ∧ Lft w x ks g p q ∧ CapO T w re x ks p q v S') ∨
  ((¬ ∃ x ks, ∃ g p q : Nat, May re w x ks ∧ f = g ∧ g ≤ p ∧ q ≤ w.length ∧ der1 w x ks p q) ∧ v = .tuple #[.slice none 0 0, .bool false] ∧ S' = [])
end Go.HL.Kl.Mc

/- Part of the proofs over this seat: see the text that holds the theorem. Conditions: each theorem bears its own. -/
namespace Go.HL.Kl.Mc
theorem hit_le {m : List In} {w : List UInt8} {a b : Nat} (h : Hit m w a b) : a ≤ b := by
  obtain ⟨i, t, ⟨n, hr⟩, _⟩ := h
  exact runN_le hr
theorem der_le {x : Nd} {ks : F} {w : List UInt8} (hw : (F.nd x ks .nil).wf) {a b : Nat} (h : der1 w x ks a b) : a ≤ b := hit_le ((mach_hit hw).2 h)
theorem LFound.lft {x : Nd} {ks : F} {w : List UInt8} {f p q : Nat} (hw : (F.nd x ks .nil).wf) (h : LFound (mach (.nd x ks .nil)) w f p q) : Lft w x ks f p q := by
  have key : ∀ a b, Hit (mach (.nd x ks .nil)) w a b ↔ der1 w x ks a b := fun a b => mach_hit hw
  refine ⟨h.fp, h.pq, h.qn, (key _ _).1 h.hit, fun p' q' h1 h2 h3 hd => ?_, fun q' h1 h2 hd => h.far q' h1 h2 ((key _ _).2 hd)⟩
  exact h.near p' q' h1 h2 (der_le hw hd) h3 ((key _ _).2 hd)
theorem LNone.lft {x : Nd} {ks : F} {w : List UInt8} {f : Nat} (hw : (F.nd x ks .nil).wf) (h : LNone (mach (.nd x ks .nil)) w f) : ¬ ∃ p q, f ≤ p ∧ q ≤ w.length ∧ der1 w x ks p q :=
  fun ⟨p, q, h1, h2, h3⟩ => h p q h1 (der_le hw h3) h2 ((mach_hit hw).2 h3)
/-- no match: what Find answers -/
theorem FindP.not {T : Nat} {re : List Nd} {w : List UInt8} {f : Nat} {x : Nd} {ks : F} (hM : May re w x ks) (h : LNone (mach (.nd x ks .nil)) w f) : FindP T re w f (.tuple #[.slice none 0 0, .bool false]) [] := by
  refine .inr ⟨fun ⟨x', ks', g, p, q, hM', hg, h1, h2, h3⟩ => ?_, rfl, rfl⟩
  obtain ⟨rfl, rfl⟩ := hM'.hs.uniq hM.hs
  have hg' : f = g := by omega
  subst hg'
  exact LNone.lft hM.hs.wf h ⟨p, q, h1, h2, h3⟩
theorem FindP.yes {T : Nat} {re : List Nd} {w : List UInt8} {f p q : Nat} {x : Nd} {ks : F} {v : Value} {S' : Hp} (hM : May re w x ks) (h : LFound (mach (.nd x ks .nil)) w f p q) (hb : BestP T re w p q v S') : FindP T re w f v S' := by
  have hl := h.lft hM.hs.wf
  rcases hb with ⟨x', ks', p', q', hM', hp, hq, h1, h2, h3, hC⟩ | ⟨hn, _⟩
  · obtain ⟨rfl, rfl⟩ := hM'.hs.uniq hM.hs
    have e1 : p = p' := by omega
    have e2 : q = q' := by omega
    subst e1 e2
    exact .inl ⟨x', ks', f, p, q, hM, rfl, hl, hC⟩
  · exact absurd ⟨x, ks, p, q, hM, rfl, rfl, h.pq, h.qn, hl.der⟩ hn
/-- a number that is out of the text: what Find answers -/
theorem FindP.out {T : Nat} {re : List Nd} {w : List UInt8} {f : Int} {x : Nd} {ks : F} (hM : May re w x ks) (h : f < 0 ∨ (w.length : Int) < f) : FindP T re w f (.tuple #[.slice none 0 0, .bool false]) [] := by
  refine .inr ⟨fun ⟨x', ks', g, p, q, hM', hg, h1, h2, h3⟩ => ?_, rfl, rfl⟩
  have := der_le hM'.hs.wf h3
  omega
end Go.HL.Kl.Mc

/- Machines of parts: rows of sets, searched and put together. Conditions: none. -/
namespace Go.HL.Kl.Mc
open Go Go.HL Go.HL.Kl
/-- rows of sets -/
structure RowsP (rs : List (Sl Bool)) (N : Nat) (D : Nat → Nat → Prop) : Prop where
  len : rs.length = N + 1
  get : ∀ p, p ≤ N → ∃ s, rs[p]? = some s ∧ IsS s.xs N (D p)
/-- the first k rows -/
structure RowsTo (rs : List (Sl Bool)) (N k : Nat) (D : Nat → Nat → Prop) : Prop where
  len : rs.length = k
  get : ∀ p, p < k → ∃ s, rs[p]? = some s ∧ IsS s.xs N (D p)
/-- rows that a part of the heap bears -/
structure RdRows (W : World) (v : Value) (rs : List (Sl Bool)) : Prop where
  out : Rd (Esl (α := Bool)) W v rs
  row : ∀ s ∈ rs, Rd Ebo W (.slice s.a s.xs.length s.c) s.xs
/-! a set, added place by place -/
def orTo (a b : List Bool) (i : Nat) : List Bool := (List.range a.length).map fun j => if j < i then orF a b j else bo0 a j
def fromTo (D : Nat → Nat → Prop) (P : Nat → Prop) (k q : Nat) : Prop := ∃ p, p < k ∧ P p ∧ D p q
structure AgP (N : Nat) (D : Nat → Nat → Prop) (p : Nat) (out : List Bool) (todo : List Nat) : Prop where
  len : out.length = N + 1
  me : out[p]? = some true
  sound : ∀ q : Nat, out[q]? = some true → ∃ k, pow D k p q
  td : ∀ t ∈ todo, out[t]? = some true
  closed : ∀ q : Nat, out[q]? = some true → q ∉ todo → ∀ r, r ≤ N → D q r → out[r]? = some true
/-- the place t at hand, its first k targets looked at -/
structure AgK (N : Nat) (D : Nat → Nat → Prop) (p t k : Nat) (out : List Bool) (todo : List Nat) : Prop where
  len : out.length = N + 1
  me : out[p]? = some true
  tt : out[t]? = some true
  sound : ∀ q : Nat, out[q]? = some true → ∃ k, pow D k p q
  td : ∀ t ∈ todo, out[t]? = some true
  closed : ∀ q : Nat, out[q]? = some true → q ∉ todo → q ≠ t → ∀ r, r ≤ N → D q r → out[r]? = some true
  part : ∀ r, r < k → D t r → out[r]? = some true
def mvN (g : Nat) (x : Nd) : Nd := if 0 < x.n then { x with n := IntKind.i64.wrap (x.n + g) } else x
def F.mv (g : Nat) : F → F
  | .nil => .nil
  | .nd x ks r => .nd (mvN g x) (ks.mv g) (r.mv g)
/-- two regexes under one node -/
def catN : Nd := ⟨4, 0, 0, 0, 0, 2⟩
def altN : Nd := ⟨5, 0, 0, 0, 0, 2⟩
def twoL (n : Nd) (a b : List Nd) (g : Nat) : List Nd := n :: (a ++ b.map (mvN g))
end Go.HL.Kl.Mc
namespace Go.HL.Kl.Mc
open Go Go.HL Go.HL.Kl
def mvTo (g : Nat) (b : List Nd) (j : Nat) : List Nd := (b.take j).map (mvN g) ++ b.drop j
/-- the answer of runs -/
def RowsC (N : Nat) (D : Nat → Nat → Prop) (v : Value) (S : Hp) : Prop := ∃ (a : Option Addr) (c : Nat) (rs : List (Sl Bool)), v = .slice a rs.length c ∧ RowsP rs N D ∧ ∀ W : World, (∀ b o, (b, o) ∈ S → W.heap[b]? = some o) → RdRows W (.slice a rs.length c) rs
/-- read as rows, in every world that bears this part -/
def RdRS (v : Value) (rs : List (Sl Bool)) (S : Hp) : Prop := ∀ W : World, (∀ b o, (b, o) ∈ S → W.heap[b]? = some o) → RdRows W v rs
end Go.HL.Kl.Mc

/- What Compile answers, as a pair; nodes written out. Conditions: none. -/
namespace Go.HL.Kl.Mc
open Go Go.HL Go.HL.Kl
/-- an answer of Compile that is good -/
def CompOk (re : List Nd) (sv : Value) (S : Hp) (x : Nd) (ks : F) : Prop := ∃ a, shapedB re = true ∧ refsB re = false ∧ Shp re x ks ∧ sv = .slice a (mach (.nd x ks .nil)).length (mach (.nd x ks .nil)).length ∧ RdS Ein (.slice a (mach (.nd x ks .nil)).length (mach (.nd x ks .nil)).length) (mach (.nd x ks .nil)) S
end Go.HL.Kl.Mc
