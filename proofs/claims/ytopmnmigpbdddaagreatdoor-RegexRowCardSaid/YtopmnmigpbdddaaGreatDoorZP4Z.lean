/- Part of the proofs over this seat: see the text that holds the theorem. Conditions: each theorem bears its own. -/
import Derived.Test.YtopmnmigpbdddaaGreatDoorHTZ
import Derived.Test.YtopmnmigpbdddaaGreatDoorZA2Z
import Derived.Test.YtopmnmigpbdddaaGreatDoorZB4Z
import Derived.Test.YtopmnmigpbdddaaGreatDoorZL2Z
import Derived.Test.YtopmnmigpbdddaaGreatDoorMK3Z
import Derived.Test.YtopmnmigpbdddaaGreatDoorMK6Z
import Derived.Test.YtopmnmigpbdddaaGreatDoorZW6Z
import Derived.Test.YtopmnmigpbdddaaGreatDoorZN4Z
import Derived.Test.YtopmnmigpbdddaaGreatDoorBS7Z
import Derived.Test.YtopmnmigpbdddaaGreatDoorMT8Z
import Derived.Test.YtopmnmigpbdddaaGreatDoorHlB
import Derived.Test.YtopmnmigpbdddaaGreatDoorRows
import Derived.ProofKit
import Derived.LaidMore
import Derived.Stop.Joined
import Derived.Lib.LaidTab
import Derived.ChangeSame
namespace Go.Proofs.YtopmnmigpbdddaaGreatDoor
open Go Go.HL Go.Proofs Go.HL.Kl Go.HL.Kl.Mc Go.HL.Kl.Mc.AskE Go.Tab
set_option maxHeartbeats 4000000 in
theorem row_fn (bR : Nat) (la : Option Addr) (lc : Nat) (l : List Mk) (hll : l.length ≤ 4096) (hlit : ∀ m ∈ l, Lit m) : HL.Fn Tryz.prog 157 [pt bR] (fun W => Rd Em W (.slice la l.length lc) l ∧ Apart (keys [(bR, .cells (rdC (.slice la l.length lc) 0 bR).toArray 245 (0, 0))]) (.slice la l.length lc)) [(bR, .cells (rdC (.slice la l.length lc) 0 bR).toArray 245 (0, 0))] (fun v S' => ∃ a c S2, v = .tuple #[.int .i64 l.length, .slice a (l.map litN).length c] ∧ S' = (bR, .cells (rdC (.slice la l.length lc) l.length bR).toArray 245 (0, 0)) :: S2 ∧ OwnS En 9 108 (.slice a (l.map litN).length c) (l.map litN) S2) := by
  refine fn_of Tryz.func157 rfl rfl rfl fun w0 hw => ?_
  have hsl := hw.1.sl
  have hbl := hsl.le
  refine cR fun _ hK1 => ?_; refine oA (oA (oZ hK1 ?_)); refine c_scope ?_; refine cR fun _ hK2 => ?_; refine oA (oZ hK2 (cR fun _ hK3 => ?_)); refine oA (oZ hK3 (cR fun _ hK4 => ?_)); refine oA (oZ hK4 (c_seq fun _ hK5 => ?_)); refine c_label ?_; refine xZ hK5 (c_seq fun _ hK6 => ?_); refine c_block ?_
  refine c_loop4 (fun (i : Nat) (a : Option Addr) (c : Nat) (S : Hp) => i ≤ l.length ∧ OwnS En 9 108 (.slice a ((l.take i).map litN).length c) ((l.take i).map litN) S) (fun (i : Nat) (a : Option Addr) (c : Nat) (S : Hp) => [(4, .slice a ((l.take i).map litN).length c), (5, .int .i64 i)]) [(0, _), (2, _), (3, _)] (fun (i : Nat) (a : Option Addr) (c : Nat) (S : Hp) => (bR, .cells (rdC (.slice la l.length lc) i bR).toArray 245 (0, 0)) :: S) (fun (i : Nat) (a : Option Addr) (c : Nat) (S : Hp) => l.length - i) 0 none 0 [] ⟨Nat.zero_le _, .nil⟩ sbA sbA hzB ?_
  rintro i a c S ⟨hi, hS⟩
  refine c_seq fun _ hK7 => ?_; refine c_seq fun _ hK8 => ?_; refine c_drawE ([(bR, .cells (rdC (.slice la l.length lc) i bR).toArray 245 (0, 0))]) (fun i => false) ?_; refine eK 0 rfl sM ?_; refine eK 1 rfl sN ?_; refine eK 2 rfl sF ?_; refine eK 3 rfl sL ?_; refine eK 4 rfl sM ?_; refine eK 5 rfl sN ?_; refine eK 6 rfl sF ?_; refine eK 7 rfl sL ?_; refine eK 8 rfl sC ?_
  by_cases hil : (i : Int) < l.length
  ·obtain ⟨m, hm⟩ : ∃ m, l[i]? = some m := gE
   have hL := hlit m (List.mem_of_getElem? hm)
   have hLn := hL.nat
   have hmb : m.b.toNat < 256 := m.b.toNat_lt
   have hto : (l.take (i + 1)).map litN = (l.take i).map litN ++ [litN m] := by rw [List.take_add_one, hm]; simp
   refine eK 9 rfl lsT (eZ hK8 ?_); refine cTZ hK7 (c_seq fun _ hK9 => ?_); refine c_block (c_seq fun _ hK10 => ?_); refine c_block (cR fun _ hK11 => ?_); refine oM ?_; refine oS sN ?_; refine oS sF ?_; refine oS sL (oM ?_); refine oN ?_; refine oN ?_; refine oS sP (oA (oZ hK11 ?_)); refine cF (cR fun _ hK12 => ?_); refine oM (oM ?_); refine o_callP (sign_fn bR la lc l i (by omega) (by omega) (.slice none 0 0 :: .int .i64 0 :: begT bR) ⟨#[41]⟩ (by decide)) rfl rfl rfl (fun _ st => ⟨(RdPK.own meA).out _ st, (RdK.old hw.1 hw.2).out _ st⟩) (fun v35 hv35 => ?_); subst hv35
   refine o_callP (sees_fn bR false la lc l i (by omega) (by omega) (.slice none 0 0 :: .int .i64 0 :: begT bR) (⟨#[92]⟩ ++ ⟨#[41]⟩) (by decide)) rfl rfl rfl (fun _ st => ⟨(RdPK.own meA).out _ st, (RdK.old hw.1 hw.2).out _ st⟩) (fun v36 hv36 => ?_)
   rw [show seesB l i (⟨#[92]⟩ ++ ⟨#[41]⟩ : ByteArray).data.toList = false from lit_92 hlit _ _] at hv36
   subst hv36; refine oA (oZ hK12 ?_); refine cF (c_skip (x_block (xZ hK10 (c_seq fun _ hK13 => ?_)))); refine cR fun _ hK14 => ?_; refine oM ?_; refine o_callP (repeats_fn bR la lc l i (by omega) (by omega) hlit) rfl rfl rfl (fun _ st => ⟨(RdPK.own meA).out _ st, (RdK.old hw.1 hw.2).out _ st⟩) (fun v49 hv49 => ?_); subst hv49
   refine oM ?_; refine oN ?_; refine oN ?_; refine oN ?_; refine oN ?_; refine oN ?_; refine oU ?_; refine oU ?_; refine oN ?_; refine oN ?_; refine oU ?_; refine oU ?_; refine oU ?_; refine oN ?_; refine oS sP (oZ hK14 ?_); refine cFZ hK13 (c_seq fun _ hK15 => ?_); refine c_drawE ([(bR, .cells (rdC (.slice la l.length lc) i bR).toArray 245 (0, 0))]) (fun i => false) ?_; refine eK 0 rfl sM ?_; refine eK 1 rfl sN ?_; refine eK 2 rfl sF ?_; refine eK 3 rfl sL ?_; refine eK 4 rfl sM ?_; refine eK 5 rfl sN ?_; refine eK 6 rfl sF ?_; refine eK 7 rfl sL ?_; refine eK 8 rfl (s_idx rfl rfl hsl (by omega)) ?_; refine eK 9 rfl (s_ldB rfl ((RdK.old hw.1 hw.2).cels hm) lnA) ?_; refine eO 10 rfl ?_; refine o_alloc (l := Em ⟨0, false⟩) rfl rfl fun b7 => ?_; refine oX (eO 11 rfl ?_); refine o_stW rfl rfl upA lnA lnA onA ?_; refine oX (eZ hK15 (cR fun _ hK16 => ?_)); refine oA (oZ hK16 (cR fun _ hK17 => ?_)); refine oA (oZ hK17 ?_)
   refine c_seq fun _ hK18 => ?_; refine c_seq fun _ hK19 => ?_; refine c_drawE ([(b7, .cells (Em m).toArray 110 (0, 0)), (bR, .cells (rdC (.slice la l.length lc) i bR).toArray 245 (0, 0))]) (fun i => false) ?_; refine eK 0 rfl sM ?_; refine eK 1 rfl sF ?_; refine eK 2 rfl sL ?_; refine eK 3 rfl sN ?_; refine eK 4 rfl sF ?_; refine eK 5 rfl (s_indexA rfl rfl (by omega)) ?_; refine eK 6 rfl (s_ld rfl ((RdPK.own meA).cel (j := 5 + m.b.toNat) (rdC_beg hmb ⟨hLn.1, hLn.2.1, hLn.2.2.1, hLn.2.2.2.1, hLn.2.2.2.2⟩) (by omega))) ?_; refine eO 7 rfl (oA (oX (eZ hK19 (cR fun _ hK20 => ?_)))); refine oM ?_; refine oS (s_neq_nilff rfl rfl) ?_; refine oM ?_; refine oN ?_; refine oN ?_; refine oN ?_; refine oS sP (oZ hK20 ?_); refine cF (cR fun _ hK21 => ?_); refine oM ?_; refine oS sN ?_; refine oS sF ?_; refine oS sL ?_; refine oS sD ?_; refine oS sN ?_; refine oS sF ?_; refine o_store rfl rfl rfl upA ltA rfl ?_; refine oZ hK21 (c_region ?_); refine oS sF ?_; refine oS sL ?_; refine o_callP (one_fn m.b) rfl rfl rfl (fun _ _ => trivial) (fun v111 hv111 => ?_)
   subst hv111; refine o_bs (E := En) (xs := [litN m]) (vs := [_]) rfl rfl rfl rfl rfl (by decide) (by decide) fun b112 S112 hS112 => ?_; refine oA (oZ hK18 (cR fun _ hK22 => ?_)); refine oM ?_; refine oS (s_idx rfl rfl (by have := hS112.sl; exact this) (by omega)) ?_; refine oS sF ?_; refine oS (s_ld rfl ((hS112.rdk hiA).ld 0 0 rfl rfl (by decide) (by omega))) ?_; refine oS (step_cast (v' := .bool false) (s_eql rfl rfl) rfl) ?_; refine oA (oZ hK22 (c_seq fun _ hK23 => ?_)); refine cR fun _ hK24 => ?_; refine oM (oM ?_); refine oY (oM ?_); refine oY ?_; refine o_callP (repeats_fn bR la lc l (i + 1) (by omega) (by omega) hlit) rfl rfl rfl (fun _ st => ⟨(RdPK.own meA).out _ st, (RdK.old hw.1 hw.2).out _ st⟩) (fun v121 hv121 => ?_); subst hv121
   refine oS sT (oZ hK24 ?_); refine cFZ hK23 (c_region (oM (oM ?_))); refine o_app hS (hS112.rdk hiA) rfl rfl rfl rfl (by simp; omega) (by simp; omega) rfl pkA fun a130 c130 S130 hS130 => ?_
   rw [← hto] at hS130
   rw [← hto]
   refine oA (o_nil (x_block (xZ hK9 (c_region (oM ?_))))); refine oS sD (oA (o_nil ?_)); exact xI (i + 1, _, _, _) ⟨by dsimp only; omega, hS130⟩
  ·refine eK 9 rfl lsF (eZ hK8 ?_); refine cF ?_; refine c_exit ?_; refine x_then_exit (x_then_exit (x_block_exit (xZ hK6 (cR fun _ hK25 => ?_)))); refine oM (oM (oA (oA (oZ hK25 (c_ret ?_))))); refine x_scope_ret (?_)
   obtain rfl : i = l.length := by omega
   rw [List.take_length] at hS
   exact x_ret rfl (.tmp rfl (.tmp rfl (.nil))) (⟨a, c, S, by rw [List.take_length]; rfl, rfl, hS⟩)
theorem En_catn (n : Int) : En (⟨4, 0, 0, 0, 0, n⟩ : Nd) = [.int .i8 4, .int .u64 0, .int .u64 0, .int .u64 0, .int .u64 0, .int .i64 0, .int .i64 0, .int .i64 0, .int .i64 n] := by
  show _ :: (Ec 0#256 ++ _) = _
  rw [Ec_zero]; rfl
def rowL (l : List Mk) : List Nd := ⟨4, 0, 0, 0, 0, (l.length : Int)⟩ :: l.map litN
theorem rowL_len {l : List Mk} : (rowL l).length = l.length + 1 := by simp [rowL]
set_option maxHeartbeats 2000000 in
theorem sides_fn (bR : Nat) (la : Option Addr) (lc : Nat) (l : List Mk) (hll : l.length ≤ 4096) (hlit : ∀ m ∈ l, Lit m) (h2 : 2 ≤ l.length) : HL.Fn Tryz.prog 136 [pt bR] (fun W => Rd Em W (.slice la l.length lc) l ∧ Apart (keys [(bR, .cells (rdC (.slice la l.length lc) 0 bR).toArray 245 (0, 0))]) (.slice la l.length lc)) [(bR, .cells (rdC (.slice la l.length lc) 0 bR).toArray 245 (0, 0))] (fun v S' => ∃ a c S2, v = .slice a (rowL l).length c ∧ S' = (bR, .cells (rdC (.slice la l.length lc) l.length bR).toArray 245 (0, 0)) :: S2 ∧ OwnS En 9 108 (.slice a (rowL l).length c) (rowL l) S2) := by
  refine fn_of Tryz.func136 rfl rfl rfl fun w0 hw => ?_
  have hsl := hw.1.sl
  have hbl := hsl.le
  have hrl := rowL_len (l := l)
  have hml : (l.map litN).length = l.length := List.length_map ..
  refine cR fun _ hK1 => ?_; refine oA (oZ hK1 ?_); refine c_scope ?_; refine cR fun _ hK2 => ?_; refine oA (oZ hK2 (cR fun _ hK3 => ?_)); refine oA (oZ hK3 (c_seq fun _ hK4 => ?_)); refine c_label ?_; refine xZ hK4 (c_seq fun _ hK5 => ?_); refine c_block ?_; refine c_loopB (fun (_u : Unit) => True) (fun (_u : Unit) => [(3, .slice none 0 0), (4, .int .i64 0)]) [(0, _), (2, _)] (fun (_u : Unit) => [(bR, .cells (rdC (.slice la l.length lc) 0 bR).toArray 245 (0, 0))]) (fun (_u : Unit) => 0) () trivial sbA sbA hzB ?_
  rintro _u _h
  refine c_block (cR fun _ hK6 => ?_); refine oM ?_; refine o_call (row_fn bR la lc l hll hlit) rfl rfl rfl (by exact .all) (fun _ st => ⟨(RdK.old hw.1 hw.2).out _ st, St.apart_M st (by exact hiB) hw.1 hw.2 (by decide)⟩) (fun v10 S10 ⟨a1, c1, S1, hv10, hS10, hO1⟩ => ?_); subst hv10
  subst hS10; refine oM ?_; refine oS sE ?_; refine oS sE (oA (oA (oZ hK6 (cR fun _ hK7 => ?_)))); refine oM ?_; refine oS sN ?_; refine oS sF ?_; refine oS sL (oM ?_); refine oN ?_; refine oN ?_; refine oS sP (oA (oZ hK7 (c_seq fun _ hK8 => ?_))); refine cR fun _ hK9 => ?_; refine oM ?_; refine oS eqF (oM ?_); refine oN ?_; refine oN ?_; refine oU ?_; refine oU ?_; refine oN ?_; refine oS sP (oZ hK9 ?_); refine cFZ hK8 (c_seq fun _ hK10 => ?_); refine cR fun _ hK11 => ?_; refine oM ?_; refine oS nqT (oZ hK11 ?_); refine cT (c_region (oM ?_)); refine oS (step_cast (v' := .agg (En (⟨4, 0, 0, 0, 0, (l.length : Int)⟩ : Nd)).toArray) (s_build (cs := [_, _, _, _, _, _, _, _, _]) (vs := [_, _]) rfl rfl (.cons rfl rfl rfl rfl rfl (.cons rfl rfl rfl rfl rfl .nil))) (by rw [En_catn]; rfl)) ?_
  refine o_bs (E := En) (xs := [(⟨4, 0, 0, 0, 0, (l.length : Int)⟩ : Nd)]) (vs := [_]) rfl rfl rfl rfl rfl (by decide) (by decide) fun b40 S40 hS40 => ?_; refine oM ?_; refine o_app hS40 (hO1.rdk hiA) rfl rfl rfl rfl (by simp; omega) (by simp; omega) rfl pkA fun a42 c42 S42 hS42 => ?_
  have hS42 : OwnS En 9 108 (.slice a42 (rowL l).length c42) (rowL l) S42 := hS42
  refine oA (oZ hK10 (cR fun _ hK12 => ?_)); refine oM (oM ?_); refine o_app (OwnS.nil : OwnS En 9 108 (.slice none 0 0) [] []) (hS42.rdk hiA) rfl rfl rfl rfl (by simp; omega) (by simp; omega) rfl pkA fun a45 c45 S45 hS45 => ?_
  rw [List.nil_append] at hS45
  rw [List.nil_append]
  refine oA (oZ hK12 (cR fun _ hK13 => ?_)); refine oM ?_; refine oS sD (oA (oZ hK13 (c_seq fun _ hK14 => ?_))); refine cR fun _ hK15 => ?_; refine oM ?_; refine oS (s_not rfl) ?_; refine oZ hK15 ?_; refine cT ?_; refine c_exit ?_; refine x_then_exit ?_; refine x_block_pass rfl ?_; refine x_then_exit (x_block_exit (xZ hK5 (c_seq fun _ hK16 => ?_))); refine cR fun _ hK17 => ?_; refine oM ?_; refine oS (step_cast (v' := .bool false) (s_gtr rfl rfl) rfl) ?_; refine oZ hK17 ?_
  refine cFZ hK16 (cR fun _ hK18 => ?_); refine oM (oA (oZ hK18 (c_ret ?_))); refine x_scope_ret (?_); refine x_sub (Sub.refl _) (H' := (bR, .cells (rdC (.slice la l.length lc) l.length bR).toArray 245 (0, 0)) :: S45) hzB ?_; exact xR rfl rfl (⟨a45, c45, S45, rfl, rfl, hS45⟩)
def rdB (vl : Value) (B : List Value) : List Value := .bool false :: vl :: .int .i64 0 :: (.slice none 0 0 :: .int .i64 0 :: B)
theorem rdB_set {vl v : Value} {B : List Value} {j : Nat} : (rdB vl B).set (5 + j) v = rdB vl (B.set j v) := by
  rw [show 5 + j = j + 1 + 1 + 1 + 1 + 1 by omega]; rfl
theorem rdB_set0 {vl v : Value} {B : List Value} {j : Nat} : (rdB vl B).set (0 + 5 + j) v = rdB vl (B.set j v) := by
  rw [Nat.zero_add]; exact rdB_set
theorem rdB_len {vl : Value} {B : List Value} : (rdB vl B).length = B.length + 5 := rfl
theorem s_brd {κ : Cx} {L : HL.Loc} {H : Hp} {ty : TypeId} {x y : Operand} (a : Option Addr) (n c : Nat) (hx : ev L x = some (.bool false)) (hy : ev L y = some (.slice a n c)) : Step Tryz.prog κ (.build 245 #[(0, x), (1, y)]) ty L H (.agg (rdB (.slice a n c) (List.replicate 256 .nilFunc)).toArray) := by
  refine s_build (zl := rdB (.slice none 0 0) (List.replicate 256 .nilFunc)) (vs := [.bool false, .slice a n c]) (by kernel_rfl) (by simp only [List.map_cons, List.map_nil, hx, hy]) ?_; refine .cons (cs := [.bool false]) (l' := rdB (.slice none 0 0) (List.replicate 256 .nilFunc)) rfl rfl rfl (by kernel_rfl) rfl ?_
  exact .cons (cs := [.slice a n c]) (l' := rdB (.slice a n c) (List.replicate 256 .nilFunc)) rfl rfl rfl (by kernel_rfl) rfl .nil
set_option maxHeartbeats 2000000 in
theorem newReader_fn (la : Option Addr) (lc : Nat) (l : List Mk) : HL.Fn Tryz.prog 135 [.bool false, .slice la l.length lc] (fun _ => True) [] (fun v S' => ∃ bR, v = pt bR ∧ S' = [(bR, .cells (rdC (.slice la l.length lc) 0 bR).toArray 245 (0, 0))]) := by
  refine fn_of Tryz.func135 rfl rfl rfl fun w0 hw => ?_; refine cR fun _ hK1 => ?_; refine oA (oZ hK1 (cR fun _ hK2 => ?_)); refine oM (oM ?_); refine oS (s_brd la l.length lc rfl rfl) ?_; refine o_box rfl rfl rfl fun b9 => ?_; refine oA (oZ hK2 (cR fun _ hK3 => ?_)); refine oM (oM ?_); refine oS (s_func (us := [_]) (vs := []) rfl rfl) ?_; refine oS sN ?_; refine oS sF ?_; refine oS (s_indexA rfl rfl (by omega)) ?_; refine o_store (l := rdB (.slice la l.length lc) (List.replicate 256 Value.nilFunc)) rfl rfl rfl upA (by rw [rdB_len]; simp only [List.length_set, List.length_replicate]; decide) rfl ?_
  rw [rdB_set0]
  refine oZ hK3 (cR fun _ hK4 => ?_); refine oM (oM ?_); refine oS (s_func (us := [_]) (vs := []) rfl rfl) ?_; refine oS sN ?_; refine oS sF ?_; refine oS (s_indexA rfl rfl (by omega)) ?_; refine o_store (l := rdB (.slice la l.length lc) ((List.replicate 256 Value.nilFunc).set 46 (mfR 151 b9))) rfl rfl rfl upA (by rw [rdB_len]; simp only [List.length_set, List.length_replicate]; decide) rfl ?_
  rw [rdB_set0]
  refine oZ hK4 (cR fun _ hK5 => ?_); refine oM (oM ?_); refine oS (s_func (us := [_]) (vs := []) rfl rfl) ?_; refine oS sN ?_; refine oS sF ?_; refine oS (s_indexA rfl rfl (by omega)) ?_; refine o_store (l := rdB (.slice la l.length lc) (((List.replicate 256 Value.nilFunc).set 46 (mfR 151 b9)).set 91 (mfR 152 b9))) rfl rfl rfl upA (by rw [rdB_len]; simp only [List.length_set, List.length_replicate]; decide) rfl ?_
  rw [rdB_set0]
  refine oZ hK5 (cR fun _ hK6 => ?_); refine oM (oM ?_); refine oS (s_func (us := [_]) (vs := []) rfl rfl) ?_; refine oS sN ?_; refine oS sF ?_; refine oS (s_indexA rfl rfl (by omega)) ?_; refine o_store (l := rdB (.slice la l.length lc) ((((List.replicate 256 Value.nilFunc).set 46 (mfR 151 b9)).set 91 (mfR 152 b9)).set 92 (mfR 153 b9))) rfl rfl rfl upA (by rw [rdB_len]; simp only [List.length_set, List.length_replicate]; decide) rfl ?_
  rw [rdB_set0]
  refine oZ hK6 (cR fun _ hK7 => ?_); refine oM (oM ?_); refine oS (s_func (us := [_]) (vs := []) rfl rfl) ?_; refine oS sN ?_; refine oS sF ?_; refine oS (s_indexA rfl rfl (by omega)) ?_; refine o_store (l := rdB (.slice la l.length lc) (((((List.replicate 256 Value.nilFunc).set 46 (mfR 151 b9)).set 91 (mfR 152 b9)).set 92 (mfR 153 b9)).set 94 (mfR 154 b9))) rfl rfl rfl upA (by rw [rdB_len]; simp only [List.length_set, List.length_replicate]; decide) rfl ?_
  rw [rdB_set0]
  refine oZ hK7 (c_seq fun _ hK8 => ?_); refine cR fun _ hK9 => ?_; refine oM (oZ hK9 ?_); refine cFZ hK8 (cR fun _ hK10 => ?_); refine oM (oA (oZ hK10 (c_ret ?_))); refine ?_; exact xR rfl rfl (⟨b9, rfl, rfl⟩)
end Go.Proofs.YtopmnmigpbdddaaGreatDoor
namespace Go.HL.Kl.Mc
open Go Go.HL Go.Tab
def litM (m : Mk) : Nd := ⟨1, ofL [m.b], 0, 0, 0, 0⟩
def litF : List Mk → F
  | [] => .nil
  | m :: ms => .nd (litM m) .nil (litF ms)
def catM (n : Nat) : Nd := ⟨4, 0, 0, 0, 0, (n : Int)⟩
theorem litM_eq (m : Mk) : litM m = letN m.b := by
  show (⟨1, ofL [m.b], 0, 0, 0, 0⟩ : Nd) = ⟨1, bit m.b.toNat, 0, 0, 0, 0⟩
  congr 1
  simp [ofL]
theorem litF_num : ∀ l, (litF l).num = l.length
  | [] => rfl
  | m :: ms => by simp [litF, F.num, litF_num ms]
theorem litF_flat : ∀ l, (litF l).flat = l.map litM
  | [] => rfl
  | m :: ms => by simp [litF, F.flat, litF_flat ms]
theorem litF_wf : ∀ l, (litF l).wf
  | [] => trivial
  | m :: ms => ⟨by rw [litM_eq]; exact let_ok' m.b, rfl, trivial, litF_wf ms⟩
theorem litF_plain : ∀ l, (litF l).plain
  | [] => trivial
  | m :: ms => ⟨⟨by simp [litM], by simp [litM]⟩, trivial, litF_plain ms⟩
theorem litF_depth : ∀ l, (litF l).depth ≤ 1
  | [] => Nat.zero_le _
  | m :: ms => by have := litF_depth ms; simp [litF, F.depth]; omega
theorem litF_weight : ∀ l, (litF l).weight = l.length
  | [] => rfl
  | m :: ms => by simp [litF, F.weight, litF_weight ms]; omega
theorem catM_ok {n : Nat} (h : 2 ≤ n) : ndOk (catM n) = true := by
  have h1 : flds (catM n) = true := flds_iff.2 ⟨by simp [catM], .inr rfl, .inr (.inr rfl), (fun h => by cases h), fun _ => ⟨rfl, rfl⟩⟩
  have h2 : kidsOk (catM n) = true := by
    unfold kidsOk catM
    simp; omega
  rw [ndOk, h1, h2]; rfl
def litR (l : List Mk) : List Nd := catM l.length :: l.map litM
theorem litR_shp {l : List Mk} (h2 : 2 ≤ l.length) (h : l.length ≤ 4096) : Shp (litR l) (catM l.length) (litF l) := by
  refine ⟨⟨catM_ok h2, by rw [litF_num]; rfl, litF_wf l, trivial⟩, by simp [litR, litF_flat], by have := litF_depth l; omega, ?_⟩
  have t1 : times (catM l.length) = 1 := by simp [times, catM]
  rw [weight_one, litF_weight, t1]
  omega
theorem litR_good {l : List Mk} (h2 : 2 ≤ l.length) (h : l.length ≤ 4096) : shapedB (litR l) = true ∧ refsB (litR l) = false :=
  (litR_shp h2 h).good ⟨⟨by simp [catM], by simp [catM]⟩, litF_plain l, trivial⟩
theorem litR_rng (l : List Mk) : ∀ x ∈ litR l, -128 ≤ x.op ∧ x.op < 128 := fun x hx => by
  rcases List.mem_cons.1 hx with rfl | hx
  · simp [catM]
  · obtain ⟨b, _, rfl⟩ := List.mem_map.1 hx
    simp [litM]
theorem der_lits {w : List UInt8} : ∀ {l : List Mk} {p q : Nat}, der w (litF l) false p q ↔ q = p + l.length ∧ Mt (l.map Mk.b) w p
  | [], p, q => by
    rw [litF, der_nil]
    simp [Mt]
    exact eq_comm
  | m :: ms, p, q => by
    rw [litF, der_cat]
    simp only [litM_eq, der_let, List.map_cons, mt_cons, der_lits (l := ms), List.length_cons]
    constructor
    · rintro ⟨t, ⟨rfl, h1⟩, rfl, h2⟩; exact ⟨by omega, h1, h2⟩
    · rintro ⟨rfl, h1, h2⟩; exact ⟨p + 1, ⟨rfl, h1⟩, by omega, h2⟩
theorem der_litR {w : List UInt8} {l : List Mk} {p q : Nat} : der1 w (catM l.length) (litF l) p q ↔ q = p + l.length ∧ Mt (l.map Mk.b) w p := by
  rw [der1_def, if_neg (by simp [catM]), if_neg (by simp [catM]), if_neg (by simp [catM]), if_neg (by simp [catM]), if_neg (by simp [catM]), der_lits]
/-! the run that every law asks first -/
def lAB : List Mk := [⟨97, false⟩, ⟨98, false⟩]
def wAB : List UInt8 := [120, 97, 98, 97, 98]
theorem mayL {w : List UInt8} : May (litR lAB) w (catM 2) (litF lAB) := ⟨(litR_good (by decide) (by decide)).1, (litR_good (by decide) (by decide)).2, litR_shp (l := lAB) (by decide) (by decide)⟩
theorem derL {p q : Nat} : der1 wAB (catM 2) (litF lAB) p q ↔ q = p + 2 ∧ (p = 1 ∨ p = 3) := by
  rw [show (2 : Nat) = lAB.length from rfl, der_litR]
  refine and_congr_right fun _ => ?_
  unfold Mt
  rcases Nat.lt_or_ge p 5 with h | h
  · have : p = 0 ∨ p = 1 ∨ p = 2 ∨ p = 3 ∨ p = 4 := by omega
    rcases this with rfl | rfl | rfl | rfl | rfl <;> decide
  · rw [List.drop_of_length_le (by simpa [wAB] using h)]
    simp [lAB]
    omega
theorem capsL {p q : Nat} : capsV wAB (litR lAB) (catM 2) (litF lAB) p q = [⟨p, q⟩] := by
  have h : (bst1 wAB (catM 2) (litF lAB) p q (List.replicate (gcn (litR lAB) + 1) noS)).length = 1 := by rw [bst1_len, List.length_replicate]; rfl
  unfold capsV
  obtain ⟨x, hx⟩ := List.length_eq_one_iff.1 h
  rw [hx]; rfl
theorem findL {T : Nat} {v : Value} {S' : Hp} (h : FindP T (litR lAB) wAB 0 v S') : ∃ a cc, v = .tuple #[.slice a 1 cc, .bool true] ∧ OwnS Esp 2 T (.slice a 1 cc) [⟨1, 3⟩] S' := by
  rcases h with ⟨x, ks, g, p, q, hm, hg, hl, a, cc, hv, hO⟩ | ⟨hn, _⟩
  · obtain ⟨rfl, rfl⟩ := hm.hs.uniq (mayL (w := wAB)).hs
    obtain ⟨rfl, h1⟩ := derL.1 hl.der
    obtain rfl : g = 0 := by omega
    have hp : p = 1 := by
      rcases h1 with h1 | h1
      · exact h1
      · exact absurd (derL.2 ⟨rfl, .inl rfl⟩) (hl.left 1 3 (by decide) (by omega) (by decide))
    subst hp
    rw [capsL] at hv hO
    exact ⟨a, cc, hv, hO⟩
  · exact absurd ⟨_, _, 0, 1, 3, mayL (w := wAB), rfl, by decide, by decide, derL.2 ⟨rfl, .inl rfl⟩⟩ hn
theorem findL4 {T : Nat} {v : Value} {S' : Hp} (h : FindP T (litR lAB) wAB 4 v S') : v = .tuple #[.slice none 0 0, .bool false] ∧ S' = [] := by
  rcases h with ⟨x, ks, g, p, q, hm, hg, hl, a, cc, hv, hO⟩ | ⟨_, h⟩
  · obtain ⟨rfl, rfl⟩ := hm.hs.uniq (mayL (w := wAB)).hs
    obtain ⟨rfl, h1⟩ := derL.1 hl.der
    have := hl.ge
    omega
  · exact h
end Go.HL.Kl.Mc
namespace Go.Proofs.YtopmnmigpbdddaaGreatDoor
open Go Go.HL Go.Proofs Go.HL.Kl Go.HL.Kl.Mc Go.HL.Kl.Mc.AskE Go.Tab
theorem rowL_eq (l : List Mk) : rowL l = litR l := rfl
set_option maxHeartbeats 2000000 in
theorem parseO_fn (la : Option Addr) (lc : Nat) (l : List Mk) (h2 : 2 ≤ l.length) (hll : l.length ≤ 4096) (hlit : ∀ m ∈ l, Lit m) : HL.Fn Tryz.prog 104 [.bool false, .slice la l.length lc] (fun W => Rd Em W (.slice la l.length lc) l) [] (fun v S' => ∃ a c S2, HSub S' S2 ∧ v = .tuple #[.slice a (litR l).length c, .int .i64 0, .int .i64 0] ∧ OwnS En 9 108 (.slice a (litR l).length c) (litR l) S2) := by
  refine fn_ofD Tryz.func104 rfl rfl rfl fun w0 hw => ?_
  have hsl := hw.sl
  have hbl := hsl.le
  have hsh := litR_shp h2 hll
  have hwt : cut (F.nd (catM l.length) (litF l) .nil).weight ≤ 16384 := by rw [cut_eq hsh.weight]; exact hsh.weight
  refine c_seqD fun _ hK1 => ?_; refine c_region ?_; refine o_alloc rfl rfl fun b4 => ?_; refine o_alloc rfl rfl fun b5 => ?_; refine o_alloc rfl rfl fun b6 => ?_; refine o_nil ?_; refine x_then (hK1 _ _ _ ?_); refine c_seqD fun _ hK2 => ?_; refine c_block ?_; refine c_seqD fun _ hK3 => ?_; refine c_region (oM ?_); refine oS sC ?_; refine oS gtF (oA (o_nil ?_)); refine x_then (hK3 _ _ _ ?_); refine cF ?_; refine c_seqD fun _ hK4 => ?_; refine c_region (oM ?_); refine oS sC ?_; refine oS eqF (oA (o_nil ?_)); refine x_then (hK4 _ _ _ ?_)
  refine cF (c_skip (x_block ?_)); refine x_then (hK2 _ _ _ ?_); refine c_seqD fun _ hK5 => ?_; refine c_region ?_; refine oS (s_func (us := []) (vs := [_, _, _]) rfl rfl) ?_; refine o_defer (us := []) (vs := []) (cs := [_, _, _]) rfl rfl ?_; refine o_nil ?_; refine x_then (hK5 _ _ _ ?_); refine c_seqD fun _ hK6 => ?_; refine c_region (oM (oM ?_)); refine o_call (newReader_fn la lc l) rfl rfl rfl (by exact .nil) (fun _ _ => trivial) (fun v20 S20 ⟨bR, hv20, hS20⟩ => ?_); subst hv20
  subst hS20; refine o_call (sides_fn bR la lc l hll hlit h2) rfl rfl rfl (by exact .here) (fun _ st => ⟨(RdK.old (κ := ⟨_, _, w0, _⟩) hw (by exact Apart.nil)).out _ st, St.apart_M st (by exact hiB) hw Apart.nil (by decide)⟩) (fun v21 S21a ⟨a21, c21, S21, hv21, hS21a, hO21⟩ => ?_); subst hv21
  subst hS21a
  rw [rowL_eq] at hO21 ⊢
  refine o_store rfl rfl rfl upA ltA rfl ?_; refine o_nil ?_; refine x_then (hK6 _ _ _ ?_); refine c_seqD fun _ hK7 => ?_; refine c_seqD fun _ hK8 => ?_; refine c_region ?_; refine oS sL ?_; refine o_callP (weigh_fn ((litF l).size + 1) (catM l.length) (litF l) (Nat.lt_succ_self _) a21 c21 (litR l) 0 (litR l).length (litR_rng l) hsh.part) rfl rfl rfl (fun _ st => (hO21.rdk hiA).out _ st) (fun v24 hv24 => ?_); subst hv24
  refine oM ?_; refine oS sE ?_; refine oS sE (oA (oA (o_nil ?_))); refine x_then (hK8 _ _ _ ?_); refine c_seqD fun _ hK9 => ?_; refine c_region (oM ?_); refine oS gtF (o_nil ?_); refine x_then (hK9 _ _ _ ?_); refine cF (c_skip ?_); refine x_then (hK7 _ _ _ ?_); refine c_seqD fun _ hK10 => ?_; refine c_region ?_; refine oS sL ?_; refine o_store rfl rfl rfl upA ltA rfl ?_; refine o_store rfl rfl rfl upA ltA rfl ?_; refine o_store rfl rfl rfl upA ltA rfl ?_; refine o_nil ?_; refine x_then (hK10 _ _ _ ?_); refine c_ret ?_; refine ?_; refine x_sub (Sub.refl _) (H' := (b4, .cells [.slice a21 (litR l).length c21].toArray 22 (0, 0)) :: (b5, .cells [.int .i64 0].toArray 28 (0, 0)) :: (b6, .cells [.int .i64 0].toArray 3 (0, 0)) :: S21) hzB ?_
  exact x_retR (us := []) (cs := [_, _, _]) (parse1_fn b4 b5 b6) rfl .nil (fun _ _ => trivial) (fun v' S' _ => ⟨(b4, .cells [.slice a21 (litR l).length c21].toArray 22 (0, 0)) :: (b5, .cells [.int .i64 0].toArray 28 (0, 0)) :: (b6, .cells [.int .i64 0].toArray 3 (0, 0)) :: S21, [_, _, _], HSub.skips (HSub.refl _), .cell inferInstance rfl (.own meA rfl) (.cell inferInstance rfl (.own meA rfl) (.cell inferInstance rfl (.own meA rfl) .nil)), a21, c21, S21, hzB, rfl, hO21⟩)
theorem parse_fn (la : Option Addr) (lc : Nat) (l : List Mk) (h2 : 2 ≤ l.length) (hll : l.length ≤ 4096) (hlit : ∀ m ∈ l, Lit m) : HL.Fn Tryz.prog 104 [.bool false, .slice la l.length lc] (fun W => Rd Em W (.slice la l.length lc) l) [] (fun v S' => ∃ a c, v = .tuple #[.slice a (litR l).length c, .int .i64 0, .int .i64 0] ∧ OwnS En 9 108 (.slice a (litR l).length c) (litR l) S') :=
  Fn.sub (parseO_fn la lc l h2 hll hlit) fun v S' ⟨a, c, S2, h1, h2, h3⟩ => ⟨S2, h1, a, c, h2, h3⟩
set_option maxHeartbeats 2000000 in
theorem compileRO_fn (la : Option Addr) (lc : Nat) (l : List Mk) (h2 : 2 ≤ l.length) (hll : l.length ≤ 4096) (hlit : ∀ m ∈ l, Lit m) : HL.Fn Tryz.prog 45 [.bool false, .slice la l.length lc] (fun W => Rd Em W (.slice la l.length lc) l) [] (fun v S' => ∃ bR S2, HSub S' S2 ∧ v = .tuple #[pt bR, .int .i64 0, .int .i64 0] ∧ PlR bR (litR l) S2) := by
  refine fn_of Tryz.func45 rfl rfl rfl fun w0 hw => ?_
  have hsl := hw.sl
  have hgd := litR_good h2 hll
  refine cR fun _ hK1 => ?_; refine oA (oA (oA (oZ hK1 (cR fun _ hK2 => ?_)))); refine oM (oM ?_); refine o_call (parse_fn la lc l h2 hll hlit) rfl rfl rfl (by exact .nil) (fun _ st => (RdK.old0 hw).out _ st) (fun v14 S14 ⟨a14, c14, hv14, hO14⟩ => ?_); subst hv14
  refine oM ?_; refine oS sE ?_; refine oS sE ?_; refine oS sE (oA (oA (oA (oZ hK2 (c_seq fun _ hK3 => ?_))))); refine cR fun _ hK4 => ?_; refine oM ?_; refine oS (step_cast (v' := .bool false) (s_neq rfl rfl) rfl) ?_; refine oZ hK4 ?_; refine cFZ hK3 (cR fun _ hK5 => ?_); refine oM ?_; refine o_call (new_re a14 c14 (litR l) (litR_rng l)) rfl rfl rfl (by exact .nil) (fun _ st => (hO14.rdk hiA).out _ st) (fun v24 S24 hN => ?_)
  obtain ⟨bR, rfl, hPl⟩ : ∃ bR, v24 = .tuple #[pt bR, .int .i64 0] ∧ PlR bR (litR l) S24 := by cases hN with | shape h => (rw [hgd.1] at h; cases h) | ref _ h => (rw [hgd.2] at h; cases h) | ok _ _ hv hS => exact ⟨_, hv, hS⟩
  refine oM ?_; refine oS sE ?_; refine oS sE (oA (oA (oZ hK5 (cR fun _ hK6 => ?_)))); refine oM (oM (oA (oA (oA (oZ hK6 (c_ret ?_)))))); refine ?_; exact x_ret rfl (.tmp rfl (.tmp rfl (.tmp rfl (.nil)))) (⟨bR, S24, hzB, rfl, hPl⟩)
theorem compileR_fn (la : Option Addr) (lc : Nat) (l : List Mk) (h2 : 2 ≤ l.length) (hll : l.length ≤ 4096) (hlit : ∀ m ∈ l, Lit m) : HL.Fn Tryz.prog 45 [.bool false, .slice la l.length lc] (fun W => Rd Em W (.slice la l.length lc) l) [] (fun v S' => ∃ bR, v = .tuple #[pt bR, .int .i64 0, .int .i64 0] ∧ PlR bR (litR l) S') :=
  Fn.sub (compileRO_fn la lc l h2 hll hlit) fun v S' ⟨bR, S2, h1, h2, h3⟩ => ⟨S2, h1, bR, h2, h3⟩
end Go.Proofs.YtopmnmigpbdddaaGreatDoor
namespace Go.Proofs.YtopmnmigpbdddaaGreatDoor
open Go Go.HL Go.Proofs Go.HL.Kl Go.HL.Kl.Mc Go.HL.Kl.Mc.AskE
theorem eqSpans_fn (a a2 : Option Addr) (c c2 : Nat) (xs ys : List Sp) : HL.Fn Tryz.prog 21 [.slice a xs.length c, .slice a2 ys.length c2] (fun w => Rd Esp w (.slice a xs.length c) xs ∧ Rd Esp w (.slice a2 ys.length c2) ys) [] (fun v _ => v = .bool (decide (xs = ys))) := by
  refine fn_of Tryz.func21 rfl rfl rfl fun w0 hw => ?_
  obtain ⟨hx, hy⟩ := hw
  have hsx := hx.sl
  have hsy := hy.sl
  have hbx := hsx.le
  have hby := hsy.le
  refine cR fun _ hK1 => ?_; refine oA (oZ hK1 (c_seq fun _ hK2 => ?_)); refine cR fun _ hK3 => ?_; refine oM ?_; refine oS sC (oM ?_); refine oS sC ?_; refine oS (s_neq rfl rfl) ?_; refine oZ hK3 ?_; refine c_if rfl (fun hl => ?_) (fun hl => ?_)
  ·refine cR fun _ hK4 => ?_; refine oA (oZ hK4 (c_ret ?_)); refine x_then_ret (?_); exact xR rfl rfl ((congrArg Value.bool (decide_eq_false (by intro e; subst e; omega)).symm))
  ·refine c_skip (xZ hK2 (c_seq fun _ hK5 => ?_)); refine cR fun _ hK6 => ?_; refine oA (oZ hK6 (c_block ?_))
   refine c_loopB (fun (j : Nat) => j ≤ xs.length ∧ ∀ i, i < j → xs[i]? = ys[i]?) (fun (j : Nat) => [(5, .int .i64 j)]) [(0, _), (1, _)] (fun (j : Nat) => _) (fun (j : Nat) => xs.length - j) 0 ⟨by omega, fun i hi => by omega⟩ sbA sbA hzB ?_
   rintro j ⟨hj, hjt⟩
   refine c_seq fun _ hK7 => ?_; refine cR fun _ hK8 => ?_; refine oM (oM ?_); refine oS sC ?_; refine oS (s_lss rfl rfl) ?_; refine oZ hK8 ?_; refine c_if rfl (fun hlt => ?_) (fun hlt => ?_)
   ·obtain ⟨x, hxj⟩ : ∃ x, xs[j]? = some x := gE
    obtain ⟨y, hyj⟩ : ∃ y, ys[j]? = some y := gE
    refine c_skip (xZ hK7 (c_seq fun _ hK9 => ?_)); refine c_block (c_seq fun _ hK10 => ?_); refine c_drawE ([]) (fun i => false) ?_; refine e_tk 0 rfl (by exact HSub.nil) sM ?_; refine e_tk 1 rfl (by exact HSub.nil) sM ?_; refine e_tk 2 rfl (by exact HSub.nil) (s_idx rfl rfl hsx (by omega)) ?_; refine e_tk 3 rfl (by exact HSub.nil) (s_ldB rfl ((RdK.old0 hx).lds j hxj (by omega)) (by rfl)) ?_; refine e_tk 4 rfl (by exact HSub.nil) sM ?_; refine e_tk 5 rfl (by exact HSub.nil) sM ?_; refine e_tk 6 rfl (by exact HSub.nil) (s_idx rfl rfl hsy (by omega)) ?_; refine e_tk 7 rfl (by exact HSub.nil) (s_ldB rfl ((RdK.old0 hy).lds j hyj (by omega)) (by rfl)) ?_; refine e_tk 8 rfl (by exact HSub.nil) (s_neq_sp rfl rfl) ?_; refine eZ hK10 ?_; refine c_ifn rfl (fun hne => ?_) (fun hne => ?_)
    ·refine cR fun _ hK11 => ?_; refine oA (oZ hK11 (c_ret ?_)); refine x_block_ret (x_then_ret (x_then_ret (x_block_ret (x_then_ret (?_)))))
     exact xR rfl rfl ((congrArg Value.bool (decide_eq_false (by intro e; subst e; rw [hxj] at hyj; cases hyj; exact hne rfl)).symm))
    ·refine c_skip (x_block (xZ hK9 (c_region (oM ?_)))); refine oS sD (oA (o_nil ?_)); exact xI (j + 1) ⟨by omega, fun i hi => by rcases Nat.lt_or_ge i j with h | h; exact hjt i h; rw [show i = j by omega, hxj, hyj, hne]⟩
   ·refine c_exit ?_; refine x_then_exit (x_then_exit (x_block_exit (xZ hK5 (cR fun _ hK12 => ?_)))); refine oA (oZ hK12 (c_ret ?_)); refine ?_; exact xR rfl rfl ((congrArg Value.bool (decide_eq_true (ext_upto (by omega) fun i hi => hjt i (by omega))).symm))
end Go.Proofs.YtopmnmigpbdddaaGreatDoor
namespace Go.Proofs.YtopmnmigpbdddaaGreatDoor
open Go Go.HL Go.Proofs Go.HL.Kl Go.HL.Kl.Mc Go.HL.Kl.Mc.AskE Go.Tab
set_option maxHeartbeats 2000000 in
theorem lives_fn  : HL.Fn Tryz.prog 12 [] (fun _ => True) [] (fun v _ => v = .bool true) := by
  refine fn_of Tryz.func12 rfl rfl rfl fun w0 hw => ?_; refine cR fun _ hK1 => ?_; refine oA (oZ hK1 (cR fun _ hK2 => ?_)); refine oS (s_build (cs := [_, _]) (vs := [_]) rfl rfl (.cons rfl rfl rfl rfl rfl (.nil))) ?_; refine oS (s_build (cs := [_, _]) (vs := [_]) rfl rfl (.cons rfl rfl rfl rfl rfl (.nil))) ?_; refine o_bs (E := Em) (xs := lAB) (vs := [_, _]) rfl rfl rfl rfl rfl (by decide) (by decide) fun b11 S11 hS11 => ?_; refine o_call (compileR_fn (some ⟨b11, 0, none⟩) 2 lAB (by decide) (by decide) (by unfold Lit; decide)) rfl rfl rfl (by exact .nil) (fun _ st => (hS11.rdk hiA).out _ st) (fun v12 S12 ⟨bR, hv12, hPl⟩ => ?_); subst hv12
  obtain ⟨x, ks, a1, am, c1, Sr, Sm, hsb, hrf, hSh, rfl, hOr, hOm⟩ := hPl
  have hM : May (litR lAB) wAB x ks := ⟨hsb, hrf, hSh⟩
  refine oM ?_; refine oS sE ?_; refine oS sE ?_; refine oS sE (oA (oA (oA (oZ hK2 (c_seq fun _ hK3 => ?_))))); refine cR fun _ hK4 => ?_; refine oM ?_; refine oS (step_cast (v' := .bool false) (s_neq rfl rfl) rfl) ?_; refine oM ?_; refine oY (oM ?_); refine oY ?_; refine oS (step_cast (v' := .bool false) (s_eql_nilp rfl rfl) rfl) ?_; refine oS sP (oZ hK4 ?_); refine cFZ hK3 (cR fun _ hK5 => ?_); refine oM ?_; refine o_bs (E := Eb) (xs := wAB) (vs := [_, _, _, _, _]) rfl rfl rfl rfl rfl (by decide) (by decide) fun b24 S24 hS24 => ?_; refine o_conv_same rfl hS24 pkA rfl fun S25 hS25 => ?_; refine o_call (find_re bR a1 c1 (litR lAB) (litR_rng lAB) (some ⟨b24, 0, none⟩) 5 wAB (by decide) x ks hM am (mach (.nd x ks .nil)).length 0) rfl rfl rfl (by exact .nil) (fun _ st => ⟨(RdPK.own meA).out _ st, (hOm.rdk hiA).out _ st, (hOr.rdk hiA).out _ st, (hS25.rdk hiA).out _ st⟩) (fun v26 S26 hF26 => ?_)
  obtain ⟨a26, c26, rfl, hO26⟩ := findL hF26
  refine oM ?_; refine oS sE ?_; refine oS sE (oA (oA (oZ hK5 (cR fun _ hK6 => ?_)))); refine oM ?_; refine o_bs (E := Eb) (xs := wAB) (vs := [_, _, _, _, _]) rfl rfl rfl rfl rfl (by decide) (by decide) fun b31 S31 hS31 => ?_; refine o_conv_same rfl hS31 pkA rfl fun S32 hS32 => ?_; refine o_call (find_re bR a1 c1 (litR lAB) (litR_rng lAB) (some ⟨b31, 0, none⟩) 5 wAB (by decide) x ks hM am (mach (.nd x ks .nil)).length 4) rfl rfl rfl (by exact .nil) (fun _ st => ⟨(RdPK.own meA).out _ st, (hOm.rdk hiA).out _ st, (hOr.rdk hiA).out _ st, (hS32.rdk hiA).out _ st⟩) (fun v33 S33 hF33 => ?_)
  obtain ⟨rfl, rfl⟩ := findL4 hF33
  refine oM ?_; refine oS sE ?_; refine oS sE (oA (oA (oZ hK6 (cR fun _ hK7 => ?_)))); refine oM (oM ?_); refine oY (oM ?_); refine oY ?_; refine oS (s_not rfl) ?_; refine oS sT (oM ?_); refine oY (oM ?_); refine oY ?_; refine oS (s_build (cs := [_, _]) (vs := [_, _]) rfl rfl (.cons rfl rfl rfl rfl rfl (.cons rfl rfl rfl rfl rfl (.nil)))) ?_; refine oY ?_; refine o_bs (E := Esp) (xs := [⟨1, 3⟩]) (vs := [_]) rfl rfl rfl rfl rfl (by decide) (by decide) fun b44 S44 hS44 => ?_; refine oY ?_; refine o_callP (eqSpans_fn a26 (some ⟨b44, 0, none⟩) c26 1 [⟨1, 3⟩] [⟨1, 3⟩]) rfl rfl rfl (fun _ st => ⟨(hO26.rdk hiA).out _ st, (hS44.rdk hiA).out _ st⟩) (fun v45 hv45 => ?_); subst hv45
  refine oS sT (oA (oZ hK7 (c_ret ?_))); refine ?_; exact xR rfl rfl (rfl)
end Go.Proofs.YtopmnmigpbdddaaGreatDoor
namespace Go.Proofs.YtopmnmigpbdddaaGreatDoor
open Go Go.HL Go.Proofs Go.HL.Kl Go.HL.Kl.Mc Go.HL.Kl.Mc.AskE
theorem det_of {n : Nat} {Rl : Int → Bool → List Sp → Prop} (hd : ∀ f b L b' L', Rl f b L → Rl f b' L' → b = b' ∧ L = L') : Det (fun (_ : Unit) a b L (_ : Unit) => Rl (a : Nat) b L) := fun _ a b L s' b' L' s2 h h' => (fun h3 => ⟨h3.1, h3.2, rfl⟩) (hd _ _ _ _ _ h h')
def NextR (n N : Nat) (stp : Unit → Nat → Bool → List Sp → Unit → Prop) (e : Nat) (b : Bool) (L : List Sp) (xs : List (List Sp)) : Prop :=
  (b = false ∧ xs = []) ∨ (b = true ∧ ∃ p q r, GoodL n e L p q ∧ xs = L :: r ∧ MtS stp n () q q r ∧ L.length = N + 1)
theorem nextR_after {w : List UInt8} {re : List Nd} {a1 : Option Addr} {c1 bR ty : Nat} {hv : Value} {fnum : Nat} {Sq : Hp} {Rl : Int → Bool → List Sp → Prop} {Pg : World → List Nat → Prop} {Pm : World → Prop} (hE : EngC w re a1 c1 bR ty hv fnum Sq Rl Pg Pm) (hDet : Det (fun (_ : Unit) a b L (_ : Unit) => Rl (a : Nat) b L)) {e : Nat} {last : Int} (_he : e ≤ w.length) {b : Bool} {L : List Sp} (hf : Rl ((e + 1 : Nat) : Int) b L) {xs : List (List Sp)} (hM : MtS (fun (_ : Unit) a b L (_ : Unit) => Rl (a : Nat) b L) w.length () (e + 1) last xs) (hl : last ≤ e) : NextR w.length (gcn re) (fun (_ : Unit) a b L (_ : Unit) => Rl (a : Nat) b L) e b L xs := by
  by_cases hw : e + 1 ≤ w.length
  · cases b with
    | false => exact .inl ⟨rfl, hM.at_none hDet (s' := ()) hw hf⟩
    | true =>
      obtain ⟨p, q, hg, hc⟩ := hM.at_some hDet (s' := ()) hw hf
      have h1 := hg.ge
      obtain ⟨_, r, hx, hr⟩ := hc.resolve_left fun h => by have := h.2.1; omega
      exact .inr ⟨rfl, p, q, r, hg.mono (by omega), hx, hr, (hE.good _ _ hf).2⟩
  · cases b with
    | false => exact .inl ⟨rfl, hM.out_nil (by omega)⟩
    | true =>
      obtain ⟨⟨p, q, hg⟩, _⟩ := hE.good _ _ hf
      have h1 := hg.ge
      have h2 := hg.le
      have h3 := hg.ln
      exact absurd h3 (by omega)
set_option maxHeartbeats 4000000 in
theorem regexRow_fn (ra : Option Addr) (rc : Nat) (re : List Nd) (hre : ∀ x ∈ re, -128 ≤ x.op ∧ x.op < 128) (xa : Option Addr) (xc : Nat) (w : List UInt8) : HL.Fn Tryz.prog 5 [.slice ra re.length rc, .slice xa w.length xc] (fun W => Rd En W (.slice ra re.length rc) re ∧ Rd Eb W (.slice xa w.length xc) w ∧ RdP W 0 0 (Esp noS)) [] (fun v _ => v = .bool true) := by
  refine fn_of Tryz.func5 rfl rfl rfl fun w0 hw => ?_; refine cR fun _ hK1 => ?_; refine oA (oZ hK1 (c_seq fun _ hK2 => ?_)); refine cR fun _ hK3 => ?_; refine oM (oM ?_); refine o_callP (heavy12V_fn ra rc re hre xa xc w) rfl rfl rfl (fun _ st => (RdK.old0 hw.1).out _ st) (fun v16 ⟨hb, hv16, hH⟩ => ?_); subst hv16
  cases hb
  ·refine oM ?_; refine oY (oM ?_); refine oY ?_; refine o_callP (rShaped_fn ra rc re hre) rfl rfl rfl (fun _ st => (RdK.old0 hw.1).out _ st) (fun v19 hv19 => ?_); subst hv19
   cases hsb : shapedB re
   ·refine oY ?_; refine oS (s_not rfl) ?_; refine oS sP (oZ hK3 ?_); refine cT (cR fun _ hK4 => ?_); refine o_callP (lives_fn) rfl rfl rfl (fun _ _ => trivial) (fun v22 hv22 => ?_); subst hv22
    refine oA (oZ hK4 (c_ret ?_)); refine x_then_ret (?_); exact xR rfl rfl (rfl)
   ·obtain ⟨hw4, hfit⟩ := hH rfl hsb
    have hrl : re.length ≤ 16384 := by obtain ⟨_, x, ks, hs⟩ := shapedB_iff.1 hsb; exact hs.len
    have hwl : w.length ≤ 1000000 := by omega
    have hgc : gcn re ≤ re.length := List.countP_le_length
    refine oY ?_; refine oS (s_not rfl) ?_; refine oS sP (oZ hK3 ?_); refine cFZ hK2 (cR fun _ hK5 => ?_); refine o_callP (lives_fn) rfl rfl rfl (fun _ _ => trivial) (fun v23 hv23 => ?_); subst hv23
    refine oA (oZ hK5 (cR fun _ hK6 => ?_)); refine oM ?_; refine o_call (new_re ra rc re hre) rfl rfl rfl (by exact .nil) (fun _ st => (RdK.old0 hw.1).out _ st) (fun v26 S26 hv26 => ?_)
    obtain ⟨bR, ty, fnum, hv, tm, Sq, Rl, Pg, Pm, a1, c1, Sr, hv26, hS26, hE, hOr, hSr, hPg⟩ := new_eng hwl hre (by omega) hsb hfit hv26
    subst hv26; subst hS26
    have hPg0 := hPg _ hw.2.2
    refine oM ?_; refine oS sE ?_; refine oS sE (oA (oA (oZ hK6 (c_seq fun _ hK7 => ?_)))); refine cR fun _ hK8 => ?_; refine oM ?_; refine oS (s_not rfl) ?_; refine oM ?_; refine oY (oM ?_); refine oY ?_; refine oS (step_cast (v' := .bool false) (s_neq rfl rfl) rfl) ?_; refine oS sP (oM ?_); refine oY (oM ?_); refine oY ?_; refine oS (step_cast (v' := .bool false) (s_eql_nilp rfl rfl) rfl) ?_; refine oS sP (oZ hK8 ?_)
    refine cFZ hK7 (cR fun _ hK9 => ?_); refine oM (oM ?_); refine o_call (allR_fn bR xa xc w hwl) rfl rfl rfl (by exact .nil) (fun _ st => (RdK.old0 hw.2.1).out _ st) (fun v41 S41 ⟨br, bt, ta, tc, St0, hv41, hOT, hS41⟩ => ?_); subst hv41
    subst hS41; refine oM ?_; refine oS sC ?_; refine oS sD ?_; refine o_call (goneR_fn w hwl re a1 c1 bR ty hv fnum Sq Rl Pg Pm hE Sr hOr hSr bt br ta tc St0 hOT) rfl rfl rfl ((Pick.takeC pkA (Pick.takeC pkA (Pick.takeC pkA pkA)))) (fun w st => hE.pg hPg0 st (hin_cons meA (hin_cons meA (hin_cons meA (hin_app hiA hiA))))) (fun v45 S45 ⟨oa, oc, os, SO, Pool, hv45, hS45, hOO, hPo, hol, hM0⟩ => ?_); subst hv45
    subst hS45
    have hos := hOO.sl
    have hDet : Det (fun (_ : Unit) a b L (_ : Unit) => Rl (a : Nat) b L) := det_of (n := w.length) hE.det
    refine oA (oZ hK9 (c_seq fun _ hK10 => ?_)); refine cR fun _ hK11 => ?_; refine oM ?_; refine oS sC (oM ?_); refine oS sC ?_; refine oS sD ?_; refine oS gtF (oZ hK11 ?_); refine cFZ hK10 (cR fun _ hK12 => ?_); refine oA (oZ hK12 (c_seq fun _ hK13 => ?_)); refine cR fun _ hK14 => ?_; refine oA (oZ hK14 (c_block ?_))
    refine c_loop2 (fun (k : Nat) (e : Nat) => k ≤ os.length ∧ e ≤ w.length ∧ MtS (fun (_ : Unit) a b L (_ : Unit) => Rl (a : Nat) b L) w.length () e (if k = 0 then (-1 : Int) else e) ((os.map Sl.xs).drop k)) (fun (k : Nat) (e : Nat) => [(10, .int .i64 k), (9, .int .i64 e)]) [(1, _), (6, _), (8, _)] (fun (k : Nat) (e : Nat) => (bR, .cells [.slice a1 re.length c1, .iface ty (hv), .int .i64 ((gcn re : Nat) : Int)].toArray 127 (0, 0)) :: (Sq ++ (SO ++ Pool))) (fun (k : Nat) (e : Nat) => os.length - k) 0 0 ⟨Nat.zero_le _, Nat.zero_le _, hM0⟩ sbA sbA hzB ?_
    rintro k e ⟨hk, hew, hMk⟩
    refine c_seq fun _ hK15 => ?_; refine cR fun _ hK16 => ?_; refine oM (oM ?_); refine oS sC ?_; refine oS leT (oZ hK16 ?_); refine cTZ hK15 (c_seq fun _ hK17 => ?_); refine c_block (cR fun _ hK18 => ?_); refine oM (oM (oM ?_)); refine o_call (hE.Find xa xc e) rfl rfl rfl (by exact .nil) (fun _ st => ⟨(RdPK.own meA).out _ st, hE.pm hPg0 st hiA, (hOr.rdk (hin_trans hSr hiA)).out _ st, (RdK.old0 hw.2.1).out _ st⟩) (fun v62 S62 ⟨b, L, a62, c62, hv62, hOL, hf⟩ => ?_); subst hv62
    have hOs := hOL.sl
    refine oM ?_; refine oS sE ?_; refine oS sE (oA (oA (oZ hK18 ?_))); refine c_seqJ (ι := Bool × Sl Sp × Hp) (fun q => OwnS Esp 2 40 (.slice q.2.1.a q.2.1.xs.length q.2.1.c) q.2.1.xs q.2.2 ∧ NextR w.length (gcn re) (fun (_ : Unit) a b L (_ : Unit) => Rl (a : Nat) b L) e q.1 q.2.1.xs ((os.map Sl.xs).drop k)) (fun q => [(11, .slice q.2.1.a q.2.1.xs.length q.2.1.c), (12, .bool q.1)]) [(1, _), (6, _), (8, _), (9, _), (10, _), (52, _), (53, _), (54, _), (55, _), (58, _), (59, _), (60, _), (61, _), (62, _), (63, _), (64, _)] (fun q => (bR, .cells [.slice a1 re.length c1, .iface ty (hv), .int .i64 ((gcn re : Nat) : Int)].toArray 127 (0, 0)) :: (Sq ++ (SO ++ (Pool ++ q.2.2)))) sbA ?_ ?_
    ·rintro j ⟨hOJ, hJ⟩
     have hOj := hOJ.sl
     refine c_seq fun _ hK20 => ?_; refine cR fun _ hK21 => ?_; refine oM (oM ?_); refine oS sC ?_
     by_cases hke : (k : Int) = os.length
     ·have hbf : j.1 = false := by rcases hJ with ⟨h, _⟩ | ⟨_, p, q, r, _, h, _⟩; exact h; (exfalso; have h2 := congrArg List.length h; rw [List.length_drop, List.length_map, List.length_cons] at h2; omega)
      refine oS eqT (oZ hK21 ?_); refine cT (cR fun _ hK22 => ?_); refine oM ?_; refine oS (s_not rfl) ?_; refine oA (oZ hK22 (c_ret ?_)); refine x_then_ret (x_block_ret (x_then_ret (x_then_ret (x_block_ret (x_then_ret (?_))))))
      exact xR rfl rfl (by rw [hbf]; rfl)
     ·obtain ⟨hbt, p, q, r, hg, hxr, hMr, hLn⟩ := hJ.resolve_left fun h => by have h2 := congrArg List.length h.2; rw [List.length_drop, List.length_map, List.length_nil] at h2; omega
      have hgh := hg.hd
      have hg1 := hg.ge
      have hg2 := hg.le
      have hg3 := hg.ln
      obtain ⟨z, hzk⟩ : ∃ z, os[k]? = some z := gE
      have hz := hPo z (List.mem_of_getElem? hzk)
      have hxk : (os.map Sl.xs).drop k = z.xs :: (os.map Sl.xs).drop (k + 1) := drop_get (by rw [List.getElem?_map, hzk]; rfl)
      rw [hxk] at hxr
      obtain ⟨hzx, hxr⟩ := List.cons.inj hxr
      have hz0 : z.xs[0]? = some ⟨p, q⟩ := by rw [hzx]; exact hgh
      have hz1 := hz.1
      have hzl : 0 < z.xs.length := by omega
      refine oS eqF (oZ hK21 ?_); refine cFZ hK20 (c_seq fun _ hK23 => ?_); refine cR fun _ hK24 => ?_; refine oM ?_; refine oS (step_cast (v' := .bool false) (s_not rfl) (by rw [hbt]; rfl)) ?_; refine oM ?_; refine oY (oM ?_); refine oY (oM ?_); refine oY (oM ?_); refine oY ?_; refine oS (s_idx rfl rfl hos (by omega)) ?_; refine oY ?_; refine oS (s_ld rfl ((hOO.rdk hiA).ld k 0 hzk rfl (by decide) (by omega))) ?_; refine oY ?_; refine o_callP (eqSpans_fn j.2.1.a z.a j.2.1.c z.c j.2.1.xs z.xs) rfl rfl rfl (fun _ st => ⟨(hOJ.rdk hiA).out _ st, (hz.2.2.rdk hiA).out _ st⟩) (fun v105 hv105 => ?_)
      rw [decide_eq_true hzx.symm] at hv105
      subst hv105; refine oY ?_; refine oS (step_cast (v' := .bool false) (s_not rfl) rfl) ?_; refine oS sP (oM ?_); refine oY (oM ?_); refine oY ?_; refine oS sC ?_; refine oY (oM ?_); refine oY ?_; refine o_callP (groupsR_fn bR _ _ (gcn re)) rfl rfl rfl (fun _ st => (RdPK.own meA).out _ st) (fun v112 hv112 => ?_); subst hv112
      refine oY ?_; refine oS sD ?_; refine oY ?_; refine oS nqF ?_; refine oS sP (oZ hK24 ?_); refine cFZ hK23 (cR fun _ hK25 => ?_); refine oM (oM ?_); refine oS (s_idx rfl rfl hos (by omega)) ?_; refine oS (s_ld rfl ((hOO.rdk hiA).ld k 0 hzk rfl (by decide) (by omega))) ?_; refine oS (s_idx rfl rfl hz.2.1 (by omega)) ?_; refine oS (s_ldB (cs := [.int .i64 (p : Nat), .int .i64 (q : Nat)]) rfl ((hz.2.2.rdk hiA).cels hz0) rfl) ?_; refine o_alloc (l := Esp ⟨0, 0⟩) rfl rfl fun b13 => ?_; refine o_stW rfl rfl upA lnA lnA onA ?_; refine oZ hK25 (c_seq fun _ hK26 => ?_); refine cR fun _ hK27 => ?_; refine oS sF ?_; refine oS sL (oM ?_); refine oS lsF (oM ?_); refine oY ?_; refine oS sF ?_; refine oY ?_; refine oS sL ?_; refine oY ?_; refine oS sF ?_; refine oY ?_; refine oS sL ?_; refine oY ?_; refine oS lsF ?_; refine oS sP (oM ?_)
      refine oY ?_; refine oS sF ?_; refine oY ?_; refine oS sL ?_; refine oY (oM ?_); refine oY ?_; refine oS sC ?_; refine oY ?_; refine oS gtF ?_; refine oS sP (oZ hK27 ?_); refine cFZ hK26 (c_region ?_); refine oS sF ?_; refine oS sL (oA (o_nil (x_block (xZ hK17 (c_region (oM ?_)))))); refine oS sD (oA (o_nil ?_)); exact xI (k + 1, q) ⟨by dsimp only; omega, by dsimp only; omega, by dsimp only; rw [if_neg (by omega), hxr]; exact hMr⟩
    ·intro _ hJ19
     refine cR fun _ hK28 => ?_
     by_cases hb : b = true
     ·subst hb
      obtain ⟨⟨p, q, hg⟩, hLn⟩ := hE.good _ _ hf
      have hgh := hg.hd
      have hg1 := hg.ge
      have hg2 := hg.le
      have hg3 := hg.ln
      obtain ⟨p4, q4, hg4, hcase⟩ := hMk.at_some hDet (s' := ()) hew hf
      obtain ⟨rfl, rfl⟩ := hg.uniq hg4
      refine oS (step_cast (v' := .bool true) (s_move rfl) rfl) ?_; refine oM ?_; refine oY (oM ?_); refine oY ?_; refine oS sC ?_; refine oY ?_; refine oS gtT ?_; refine oS sT (oM ?_); refine oY (oM ?_); refine oY ?_
      by_cases hk0 : (k : Int) > 0
      ·rw [if_neg (by omega)] at hMk hcase
       refine oS gtT ?_; refine oS sT (oM ?_); refine oY (oM ?_); refine oY ?_; refine oS (s_idx rfl rfl hOs (by omega)) ?_; refine oY ?_; refine oS sF ?_; refine oY ?_; refine oS (s_ld rfl ((hOL.rdk hiA).ld 0 1 hgh rfl (by decide) (by omega))) ?_; refine oY (oM ?_); refine oY ?_
       by_cases hqe : (q : Int) = e
       ·obtain ⟨_, _, hM2⟩ := hcase.resolve_right fun h => h.1 ⟨by omega, by omega⟩
        refine oS eqT ?_; refine oS sT (oZ hK28 ?_); refine cT (c_region (oM (oM (oM ?_)))); refine oS sD ?_; refine o_call (hE.Find xa xc ((e : Int) + 1)) rfl rfl rfl (by exact .nil) (fun _ st => ⟨(RdPK.own meA).out _ st, hE.pm hPg0 st hiA, (hOr.rdk (hin_trans hSr hiA)).out _ st, (RdK.old0 hw.2.1).out _ st⟩) (fun v88 S88 ⟨b3, L3, a88, c88, hv88, hOL3, hf3⟩ => ?_); subst hv88
        refine oM ?_; refine oS sE ?_; refine oS sE (oA (oA (o_nil ?_))); exact x_then (hJ19 (b3, ⟨a88, c88, L3⟩, S88) _ _ ⟨hOL3, nextR_after hE hDet (by omega) (show Rl ((e + 1 : Nat) : Int) b3 L3 from hf3) hM2 (by omega)⟩ sbA sbA hzB)
       ·obtain ⟨_, r, hxr, hMr⟩ := hcase.resolve_left fun h => hqe (by omega)
        refine oS eqF ?_; refine oS sT (oZ hK28 ?_); refine cF (c_skip ?_); exact x_then (hJ19 (true, ⟨a62, c62, L⟩, S62) _ _ ⟨hOL, .inr ⟨rfl, p, q, r, hg, hxr, hMr, hLn⟩⟩ sbA sbA hzB)
      ·obtain rfl : k = 0 := by omega
       obtain ⟨_, r, hxr, hMr⟩ := hcase.resolve_left fun h => by have := h.2.1; rw [if_pos rfl] at this; omega
       refine oS gtF ?_; refine oS sT (oM ?_); refine oN ?_; refine oN ?_; refine oN ?_; refine oN ?_; refine oN ?_; refine oN ?_; refine oS sP (oZ hK28 ?_); refine cF (c_skip ?_); exact x_then (hJ19 (true, ⟨a62, c62, L⟩, S62) _ _ ⟨hOL, .inr ⟨rfl, p, q, r, hg, hxr, hMr, hLn⟩⟩ sbA sbA hzB)
     ·have hb : b = false := by simpa using hb
      subst hb
      have hnil := hMk.at_none hDet (s' := ()) hew hf
      refine oS (step_cast (v' := .bool false) (s_move rfl) rfl) ?_; refine oM ?_; refine oN ?_; refine oN ?_; refine oN ?_; refine oS sP (oM ?_); refine oN ?_; refine oN ?_; refine oS sP (oM ?_); refine oN ?_; refine oN ?_; refine oN ?_; refine oN ?_; refine oN ?_; refine oN ?_; refine oS sP (oZ hK28 ?_); refine cF (c_skip ?_); exact x_then (hJ19 (false, ⟨a62, c62, L⟩, S62) _ _ ⟨hOL, .inl ⟨rfl, hnil⟩⟩ sbA sbA hzB)
  ·refine oM ?_; refine oN ?_; refine oN ?_; refine oN ?_; refine oS sT (oZ hK3 ?_); refine cT (cR fun _ hK29 => ?_); refine o_callP (lives_fn) rfl rfl rfl (fun _ _ => trivial) (fun v22 hv22 => ?_); subst hv22
   refine oA (oZ hK29 (c_ret ?_)); refine x_then_ret (?_); exact xR rfl rfl (rfl)
end Go.Proofs.YtopmnmigpbdddaaGreatDoor
namespace Go.Proofs.YtopmnmigpbdddaaGreatDoor
open Go Go.HL Go.Proofs Go.HL.Kl Go.HL.Kl.Mc
theorem own : ownKnob Tryz.prog.godebug = none := by kernel_rfl
theorem laidOut : laidOutB Tryz.prog = true := by kernel_rfl
theorem open_nd : Opens Tryz.prog 108 En (fun _ t => -128 ≤ t.op ∧ t.op < 128) :=
  open_struct6 Tryz.underlying108 rfl (by kernel_rfl) (by kernel_rfl) (by kernel_rfl) (by kernel_rfl) (by kernel_rfl) (by kernel_rfl) (open_i8 Tryz.underlying103) (open_cl Tryz.underlying106 Tryz.underlying104 (by kernel_rfl) (by kernel_rfl)) (open_i64 Tryz.underlying3) (open_i64 Tryz.underlying3) (open_i64 Tryz.underlying3) (open_i64 Tryz.underlying3) fun w a b c d e f ha _ _ _ _ _ => ⟨⟨a, b, c, d, e, f⟩, rfl, ha⟩
theorem door_metB (os : Os) (args : Array Value) : laidMetH Tryz.prog [("galley/backref.none", Rows.laid_galley_backref_none)] ((World.doorLaid Tryz.prog 400 os).forCall (fun _ _ => 0) ⟨#[], args, []⟩).memory :=
  laidMetH_of_parts3 (fuel := 8) (laidMet_of_run' 8 (by kernel_rfl) (by kernel_rfl)) (by kernel_rfl) (by kernel_rfl)
theorem two_of {α : Type} {l : List α} (h : l.length = 2) : ∃ a b, l = [a, b] := by
  match l, h with
  | [a, b], _ => exact ⟨a, b, rfl⟩
theorem tb_laid {W : World} (h : laidMetH Tryz.prog [("galley/backref.none", Rows.laid_galley_backref_none)] W) : RdP W 0 0 (Esp noS) := by
  rw [MakeChecks.laidMetH_plain _ _ _ (by kernel_rfl)] at h
  obtain ⟨ps, hv, _⟩ := h
  obtain ⟨g', t', cs, fuel, p, q, hg', ht', hvar, hd, hr, _⟩ := hv
  have hg : Tryz.prog.globalNamed "galley/backref.none" = some 0 := by kernel_rfl
  obtain rfl := Option.some.inj (hg.symm.trans hg')
  have hty : (Tryz.prog.globals[0]?).map (·.type) = some 40 := by kernel_rfl
  obtain rfl := Option.some.inj (hty.symm.trans ht')
  obtain ⟨y0, y1, n, hx, hl, h0, h1⟩ := Go.ChangeShapes.trod_struct2 Tryz.underlying40 hd
  obtain ⟨z0, hc0, hz0, _⟩ := DataW.trod_int Tryz.underlying3 h0
  obtain ⟨z1, hc1, hz1, _⟩ := DataW.trod_int Tryz.underlying3 h1
  have hq : (Rows.laid_galley_backref_none : DataW Unit) = .agg [y0.1, y1.1] := congrArg Prod.fst hx
  have e2 : Tryz.prog.cellsOf 40 = 2 := by kernel_rfl
  have e1 : Tryz.prog.cellsOf 3 = 1 := by kernel_rfl
  rw [e2] at hl
  rw [e1] at hc0 hc1
  rw [hz0, hz1] at hq
  simp only [Rows.laid_galley_backref_none, DataW.agg.injEq, List.cons.injEq, DataW.lit.injEq, Lit.int.injEq, true_and, and_true] at hq
  obtain ⟨rfl, rfl⟩ := hq
  obtain ⟨cs⟩ := cs
  dsimp only at hl hc0 hc1
  obtain ⟨a, b, rfl⟩ := two_of hl
  simp only [List.drop_zero, List.take_succ_cons, List.take_zero, List.cons.injEq, and_true, List.drop_succ_cons] at hc0 hc1
  subst hc0; subst hc1
  refine ⟨fun j u hu => ?_⟩
  have := World.var?_cell hg hvar j
  rw [Nat.zero_add, this]
  have hu2 : [Value.int IntKind.i64 (-1), Value.int IntKind.i64 (-1)][j]? = some u := hu
  simpa using hu2
end Go.Proofs.YtopmnmigpbdddaaGreatDoor
