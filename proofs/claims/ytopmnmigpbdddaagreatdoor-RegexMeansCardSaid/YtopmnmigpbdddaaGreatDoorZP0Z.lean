/- Part of the proofs over this seat: see the text that holds the theorem. Conditions: each theorem bears its own. -/
import Derived.Test.YtopmnmigpbdddaaGreatDoorZL3Z
import Derived.Test.YtopmnmigpbdddaaGreatDoorMT3Z
import Derived.Test.YtopmnmigpbdddaaGreatDoorHTZ
import Derived.Test.YtopmnmigpbdddaaGreatDoorZE3Z
import Derived.Test.YtopmnmigpbdddaaGreatDoorHMZ
import Derived.Scope
import Derived.Test.YtopmnmigpbdddaaGreatDoorMK5Z
namespace Go.Proofs.YtopmnmigpbdddaaGreatDoor
open Go Go.HL Go.Proofs Go.HL.Kl
theorem of_fn (a : Option Addr) (n : Nat) (l : List UInt8) : HL.Fn Tryz.prog 206 [.slice a l.length n] (fun w => Rd Eb w (.slice a l.length n) l) [] (fun v _ => v = .agg (Ec (ofL l)).toArray) := by
  refine fn_of Tryz.func206 rfl rfl rfl fun w0 hw => ?_
  have hsl := hw.sl
  have hbl := hsl.le
  refine c_seq fun _ hK1 => ?_; refine c_region ?_; refine o_alloc (l := Ec 0#256) (by rw [Ec_zero]; rfl) rfl fun b2 => ?_; refine o_nil ?_; refine x_then (hK1 _ _ ?_); refine c_seq fun _ hK2 => ?_; refine c_region ?_; refine o_alloc (l := Ec 0#256) (by rw [Ec_zero]; rfl) rfl fun b3 => ?_; refine o_nil ?_; refine x_then (hK2 _ _ ?_); refine c_seq fun _ hK3 => ?_; refine c_seq fun _ hK4 => ?_; refine c_region ?_; refine o_step rfl (s_move rfl) ?_; refine o_step rfl (s_len rfl) ?_; refine o_step rfl (s_move rfl) ?_; refine o_nil ?_; refine x_then (hK4 _ _ ?_); refine c_block ?_
  rw [← show ofL (l.take 0) = 0#256 from rfl]
  refine c_loopB (fun (i : Nat) => i ≤ l.length) (fun (i : Nat) => [(8, .int .i64 i)]) [(2, _), (3, _), (6, _), (7, _)] (fun (i : Nat) => [(b3, .cells (Ec (ofL (l.take i))).toArray 106 (0, 0)), (b2, .cells (Ec 0#256).toArray 106 (0, 0))]) (fun (i : Nat) => l.length - i) 0 (by omega) sbA sbA hzA ?_
  rintro i hI
  refine c_seq fun _ hK5 => ?_; refine c_region ?_; refine o_step rfl (s_lss rfl rfl) ?_; refine o_nil ?_; refine x_then (hK5 _ _ ?_); refine c_seq fun _ hK6 => ?_; refine c_if rfl (fun hlt0 => ?_) (fun hlt0 => ?_)
  · skip
    have hlt : i < l.length := by omega
    have hbt : (l[i]).toNat < 256 := (l[i]).toNat_lt
    have hget := List.getElem?_eq_getElem (l := l) (i := i) (by omega)
    refine c_skip ?_; refine x_then (hK6 _ _ ?_); refine c_seq fun _ hK7 => ?_; refine c_block ?_; refine c_seq fun _ hK8 => ?_; refine c_region ?_; refine o_step rfl (s_idx rfl rfl (by assumption) (by omega)) ?_; refine o_step rfl (s_ld rfl ((RdK.old0 hw).ld i 0 hget rfl (by decide) (by omega))) ?_; refine o_step rfl (s_assign rfl) ?_; refine o_nil ?_; refine x_then (hK8 _ _ ?_); refine c_region ?_; refine o_step rfl (s_move rfl) ?_; refine o_step rfl (step_cast (v' := .int .u8 (((l[i]).toNat / 64 : Nat) : Int)) (s_shr rfl rfl (by decide)) (congrArg _ (shr6_u8 hbt))) ?_; refine o_step rfl (s_idx1 rfl rfl (by omega)) ?_; refine o_step rfl (s_ld rfl ((RdPK.own meA).cel (j := (l[i]).toNat / 64) (Ec_get _ (by omega)) (by omega))) ?_; refine o_step rfl (s_move rfl) ?_; refine o_step rfl (step_cast (v' := .int .u8 (((l[i]).toNat % 64 : Nat) : Int)) (s_and rfl rfl) (congrArg _ (v_and63 hbt))) ?_
    refine o_step rfl (step_cast (v' := Ew (1#64 <<< ((l[i]).toNat % 64))) (s_shl rfl rfl (by omega)) (v_shl1 (by omega))) ?_; refine o_step rfl (step_cast (s_or rfl rfl) (v_or (wd (ofL (l.take i)) ((l[i]).toNat / 64)) (1#64 <<< ((l[i]).toNat % 64)))) ?_; refine o_step rfl (s_idx1 rfl rfl (by omega)) ?_; refine o_store rfl rfl rfl upA (by show (l[i]).toNat / 64 < 4; omega) rfl ?_
    rw [Ec_set _ _ (by omega)]
    refine o_nil ?_; refine x_block ?_; refine x_then (hK7 _ _ ?_); refine c_region ?_; refine o_step rfl (s_add rfl rfl (by omega)) ?_; refine o_step rfl (s_move rfl) ?_; refine o_nil ?_
    rw [with_eq _ hbt, ← ofL_step hlt]
    exact x_then (x_inv (i + 1) (by omega) (by first | omega | (dsimp only; omega)) sbA hzA)
  · skip
    rw [ofL_all (by omega)]
    refine c_exit ?_; refine x_then_exit ?_; refine x_then_exit ?_; refine x_block_exit ?_; refine x_then (hK3 _ _ ?_); refine c_seq fun _ hK9 => ?_; refine c_region ?_; refine o_step rfl (s_ldB rfl (RdPK.cels (.own meA)) lnA) ?_; refine o_stW rfl rfl upA lnA lnA (by first | exact Ec_one _ | exact flat_one _ _ | exact one_rep rfl | (simp [Value.oneCell']; done)) ?_; refine o_nil ?_; refine x_then (hK9 _ _ ?_); refine c_ret ?_; refine ?_; exact x_ret rfl (.agg inferInstance inferInstance rfl (RdPK.cels (.own meA)) lnA (.nil)) (rfl)

end Go.Proofs.YtopmnmigpbdddaaGreatDoor

/- Part of the proofs over this seat: see the text that holds the theorem. Conditions: each theorem bears its own. -/
namespace Go.Proofs.YtopmnmigpbdddaaGreatDoor
open Go Go.HL Go.Proofs Go.HL.Kl Go.HL.Kl.Mc
theorem parse1_fn (b4 b5 b6 : Nat) : HL.FnR Tryz.prog 134 [.pointer (some ⟨b4, 0, none⟩), .pointer (some ⟨b5, 0, none⟩), .pointer (some ⟨b6, 0, none⟩)] (fun _ => True) [] (fun _ _ => True) := by
  refine fnR_of Tryz.func134 rfl rfl rfl rfl fun w0 hw K hK => ?_; refine o_step rfl (s_tas_n (by kernel_rfl) rfl) ?_; refine o_step rfl (s_move rfl) ?_; refine o_step rfl (s_extract rfl rfl) ?_; refine o_step rfl (s_extract rfl rfl) ?_; refine o_alloc rfl rfl fun b3 => ?_; refine o_stW rfl rfl upA (by first | rfl | decide) (by first | rfl | decide) (by simp [Value.oneCell']) ?_; refine o_step rfl (s_assign rfl) ?_; refine o_nil ?_; refine x_then (hK _ _ ?_); refine c_seq fun _ hK2 => ?_; refine c_region ?_; refine o_step rfl (s_move rfl) ?_; refine o_nil ?_; refine x_then (hK2 _ _ ?_); refine c_false rfl ?_; refine c_skip ?_; exact x_end rfl .nil trivial
end Go.Proofs.YtopmnmigpbdddaaGreatDoor

/- Of the reader: do these bytes stand here? -/
namespace Go.HL.Kl.Mc
open Go Go.HL Go.Tab
def seesAt (l : List Mk) (at_ : Nat) (s : List UInt8) (i : Nat) : Prop := ∃ m, l[at_ + i]? = some m ∧ m.p = false ∧ s[i]? = some m.b
def Sees (l : List Mk) (at_ : Nat) (s : List UInt8) : Prop := at_ + s.length ≤ l.length ∧ ∀ i, i < s.length → seesAt l at_ s i
noncomputable def seesB (l : List Mk) (at_ : Nat) (s : List UInt8) : Bool := @decide (Sees l at_ s) (Classical.propDecidable _)
theorem seesB_t {l : List Mk} {at_ : Nat} {s : List UInt8} (h : Sees l at_ s) : seesB l at_ s = true := @decide_eq_true _ (Classical.propDecidable _) h
theorem seesB_f {l : List Mk} {at_ : Nat} {s : List UInt8} (h : ¬ Sees l at_ s) : seesB l at_ s = false := @decide_eq_false _ (Classical.propDecidable _) h
theorem sees_no {l : List Mk} {at_ i : Nat} {s : List UInt8} {m : Mk} (hi : i < s.length) (hm : l[at_ + i]? = some m) (h : m.p = true ∨ ∃ c, s[i]? = some c ∧ m.b ≠ c) : seesB l at_ s = false := by
  refine seesB_f fun ⟨_, h2⟩ => ?_
  obtain ⟨m', h3, h4, h5⟩ := h2 i hi
  rw [hm] at h3; cases h3
  rcases h with h | ⟨c, h6, h7⟩
  · rw [h] at h4; cases h4
  · rw [h5] at h6; cases h6; exact h7 rfl
end Go.HL.Kl.Mc

/- Part of the proofs over this seat: see the text that holds the theorem. Conditions: each theorem bears its own. -/
namespace Go.Proofs.YtopmnmigpbdddaaGreatDoor
open Go Go.HL Go.Proofs Go.HL.Kl Go.HL.Kl.Mc Go.HL.Kl.Mc.AskE Go.Tab
theorem s_bone {κ : Cx} {L : HL.Loc} {H : Hp} {ty : TypeId} {x : Operand} (c : Cl) (hx : ev L x = some (.agg (Ec c).toArray)) : Step Tryz.prog κ (.build 108 #[(0, .const (.int .i8 1)), (1, x)]) ty L H (.agg (En ⟨1, c, 0, 0, 0, 0⟩).toArray) := by
  refine s_build (zl := En zN) (vs := [.int .i8 1, .agg (Ec c).toArray]) (by rw [En_zero]; rfl) (by simp only [List.map_cons, List.map_nil, hx]; rfl) ?_; refine .cons (cs := [.int .i8 1]) (l' := En ⟨1, 0, 0, 0, 0, 0⟩) rfl rfl rfl (by rw [En_zero]; rfl) (by rw [En_zero]; simp [splice, En, Ec_zero]) ?_
  exact .cons (cs := Ec c) (l' := En ⟨1, c, 0, 0, 0, 0⟩) rfl rfl rfl (by simp [En, Ec]) (by simp [splice, En, Ec]) .nil
set_option maxHeartbeats 2000000 in
theorem sees_fn (bR : Nat) (er : Bool) (la : Option Addr) (lc : Nat) (l : List Mk) (at_ : Nat) (hat : at_ ≤ l.length) (hll : l.length ≤ 1000000) (rest : List Value) (s : ByteArray) (hs : s.data.toList.length ≤ 100) : HL.Fn Tryz.prog 158 [pt bR, .string s] (fun W => RdP W bR 0 (.bool er :: .slice la l.length lc :: .int .i64 (at_ : Nat) :: rest) ∧ Rd Em W (.slice la l.length lc) l) [] (fun v _ => v = .bool (seesB l at_ s.data.toList)) := by
  refine fn_of Tryz.func158 rfl rfl rfl fun w0 hw => ?_
  have hsl := hw.2.sl
  have hbl := hsl.le
  have hsz : s.size = s.data.toList.length := by simp
  refine c_seq fun _ hK1 => ?_; refine c_region ?_; refine o_step rfl (s_assign rfl) ?_; refine o_nil ?_; refine x_then (hK1 _ _ ?_); refine c_seq fun _ hK2 => ?_; refine c_seq fun _ hK3 => ?_; refine c_drawE ([]) (fun i => false) ?_; refine e_tk 0 rfl (by exact HSub.nil) (s_move rfl) ?_; refine e_tk 1 rfl (by exact HSub.nil) (s_nil rfl) ?_; refine e_tk 2 rfl (by exact HSub.nil) (s_field rfl rfl (by decide)) ?_; refine e_tk 3 rfl (by exact HSub.nil) (s_ld rfl ((RdPK.old0 hw.1).cel (j := 2) rfl rfl)) ?_; refine e_tk 4 rfl (by exact HSub.nil) (s_move rfl) ?_; refine e_tk 5 rfl (by exact HSub.nil) (s_lenstr rfl) ?_; refine e_tk 6 rfl (by exact HSub.nil) (s_add rfl rfl (by omega)) ?_; refine e_tk 7 rfl (by exact HSub.nil) (s_move rfl) ?_; refine e_tk 8 rfl (by exact HSub.nil) (s_nil rfl) ?_; refine e_tk 9 rfl (by exact HSub.nil) (s_field rfl rfl (by decide)) ?_; refine e_tk 10 rfl (by exact HSub.nil) (s_ld rfl ((RdPK.old0 hw.1).cel (j := 1) rfl rfl)) ?_
  refine e_tk 11 rfl (by exact HSub.nil) (s_len rfl) ?_
  by_cases hgt : (at_ : Int) + s.size > l.length
  ·
   refine e_tk 12 rfl (by exact HSub.nil) (step_cast (v' := .bool true) (s_gtr rfl rfl) (by rw [decide_eq_true (by omega)])) ?_; refine e_done (by kernel_rfl) ?_; refine x_then (hK3 _ _ ?_); refine c_true rfl ?_; refine c_seq fun _ hK4 => ?_; refine c_region ?_; refine o_step rfl (s_assign rfl) ?_; refine o_nil ?_; refine x_then (hK4 _ _ ?_); refine c_ret ?_; refine x_then_ret (?_); exact x_ret rfl (.tmp rfl (.nil)) (by rw [seesB_f (fun h => by have := h.1; omega)]; rfl)
  ·
   refine e_tk 12 rfl (by exact HSub.nil) (step_cast (v' := .bool false) (s_gtr rfl rfl) (by rw [decide_eq_false (by omega)])) ?_; refine e_done (by kernel_rfl) ?_; refine x_then (hK3 _ _ ?_); refine c_false rfl ?_; refine c_skip ?_; refine x_then (hK2 _ _ ?_); refine c_seq fun _ hK5 => ?_; refine c_seq fun _ hK6 => ?_; refine c_region ?_; refine o_step rfl (s_move rfl) ?_; refine o_step rfl (s_lenstr rfl) ?_; refine o_step rfl (s_move rfl) ?_; refine o_nil ?_; refine x_then (hK6 _ _ ?_); refine c_block ?_
   -- not carried: 4
   refine c_loopB (fun (i : Nat) => i ≤ s.data.toList.length ∧ ∀ j, j < i → seesAt l at_ s.data.toList j) (fun (i : Nat) => [(22, .int .i64 i)]) [(0, _), (1, _), (21, _)] (fun (i : Nat) => []) (fun (i : Nat) => s.data.toList.length - i) 0 ⟨Nat.zero_le _, fun j hj => by omega⟩ sbA sbA hzB ?_
   rintro i ⟨hi, hsa⟩
   refine c_seq fun _ hK7 => ?_; refine c_region ?_
   by_cases hil : (i : Int) < s.size
   ·
    obtain ⟨m, hm⟩ : ∃ m, l[at_ + i]? = some m := ⟨_, List.getElem?_eq_getElem (by omega)⟩
    have hil2 : i < s.data.toList.length := by omega
    refine o_step rfl (step_cast (v' := .bool true) (s_lss rfl rfl) (by rw [decide_eq_true (by omega)])) ?_; refine o_nil ?_; refine x_then (hK7 _ _ ?_); refine c_seq fun _ hK8 => ?_; refine c_true rfl ?_; refine c_skip ?_; refine x_then (hK8 _ _ ?_); refine c_seq fun _ hK9 => ?_; refine c_block ?_; refine c_seq fun _ hK10 => ?_; refine c_region ?_; refine o_step rfl (s_move rfl) ?_; refine o_step rfl (s_assign rfl) ?_; refine o_nil ?_; refine x_then (hK10 _ _ ?_); refine c_seq fun _ hK11 => ?_; refine c_drawE ([]) (fun i => false) ?_; refine e_tk 0 rfl (by exact HSub.nil) (s_move rfl) ?_; refine e_tk 1 rfl (by exact HSub.nil) (s_nil rfl) ?_; refine e_tk 2 rfl (by exact HSub.nil) (s_field rfl rfl (by decide)) ?_; refine e_tk 3 rfl (by exact HSub.nil) (s_ld rfl ((RdPK.old0 hw.1).cel (j := 1) rfl rfl)) ?_; refine e_tk 4 rfl (by exact HSub.nil) (s_move rfl) ?_; refine e_tk 5 rfl (by exact HSub.nil) (s_nil rfl) ?_
    refine e_tk 6 rfl (by exact HSub.nil) (s_field rfl rfl (by decide)) ?_; refine e_tk 7 rfl (by exact HSub.nil) (s_ld rfl ((RdPK.old0 hw.1).cel (j := 2) rfl rfl)) ?_; refine e_tk 8 rfl (by exact HSub.nil) (s_move rfl) ?_; refine e_tk 9 rfl (by exact HSub.nil) (s_add rfl rfl (by omega)) ?_; refine e_tk 10 rfl (by exact HSub.nil) (s_idx rfl rfl hsl (by omega)) ?_; refine e_tk 11 rfl (by exact HSub.nil) (s_ldB rfl ((RdK.old0 hw.2).cels hm) lnA) ?_; refine e_one 12 rfl (by kernel_rfl) ?_; refine o_alloc (l := Em ⟨0, false⟩) rfl rfl fun b6 => ?_; refine o_nil ?_; refine x_oneS (by exact HSub.nil) ?_; refine e_one 13 rfl (by kernel_rfl) ?_; refine o_stW rfl rfl upA lnA lnA onA ?_; refine o_nil ?_; refine x_oneS (by exact HSub.nil) ?_; refine e_done (by kernel_rfl) ?_; refine x_then (hK11 _ _ ?_); refine c_seq fun _ hK12 => ?_; refine c_drawE ([(b6, .cells (Em m).toArray 110 (0, 0))]) (fun i => false) ?_
    refine e_tk 0 rfl hzB (s_field rfl rfl (by decide)) ?_
    by_cases hp : m.p = true
    ·
     refine e_tk 1 rfl hzB (step_cast (v' := .bool true) (s_ld rfl (.own meA rfl)) (by rw [hp])) ?_; refine e_tk 2 rfl hzB (s_move rfl) ?_; refine e_sk 3 rfl ?_; refine e_sk 4 rfl ?_; refine e_sk 5 rfl ?_; refine e_sk 6 rfl ?_; refine e_sk 7 rfl ?_; refine e_sk 8 rfl ?_; refine e_tk 9 rfl hzB (s_pick_t rfl rfl) ?_; refine e_done (by kernel_rfl) ?_; refine x_then (hK12 _ _ ?_); refine c_true rfl ?_; refine c_seq fun _ hK13 => ?_; refine c_region ?_; refine o_step rfl (s_assign rfl) ?_; refine o_nil ?_; refine x_then (hK13 _ _ ?_); refine c_ret ?_; refine x_block_ret (x_then_ret (x_then_ret (x_block_ret (x_then_ret (?_)))))
     exact x_ret rfl (.tmp rfl (.nil)) (by rw [sees_no hil2 hm (.inl hp)]; rfl)
    ·
     refine e_tk 1 rfl hzB (step_cast (v' := .bool false) (s_ld rfl (.own meA rfl)) (by rw [Bool.eq_false_iff.2 hp])) ?_; refine e_tk 2 rfl hzB (s_move rfl) ?_; refine e_tg 3 rfl hzB (s_field rfl rfl (by decide)) ?_; refine e_tg 4 rfl hzB (s_ld rfl (.own meA rfl)) ?_; refine e_tg 5 rfl hzB (s_move rfl) ?_; refine e_tg 6 rfl hzB (s_move rfl) ?_; refine e_tg 7 rfl hzB (s_indexStr hil2 rfl rfl) ?_
     by_cases hb : (m.b.toNat : Int) ≠ ((s.data.toList[i]).toNat : Int)
     ·
      refine e_tg 8 rfl hzB (step_cast (v' := .bool true) (s_neq rfl rfl) (by rw [decide_eq_true hb])) ?_; refine e_tk 9 rfl hzB (s_pick_f rfl rfl) ?_; refine e_done (by kernel_rfl) ?_; refine x_then (hK12 _ _ ?_); refine c_true rfl ?_; refine c_seq fun _ hK14 => ?_; refine c_region ?_; refine o_step rfl (s_assign rfl) ?_; refine o_nil ?_; refine x_then (hK14 _ _ ?_); refine c_ret ?_; refine x_block_ret (x_then_ret (x_then_ret (x_block_ret (x_then_ret (?_)))))
      exact x_ret rfl (.tmp rfl (.nil)) (by rw [sees_no hil2 hm (.inr ⟨_, List.getElem?_eq_getElem hil2, fun e => hb (by rw [e])⟩)]; rfl)
     ·
      refine e_tg 8 rfl hzB (step_cast (v' := .bool false) (s_neq rfl rfl) (by rw [decide_eq_false hb])) ?_; refine e_tk 9 rfl hzB (s_pick_f rfl rfl) ?_; refine e_done (by kernel_rfl) ?_; refine x_then (hK12 _ _ ?_); refine c_false rfl ?_; refine c_skip ?_; refine x_block ?_; refine x_then (hK9 _ _ ?_); refine c_region ?_; refine o_step rfl (s_add rfl rfl (by omega)) ?_; refine o_step rfl (s_move rfl) ?_; refine o_nil ?_; exact x_then (x_inv (i + 1) ⟨by omega, fun j hj => (Nat.lt_or_ge j i).elim (hsa j) fun h => (show i = j by omega) ▸ ⟨m, hm, Bool.eq_false_iff.2 hp, by rw [List.getElem?_eq_getElem hil2]; exact congrArg some (UInt8.toNat_inj.1 (by omega))⟩⟩ (by first | omega | (dsimp only; omega)) sbA hzB)
   ·
    refine o_step rfl (step_cast (v' := .bool false) (s_lss rfl rfl) (by rw [decide_eq_false (by omega)])) ?_; refine o_nil ?_; refine x_then (hK7 _ _ ?_); refine c_seq fun _ hK15 => ?_; refine c_false rfl ?_; refine c_exit ?_; refine x_then_exit ?_; refine x_then_exit ?_; refine x_block_exit ?_; refine x_then (hK5 _ _ ?_); refine c_seq fun _ hK16 => ?_; refine c_region ?_; refine o_step rfl (s_assign rfl) ?_; refine o_nil ?_; refine x_then (hK16 _ _ ?_); refine c_ret ?_; refine ?_; exact x_ret rfl (.tmp rfl (.nil)) (by rw [seesB_t ⟨by omega, fun j hj => hsa j (by omega)⟩]; rfl)

theorem sign_fn (bR : Nat) (la : Option Addr) (lc : Nat) (l : List Mk) (at_ : Nat) (hat : at_ ≤ l.length) (hll : l.length ≤ 1000000) (rest : List Value) (s : ByteArray) (hs : s.size ≤ 100) : HL.Fn Tryz.prog 185 [pt bR, .string s] (fun W => RdP W bR 0 (.bool false :: .slice la l.length lc :: .int .i64 (at_ : Nat) :: rest) ∧ Rd Em W (.slice la l.length lc) l) [] (fun v _ => v = .string (⟨#[92]⟩ ++ s)) := by
  refine fn_of Tryz.func185 rfl rfl rfl fun w0 hw => ?_; refine c_seq fun _ hK1 => ?_; refine c_region ?_; refine o_step rfl (s_assign rfl) ?_; refine o_nil ?_; refine x_then (hK1 _ _ ?_); refine c_seq fun _ hK2 => ?_; refine c_seq fun _ hK3 => ?_; refine c_region ?_; refine o_step rfl (s_move rfl) ?_; refine o_step rfl (s_nil rfl) ?_; refine o_step rfl (s_field rfl rfl (by decide)) ?_; refine o_step rfl (s_ld rfl ((RdPK.old0 hw.1).cel (j := 0) rfl rfl)) ?_; refine o_nil ?_; refine x_then (hK3 _ _ ?_); refine c_false rfl ?_; refine c_skip ?_; refine x_then (hK2 _ _ ?_); refine c_seq fun _ hK4 => ?_; refine c_region ?_; refine o_step rfl (s_move rfl) ?_; refine o_step rfl (s_addstr rfl rfl (by show 1 + s.size ≤ _; omega)) ?_; refine o_step rfl (s_assign rfl) ?_; refine o_nil ?_; refine x_then (hK4 _ _ ?_); refine c_ret ?_; refine ?_; exact x_ret rfl (.tmp rfl (.nil)) (rfl)

set_option maxHeartbeats 1000000 in
theorem one_fn (b : UInt8) : HL.Fn Tryz.prog 184 [.int .u8 b.toNat] (fun _ => True) [] (fun v _ => v = .agg (En ⟨1, ofL [b], 0, 0, 0, 0⟩).toArray) := by
  refine fn_of Tryz.func184 rfl rfl rfl fun w0 hw => ?_; refine c_seq fun _ hK1 => ?_; refine c_region ?_; refine o_alloc (l := En zN) (by rw [En_zero]; rfl) rfl fun b2 => ?_; refine o_nil ?_; refine x_then (hK1 _ _ ?_); refine c_seq fun _ hK2 => ?_; refine c_region ?_; refine o_step rfl (s_move rfl) ?_; refine o_bs (E := Eb) (xs := [b]) (vs := [_]) rfl rfl rfl rfl rfl (by decide) (by decide) fun b4 S4 hS4 => ?_; refine o_callP (of_fn (some ⟨b4, 0, none⟩) _ [b]) rfl rfl rfl (fun _ st => (hS4.rdk hiA).out _ st) (fun v5 hv5 => ?_); subst hv5
  refine o_step rfl (s_bone _ rfl) ?_; refine o_stW rfl rfl upA lnA lnA onA ?_; refine o_nil ?_; refine x_then (hK2 _ _ ?_); refine c_ret ?_; refine ?_; exact x_ret rfl (.agg inferInstance inferInstance rfl (RdPK.cels (.own meA)) lnA (.nil)) (rfl)
end Go.Proofs.YtopmnmigpbdddaaGreatDoor

/- Part of the proofs over this seat: see the text that holds the theorem. Conditions: each theorem bears its own. -/
namespace Go.Proofs.YtopmnmigpbdddaaGreatDoor
open Go Go.HL Go.Proofs Go.HL.Kl Go.HL.Kl.Mc Go.HL.Kl.Mc.AskE Go.Tab
def mfR (f bR : Nat) : Value := .func (.func f) #[.pointer (some ⟨bR, 0, none⟩)] #[]
def begT (bR : Nat) : List Value := (((((List.replicate 256 Value.nilFunc).set 46 (mfR 151 bR)).set 91 (mfR 152 bR)).set 92 (mfR 153 bR)).set 94 (mfR 154 bR)).set 36 (mfR 155 bR)
def rdC (vl : Value) (at_ : Nat) (bR : Nat) : List Value := .bool false :: vl :: .int .i64 (at_ : Nat) :: (.slice none 0 0 :: .int .i64 0 :: begT bR)
theorem rdC_beg {vl : Value} {at_ bR j : Nat} (hj : j < 256) (h : j ≠ 46 ∧ j ≠ 91 ∧ j ≠ 92 ∧ j ≠ 94 ∧ j ≠ 36) : (rdC vl at_ bR)[5 + j]? = some .nilFunc := by
  have : (rdC vl at_ bR)[5 + j]? = (begT bR)[j]? := by
    rw [show 5 + j = j + 1 + 1 + 1 + 1 + 1 by omega]; rfl
  rw [this, begT, List.getElem?_set_ne (by omega), List.getElem?_set_ne (by omega), List.getElem?_set_ne (by omega), List.getElem?_set_ne (by omega), List.getElem?_set_ne (by omega), List.getElem?_replicate, if_pos hj]
def Lit (m : Mk) : Prop := m.p = false ∧ m.b ≠ 46 ∧ m.b ≠ 91 ∧ m.b ≠ 92 ∧ m.b ≠ 94 ∧ m.b ≠ 36 ∧ m.b ≠ 42
theorem Lit.nat {m : Mk} (h : Lit m) : m.b.toNat ≠ 46 ∧ m.b.toNat ≠ 91 ∧ m.b.toNat ≠ 92 ∧ m.b.toNat ≠ 94 ∧ m.b.toNat ≠ 36 := by
  obtain ⟨_, h1, h2, h3, h4, h5, _⟩ := h
  exact ⟨fun e => h1 (UInt8.toNat_inj.1 e), fun e => h2 (UInt8.toNat_inj.1 e), fun e => h3 (UInt8.toNat_inj.1 e), fun e => h4 (UInt8.toNat_inj.1 e), fun e => h5 (UInt8.toNat_inj.1 e)⟩
theorem lit_42 {l : List Mk} (hl : ∀ m ∈ l, Lit m) (i : Nat) : seesB l i [42] = false := by
  refine seesB_f fun ⟨_, h⟩ => ?_
  obtain ⟨m, h1, _, h3⟩ := h 0 (by decide)
  have hm := hl m (List.mem_of_getElem? h1)
  exact hm.2.2.2.2.2.2 (by simpa using h3.symm)
theorem lit_92 {l : List Mk} (hl : ∀ m ∈ l, Lit m) (i : Nat) (c : UInt8) : seesB l i [92, c] = false := by
  refine seesB_f fun ⟨_, h⟩ => ?_
  obtain ⟨m, h1, _, h3⟩ := h 0 (by simp)
  have hm := hl m (List.mem_of_getElem? h1)
  exact hm.2.2.2.1 (by simpa using h3.symm)
def litN (m : Mk) : Nd := ⟨1, ofL [m.b], 0, 0, 0, 0⟩
set_option maxHeartbeats 1000000 in
theorem repeats_fn (bR : Nat) (la : Option Addr) (lc : Nat) (l : List Mk) (at_ : Nat) (hat : at_ ≤ l.length) (hll : l.length ≤ 1000000) (hlit : ∀ m ∈ l, Lit m)  : HL.Fn Tryz.prog 186 [pt bR] (fun W => RdP W bR 0 (rdC (.slice la l.length lc) at_ bR) ∧ Rd Em W (.slice la l.length lc) l) [] (fun v _ => v = .bool false) := by
  refine fn_of Tryz.func186 rfl rfl rfl fun w0 hw => ?_; refine c_seq fun _ hK1 => ?_; refine c_region ?_; refine o_step rfl (s_assign rfl) ?_; refine o_nil ?_; refine x_then (hK1 _ _ ?_); refine c_seq fun _ hK2 => ?_; refine c_region ?_; refine o_step rfl (s_move rfl) ?_; refine o_callP (sees_fn bR false la lc l at_ (hat) hll (.slice none 0 0 :: .int .i64 0 :: begT bR) ⟨#[42]⟩ (by decide)) rfl rfl rfl (fun _ st => ⟨(RdPK.old0 hw.1).out _ st, (RdK.old0 hw.2).out _ st⟩) (fun v4 hv4 => ?_)
  rw [show seesB l at_ [42] = false from lit_42 hlit _] at hv4
  subst hv4; refine o_step rfl (s_move rfl) ?_; refine o_yes rfl rfl ?_; refine o_step rfl (s_move rfl) ?_; refine o_yes rfl rfl ?_; refine o_step rfl (s_nil rfl) ?_; refine o_yes rfl rfl ?_; refine o_step rfl (s_field rfl rfl (by decide)) ?_; refine o_yes rfl rfl ?_; refine o_step rfl (s_ld rfl ((RdPK.old0 hw.1).cel (j := 0) rfl rfl)) ?_; refine o_yes rfl rfl ?_; refine o_step rfl (s_move rfl) ?_; refine o_no rfl rfl rfl rfl ?_; refine o_no rfl rfl rfl rfl ?_; refine o_no rfl rfl rfl rfl ?_; refine o_noU rfl rfl rfl ?_; refine o_noU rfl rfl rfl ?_; refine o_no rfl rfl rfl rfl ?_; refine o_yes rfl rfl ?_; refine o_step rfl (s_pick_f rfl rfl) ?_; refine o_step rfl (s_pick_f rfl rfl) ?_; refine o_step rfl (s_move rfl) ?_; refine o_yes rfl rfl ?_; refine o_step rfl (s_move rfl) ?_; refine o_yes rfl rfl ?_; refine o_step rfl (s_move rfl) ?_; refine o_yes rfl rfl ?_; refine o_callP (sign_fn bR la lc l at_ (hat) hll (.slice none 0 0 :: .int .i64 0 :: begT bR) ⟨#[123]⟩ (by decide)) rfl rfl rfl (fun _ st => ⟨(RdPK.old0 hw.1).out _ st, (RdK.old0 hw.2).out _ st⟩) (fun v22 hv22 => ?_)
  subst hv22; refine o_yes rfl rfl ?_; refine o_callP (sees_fn bR false la lc l at_ (hat) hll (.slice none 0 0 :: .int .i64 0 :: begT bR) (⟨#[92]⟩ ++ ⟨#[123]⟩) (by decide)) rfl rfl rfl (fun _ st => ⟨(RdPK.old0 hw.1).out _ st, (RdK.old0 hw.2).out _ st⟩) (fun v23 hv23 => ?_)
  rw [show seesB l at_ (⟨#[92]⟩ ++ ⟨#[123]⟩ : ByteArray).data.toList = false from lit_92 hlit _ _] at hv23
  subst hv23; refine o_step rfl (s_pick_f rfl rfl) ?_; refine o_step rfl (s_assign rfl) ?_; refine o_nil ?_; refine x_then (hK2 _ _ ?_); refine c_ret ?_; refine ?_; exact x_ret rfl (.tmp rfl (.nil)) (rfl)
end Go.Proofs.YtopmnmigpbdddaaGreatDoor

/- Rules for a scope that holds labels nobody jumps to. Conditions: none. -/
namespace Go.HL
open Go
section
variable {F : Fence} {n : Nat} {P : Program} {Q : Exit → Act → World → Prop} {b : Frame} {a : Act} {k : List Item} {cs : List Frame} {w : World}
theorem stepR_scope {c : Code} : step P (lone (b.atR a (.code (.scope c) :: k)) cs w) = .next (lone (b.atR a (.code c :: .inScope c :: k)) cs w) :=
  step_lone_go (by simp [stepG, stepG.exec, Frame.atR])
theorem stepR_inScope {c : Code} : step P (lone (b.atR a (.inScope c :: k)) cs w) = .next (lone (b.atR a k) cs w) :=
  step_lone_go (by simp [stepG, stepG.exec, Frame.atR])
theorem wpIn_scope {c : Code} (h : c.wpIn F n P (Exit.noGoto Q) a w) : (Code.scope c).wpIn F n P Q a w := by
  intro b k cs hro hb hr
  have h0 : (lone (b.atR a (.code (.scope c) :: k)) cs w).fenced P F := fenced_calm hb hr rfl
  obtain ⟨e, a₁, w₁, hq, harr⟩ := h b (.inScope c :: k) cs hro hb hr
  cases e with
  | normal => exact ⟨.normal, a₁, w₁, hq, .head h0 stepR_scope (StepsIn.trans harr (.one (fenced_calm hb hr rfl) stepR_inScope))⟩
  | exit id =>
    have hx : exitTo id (.inScope c :: k) = exitTo id k := by simp [exitTo]
    exact ⟨.exit id, a₁, w₁, hq, fun k' hk => .head h0 stepR_scope (harr.1 k' (by rw [hx]; exact hk)),
      fun hr' hk => let ⟨k₁, h1, h2⟩ := harr.2 hr' (by rw [hx]; exact hk); ⟨k₁, h1, .head h0 stepR_scope h2⟩⟩
  | goto l => exact hq.elim
  | ret => exact ⟨_, a₁, w₁, hq, .of_steps (.one h0 stepR_scope) harr⟩
  | panic ch => exact ⟨_, a₁, w₁, hq, .of_steps (.one h0 stepR_scope) harr⟩
  | outgrown => exact ⟨_, a₁, w₁, hq, .of_steps (.one h0 stepR_scope) harr⟩
end
section
variable {P : Program} {κ : Cx} {Q : Pst} {L : Loc} {H : Hp}
theorem c_scope {c : Code} (h : C P κ (Exit.noGoto Q) c L H) : C P κ Q (.scope c) L H := ⟨fun ro a w hr ok => wpIn_scope (h.out ro a w (hr.imp id fun h => by simpa [noDefC] using h) ok)⟩
theorem x_scope_ret (h : X κ (Q .ret) L H) : X κ (Exit.noGoto Q .ret) L H := h
end
end Go.HL

/- Part of the proofs over this seat: see the text that holds the theorem. Conditions: each theorem bears its own. -/
namespace Go.Proofs.YtopmnmigpbdddaaGreatDoor
open Go Go.HL Go.Proofs Go.HL.Kl Go.HL.Kl.Mc Go.HL.Kl.Mc.AskE Go.Tab
set_option maxHeartbeats 4000000 in
theorem row_fn (bR : Nat) (la : Option Addr) (lc : Nat) (l : List Mk) (hll : l.length ≤ 4096) (hlit : ∀ m ∈ l, Lit m) : HL.Fn Tryz.prog 157 [pt bR] (fun W => Rd Em W (.slice la l.length lc) l ∧ Apart (keys [(bR, .cells (rdC (.slice la l.length lc) 0 bR).toArray 245 (0, 0))]) (.slice la l.length lc)) [(bR, .cells (rdC (.slice la l.length lc) 0 bR).toArray 245 (0, 0))] (fun v S' => ∃ a c S2, v = .tuple #[.int .i64 l.length, .slice a (l.map litN).length c] ∧ S' = (bR, .cells (rdC (.slice la l.length lc) l.length bR).toArray 245 (0, 0)) :: S2 ∧ OwnS En 9 108 (.slice a (l.map litN).length c) (l.map litN) S2) := by
  refine fn_of Tryz.func157 rfl rfl rfl fun w0 hw => ?_
  have hsl := hw.1.sl
  have hbl := hsl.le
  refine c_seq fun _ hK1 => ?_; refine c_region ?_; refine o_step rfl (s_assign rfl) ?_; refine o_step rfl (s_assign rfl) ?_; refine o_nil ?_; refine x_then (hK1 _ _ ?_); refine c_scope ?_; refine c_seq fun _ hK2 => ?_; refine c_region ?_; refine o_step rfl (s_assign rfl) ?_; refine o_nil ?_; refine x_then (hK2 _ _ ?_); refine c_seq fun _ hK3 => ?_; refine c_region ?_; refine o_step rfl (s_assign rfl) ?_; refine o_nil ?_; refine x_then (hK3 _ _ ?_); refine c_seq fun _ hK4 => ?_; refine c_region ?_; refine o_step rfl (s_assign rfl) ?_; refine o_nil ?_; refine x_then (hK4 _ _ ?_); refine c_seq fun _ hK5 => ?_; refine c_label ?_; refine x_then (hK5 _ _ ?_); refine c_seq fun _ hK6 => ?_; refine c_block ?_
  -- not carried: 6
  refine c_loop4 (fun (i : Nat) (a : Option Addr) (c : Nat) (S : Hp) => i ≤ l.length ∧ OwnS En 9 108 (.slice a ((l.take i).map litN).length c) ((l.take i).map litN) S) (fun (i : Nat) (a : Option Addr) (c : Nat) (S : Hp) => [(4, .slice a ((l.take i).map litN).length c), (5, .int .i64 i)]) [(0, _), (2, _), (3, _)] (fun (i : Nat) (a : Option Addr) (c : Nat) (S : Hp) => (bR, .cells (rdC (.slice la l.length lc) i bR).toArray 245 (0, 0)) :: S) (fun (i : Nat) (a : Option Addr) (c : Nat) (S : Hp) => l.length - i) 0 none 0 [] ⟨Nat.zero_le _, .nil⟩ sbA sbA hzB ?_
  rintro i a c S ⟨hi, hS⟩
  refine c_seq fun _ hK7 => ?_; refine c_seq fun _ hK8 => ?_; refine c_drawE ([(bR, .cells (rdC (.slice la l.length lc) i bR).toArray 245 (0, 0))]) (fun i => false) ?_; refine e_tk 0 rfl hzB (s_move rfl) ?_; refine e_tk 1 rfl hzB (s_nil rfl) ?_; refine e_tk 2 rfl hzB (s_field rfl rfl (by decide)) ?_; refine e_tk 3 rfl hzB (s_ld rfl (.own meA rfl)) ?_; refine e_tk 4 rfl hzB (s_move rfl) ?_; refine e_tk 5 rfl hzB (s_nil rfl) ?_; refine e_tk 6 rfl hzB (s_field rfl rfl (by decide)) ?_; refine e_tk 7 rfl hzB (s_ld rfl (.own meA rfl)) ?_; refine e_tk 8 rfl hzB (s_len rfl) ?_
  by_cases hil : (i : Int) < l.length
  ·
   obtain ⟨m, hm⟩ : ∃ m, l[i]? = some m := ⟨_, List.getElem?_eq_getElem (by omega)⟩
   have hL := hlit m (List.mem_of_getElem? hm)
   have hLn := hL.nat
   have hmb : m.b.toNat < 256 := m.b.toNat_lt
   have hto : (l.take (i + 1)).map litN = (l.take i).map litN ++ [litN m] := by rw [List.take_add_one, hm]; simp
   refine e_tk 9 rfl hzB (step_cast (v' := .bool true) (s_lss rfl rfl) (by rw [decide_eq_true (by omega)])) ?_; refine e_done (by kernel_rfl) ?_; refine x_then (hK8 _ _ ?_); refine c_true rfl ?_; refine c_skip ?_; refine x_then (hK7 _ _ ?_); refine c_seq fun _ hK9 => ?_; refine c_block ?_; refine c_seq fun _ hK10 => ?_; refine c_block ?_; refine c_seq fun _ hK11 => ?_; refine c_region ?_; refine o_step rfl (s_move rfl) ?_; refine o_step rfl (s_nil rfl) ?_; refine o_step rfl (s_field rfl rfl (by decide)) ?_; refine o_step rfl (s_ld rfl (.own meA rfl)) ?_; refine o_step rfl (s_move rfl) ?_; refine o_no rfl rfl rfl rfl ?_; refine o_no rfl rfl rfl rfl ?_; refine o_step rfl (s_pick_f rfl rfl) ?_; refine o_step rfl (s_assign rfl) ?_; refine o_nil ?_; refine x_then (hK11 _ _ ?_); refine c_false rfl ?_; refine c_seq fun _ hK12 => ?_; refine c_region ?_; refine o_step rfl (s_move rfl) ?_; refine o_step rfl (s_move rfl) ?_
   refine o_callP (sign_fn bR la lc l i (by omega) (by omega) (.slice none 0 0 :: .int .i64 0 :: begT bR) ⟨#[41]⟩ (by decide)) rfl rfl rfl (fun _ st => ⟨(RdPK.own meA).out _ st, (RdK.old hw.1 hw.2).out _ st⟩) (fun v35 hv35 => ?_); subst hv35
   refine o_callP (sees_fn bR false la lc l i (by omega) (by omega) (.slice none 0 0 :: .int .i64 0 :: begT bR) (⟨#[92]⟩ ++ ⟨#[41]⟩) (by decide)) rfl rfl rfl (fun _ st => ⟨(RdPK.own meA).out _ st, (RdK.old hw.1 hw.2).out _ st⟩) (fun v36 hv36 => ?_)
   rw [show seesB l i (⟨#[92]⟩ ++ ⟨#[41]⟩ : ByteArray).data.toList = false from lit_92 hlit _ _] at hv36
   subst hv36; refine o_step rfl (s_assign rfl) ?_; refine o_nil ?_; refine x_then (hK12 _ _ ?_); refine c_false rfl ?_; refine c_skip ?_; refine x_block ?_; refine x_then (hK10 _ _ ?_); refine c_seq fun _ hK13 => ?_; refine c_seq fun _ hK14 => ?_; refine c_region ?_; refine o_step rfl (s_move rfl) ?_; refine o_callP (repeats_fn bR la lc l i (by omega) (by omega) hlit) rfl rfl rfl (fun _ st => ⟨(RdPK.own meA).out _ st, (RdK.old hw.1 hw.2).out _ st⟩) (fun v49 hv49 => ?_); subst hv49
   refine o_step rfl (s_move rfl) ?_; refine o_no rfl rfl rfl rfl ?_; refine o_no rfl rfl rfl rfl ?_; refine o_no rfl rfl rfl rfl ?_; refine o_no rfl rfl rfl rfl ?_; refine o_no rfl rfl rfl rfl ?_; refine o_noU rfl rfl rfl ?_; refine o_noU rfl rfl rfl ?_; refine o_no rfl rfl rfl rfl ?_; refine o_no rfl rfl rfl rfl ?_; refine o_noU rfl rfl rfl ?_; refine o_noU rfl rfl rfl ?_; refine o_noU rfl rfl rfl ?_; refine o_no rfl rfl rfl rfl ?_; refine o_step rfl (s_pick_f rfl rfl) ?_; refine o_nil ?_; refine x_then (hK14 _ _ ?_); refine c_false rfl ?_; refine c_skip ?_; refine x_then (hK13 _ _ ?_); refine c_seq fun _ hK15 => ?_; refine c_drawE ([(bR, .cells (rdC (.slice la l.length lc) i bR).toArray 245 (0, 0))]) (fun i => false) ?_; refine e_tk 0 rfl hzB (s_move rfl) ?_; refine e_tk 1 rfl hzB (s_nil rfl) ?_; refine e_tk 2 rfl hzB (s_field rfl rfl (by decide)) ?_; refine e_tk 3 rfl hzB (s_ld rfl (.own meA rfl)) ?_
   refine e_tk 4 rfl hzB (s_move rfl) ?_; refine e_tk 5 rfl hzB (s_nil rfl) ?_; refine e_tk 6 rfl hzB (s_field rfl rfl (by decide)) ?_; refine e_tk 7 rfl hzB (s_ld rfl (.own meA rfl)) ?_; refine e_tk 8 rfl hzB (s_idx rfl rfl hsl (by omega)) ?_; refine e_tk 9 rfl hzB (s_ldB rfl ((RdK.old hw.1 hw.2).cels hm) lnA) ?_; refine e_one 10 rfl (by kernel_rfl) ?_; refine o_alloc (l := Em ⟨0, false⟩) rfl rfl fun b7 => ?_; refine o_nil ?_; refine x_oneS hzB ?_; refine e_one 11 rfl (by kernel_rfl) ?_; refine o_stW rfl rfl upA lnA lnA onA ?_; refine o_nil ?_; refine x_oneS hzB ?_; refine e_done (by kernel_rfl) ?_; refine x_then (hK15 _ _ ?_); refine c_seq fun _ hK16 => ?_; refine c_region ?_; refine o_step rfl (s_assign rfl) ?_; refine o_nil ?_; refine x_then (hK16 _ _ ?_); refine c_seq fun _ hK17 => ?_; refine c_region ?_; refine o_step rfl (s_assign rfl) ?_; refine o_nil ?_; refine x_then (hK17 _ _ ?_)
   refine c_seq fun _ hK18 => ?_; refine c_seq fun _ hK19 => ?_; refine c_drawE ([(b7, .cells (Em m).toArray 110 (0, 0)), (bR, .cells (rdC (.slice la l.length lc) i bR).toArray 245 (0, 0))]) (fun i => false) ?_; refine e_tk 0 rfl hzB (s_move rfl) ?_; refine e_tk 1 rfl hzB (s_field rfl rfl (by decide)) ?_; refine e_tk 2 rfl hzB (s_ld rfl (.own meA rfl)) ?_; refine e_tk 3 rfl hzB (s_nil rfl) ?_; refine e_tk 4 rfl hzB (s_field rfl rfl (by decide)) ?_; refine e_tk 5 rfl hzB (s_indexA rfl rfl (by omega)) ?_; refine e_tk 6 rfl hzB (s_ld rfl ((RdPK.own meA).cel (j := 5 + m.b.toNat) (rdC_beg hmb ⟨hLn.1, hLn.2.1, hLn.2.2.1, hLn.2.2.2.1, hLn.2.2.2.2⟩) (by omega))) ?_; refine e_one 7 rfl (by kernel_rfl) ?_; refine o_step rfl (s_assign rfl) ?_; refine o_nil ?_; refine x_oneS hzB ?_; refine e_done (by kernel_rfl) ?_; refine x_then (hK19 _ _ ?_); refine c_seq fun _ hK20 => ?_; refine c_region ?_; refine o_step rfl (s_move rfl) ?_
   refine o_step rfl (s_neq_nilff rfl rfl) ?_; refine o_step rfl (s_move rfl) ?_; refine o_no rfl rfl rfl rfl ?_; refine o_no rfl rfl rfl rfl ?_; refine o_no rfl rfl rfl rfl ?_; refine o_step rfl (s_pick_f rfl rfl) ?_; refine o_nil ?_; refine x_then (hK20 _ _ ?_); refine c_false rfl ?_; refine c_seq fun _ hK21 => ?_; refine c_region ?_; refine o_step rfl (s_move rfl) ?_; refine o_step rfl (s_nil rfl) ?_; refine o_step rfl (s_field rfl rfl (by decide)) ?_; refine o_step rfl (s_ld rfl (.own meA rfl)) ?_; refine o_step rfl (s_add rfl rfl (by omega)) ?_; refine o_step rfl (s_nil rfl) ?_; refine o_step rfl (s_field rfl rfl (by decide)) ?_; refine o_store rfl rfl rfl upA ltA rfl ?_; refine o_nil ?_; refine x_then (hK21 _ _ ?_); refine c_region ?_; refine o_step rfl (s_field rfl rfl (by decide)) ?_; refine o_step rfl (s_ld rfl (.own meA rfl)) ?_; refine o_callP (one_fn m.b) rfl rfl rfl (fun _ _ => trivial) (fun v111 hv111 => ?_)
   subst hv111; refine o_bs (E := En) (xs := [litN m]) (vs := [_]) rfl rfl rfl rfl rfl (by decide) (by decide) fun b112 S112 hS112 => ?_; refine o_step rfl (s_assign rfl) ?_; refine o_nil ?_; refine x_then (hK18 _ _ ?_); refine c_seq fun _ hK22 => ?_; refine c_region ?_; refine o_step rfl (s_move rfl) ?_; refine o_step rfl (s_idx rfl rfl (by have := hS112.sl; exact this) (by omega)) ?_; refine o_step rfl (s_field rfl rfl (by decide)) ?_; refine o_step rfl (s_ld rfl ((hS112.rdk hiA).ld 0 0 rfl rfl (by decide) (by omega))) ?_; refine o_step rfl (step_cast (v' := .bool false) (s_eql rfl rfl) rfl) ?_; refine o_step rfl (s_assign rfl) ?_; refine o_nil ?_; refine x_then (hK22 _ _ ?_); refine c_seq fun _ hK23 => ?_; refine c_seq fun _ hK24 => ?_; refine c_region ?_; refine o_step rfl (s_move rfl) ?_; refine o_step rfl (s_move rfl) ?_; refine o_yes rfl rfl ?_; refine o_step rfl (s_move rfl) ?_; refine o_yes rfl rfl ?_
   refine o_callP (repeats_fn bR la lc l (i + 1) (by omega) (by omega) hlit) rfl rfl rfl (fun _ st => ⟨(RdPK.own meA).out _ st, (RdK.old hw.1 hw.2).out _ st⟩) (fun v121 hv121 => ?_); subst hv121
   refine o_step rfl (s_pick_t rfl rfl) ?_; refine o_nil ?_; refine x_then (hK24 _ _ ?_); refine c_false rfl ?_; refine c_skip ?_; refine x_then (hK23 _ _ ?_); refine c_region ?_; refine o_step rfl (s_move rfl) ?_; refine o_step rfl (s_move rfl) ?_; refine o_app hS (hS112.rdk hiA) rfl rfl rfl rfl (by simp; omega) (by simp; omega) rfl pkA fun a130 c130 S130 hS130 => ?_
   rw [← hto] at hS130
   rw [← hto]
   refine o_step rfl (s_assign rfl) ?_; refine o_nil ?_; refine x_block ?_; refine x_then (hK9 _ _ ?_); refine c_region ?_; refine o_step rfl (s_move rfl) ?_; refine o_step rfl (s_add rfl rfl (by omega)) ?_; refine o_step rfl (s_assign rfl) ?_; refine o_nil ?_; exact x_then (x_inv (i + 1, _, _, _) ⟨by dsimp only; omega, hS130⟩ (by first | omega | (dsimp only; omega)) sbA hzB)
  ·
   refine e_tk 9 rfl hzB (step_cast (v' := .bool false) (s_lss rfl rfl) (by rw [decide_eq_false (by omega)])) ?_; refine e_done (by kernel_rfl) ?_; refine x_then (hK8 _ _ ?_); refine c_false rfl ?_; refine c_exit ?_; refine x_then_exit ?_; refine x_then_exit ?_; refine x_block_exit ?_; refine x_then (hK6 _ _ ?_); refine c_seq fun _ hK25 => ?_; refine c_region ?_; refine o_step rfl (s_move rfl) ?_; refine o_step rfl (s_move rfl) ?_; refine o_step rfl (s_assign rfl) ?_; refine o_step rfl (s_assign rfl) ?_; refine o_nil ?_; refine x_then (hK25 _ _ ?_); refine c_ret ?_; refine x_scope_ret (?_)
   obtain rfl : i = l.length := by omega
   rw [List.take_length] at hS
   exact x_ret rfl (.tmp rfl (.tmp rfl (.nil))) (⟨a, c, S, by rw [List.take_length]; rfl, rfl, hS⟩)
end Go.Proofs.YtopmnmigpbdddaaGreatDoor

/- Part of the proofs over this seat: see the text that holds the theorem. Conditions: each theorem bears its own. -/
namespace Go.Proofs.YtopmnmigpbdddaaGreatDoor
open Go Go.HL Go.Proofs Go.HL.Kl Go.HL.Kl.Mc Go.HL.Kl.Mc.AskE Go.Tab
theorem En_catn (n : Int) : En (⟨4, 0, 0, 0, 0, n⟩ : Nd) = [.int .i8 4, .int .u64 0, .int .u64 0, .int .u64 0, .int .u64 0, .int .i64 0, .int .i64 0, .int .i64 0, .int .i64 n] := by
  show _ :: (Ec 0#256 ++ _) = _
  rw [Ec_zero]; rfl
def rowL (l : List Mk) : List Nd := ⟨4, 0, 0, 0, 0, (l.length : Int)⟩ :: l.map litN
theorem rowL_len {l : List Mk} : (rowL l).length = l.length + 1 := by simp [rowL]
set_option maxHeartbeats 2000000 in
theorem sides_fn (bR : Nat) (la : Option Addr) (lc : Nat) (l : List Mk) (hll : l.length ≤ 4096) (hlit : ∀ m ∈ l, Lit m) (h2 : 2 ≤ l.length) : HL.Fn Tryz.prog 136 [pt bR] (fun W => Rd Em W (.slice la l.length lc) l ∧ Apart (keys [(bR, .cells (rdC (.slice la l.length lc) 0 bR).toArray 245 (0, 0))]) (.slice la l.length lc)) [(bR, .cells (rdC (.slice la l.length lc) 0 bR).toArray 245 (0, 0))] (fun v S' => ∃ a c S2, v = .slice a (rowL l).length c ∧ S' = (bR, .cells (rdC (.slice la l.length lc) l.length bR).toArray 245 (0, 0)) :: S2 ∧ OwnS En 9 108 (.slice a (rowL l).length c) (rowL l) S2) := by
  refine fn_of Tryz.func136 rfl rfl rfl fun w0 hw => ?_
  have hsl := hw.1.sl
  have hbl := hsl.le
  have hrl := rowL_len (l := l)
  have hml : (l.map litN).length = l.length := List.length_map ..
  refine c_seq fun _ hK1 => ?_; refine c_region ?_; refine o_step rfl (s_assign rfl) ?_; refine o_nil ?_; refine x_then (hK1 _ _ ?_); refine c_scope ?_; refine c_seq fun _ hK2 => ?_; refine c_region ?_; refine o_step rfl (s_assign rfl) ?_; refine o_nil ?_; refine x_then (hK2 _ _ ?_); refine c_seq fun _ hK3 => ?_; refine c_region ?_; refine o_step rfl (s_assign rfl) ?_; refine o_nil ?_; refine x_then (hK3 _ _ ?_); refine c_seq fun _ hK4 => ?_; refine c_label ?_; refine x_then (hK4 _ _ ?_); refine c_seq fun _ hK5 => ?_; refine c_block ?_; refine c_loopB (fun (_u : Unit) => True) (fun (_u : Unit) => [(3, .slice none 0 0), (4, .int .i64 0)]) [(0, _), (2, _)] (fun (_u : Unit) => [(bR, .cells (rdC (.slice la l.length lc) 0 bR).toArray 245 (0, 0))]) (fun (_u : Unit) => 0) () trivial sbA sbA hzB ?_
  rintro _u _h
  refine c_block ?_; refine c_seq fun _ hK6 => ?_; refine c_region ?_; refine o_step rfl (s_move rfl) ?_; refine o_call (row_fn bR la lc l hll hlit) rfl rfl rfl (by exact .all) (fun _ st => ⟨(RdK.old hw.1 hw.2).out _ st, St.apart_M st (by exact hiB) hw.1 hw.2 (by decide)⟩) (fun v10 S10 ⟨a1, c1, S1, hv10, hS10, hO1⟩ => ?_); subst hv10
  subst hS10; refine o_step rfl (s_move rfl) ?_; refine o_step rfl (s_extract rfl rfl) ?_; refine o_step rfl (s_extract rfl rfl) ?_; refine o_step rfl (s_assign rfl) ?_; refine o_step rfl (s_assign rfl) ?_; refine o_nil ?_; refine x_then (hK6 _ _ ?_); refine c_seq fun _ hK7 => ?_; refine c_region ?_; refine o_step rfl (s_move rfl) ?_; refine o_step rfl (s_nil rfl) ?_; refine o_step rfl (s_field rfl rfl (by decide)) ?_; refine o_step rfl (s_ld rfl (.own meA rfl)) ?_; refine o_step rfl (s_move rfl) ?_; refine o_no rfl rfl rfl rfl ?_; refine o_no rfl rfl rfl rfl ?_; refine o_step rfl (s_pick_f rfl rfl) ?_; refine o_step rfl (s_assign rfl) ?_; refine o_nil ?_; refine x_then (hK7 _ _ ?_); refine c_seq fun _ hK8 => ?_; refine c_seq fun _ hK9 => ?_; refine c_region ?_; refine o_step rfl (s_move rfl) ?_; refine o_step rfl (step_cast (v' := .bool false) (s_eql rfl rfl) (by rw [decide_eq_false (by omega)])) ?_
  refine o_step rfl (s_move rfl) ?_; refine o_no rfl rfl rfl rfl ?_; refine o_no rfl rfl rfl rfl ?_; refine o_noU rfl rfl rfl ?_; refine o_noU rfl rfl rfl ?_; refine o_no rfl rfl rfl rfl ?_; refine o_step rfl (s_pick_f rfl rfl) ?_; refine o_nil ?_; refine x_then (hK9 _ _ ?_); refine c_false rfl ?_; refine c_skip ?_; refine x_then (hK8 _ _ ?_); refine c_seq fun _ hK10 => ?_; refine c_seq fun _ hK11 => ?_; refine c_region ?_; refine o_step rfl (s_move rfl) ?_; refine o_step rfl (step_cast (v' := .bool true) (s_neq rfl rfl) (by rw [decide_eq_true (by omega)])) ?_; refine o_nil ?_; refine x_then (hK11 _ _ ?_); refine c_true rfl ?_; refine c_region ?_; refine o_step rfl (s_move rfl) ?_; refine o_step rfl (step_cast (v' := .agg (En (⟨4, 0, 0, 0, 0, (l.length : Int)⟩ : Nd)).toArray) (s_build (cs := [_, _, _, _, _, _, _, _, _]) (vs := [_, _]) rfl rfl (.cons rfl rfl rfl rfl rfl (.cons rfl rfl rfl rfl rfl .nil))) (by rw [En_catn]; rfl)) ?_
  refine o_bs (E := En) (xs := [(⟨4, 0, 0, 0, 0, (l.length : Int)⟩ : Nd)]) (vs := [_]) rfl rfl rfl rfl rfl (by decide) (by decide) fun b40 S40 hS40 => ?_; refine o_step rfl (s_move rfl) ?_; refine o_app hS40 (hO1.rdk hiA) rfl rfl rfl rfl (by simp; omega) (by simp; omega) rfl pkA fun a42 c42 S42 hS42 => ?_
  have hS42 : OwnS En 9 108 (.slice a42 (rowL l).length c42) (rowL l) S42 := hS42
  refine o_step rfl (s_assign rfl) ?_; refine o_nil ?_; refine x_then (hK10 _ _ ?_); refine c_seq fun _ hK12 => ?_; refine c_region ?_; refine o_step rfl (s_move rfl) ?_; refine o_step rfl (s_move rfl) ?_; refine o_app (OwnS.nil : OwnS En 9 108 (.slice none 0 0) [] []) (hS42.rdk hiA) rfl rfl rfl rfl (by simp; omega) (by simp; omega) rfl pkA fun a45 c45 S45 hS45 => ?_
  rw [List.nil_append] at hS45
  rw [List.nil_append]
  refine o_step rfl (s_assign rfl) ?_; refine o_nil ?_; refine x_then (hK12 _ _ ?_); refine c_seq fun _ hK13 => ?_; refine c_region ?_; refine o_step rfl (s_move rfl) ?_; refine o_step rfl (s_add rfl rfl (by omega)) ?_; refine o_step rfl (s_assign rfl) ?_; refine o_nil ?_; refine x_then (hK13 _ _ ?_); refine c_seq fun _ hK14 => ?_; refine c_seq fun _ hK15 => ?_; refine c_region ?_; refine o_step rfl (s_move rfl) ?_; refine o_step rfl (s_not rfl) ?_; refine o_nil ?_; refine x_then (hK15 _ _ ?_); refine c_true rfl ?_; refine c_exit ?_; refine x_then_exit ?_; refine x_block_pass rfl ?_; refine x_then_exit ?_; refine x_block_exit ?_; refine x_then (hK5 _ _ ?_); refine c_seq fun _ hK16 => ?_; refine c_seq fun _ hK17 => ?_; refine c_region ?_; refine o_step rfl (s_move rfl) ?_; refine o_step rfl (step_cast (v' := .bool false) (s_gtr rfl rfl) rfl) ?_; refine o_nil ?_; refine x_then (hK17 _ _ ?_)
  refine c_false rfl ?_; refine c_skip ?_; refine x_then (hK16 _ _ ?_); refine c_seq fun _ hK18 => ?_; refine c_region ?_; refine o_step rfl (s_move rfl) ?_; refine o_step rfl (s_assign rfl) ?_; refine o_nil ?_; refine x_then (hK18 _ _ ?_); refine c_ret ?_; refine x_scope_ret (?_); refine x_sub (Sub.refl _) (H' := (bR, .cells (rdC (.slice la l.length lc) l.length bR).toArray 245 (0, 0)) :: S45) hzB ?_; exact x_ret rfl (.tmp rfl (.nil)) (⟨a45, c45, S45, rfl, rfl, hS45⟩)
end Go.Proofs.YtopmnmigpbdddaaGreatDoor

/- Part of the proofs over this seat: see the text that holds the theorem. Conditions: each theorem bears its own. -/
namespace Go.Proofs.YtopmnmigpbdddaaGreatDoor
open Go Go.HL Go.Proofs Go.HL.Kl Go.HL.Kl.Mc Go.HL.Kl.Mc.AskE Go.Tab
def rdB (vl : Value) (B : List Value) : List Value := .bool false :: vl :: .int .i64 0 :: (.slice none 0 0 :: .int .i64 0 :: B)
theorem rdB_set {vl v : Value} {B : List Value} {j : Nat} : (rdB vl B).set (5 + j) v = rdB vl (B.set j v) := by
  rw [show 5 + j = j + 1 + 1 + 1 + 1 + 1 by omega]; rfl
theorem rdB_set0 {vl v : Value} {B : List Value} {j : Nat} : (rdB vl B).set (0 + 5 + j) v = rdB vl (B.set j v) := by
  rw [Nat.zero_add]; exact rdB_set
theorem rdB_len {vl : Value} {B : List Value} : (rdB vl B).length = B.length + 5 := rfl
theorem s_brd {κ : Cx} {L : HL.Loc} {H : Hp} {ty : TypeId} {x y : Operand} (a : Option Addr) (n c : Nat) (hx : ev L x = some (.bool false)) (hy : ev L y = some (.slice a n c)) : Step Tryz.prog κ (.build 245 #[(0, x), (1, y)]) ty L H (.agg (rdB (.slice a n c) (List.replicate 256 .nilFunc)).toArray) := by
  refine s_build (zl := rdB (.slice none 0 0) (List.replicate 256 .nilFunc)) (vs := [.bool false, .slice a n c]) (by kernel_rfl) (by simp only [List.map_cons, List.map_nil, hx, hy]) ?_; refine .cons (cs := [.bool false]) (l' := rdB (.slice none 0 0) (List.replicate 256 .nilFunc)) rfl rfl rfl (by kernel_rfl) rfl ?_
  exact .cons (cs := [.slice a n c]) (l' := rdB (.slice a n c) (List.replicate 256 .nilFunc)) rfl rfl rfl (by kernel_rfl) rfl .nil
set_option maxHeartbeats 2000000 in
theorem newReader_fn (la : Option Addr) (lc : Nat) (l : List Mk) : HL.Fn Tryz.prog 135 [.bool false, .slice la l.length lc] (fun _ => True) [] (fun v S' => ∃ bR, v = pt bR ∧ S' = [(bR, .cells (rdC (.slice la l.length lc) 0 bR).toArray 245 (0, 0))]) := by
  refine fn_of Tryz.func135 rfl rfl rfl fun w0 hw => ?_; refine c_seq fun _ hK1 => ?_; refine c_region ?_; refine o_step rfl (s_assign rfl) ?_; refine o_nil ?_; refine x_then (hK1 _ _ ?_); refine c_seq fun _ hK2 => ?_; refine c_region ?_; refine o_step rfl (s_move rfl) ?_; refine o_step rfl (s_move rfl) ?_; refine o_step rfl (s_brd la l.length lc rfl rfl) ?_; refine o_box rfl rfl rfl fun b9 => ?_; refine o_step rfl (s_assign rfl) ?_; refine o_nil ?_; refine x_then (hK2 _ _ ?_); refine c_seq fun _ hK3 => ?_; refine c_region ?_; refine o_step rfl (s_move rfl) ?_; refine o_step rfl (s_move rfl) ?_; refine o_step rfl (s_func (us := [_]) (vs := []) rfl rfl) ?_; refine o_step rfl (s_nil rfl) ?_; refine o_step rfl (s_field rfl rfl (by decide)) ?_; refine o_step rfl (s_indexA rfl rfl (by omega)) ?_; refine o_store (l := rdB (.slice la l.length lc) (List.replicate 256 Value.nilFunc)) rfl rfl rfl upA (by rw [rdB_len]; simp only [List.length_set, List.length_replicate]; decide) rfl ?_
  rw [rdB_set0]
  refine o_nil ?_; refine x_then (hK3 _ _ ?_); refine c_seq fun _ hK4 => ?_; refine c_region ?_; refine o_step rfl (s_move rfl) ?_; refine o_step rfl (s_move rfl) ?_; refine o_step rfl (s_func (us := [_]) (vs := []) rfl rfl) ?_; refine o_step rfl (s_nil rfl) ?_; refine o_step rfl (s_field rfl rfl (by decide)) ?_; refine o_step rfl (s_indexA rfl rfl (by omega)) ?_; refine o_store (l := rdB (.slice la l.length lc) ((List.replicate 256 Value.nilFunc).set 46 (mfR 151 b9))) rfl rfl rfl upA (by rw [rdB_len]; simp only [List.length_set, List.length_replicate]; decide) rfl ?_
  rw [rdB_set0]
  refine o_nil ?_; refine x_then (hK4 _ _ ?_); refine c_seq fun _ hK5 => ?_; refine c_region ?_; refine o_step rfl (s_move rfl) ?_; refine o_step rfl (s_move rfl) ?_; refine o_step rfl (s_func (us := [_]) (vs := []) rfl rfl) ?_; refine o_step rfl (s_nil rfl) ?_; refine o_step rfl (s_field rfl rfl (by decide)) ?_; refine o_step rfl (s_indexA rfl rfl (by omega)) ?_; refine o_store (l := rdB (.slice la l.length lc) (((List.replicate 256 Value.nilFunc).set 46 (mfR 151 b9)).set 91 (mfR 152 b9))) rfl rfl rfl upA (by rw [rdB_len]; simp only [List.length_set, List.length_replicate]; decide) rfl ?_
  rw [rdB_set0]
  refine o_nil ?_; refine x_then (hK5 _ _ ?_); refine c_seq fun _ hK6 => ?_; refine c_region ?_; refine o_step rfl (s_move rfl) ?_; refine o_step rfl (s_move rfl) ?_; refine o_step rfl (s_func (us := [_]) (vs := []) rfl rfl) ?_; refine o_step rfl (s_nil rfl) ?_; refine o_step rfl (s_field rfl rfl (by decide)) ?_; refine o_step rfl (s_indexA rfl rfl (by omega)) ?_; refine o_store (l := rdB (.slice la l.length lc) ((((List.replicate 256 Value.nilFunc).set 46 (mfR 151 b9)).set 91 (mfR 152 b9)).set 92 (mfR 153 b9))) rfl rfl rfl upA (by rw [rdB_len]; simp only [List.length_set, List.length_replicate]; decide) rfl ?_
  rw [rdB_set0]
  refine o_nil ?_; refine x_then (hK6 _ _ ?_); refine c_seq fun _ hK7 => ?_; refine c_region ?_; refine o_step rfl (s_move rfl) ?_; refine o_step rfl (s_move rfl) ?_; refine o_step rfl (s_func (us := [_]) (vs := []) rfl rfl) ?_; refine o_step rfl (s_nil rfl) ?_; refine o_step rfl (s_field rfl rfl (by decide)) ?_; refine o_step rfl (s_indexA rfl rfl (by omega)) ?_; refine o_store (l := rdB (.slice la l.length lc) (((((List.replicate 256 Value.nilFunc).set 46 (mfR 151 b9)).set 91 (mfR 152 b9)).set 92 (mfR 153 b9)).set 94 (mfR 154 b9))) rfl rfl rfl upA (by rw [rdB_len]; simp only [List.length_set, List.length_replicate]; decide) rfl ?_
  rw [rdB_set0]
  refine o_nil ?_; refine x_then (hK7 _ _ ?_); refine c_seq fun _ hK8 => ?_; refine c_seq fun _ hK9 => ?_; refine c_region ?_; refine o_step rfl (s_move rfl) ?_; refine o_nil ?_; refine x_then (hK9 _ _ ?_); refine c_false rfl ?_; refine c_skip ?_; refine x_then (hK8 _ _ ?_); refine c_seq fun _ hK10 => ?_; refine c_region ?_; refine o_step rfl (s_move rfl) ?_; refine o_step rfl (s_assign rfl) ?_; refine o_nil ?_; refine x_then (hK10 _ _ ?_); refine c_ret ?_; refine ?_; exact x_ret rfl (.tmp rfl (.nil)) (⟨b9, rfl, rfl⟩)
end Go.Proofs.YtopmnmigpbdddaaGreatDoor

/- A row of marks that stand for themselves: its tree. -/
namespace Go.HL.Kl.Mc
open Go Go.HL Go.Tab
def litM (m : Mk) : Nd := ⟨1, ofL [m.b], 0, 0, 0, 0⟩
def litF : List Mk → F
  | [] => .nil
  | m :: ms => .nd (litM m) .nil (litF ms)
def catM (n : Nat) : Nd := ⟨4, 0, 0, 0, 0, (n : Int)⟩
theorem litM_eq (m : Mk) : litM m = letN m.b := by
  show (⟨1, ofL [m.b], 0, 0, 0, 0⟩ : Nd) = ⟨1, bit m.b.toNat, 0, 0, 0, 0⟩
  congr 1
  simp [ofL]
theorem litF_num : ∀ l, (litF l).num = l.length
  | [] => rfl
  | m :: ms => by simp [litF, F.num, litF_num ms]
theorem litF_flat : ∀ l, (litF l).flat = l.map litM
  | [] => rfl
  | m :: ms => by simp [litF, F.flat, litF_flat ms]
theorem litF_wf : ∀ l, (litF l).wf
  | [] => trivial
  | m :: ms => ⟨by rw [litM_eq]; exact let_ok' m.b, rfl, trivial, litF_wf ms⟩
theorem litF_plain : ∀ l, (litF l).plain
  | [] => trivial
  | m :: ms => ⟨⟨by simp [litM], by simp [litM]⟩, trivial, litF_plain ms⟩
theorem litF_depth : ∀ l, (litF l).depth ≤ 1
  | [] => Nat.zero_le _
  | m :: ms => by have := litF_depth ms; simp [litF, F.depth]; omega
theorem litF_weight : ∀ l, (litF l).weight = l.length
  | [] => rfl
  | m :: ms => by simp [litF, F.weight, litF_weight ms]; omega
theorem catM_ok {n : Nat} (h : 2 ≤ n) : ndOk (catM n) = true := by
  have h1 : flds (catM n) = true := flds_iff.2 ⟨by simp [catM], .inr rfl, .inr (.inr rfl), (fun h => by cases h), fun _ => ⟨rfl, rfl⟩⟩
  have h2 : kidsOk (catM n) = true := by
    unfold kidsOk catM
    simp; omega
  rw [ndOk, h1, h2]; rfl
def litR (l : List Mk) : List Nd := catM l.length :: l.map litM
theorem litR_shp {l : List Mk} (h2 : 2 ≤ l.length) (h : l.length ≤ 4096) : Shp (litR l) (catM l.length) (litF l) := by
  refine ⟨⟨catM_ok h2, by rw [litF_num]; rfl, litF_wf l, trivial⟩, by simp [litR, litF_flat], by have := litF_depth l; omega, ?_⟩
  have t1 : times (catM l.length) = 1 := by simp [times, catM]
  rw [weight_one, litF_weight, t1]
  omega
theorem litR_good {l : List Mk} (h2 : 2 ≤ l.length) (h : l.length ≤ 4096) : shapedB (litR l) = true ∧ refsB (litR l) = false :=
  (litR_shp h2 h).good ⟨⟨by simp [catM], by simp [catM]⟩, litF_plain l, trivial⟩
theorem litR_rng (l : List Mk) : ∀ x ∈ litR l, -128 ≤ x.op ∧ x.op < 128 := fun x hx => by
  rcases List.mem_cons.1 hx with rfl | hx
  · simp [catM]
  · obtain ⟨b, _, rfl⟩ := List.mem_map.1 hx
    simp [litM]
theorem der_lits {w : List UInt8} : ∀ {l : List Mk} {p q : Nat}, der w (litF l) false p q ↔ q = p + l.length ∧ Mt (l.map Mk.b) w p
  | [], p, q => by
    rw [litF, der_nil]
    simp [Mt]
    exact eq_comm
  | m :: ms, p, q => by
    rw [litF, der_cat]
    simp only [litM_eq, der_let, List.map_cons, mt_cons, der_lits (l := ms), List.length_cons]
    constructor
    · rintro ⟨t, ⟨rfl, h1⟩, rfl, h2⟩; exact ⟨by omega, h1, h2⟩
    · rintro ⟨rfl, h1, h2⟩; exact ⟨p + 1, ⟨rfl, h1⟩, by omega, h2⟩
theorem der_litR {w : List UInt8} {l : List Mk} {p q : Nat} : der1 w (catM l.length) (litF l) p q ↔ q = p + l.length ∧ Mt (l.map Mk.b) w p := by
  rw [der1_def, if_neg (by simp [catM]), if_neg (by simp [catM]), if_neg (by simp [catM]), if_neg (by simp [catM]), if_neg (by simp [catM]), der_lits]
/-! the run that every law asks first -/
def lAB : List Mk := [⟨97, false⟩, ⟨98, false⟩]
def wAB : List UInt8 := [120, 97, 98, 97, 98]
theorem mayL {w : List UInt8} : May (litR lAB) w (catM 2) (litF lAB) := ⟨(litR_good (by decide) (by decide)).1, (litR_good (by decide) (by decide)).2, litR_shp (l := lAB) (by decide) (by decide)⟩
theorem derL {p q : Nat} : der1 wAB (catM 2) (litF lAB) p q ↔ q = p + 2 ∧ (p = 1 ∨ p = 3) := by
  rw [show (2 : Nat) = lAB.length from rfl, der_litR]
  refine and_congr_right fun _ => ?_
  unfold Mt
  rcases Nat.lt_or_ge p 5 with h | h
  · have : p = 0 ∨ p = 1 ∨ p = 2 ∨ p = 3 ∨ p = 4 := by omega
    rcases this with rfl | rfl | rfl | rfl | rfl <;> decide
  · rw [List.drop_of_length_le (by simpa [wAB] using h)]
    simp [lAB]
    omega
theorem capsL {p q : Nat} : capsV wAB (litR lAB) (catM 2) (litF lAB) p q = [⟨p, q⟩] := by
  have h : (bst1 wAB (catM 2) (litF lAB) p q (List.replicate (gcn (litR lAB) + 1) noS)).length = 1 := by rw [bst1_len, List.length_replicate]; rfl
  unfold capsV
  obtain ⟨x, hx⟩ := List.length_eq_one_iff.1 h
  rw [hx]; rfl
theorem findL {T : Nat} {v : Value} {S' : Hp} (h : FindP T (litR lAB) wAB 0 v S') : ∃ a cc, v = .tuple #[.slice a 1 cc, .bool true] ∧ OwnS Esp 2 T (.slice a 1 cc) [⟨1, 3⟩] S' := by
  rcases h with ⟨x, ks, g, p, q, hm, hg, hl, a, cc, hv, hO⟩ | ⟨hn, _⟩
  · obtain ⟨rfl, rfl⟩ := hm.hs.uniq (mayL (w := wAB)).hs
    obtain ⟨rfl, h1⟩ := derL.1 hl.der
    obtain rfl : g = 0 := by omega
    have hp : p = 1 := by
      rcases h1 with h1 | h1
      · exact h1
      · exact absurd (derL.2 ⟨rfl, .inl rfl⟩) (hl.left 1 3 (by decide) (by omega) (by decide))
    subst hp
    rw [capsL] at hv hO
    exact ⟨a, cc, hv, hO⟩
  · exact absurd ⟨_, _, 0, 1, 3, mayL (w := wAB), rfl, by decide, by decide, derL.2 ⟨rfl, .inl rfl⟩⟩ hn
theorem findL4 {T : Nat} {v : Value} {S' : Hp} (h : FindP T (litR lAB) wAB 4 v S') : v = .tuple #[.slice none 0 0, .bool false] ∧ S' = [] := by
  rcases h with ⟨x, ks, g, p, q, hm, hg, hl, a, cc, hv, hO⟩ | ⟨_, h⟩
  · obtain ⟨rfl, rfl⟩ := hm.hs.uniq (mayL (w := wAB)).hs
    obtain ⟨rfl, h1⟩ := derL.1 hl.der
    have := hl.ge
    omega
  · exact h
end Go.HL.Kl.Mc
