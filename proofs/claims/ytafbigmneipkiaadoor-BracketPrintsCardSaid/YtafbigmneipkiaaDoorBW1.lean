/- Part of the proofs over this seat: see the text that holds the theorem. Conditions: each theorem bears its own. -/
import Derived.Test.YtafbigmneipkiaaDoorHlB
import Derived.Test.YtafbigmneipkiaaDoorBC2
import Derived.Test.YtafbigmneipkiaaDoorBC3
import Derived.Test.YtafbigmneipkiaaDoorHB
import Derived.Test.YtafbigmneipkiaaDoorMB1
namespace Go.Proofs.YtafbigmneipkiaaDoor
open Go Go.HL Go.Proofs Go.Tab Go.HL.Kl Go.HL.Kl.Bk
/-- a thing, as it lies there -/
def Eth (t : Th) : List Value := Ec t.set ++ [.int .u8 t.b.toNat, .bool t.e, .int .i64 t.next]
def zTh : Th := ⟨0, 0, false, 0⟩
theorem eth_zero : Eth zTh = [.int .u64 0, .int .u64 0, .int .u64 0, .int .u64 0, .int .u8 0, .bool false, .int .i64 0] := by
  show Ec 0#256 ++ _ = _
  rw [Ec_zero]; rfl
theorem eth_one (t : Th) : ∀ v ∈ Eth t, v.oneCell' = true := by
  intro v hv
  simp only [Eth, Ec, Ew, List.cons_append, List.nil_append, List.mem_cons, List.not_mem_nil, or_false] at hv
  rcases hv with rfl | rfl | rfl | rfl | rfl | rfl | rfl <;> rfl
theorem Ec_len (c : Cl) : (Ec c).length = 4 := Enc.len (E := Ec) c
theorem eth_len (t : Th) : (Eth t).length = 7 := by simp [Eth, Ec_len]
theorem u8_eq46 {y : UInt8} : decide ((y.toNat : Int) = 46) = (y == 46) := by
  by_cases h : y = 46
  · subst h; decide
  · rw [decide_eq_false (fun e => h (UInt8.toNat_inj.1 (by rw [show y.toNat = 46 by omega]; rfl)))]
    simp [h]
/-- what a reading answers: a thing, or a fault that is new -/
def RVp (t : Th) (pv : Value) (S : Hp) : R → Prop
  | .ok t' => t = t' ∧ pv = .pointer none
  | .bad e p => ∃ bf R, pv = .pointer (some ⟨bf, 0, none⟩) ∧ S = (bf, .cells [.int .i64 e, .int .i64 p].toArray 89 (0, 0)) :: R
def RV (r : R) (v : Value) (S : Hp) : Prop := ∃ t pv, v = .tuple #[.agg (Eth t).toArray, pv] ∧ RVp t pv S r
theorem RVp.app {t : Th} {pv : Value} {S R : Hp} : ∀ {r : Bk.R}, RVp t pv S r → RVp t pv (S ++ R) r
  | .ok _, h => h
  | .bad _ _, ⟨bf, R', h1, h2⟩ => ⟨bf, R' ++ R, h1, by rw [h2]; rfl⟩
theorem sign_fn (br : Nat) (la : Option Addr) (lc : Nat) (l : List Mk) (at0 : Nat) (i : Nat) (b : UInt8) (n : Int) (hn : n = b.toNat) : HL.Fn Tryd.prog 29 [.pointer (some ⟨br, 0, none⟩), .int .i64 i, .int .u8 n] (fun w => RdP w br 0 [.slice la l.length lc, .int .i64 at0] ∧ Rd Em w (.slice la l.length lc) l) [] (fun v _ => v = .bool (sg l i b)) := by
  refine fn_of Tryd.func29 rfl rfl rfl fun w0 hw => ?_
  subst hn
  have hsl := hw.2.sl
  have hbl := hsl.le
  refine c_seq fun _ hK1 => ?_
  refine c_region ?_
  refine o_step rfl (s_assign rfl) ?_
  refine o_nil ?_
  refine x_then (hK1 _ _ ?_)
  refine c_seq fun _ hK2 => ?_
  refine c_region ?_
  refine o_step rfl (s_move rfl) ?_
  refine o_step rfl (s_move rfl) ?_
  refine o_step rfl (s_nil rfl) ?_
  refine o_step rfl (s_field rfl rfl (by decide)) ?_
  refine o_step rfl (s_ld rfl ((RdPK.old0 hw.1).cel (j := 0) rfl rfl)) ?_
  refine o_step rfl (s_len rfl) ?_
  by_cases hil : i < l.length
  · skip
    refine o_step rfl (step_cast (v' := .bool true) (s_lss rfl rfl) (by rw [decide_eq_true (by omega)])) ?_
    refine o_step rfl (s_move rfl) ?_
    refine o_yes rfl rfl ?_
    refine o_step rfl (s_move rfl) ?_
    refine o_yes rfl rfl ?_
    refine o_step rfl (s_nil rfl) ?_
    refine o_yes rfl rfl ?_
    refine o_step rfl (s_field rfl rfl (by decide)) ?_
    refine o_yes rfl rfl ?_
    refine o_step rfl (s_ld rfl ((RdPK.old0 hw.1).cel (j := 0) rfl rfl)) ?_
    refine o_yes rfl rfl ?_
    refine o_step rfl (s_move rfl) ?_
    refine o_yes rfl rfl ?_
    refine o_step rfl (s_idx rfl rfl hsl (by omega)) ?_
    refine o_yes rfl rfl ?_
    refine o_step rfl (s_ldB rfl ((RdK.old0 hw.2).lds i (mk0_get hil) (by omega)) rfl) ?_
    refine o_yes rfl rfl ?_
    refine o_step rfl (s_move rfl) ?_
    refine o_yes rfl rfl ?_
    refine o_step rfl (s_build (cs := [_, _]) (vs := [_]) rfl rfl (.cons rfl rfl rfl rfl rfl (.nil))) ?_
    refine o_yes rfl rfl ?_
    refine o_step rfl (s_eql_mk (m := mk0 l i) (k := ⟨b, false⟩) rfl rfl) ?_
    refine o_step rfl (s_pick_t rfl rfl) ?_
    refine o_step rfl (s_assign rfl) ?_
    refine o_nil ?_
    refine x_then (hK2 _ _ ?_)
    refine c_ret ?_
    refine ?_
    exact x_ret rfl (.tmp rfl (.nil)) (by rw [sg_at hil]; rfl)
  · skip
    refine o_step rfl (step_cast (v' := .bool false) (s_lss rfl rfl) (by rw [decide_eq_false (by omega)])) ?_
    refine o_step rfl (s_move rfl) ?_
    refine o_no rfl rfl rfl rfl ?_
    refine o_no rfl rfl rfl rfl ?_
    refine o_no rfl rfl rfl rfl ?_
    refine o_no rfl rfl rfl rfl ?_
    refine o_no rfl rfl rfl rfl ?_
    refine o_no rfl rfl rfl rfl ?_
    refine o_no rfl rfl rfl rfl ?_
    refine o_no rfl rfl rfl rfl ?_
    refine o_no rfl rfl rfl rfl ?_
    refine o_no rfl rfl rfl rfl ?_
    refine o_step rfl (s_pick_f rfl rfl) ?_
    refine o_step rfl (s_assign rfl) ?_
    refine o_nil ?_
    refine x_then (hK2 _ _ ?_)
    refine c_ret ?_
    refine ?_
    exact x_ret rfl (.tmp rfl (.nil)) (by rw [sg_ge (by omega)]; rfl)

theorem open_fn (br : Nat) (la : Option Addr) (lc : Nat) (l : List Mk) (at0 : Nat) : HL.Fn Tryd.prog 65 [.pointer (some ⟨br, 0, none⟩)] (fun w => RdP w br 0 [.slice la l.length lc, .int .i64 at0] ∧ Rd Em w (.slice la l.length lc) l) [] (fun v S' => ∃ bf, v = .pointer (some ⟨bf, 0, none⟩) ∧ S' = [(bf, .cells [.int .i64 32, .int .i64 at0].toArray 89 (0, 0))]) := by
  refine fn_of Tryd.func65 rfl rfl rfl fun w0 hw => ?_
  refine c_seq fun _ hK1 => ?_
  refine c_region ?_
  refine o_step rfl (s_assign rfl) ?_
  refine o_nil ?_
  refine x_then (hK1 _ _ ?_)
  refine c_seq fun _ hK2 => ?_
  refine c_region ?_
  refine o_step rfl (s_move rfl) ?_
  refine o_step rfl (s_nil rfl) ?_
  refine o_step rfl (s_field rfl rfl (by decide)) ?_
  refine o_step rfl (s_ld rfl ((RdPK.old0 hw.1).cel (j := 1) rfl rfl)) ?_
  refine o_step rfl (s_build (cs := [_, _]) (vs := [_, _]) rfl rfl (.cons rfl rfl rfl rfl rfl (.cons rfl rfl rfl rfl rfl (.nil)))) ?_
  refine o_box rfl rfl rfl fun b8 => ?_
  refine o_step rfl (s_assign rfl) ?_
  refine o_nil ?_
  refine x_then (hK2 _ _ ?_)
  refine c_ret ?_
  refine ?_
  exact x_ret rfl (.tmp rfl (.nil)) (⟨_, rfl, rfl⟩)

theorem name_fn (br : Nat) (la : Option Addr) (lc : Nat) (l : List Mk) (at0 : Nat) (i : Nat) (hi : i < l.length) : HL.Fn Tryd.prog 74 [.pointer (some ⟨br, 0, none⟩), .int .i64 i] (fun w => RdP w br 0 [.slice la l.length lc, .int .i64 at0] ∧ Rd Em w (.slice la l.length lc) l) [] (fun v S' => RV (nameP l at0 i) v S') := by
  refine fn_of Tryd.func74 rfl rfl rfl fun w0 hw => ?_
  have hsl := hw.2.sl
  have hbl := hsl.le
  refine c_seq fun _ hK1 => ?_
  refine c_region ?_
  refine o_alloc (l := Eth zTh) (by rw [eth_zero]; rfl) rfl fun b4 => ?_
  refine o_step rfl (s_assign rfl) ?_
  refine o_nil ?_
  refine x_then (hK1 _ _ ?_)
  refine c_seq fun _ hK2 => ?_
  refine c_region ?_
  refine o_step rfl (s_assign rfl) ?_
  refine o_nil ?_
  refine x_then (hK2 _ _ ?_)
  refine c_seq fun _ hK3 => ?_
  refine c_seq fun _ hK4 => ?_
  refine c_region ?_
  refine o_step rfl (s_move rfl) ?_
  refine o_step rfl (s_add rfl rfl (by omega)) ?_
  refine o_step rfl (s_assign rfl) ?_
  refine o_nil ?_
  refine x_then (hK4 _ _ ?_)
  refine c_block ?_
  -- not carried: 5
  refine c_loop3 (fun (k : Nat) (q : Sl UInt8) (So : Hp) => i + 2 ≤ k ∧ (k ≤ l.length ∨ k = i + 2) ∧ q.xs = bytesM l (i + 2) k ∧ OwnS Eb 1 5 (.slice q.a q.xs.length q.c) q.xs So ∧ nameEnd l (l.length - (i + 2)) (i + 2) = nameEnd l (l.length - k) k) (fun (k : Nat) (q : Sl UInt8) (So : Hp) => [(7, .int .i64 k), (6, .slice q.a q.xs.length q.c)]) [(0, _), (1, _), (4, _)] (fun (k : Nat) (q : Sl UInt8) (So : Hp) => (b4, .cells (Eth zTh).toArray 84 (0, 0)) :: So) (fun (k : Nat) (q : Sl UInt8) (So : Hp) => l.length - k) (i + 2) ⟨none, 0, []⟩ [] ⟨by omega, .inr rfl, bytesM_nil.symm, .nil, rfl⟩ sbA sbA hzA ?_
  rintro k q So ⟨hk1, hk2, hqx, hq, hne⟩
  have hql : q.xs.length ≤ 140737488355328 := by rw [hqx]; exact Nat.le_trans bytesM_len hbl
  refine c_seq fun _ hK5 => ?_
  refine c_seq fun _ hK6 => ?_
  refine c_region ?_
  refine o_step rfl (s_move rfl) ?_
  refine o_step rfl (s_move rfl) ?_
  refine o_step rfl (s_nil rfl) ?_
  refine o_step rfl (s_field rfl rfl (by decide)) ?_
  refine o_step rfl (s_ld rfl ((RdPK.old0 hw.1).cel (j := 0) rfl rfl)) ?_
  refine o_step rfl (s_len rfl) ?_
  refine o_step rfl (s_lss rfl rfl) ?_
  refine o_nil ?_
  refine x_then (hK6 _ _ ?_)
  refine c_if rfl (fun hlt => ?_) (fun hlt => ?_)
  · skip
    have hkl : k < l.length := by omega
    have hql2 : q.xs.length < l.length := by rw [hqx]; simp only [bytesM, List.length_map, List.length_take, List.length_drop]; omega
    refine c_skip ?_
    refine x_then (hK5 _ _ ?_)
    refine c_seq fun _ hK7 => ?_
    refine c_block ?_
    refine c_seq fun _ hK8 => ?_
    refine c_seq fun _ hK9 => ?_
    refine c_region ?_
    refine o_step rfl (s_move rfl) ?_
    refine o_step rfl (s_move rfl) ?_
    refine o_callP (sign_fn br la lc l at0 (k) 58 58 (by decide)) rfl rfl rfl (fun w st => ⟨(RdPK.old0 hw.1).out w st, (RdK.old0 hw.2).out w st⟩) (fun v23 hv23 => ?_)
    subst hv23
    cases h58 : sg l (k) 58
    · skip
      refine o_step rfl (s_move rfl) ?_
      refine o_no rfl rfl rfl rfl ?_
      refine o_no rfl rfl rfl rfl ?_
      refine o_no rfl rfl rfl rfl ?_
      refine o_no rfl rfl rfl rfl ?_
      refine o_step rfl (s_pick_f rfl rfl) ?_
      refine o_nil ?_
      refine x_then (hK9 _ _ ?_)
      refine c_false rfl ?_
      refine c_skip ?_
      refine x_then (hK8 _ _ ?_)
      refine c_region ?_
      refine o_step rfl (s_move rfl) ?_
      refine o_step rfl (s_move rfl) ?_
      refine o_step rfl (s_nil rfl) ?_
      refine o_step rfl (s_field rfl rfl (by decide)) ?_
      refine o_step rfl (s_ld rfl ((RdPK.old0 hw.1).cel (j := 0) rfl rfl)) ?_
      refine o_step rfl (s_move rfl) ?_
      refine o_step rfl (s_idx rfl rfl hsl (by omega)) ?_
      refine o_step rfl (s_field rfl rfl (by decide)) ?_
      refine o_step rfl (s_ld rfl ((RdK.old0 hw.2).ld k 0 (mk0_get hkl) rfl (by decide) (by omega))) ?_
      refine o_bs (E := Eb) (xs := [(mk0 l k).b]) (vs := [_]) rfl rfl rfl rfl rfl (by decide) (by decide) fun b55 S55 hS55 => ?_
      have hno : (sg l k 58 && sg l (k + 1) 93) = false := by first | (rw [h58]; rfl) | (rw [h58, h93]; rfl)
      refine o_app hq (hS55.rdk hiA) rfl rfl rfl rfl (by simp; omega) (by simp; omega) rfl pkA fun a56 c56 S56 hS56 => ?_
      refine o_step rfl (s_assign rfl) ?_
      refine o_nil ?_
      refine x_block ?_
      refine x_then (hK7 _ _ ?_)
      refine c_region ?_
      refine o_step rfl (s_move rfl) ?_
      refine o_step rfl (s_add rfl rfl (by omega)) ?_
      refine o_step rfl (s_assign rfl) ?_
      refine o_nil ?_
      exact x_then (x_inv (k + 1, ⟨a56, c56, q.xs ++ [(mk0 l k).b]⟩, S56) ⟨by omega, .inl (by omega), by rw [bytesM_succ (by omega) hkl, hqx], hS56, by rw [hne, show l.length - k = (l.length - (k + 1)) + 1 by omega, nameEnd, hno, if_neg (by decide)]⟩ (by first | omega | (dsimp only; omega)) sbA hzB)
    · skip
      refine o_step rfl (s_move rfl) ?_
      refine o_yes rfl rfl ?_
      refine o_step rfl (s_move rfl) ?_
      refine o_yes rfl rfl ?_
      refine o_step rfl (s_move rfl) ?_
      refine o_yes rfl rfl ?_
      refine o_step rfl (s_add rfl rfl (by omega)) ?_
      refine o_yes rfl rfl ?_
      refine o_callP (sign_fn br la lc l at0 (k + 1) 93 93 (by decide)) rfl rfl rfl (fun w st => ⟨(RdPK.old0 hw.1).out w st, (RdK.old0 hw.2).out w st⟩) (fun v28 hv28 => ?_)
      subst hv28
      cases h93 : sg l (k + 1) 93
      · skip
        refine o_step rfl (s_pick_t rfl rfl) ?_
        refine o_nil ?_
        refine x_then (hK9 _ _ ?_)
        refine c_false rfl ?_
        refine c_skip ?_
        refine x_then (hK8 _ _ ?_)
        refine c_region ?_
        refine o_step rfl (s_move rfl) ?_
        refine o_step rfl (s_move rfl) ?_
        refine o_step rfl (s_nil rfl) ?_
        refine o_step rfl (s_field rfl rfl (by decide)) ?_
        refine o_step rfl (s_ld rfl ((RdPK.old0 hw.1).cel (j := 0) rfl rfl)) ?_
        refine o_step rfl (s_move rfl) ?_
        refine o_step rfl (s_idx rfl rfl hsl (by omega)) ?_
        refine o_step rfl (s_field rfl rfl (by decide)) ?_
        refine o_step rfl (s_ld rfl ((RdK.old0 hw.2).ld k 0 (mk0_get hkl) rfl (by decide) (by omega))) ?_
        refine o_bs (E := Eb) (xs := [(mk0 l k).b]) (vs := [_]) rfl rfl rfl rfl rfl (by decide) (by decide) fun b55 S55 hS55 => ?_
        have hno : (sg l k 58 && sg l (k + 1) 93) = false := by first | (rw [h58]; rfl) | (rw [h58, h93]; rfl)
        refine o_app hq (hS55.rdk hiA) rfl rfl rfl rfl (by simp; omega) (by simp; omega) rfl pkA fun a56 c56 S56 hS56 => ?_
        refine o_step rfl (s_assign rfl) ?_
        refine o_nil ?_
        refine x_block ?_
        refine x_then (hK7 _ _ ?_)
        refine c_region ?_
        refine o_step rfl (s_move rfl) ?_
        refine o_step rfl (s_add rfl rfl (by omega)) ?_
        refine o_step rfl (s_assign rfl) ?_
        refine o_nil ?_
        exact x_then (x_inv (k + 1, ⟨a56, c56, q.xs ++ [(mk0 l k).b]⟩, S56) ⟨by omega, .inl (by omega), by rw [bytesM_succ (by omega) hkl, hqx], hS56, by rw [hne, show l.length - k = (l.length - (k + 1)) + 1 by omega, nameEnd, hno, if_neg (by decide)]⟩ (by first | omega | (dsimp only; omega)) sbA hzB)
      · skip
        refine o_step rfl (s_pick_t rfl rfl) ?_
        refine o_nil ?_
        refine x_then (hK9 _ _ ?_)
        refine c_true rfl ?_
        refine c_seq fun _ hK10 => ?_
        refine c_region ?_
        refine o_step rfl (s_move rfl) ?_
        refine o_step rfl (s_b2str rfl (hq.rdk hiA) rfl) ?_
        refine o_callP (named_fn _) rfl rfl rfl (fun _ _ => trivial) (fun v33 hv33 => ?_)
        subst hv33
        have hsome : nameEnd l (l.length - (i + 2)) (i + 2) = some k := by rw [hne, show l.length - k = (l.length - (k + 1)) + 1 by omega, nameEnd, h58, h93]; rfl
        rcases hnm : named ⟨q.xs.toArray⟩ with _ | cc
        · skip
          rw [hqx] at hnm
          have hN : nameP l at0 i = .bad 31 i := by unfold nameP; rw [hsome]; simp only [hnm]
          refine o_step rfl (s_move rfl) ?_
          refine o_step rfl (s_extract rfl rfl) ?_
          refine o_step rfl (s_extract rfl rfl) ?_
          refine o_alloc (l := Ec 0#256) (by rw [Ec_zero]; rfl) rfl fun b8 => ?_
          refine o_stW rfl rfl upA (Ec_len _) (Ec_len _) (Ec_one _) ?_
          refine o_step rfl (s_assign rfl) ?_
          refine o_nil ?_
          refine x_then (hK10 _ _ ?_)
          refine c_seq fun _ hK11 => ?_
          refine c_seq fun _ hK12 => ?_
          refine c_region ?_
          refine o_step rfl (s_move rfl) ?_
          refine o_step rfl (s_not rfl) ?_
          refine o_nil ?_
          refine x_then (hK12 _ _ ?_)
          refine c_true rfl ?_
          refine c_seq fun _ hK13 => ?_
          refine c_region ?_
          refine o_step rfl (step_cast (v' := .agg (Eth zTh).toArray) (s_build (cs := [_, _, _, _, _, _, _]) (vs := []) rfl rfl (.nil)) (by rw [eth_zero])) ?_
          refine o_step rfl (s_move rfl) ?_
          refine o_step rfl (s_build (cs := [_, _]) (vs := [_, _]) rfl rfl (.cons rfl rfl rfl rfl rfl (.cons rfl rfl rfl rfl rfl (.nil)))) ?_
          refine o_box rfl rfl rfl fun b41 => ?_
          refine o_stW rfl rfl upA (eth_len _) (eth_len _) (eth_one _) ?_
          refine o_step rfl (s_assign rfl) ?_
          refine o_nil ?_
          refine x_then (hK13 _ _ ?_)
          refine c_ret ?_
          refine x_then_ret (x_then_ret (x_block_ret (x_then_ret (x_then_ret (x_block_ret (x_then_ret (?_)))))))
          refine x_sub (Sub.refl _) (H' := (b41, .cells [.int .i64 31, .int .i64 i].toArray 89 (0, 0)) :: ((b4, .cells (Eth zTh).toArray 84 (0, 0)) :: So)) hzB ?_
          exact x_ret rfl (.agg inferInstance inferInstance rfl (RdPK.cels (.own meA)) lnA (.tmp rfl (.nil))) (⟨zTh, _, rfl, by rw [hN]; exact ⟨_, _, rfl, rfl⟩⟩)
        · skip
          rw [hqx] at hnm
          have hN : nameP l at0 i = .ok ⟨cc, 0, false, k + 2⟩ := by unfold nameP; rw [hsome]; simp only [hnm]
          refine o_step rfl (s_move rfl) ?_
          refine o_step rfl (s_extract rfl rfl) ?_
          refine o_step rfl (s_extract rfl rfl) ?_
          refine o_alloc (l := Ec 0#256) (by rw [Ec_zero]; rfl) rfl fun b8 => ?_
          refine o_stW rfl rfl upA (Ec_len _) (Ec_len _) (Ec_one _) ?_
          refine o_step rfl (s_assign rfl) ?_
          refine o_nil ?_
          refine x_then (hK10 _ _ ?_)
          refine c_seq fun _ hK14 => ?_
          refine c_seq fun _ hK15 => ?_
          refine c_region ?_
          refine o_step rfl (s_move rfl) ?_
          refine o_step rfl (s_not rfl) ?_
          refine o_nil ?_
          refine x_then (hK15 _ _ ?_)
          refine c_false rfl ?_
          refine c_skip ?_
          refine x_then (hK14 _ _ ?_)
          refine c_seq fun _ hK16 => ?_
          refine c_region ?_
          refine o_step rfl (s_ldB rfl (RdPK.cels (.own meA)) lnA) ?_
          refine o_step rfl (s_move rfl) ?_
          refine o_step rfl (s_add rfl rfl (by omega)) ?_
          refine o_step rfl (step_cast (v' := .agg (Eth ⟨cc, 0, false, k + 2⟩).toArray) (s_build (cs := [_, _, _, _, _, _, _]) (vs := [_, _]) rfl rfl (.cons rfl rfl rfl rfl rfl (.cons rfl rfl rfl rfl rfl (.nil)))) (rfl)) ?_
          refine o_stW rfl rfl upA (eth_len _) (eth_len _) (eth_one _) ?_
          refine o_step rfl (s_assign rfl) ?_
          refine o_nil ?_
          refine x_then (hK16 _ _ ?_)
          refine c_ret ?_
          refine x_then_ret (x_block_ret (x_then_ret (x_then_ret (x_block_ret (x_then_ret (?_))))))
          exact x_ret rfl (.agg inferInstance inferInstance rfl (RdPK.cels (.own meA)) lnA (.tmp rfl (.nil))) (⟨_, _, rfl, by rw [hN]; exact ⟨rfl, rfl⟩⟩)
  · skip
    rw [show l.length - k = 0 by omega] at hne
    have hN : nameP l at0 i = .bad 32 at0 := by unfold nameP; rw [hne]; rfl
    refine c_exit ?_
    refine x_then_exit ?_
    refine x_then_exit ?_
    refine x_block_exit ?_
    refine x_then (hK3 _ _ ?_)
    refine c_seq fun _ hK17 => ?_
    refine c_region ?_
    refine o_step rfl (step_cast (v' := .agg (Eth zTh).toArray) (s_build (cs := [_, _, _, _, _, _, _]) (vs := []) rfl rfl (.nil)) (by rw [eth_zero])) ?_
    refine o_step rfl (s_move rfl) ?_
    refine o_call (open_fn br la lc l at0) rfl rfl rfl (by exact .nil) (fun w st => ⟨(RdPK.old0 hw.1).out w st, (RdK.old0 hw.2).out w st⟩) (fun v59 S59 ⟨bf, hv59, hS59⟩ => ?_)
    subst hv59
    subst hS59
    refine o_stW rfl rfl upA (eth_len _) (eth_len _) (eth_one _) ?_
    refine o_step rfl (s_assign rfl) ?_
    refine o_nil ?_
    refine x_then (hK17 _ _ ?_)
    refine c_ret ?_
    refine ?_
    refine x_sub (Sub.refl _) (H' := (bf, .cells [.int .i64 32, .int .i64 at0].toArray 89 (0, 0)) :: ((b4, .cells (Eth zTh).toArray 84 (0, 0)) :: So)) hzA ?_
    exact x_ret rfl (.agg inferInstance inferInstance rfl (RdPK.cels (.own meA)) lnA (.tmp rfl (.nil))) (⟨zTh, _, rfl, by rw [hN]; exact ⟨_, _, rfl, rfl⟩⟩)

theorem enclosed_fn (br : Nat) (la : Option Addr) (lc : Nat) (l : List Mk) (at0 : Nat) (i : Nat) (y : UInt8) (hi : i + 1 < l.length) : HL.Fn Tryd.prog 75 [.pointer (some ⟨br, 0, none⟩), .int .i64 i, .int .u8 y.toNat] (fun w => RdP w br 0 [.slice la l.length lc, .int .i64 at0] ∧ Rd Em w (.slice la l.length lc) l) [] (fun v S' => RV (encP l at0 i y) v S') := by
  refine fn_of Tryd.func75 rfl rfl rfl fun w0 hw => ?_
  have hsl := hw.2.sl
  have hbl := hsl.le
  refine c_seq fun _ hK1 => ?_
  refine c_region ?_
  refine o_alloc (l := Eth zTh) (by rw [eth_zero]; rfl) rfl fun b6 => ?_
  refine o_step rfl (s_assign rfl) ?_
  refine o_nil ?_
  refine x_then (hK1 _ _ ?_)
  refine c_seq fun _ hK2 => ?_
  refine c_seq fun _ hK3 => ?_
  refine c_region ?_
  refine o_step rfl (s_move rfl) ?_
  refine o_step rfl (s_buildA (cs := [_, _]) (vs := [_, _]) rfl rfl (.cons rfl rfl rfl rfl (.cons rfl rfl rfl rfl (.nil)))) ?_
  refine o_step rfl (s_move rfl) ?_
  refine o_nil ?_
  refine x_then (hK3 _ _ ?_)
  refine c_block ?_
  -- not carried: 7
  refine c_loopB (fun (k : Nat) => k ≤ 2 ∧ (1 ≤ k → i + 3 < l.length ∧ sg l (i + 3) y = true) ∧ (2 ≤ k → i + 4 < l.length ∧ sg l (i + 4) 93 = true)) (fun (k : Nat) => [(14, .int .i64 k)]) [(0, _), (1, _), (2, _), (6, _), (13, _)] (fun (k : Nat) => [(b6, .cells (Eth zTh).toArray 84 (0, 0))]) (fun (k : Nat) => 2 - k) 0 ⟨by omega, fun h => by omega, fun h => by omega⟩ sbA sbA hzA ?_
  rintro k ⟨hk, hA, hB⟩
  obtain rfl | rfl | rfl : k = 0 ∨ k = 1 ∨ k = 2 := by omega
  · skip
    refine c_seq fun _ hK4 => ?_
    refine c_region ?_
    refine o_step rfl (s_lss_t rfl rfl (by omega)) ?_
    refine o_nil ?_
    refine x_then (hK4 _ _ ?_)
    refine c_seq fun _ hK5 => ?_
    refine c_true rfl ?_
    refine c_skip ?_
    refine x_then (hK5 _ _ ?_)
    refine c_seq fun _ hK6 => ?_
    refine c_block ?_
    refine c_seq fun _ hK7 => ?_
    refine c_region ?_
    refine o_step rfl (s_move rfl) ?_
    refine o_step rfl (s_indexV (i := 0) (v := .int .u8 y.toNat) rfl rfl (by decide) rfl) ?_
    refine o_step rfl (s_assign rfl) ?_
    refine o_step rfl (s_assign rfl) ?_
    refine o_nil ?_
    refine x_then (hK7 _ _ ?_)
    refine c_seq fun _ hK8 => ?_
    refine c_region ?_
    refine o_step rfl (s_move rfl) ?_
    refine o_step rfl (s_add rfl rfl (by omega)) ?_
    refine o_step rfl (s_move rfl) ?_
    refine o_step rfl (s_add rfl rfl (by omega)) ?_
    refine o_step rfl (s_assign rfl) ?_
    refine o_nil ?_
    refine x_then (hK8 _ _ ?_)
    refine c_block ?_
    refine c_seq fun _ hK9 => ?_
    refine c_region ?_
    refine o_step rfl (s_move rfl) ?_
    refine o_step rfl (s_move rfl) ?_
    refine o_step rfl (s_nil rfl) ?_
    refine o_step rfl (s_field rfl rfl (by decide)) ?_
    refine o_step rfl (s_ld rfl ((RdPK.old0 hw.1).cel (j := 0) rfl rfl)) ?_
    refine o_step rfl (s_len rfl) ?_
    refine o_step rfl (s_geq rfl rfl) ?_
    refine o_step rfl (s_assign rfl) ?_
    refine o_nil ?_
    refine x_then (hK9 _ _ ?_)
    refine c_if rfl (fun hge => ?_) (fun hge => ?_)
    · skip
      refine c_seq fun _ hK10 => ?_
      refine c_region ?_
      refine o_step rfl (step_cast (v' := .agg (Eth zTh).toArray) (s_build (cs := [_, _, _, _, _, _, _]) (vs := []) rfl rfl (.nil)) (by rw [eth_zero])) ?_
      refine o_step rfl (s_move rfl) ?_
      refine o_call (open_fn br la lc l at0) rfl rfl rfl (by exact .nil) (fun w st => ⟨(RdPK.old0 hw.1).out w st, (RdK.old0 hw.2).out w st⟩) (fun v32 S32 ⟨bf, hv32, hS32⟩ => ?_)
      subst hv32
      subst hS32
      refine o_stW rfl rfl upA (eth_len _) (eth_len _) (eth_one _) ?_
      refine o_step rfl (s_assign rfl) ?_
      refine o_nil ?_
      refine x_then (hK10 _ _ ?_)
      refine c_ret ?_
      refine x_block_ret (x_block_ret (x_then_ret (x_then_ret (x_block_ret (x_then_ret (?_))))))
      refine x_sub (Sub.refl _) (H' := (bf, .cells [.int .i64 32, .int .i64 at0].toArray 89 (0, 0)) :: [(b6, .cells (Eth zTh).toArray 84 (0, 0))]) hzA ?_
      exact x_ret rfl (.agg inferInstance inferInstance rfl (RdPK.cels (.own meA)) lnA (.tmp rfl (.nil))) (⟨zTh, _, rfl, by rw [show encP l at0 i y = .bad 32 at0 by unfold encP; rw [if_pos (by omega)]]; exact ⟨_, _, rfl, rfl⟩⟩)
    · skip
      refine c_seq fun _ hK11 => ?_
      refine c_region ?_
      refine o_step rfl (s_move rfl) ?_
      refine o_step rfl (s_move rfl) ?_
      refine o_step rfl (s_move rfl) ?_
      refine o_callP (sign_fn br la lc l at0 (i + 3) y _ rfl) rfl rfl rfl (fun w st => ⟨(RdPK.old0 hw.1).out w st, (RdK.old0 hw.2).out w st⟩) (fun v37 hv37 => ?_)
      subst hv37
      cases hs : sg l (i + 3) y
      · skip
        refine o_step rfl (s_not rfl) ?_
        refine o_step rfl (s_assign rfl) ?_
        refine o_nil ?_
        refine x_then (hK11 _ _ ?_)
        refine c_true rfl ?_
        refine c_seq fun _ hK12 => ?_
        refine c_region ?_
        refine o_step rfl (step_cast (v' := .agg (Eth zTh).toArray) (s_build (cs := [_, _, _, _, _, _, _]) (vs := []) rfl rfl (.nil)) (by rw [eth_zero])) ?_
        refine o_step rfl (s_move rfl) ?_
        refine o_step rfl (s_build (cs := [_, _]) (vs := [_, _]) rfl rfl (.cons rfl rfl rfl rfl rfl (.cons rfl rfl rfl rfl rfl (.nil)))) ?_
        refine o_box rfl rfl rfl fun b42 => ?_
        refine o_stW rfl rfl upA (eth_len _) (eth_len _) (eth_one _) ?_
        refine o_step rfl (s_assign rfl) ?_
        refine o_nil ?_
        refine x_then (hK12 _ _ ?_)
        refine c_ret ?_
        refine x_block_ret (x_block_ret (x_then_ret (x_then_ret (x_block_ret (x_then_ret (?_))))))
        refine x_sub (Sub.refl _) (H' := (b42, .cells [.int .i64 31, .int .i64 i].toArray 89 (0, 0)) :: [(b6, .cells (Eth zTh).toArray 84 (0, 0))]) hzA ?_
        exact x_ret rfl (.agg inferInstance inferInstance rfl (RdPK.cels (.own meA)) lnA (.tmp rfl (.nil))) (⟨zTh, _, rfl, by rw [show encP l at0 i y = .bad 31 i by unfold encP; rw [if_neg (by omega), if_pos hs]]; exact ⟨_, _, rfl, rfl⟩⟩)
      · skip
        refine o_step rfl (s_not rfl) ?_
        refine o_step rfl (s_assign rfl) ?_
        refine o_nil ?_
        refine x_then (hK11 _ _ ?_)
        refine c_false rfl ?_
        refine c_skip ?_
        refine x_block ?_
        refine x_block ?_
        refine x_then (hK6 _ _ ?_)
        refine c_region ?_
        refine o_step rfl (s_add rfl rfl (by omega)) ?_
        refine o_step rfl (s_move rfl) ?_
        refine o_nil ?_
        exact x_then (x_inv 1 ⟨by omega, fun _ => ⟨by omega, hs⟩, fun h => by omega⟩ (by first | omega | (dsimp only; omega)) sbA hzA)
  · skip
    obtain ⟨hl3, hs3⟩ := hA (Nat.le_refl _)
    refine c_seq fun _ hK13 => ?_
    refine c_region ?_
    refine o_step rfl (s_lss_t rfl rfl (by omega)) ?_
    refine o_nil ?_
    refine x_then (hK13 _ _ ?_)
    refine c_seq fun _ hK14 => ?_
    refine c_true rfl ?_
    refine c_skip ?_
    refine x_then (hK14 _ _ ?_)
    refine c_seq fun _ hK15 => ?_
    refine c_block ?_
    refine c_seq fun _ hK16 => ?_
    refine c_region ?_
    refine o_step rfl (s_move rfl) ?_
    refine o_step rfl (s_indexV (i := 1) (v := .int .u8 93) rfl rfl (by decide) rfl) ?_
    refine o_step rfl (s_assign rfl) ?_
    refine o_step rfl (s_assign rfl) ?_
    refine o_nil ?_
    refine x_then (hK16 _ _ ?_)
    refine c_seq fun _ hK17 => ?_
    refine c_region ?_
    refine o_step rfl (s_move rfl) ?_
    refine o_step rfl (s_add rfl rfl (by omega)) ?_
    refine o_step rfl (s_move rfl) ?_
    refine o_step rfl (s_add rfl rfl (by omega)) ?_
    refine o_step rfl (s_assign rfl) ?_
    refine o_nil ?_
    refine x_then (hK17 _ _ ?_)
    refine c_block ?_
    refine c_seq fun _ hK18 => ?_
    refine c_region ?_
    refine o_step rfl (s_move rfl) ?_
    refine o_step rfl (s_move rfl) ?_
    refine o_step rfl (s_nil rfl) ?_
    refine o_step rfl (s_field rfl rfl (by decide)) ?_
    refine o_step rfl (s_ld rfl ((RdPK.old0 hw.1).cel (j := 0) rfl rfl)) ?_
    refine o_step rfl (s_len rfl) ?_
    refine o_step rfl (s_geq rfl rfl) ?_
    refine o_step rfl (s_assign rfl) ?_
    refine o_nil ?_
    refine x_then (hK18 _ _ ?_)
    refine c_if rfl (fun hge => ?_) (fun hge => ?_)
    · skip
      refine c_seq fun _ hK19 => ?_
      refine c_region ?_
      refine o_step rfl (step_cast (v' := .agg (Eth zTh).toArray) (s_build (cs := [_, _, _, _, _, _, _]) (vs := []) rfl rfl (.nil)) (by rw [eth_zero])) ?_
      refine o_step rfl (s_move rfl) ?_
      refine o_call (open_fn br la lc l at0) rfl rfl rfl (by exact .nil) (fun w st => ⟨(RdPK.old0 hw.1).out w st, (RdK.old0 hw.2).out w st⟩) (fun v32 S32 ⟨bf, hv32, hS32⟩ => ?_)
      subst hv32
      subst hS32
      refine o_stW rfl rfl upA (eth_len _) (eth_len _) (eth_one _) ?_
      refine o_step rfl (s_assign rfl) ?_
      refine o_nil ?_
      refine x_then (hK19 _ _ ?_)
      refine c_ret ?_
      refine x_block_ret (x_block_ret (x_then_ret (x_then_ret (x_block_ret (x_then_ret (?_))))))
      refine x_sub (Sub.refl _) (H' := (bf, .cells [.int .i64 32, .int .i64 at0].toArray 89 (0, 0)) :: [(b6, .cells (Eth zTh).toArray 84 (0, 0))]) hzA ?_
      exact x_ret rfl (.agg inferInstance inferInstance rfl (RdPK.cels (.own meA)) lnA (.tmp rfl (.nil))) (⟨zTh, _, rfl, by rw [show encP l at0 i y = .bad 32 at0 by unfold encP; rw [if_neg (by omega), hs3, if_neg (by decide), if_pos (by omega)]]; exact ⟨_, _, rfl, rfl⟩⟩)
    · skip
      refine c_seq fun _ hK20 => ?_
      refine c_region ?_
      refine o_step rfl (s_move rfl) ?_
      refine o_step rfl (s_move rfl) ?_
      refine o_step rfl (s_move rfl) ?_
      refine o_callP (sign_fn br la lc l at0 (i + 4) 93 93 (by decide)) rfl rfl rfl (fun w st => ⟨(RdPK.old0 hw.1).out w st, (RdK.old0 hw.2).out w st⟩) (fun v37 hv37 => ?_)
      subst hv37
      cases hs : sg l (i + 4) 93
      · skip
        refine o_step rfl (s_not rfl) ?_
        refine o_step rfl (s_assign rfl) ?_
        refine o_nil ?_
        refine x_then (hK20 _ _ ?_)
        refine c_true rfl ?_
        refine c_seq fun _ hK21 => ?_
        refine c_region ?_
        refine o_step rfl (step_cast (v' := .agg (Eth zTh).toArray) (s_build (cs := [_, _, _, _, _, _, _]) (vs := []) rfl rfl (.nil)) (by rw [eth_zero])) ?_
        refine o_step rfl (s_move rfl) ?_
        refine o_step rfl (s_build (cs := [_, _]) (vs := [_, _]) rfl rfl (.cons rfl rfl rfl rfl rfl (.cons rfl rfl rfl rfl rfl (.nil)))) ?_
        refine o_box rfl rfl rfl fun b42 => ?_
        refine o_stW rfl rfl upA (eth_len _) (eth_len _) (eth_one _) ?_
        refine o_step rfl (s_assign rfl) ?_
        refine o_nil ?_
        refine x_then (hK21 _ _ ?_)
        refine c_ret ?_
        refine x_block_ret (x_block_ret (x_then_ret (x_then_ret (x_block_ret (x_then_ret (?_))))))
        refine x_sub (Sub.refl _) (H' := (b42, .cells [.int .i64 31, .int .i64 i].toArray 89 (0, 0)) :: [(b6, .cells (Eth zTh).toArray 84 (0, 0))]) hzA ?_
        exact x_ret rfl (.agg inferInstance inferInstance rfl (RdPK.cels (.own meA)) lnA (.tmp rfl (.nil))) (⟨zTh, _, rfl, by rw [show encP l at0 i y = .bad 31 i by unfold encP; rw [if_neg (by omega), hs3, if_neg (by decide), if_neg (by omega), if_pos hs]]; exact ⟨_, _, rfl, rfl⟩⟩)
      · skip
        refine o_step rfl (s_not rfl) ?_
        refine o_step rfl (s_assign rfl) ?_
        refine o_nil ?_
        refine x_then (hK20 _ _ ?_)
        refine c_false rfl ?_
        refine c_skip ?_
        refine x_block ?_
        refine x_block ?_
        refine x_then (hK15 _ _ ?_)
        refine c_region ?_
        refine o_step rfl (s_add rfl rfl (by omega)) ?_
        refine o_step rfl (s_move rfl) ?_
        refine o_nil ?_
        exact x_then (x_inv 2 ⟨by omega, fun _ => ⟨hl3, hs3⟩, fun _ => ⟨by omega, hs⟩⟩ (by first | omega | (dsimp only; omega)) sbA hzA)
  · skip
    obtain ⟨hl3, hs3⟩ := hA (by decide)
    obtain ⟨hl4, hs4⟩ := hB (Nat.le_refl _)
    have hN : encP l at0 i y = .ok ⟨ofL [(mk0 l (i + 2)).b], (mk0 l (i + 2)).b, y == 46, i + 5⟩ := by unfold encP; rw [if_neg (by omega), hs3, if_neg (by decide), if_neg (by omega), hs4, if_neg (by decide)]
    refine c_seq fun _ hK22 => ?_
    refine c_region ?_
    refine o_step rfl (s_lss_f rfl rfl (by omega)) ?_
    refine o_nil ?_
    refine x_then (hK22 _ _ ?_)
    refine c_seq fun _ hK23 => ?_
    refine c_false rfl ?_
    refine c_exit ?_
    refine x_then_exit ?_
    refine x_then_exit ?_
    refine x_block_exit ?_
    refine x_then (hK2 _ _ ?_)
    refine c_seq fun _ hK24 => ?_
    refine c_region ?_
    refine o_step rfl (s_move rfl) ?_
    refine o_step rfl (s_nil rfl) ?_
    refine o_step rfl (s_field rfl rfl (by decide)) ?_
    refine o_step rfl (s_ld rfl ((RdPK.old0 hw.1).cel (j := 0) rfl rfl)) ?_
    refine o_step rfl (s_move rfl) ?_
    refine o_step rfl (s_add rfl rfl (by omega)) ?_
    refine o_step rfl (s_idx rfl rfl hsl (by omega)) ?_
    refine o_step rfl (s_field rfl rfl (by decide)) ?_
    refine o_step rfl (s_ld rfl ((RdK.old0 hw.2).ld (i + 2) 0 (mk0_get (by omega)) rfl (by decide) (by omega))) ?_
    refine o_step rfl (s_assign rfl) ?_
    refine o_nil ?_
    refine x_then (hK24 _ _ ?_)
    refine c_seq fun _ hK25 => ?_
    refine c_region ?_
    refine o_step rfl (s_move rfl) ?_
    refine o_bs (E := Eb) (xs := [(mk0 l (i + 2)).b]) (vs := [_]) rfl rfl rfl rfl rfl (by decide) (by decide) fun b54 S54 hS54 => ?_
    refine o_callP (of_fn (some ⟨b54, 0, none⟩) 1 [(mk0 l (i + 2)).b]) rfl rfl rfl (fun w st => (hS54.rdk hiA).out w st) (fun v55 hv55 => ?_)
    subst hv55
    refine o_step rfl (s_move rfl) ?_
    refine o_step rfl (s_move rfl) ?_
    refine o_step rfl (step_cast (v' := .bool (y == 46)) (s_eql rfl rfl) (by rw [u8_eq46])) ?_
    refine o_step rfl (s_move rfl) ?_
    refine o_step rfl (s_add rfl rfl (by omega)) ?_
    refine o_step rfl (step_cast (v' := .agg (Eth ⟨ofL [(mk0 l (i + 2)).b], (mk0 l (i + 2)).b, y == 46, i + 5⟩).toArray) (s_build (cs := [_, _, _, _, _, _, _]) (vs := [_, _, _, _]) rfl rfl (.cons rfl rfl rfl rfl rfl (.cons rfl rfl rfl rfl rfl (.cons rfl rfl rfl rfl rfl (.cons rfl rfl rfl rfl rfl (.nil)))))) (rfl)) ?_
    refine o_stW rfl rfl upA (eth_len _) (eth_len _) (eth_one _) ?_
    refine o_step rfl (s_assign rfl) ?_
    refine o_nil ?_
    refine x_then (hK25 _ _ ?_)
    refine c_ret ?_
    refine ?_
    exact x_ret rfl (.agg inferInstance inferInstance rfl (RdPK.cels (.own meA)) lnA (.tmp rfl (.nil))) (⟨_, _, rfl, by rw [hN]; exact ⟨rfl, rfl⟩⟩)
end Go.Proofs.YtafbigmneipkiaaDoor
