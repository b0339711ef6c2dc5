/- Part of the proofs over this seat: see the text that holds the theorem. Conditions: each theorem bears its own. -/
import Derived.Test.YtihbhlgognpmmaaDoorMT9Z
import Derived.Test.YtihbhlgognpmmaaDoorMT17Z
namespace Go.Proofs.YtihbhlgognpmmaaDoor
open Go Go.HL Go.Proofs Go.HL.Kl Go.HL.Kl.Mc
set_option maxHeartbeats 2000000 in
theorem sides_step (x : Nd) (ks : F) (ih : ∀ y js, js.size < ks.size → CodeC Tryd.prog 31 73 y js) (h5 : x.op = 5) (ma : Option Addr) (mc : Nat) (m : List In) (Sm : Hp) (ra : Option Addr) (rc : Nat) (re : List Nd) (i i1 : Nat) (hre : ∀ x ∈ re, -128 ≤ x.op ∧ x.op < 128) (hr8 : ∀ x ∈ re, ¬ x.op = 8) (hrl : re.length ≤ 1000000) (hp : Part re (.nd x ks .nil) i i1) (hO : OwnS Ein 7 73 (.slice ma m.length mc) m Sm) (hlen : m.length + lenT x ks ≤ 70000) : HL.Fn Tryd.prog 59 [.slice ma m.length mc, .slice ra re.length rc, .int .i64 i] (fun W => Rd En W (.slice ra re.length rc) re ∧ Apart (keys Sm) (.slice ra re.length rc)) Sm (CodeP 73 (m.length + lenT x ks)) := by
  refine fn_of Tryd.func59 rfl rfl rfl fun w0 hw => ?_
  obtain ⟨hx, hpk, _⟩ := hp.head
  have hilt := (List.getElem?_eq_some_iff.1 hx).1
  have hsl := hw.1.sl
  have hbl := hsl.le
  have hox := hre x (List.mem_of_getElem? hx)
  have hx8 := hr8 x (List.mem_of_getElem? hx)
  have hok : ndOk x = true := hp.wf.1
  have hop : 1 ≤ x.op ∧ x.op ≤ 8 := (flds_iff.1 (by simp only [ndOk, Bool.and_eq_true] at hok; exact hok.1)).1
  have hkn : (ks.num : Int) = x.kids := hp.wf.2.1
  have hpkl := hpk.le
  have hkl := F.num_le ks
  have hl5 := lenT_5 (ks := ks) h5
  refine c_seq fun _ hK1 => ?_
  refine c_region ?_
  refine o_step rfl (s_assign rfl) ?_
  refine o_nil ?_
  refine x_then (hK1 _ _ ?_)
  refine c_seq fun _ hK2 => ?_
  refine c_region ?_
  refine o_step rfl (s_assign rfl) ?_
  refine o_nil ?_
  refine x_then (hK2 _ _ ?_)
  refine c_seq fun _ hK3 => ?_
  refine c_region ?_
  refine o_step rfl (s_move rfl) ?_
  refine o_step rfl (s_add rfl rfl (by omega)) ?_
  refine o_step rfl (s_assign rfl) ?_
  refine o_nil ?_
  refine x_then (hK3 _ _ ?_)
  refine c_seq fun _ hK4 => ?_
  refine c_seq fun _ hK5 => ?_
  refine c_region ?_
  refine o_step rfl (s_assign rfl) ?_
  refine o_nil ?_
  refine x_then (hK5 _ _ ?_)
  refine c_block ?_
  refine c_loop7 (fun (k : Nat) (g : F) (kp : Nat) (q : Sl In) (Sq : Hp) (jl : Sl Nat) (Sj : Hp) => k + g.num = ks.num ∧ Part re g kp (i + 1 + ks.size) ∧ g.size ≤ ks.size ∧ q.xs.length + lenM g true = m.length + lenM ks true ∧ (∀ t ∈ jl.xs, t < q.xs.length) ∧ jl.xs.length ≤ k ∧ OwnS Ein 7 73 (.slice q.a q.xs.length q.c) q.xs Sq ∧ OwnS Eix 1 3 (.slice jl.a jl.xs.length jl.c) jl.xs Sj) (fun (k : Nat) (g : F) (kp : Nat) (q : Sl In) (Sq : Hp) (jl : Sl Nat) (Sj : Hp) => [(9, .int .i64 k), (8, .int .i64 kp), (0, .slice q.a q.xs.length q.c), (7, .slice jl.a jl.xs.length jl.c)]) [(1, _), (2, _), (6, _)] (fun (k : Nat) (g : F) (kp : Nat) (q : Sl In) (Sq : Hp) (jl : Sl Nat) (Sj : Hp) => Sq ++ Sj) (fun (k : Nat) (g : F) (kp : Nat) (q : Sl In) (Sq : Hp) (jl : Sl Nat) (Sj : Hp) => ks.num - k) 0 ks (i + 1) ⟨ma, mc, m⟩ Sm ⟨none, 0, []⟩ [] ⟨by omega, hpk, Nat.le_refl _, rfl, fun t h => (by cases h), by simp, hO, .nil⟩ sbA sbA hzB ?_
  rintro k g kp q Sq jl Sj ⟨hkg, hpg, hgs, hln, hjb, hjl, hQ, hJ⟩
  refine c_seq fun _ hK6 => ?_
  refine c_seq fun _ hK7 => ?_
  refine c_region ?_
  refine o_step rfl (s_move rfl) ?_
  refine o_step rfl (s_move rfl) ?_
  refine o_step rfl (s_move rfl) ?_
  refine o_step rfl (s_idx rfl rfl hsl (by omega)) ?_
  refine o_step rfl (s_field rfl rfl (by decide)) ?_
  refine o_step rfl (s_ld rfl ((RdK.old hw.1 hw.2).ld i 8 hx rfl (by decide) (by omega))) ?_
  by_cases hk : (k : Int) < x.kids
  ·
   obtain ⟨y, ks1, r2, rfl⟩ : ∃ y ks1 r2, g = F.nd y ks1 r2 := by cases g with | nil => simp [F.num] at hkg; omega | nd y a b => exact ⟨y, a, b, rfl⟩
   obtain ⟨hy, hpy, hpt⟩ := hpg.head
   have hsz : ks1.size < ks.size := by simp only [F.size] at hgs; omega
   simp only [F.num] at hkg
   simp only [F.size] at hgs
   have hQs := hQ.sl
   refine o_step rfl (step_cast (v' := .bool true) (s_lss rfl rfl) (by rw [decide_eq_true (by omega)])) ?_
   refine o_nil ?_
   refine x_then (hK7 _ _ ?_)
   refine c_true rfl ?_
   refine c_skip ?_
   refine x_then (hK6 _ _ ?_)
   refine c_seq fun _ hK8 => ?_
   refine c_block ?_
   refine c_seq fun _ hK9 => ?_
   refine c_region ?_
   refine o_step rfl (s_move rfl) ?_
   refine o_step rfl (s_len rfl) ?_
   refine o_step rfl (s_assign rfl) ?_
   refine o_nil ?_
   refine x_then (hK9 _ _ ?_)
   refine c_seq fun _ hK10 => ?_
   refine c_seq fun _ hK11 => ?_
   refine c_region ?_
   refine o_step rfl (s_move rfl) ?_
   refine o_step rfl (s_add rfl rfl (by omega)) ?_
   refine o_step rfl (s_move rfl) ?_
   refine o_step rfl (s_move rfl) ?_
   refine o_step rfl (s_idx rfl rfl hsl (by omega)) ?_
   refine o_step rfl (s_field rfl rfl (by decide)) ?_
   refine o_step rfl (s_ld rfl ((RdK.old hw.1 hw.2).ld i 8 hx rfl (by decide) (by omega))) ?_
   by_cases hmo : (k : Int) + 1 < x.kids
   ·
    rw [lenM_true _ _ _ (F.num_pos (by omega))] at hln
    refine o_step rfl (step_cast (v' := .bool true) (s_lss rfl rfl) (by rw [decide_eq_true (by omega)])) ?_
    refine o_nil ?_
    refine x_then (hK11 _ _ ?_)
    refine c_true rfl ?_
    refine c_region ?_
    refine o_step rfl (s_move rfl) ?_
    refine o_step rfl (s_move rfl) ?_
    refine o_step rfl (s_add rfl rfl (by omega)) ?_
    refine o_step rfl (step_cast (v' := .agg (Ein (⟨5, 0, (q.xs.length + 1 : Nat), 0⟩ : In)).toArray) (s_build (cs := [_, _, _, _, _, _, _]) (vs := [_, _]) rfl rfl (.cons rfl rfl rfl rfl rfl (.cons rfl rfl rfl rfl rfl (.nil)))) (by rw [Ein_zero]; try rfl)) ?_
    refine o_bs (E := Ein) (xs := [(⟨5, 0, (q.xs.length + 1 : Nat), 0⟩ : In)]) (vs := [_]) rfl rfl rfl rfl rfl (by decide) (by decide) fun b37 S37 hS37 => ?_
    refine o_app hQ (hS37.rdk hiA) rfl rfl rfl rfl (by simp only [List.length_singleton]; omega) (by simp only [List.length_singleton]; omega) rfl pkA fun a38 c38 S38 hS38 => ?_
    have hQ := hS38
    have hl38 : (q.xs ++ [(⟨5, 0, (q.xs.length + 1 : Nat), 0⟩ : In)]).length = q.xs.length + 1 := by simp
    refine o_step rfl (s_assign rfl) ?_
    refine o_nil ?_
    refine x_then (hK10 _ _ ?_)
    refine c_seq fun _ hK12 => ?_
    refine c_region ?_
    refine o_step rfl (s_move rfl) ?_
    refine o_step rfl (s_move rfl) ?_
    refine o_step rfl (s_move rfl) ?_
    refine o_call (ih y ks1 hsz _ _ _ _ ra rc re kp _ hre hr8 hrl hpg.one hQ (by first | omega | (simp only [List.length_append, List.length_singleton]; omega))) rfl rfl rfl pkA (fun w st => ⟨(RdK.old hw.1 hw.2).out w st, St.apart_M st (by exact hiB) hw.1 hw.2 (by decide)⟩) (fun v42 S42 ⟨a42, c42, m42, hv42, hn42, hO42⟩ => ?_)
    subst hv42
    refine o_step rfl (s_assign rfl) ?_
    refine o_nil ?_
    refine x_then (hK12 _ _ ?_)
    refine c_seq fun _ hK13 => ?_
    refine c_seq fun _ hK14 => ?_
    refine c_region ?_
    refine o_step rfl (s_move rfl) ?_
    refine o_step rfl (s_add rfl rfl (by omega)) ?_
    refine o_step rfl (s_move rfl) ?_
    refine o_step rfl (s_move rfl) ?_
    refine o_step rfl (s_idx rfl rfl hsl (by omega)) ?_
    refine o_step rfl (s_field rfl rfl (by decide)) ?_
    refine o_step rfl (s_ld rfl ((RdK.old hw.1 hw.2).ld i 8 hx rfl (by decide) (by omega))) ?_
    by_cases hm2 : (k : Int) + 1 < x.kids
    ·
     refine o_step rfl (step_cast (v' := .bool true) (s_lss rfl rfl) (by rw [decide_eq_true (by omega)])) ?_
     refine o_nil ?_
     refine x_then (hK14 _ _ ?_)
     refine c_true rfl ?_
     refine c_seq fun _ hK15 => ?_
     refine c_region ?_
     refine o_step rfl (s_move rfl) ?_
     refine o_step rfl (s_move rfl) ?_
     refine o_step rfl (s_len rfl) ?_
     refine o_bs (E := Eix) (xs := [m42.length]) (vs := [_]) rfl rfl rfl rfl rfl (by decide) (by decide) fun b54 S54 hS54 => ?_
     refine o_app hJ (hS54.rdk hiA) rfl rfl rfl rfl (by simp only [List.length_singleton]; omega) (by simp only [List.length_singleton]; omega) rfl pkA fun a55 c55 S55 hS55 => ?_
     refine o_step rfl (s_assign rfl) ?_
     refine o_nil ?_
     refine x_then (hK15 _ _ ?_)
     refine c_seq fun _ hK16 => ?_
     refine c_region ?_
     refine o_step rfl (s_move rfl) ?_
     refine o_step rfl (step_cast (v' := .agg (Ein (⟨4, 0, 0, 0⟩ : In)).toArray) (s_build (cs := [_, _, _, _, _, _, _]) (vs := [_]) rfl rfl (.cons rfl rfl rfl rfl rfl (.nil))) (by rw [Ein_zero]; try rfl)) ?_
     refine o_bs (E := Ein) (xs := [(⟨4, 0, 0, 0⟩ : In)]) (vs := [_]) rfl rfl rfl rfl rfl (by decide) (by decide) fun b58 S58 hS58 => ?_
     refine o_app hO42 (hS58.rdk hiA) rfl rfl rfl rfl (by simp only [List.length_singleton]; omega) (by simp only [List.length_singleton]; omega) rfl pkA fun a59 c59 S59 hS59 => ?_
     have hO59s := hS59.sl
     have hl59 : (m42 ++ [(⟨4, 0, 0, 0⟩ : In)]).length = m42.length + 1 := by simp
     refine o_step rfl (s_assign rfl) ?_
     refine o_nil ?_
     refine x_then (hK16 _ _ ?_)
     refine c_region ?_
     refine o_step rfl (s_move rfl) ?_
     refine o_step rfl (s_move rfl) ?_
     refine o_step rfl (s_move rfl) ?_
     refine o_step rfl (s_len rfl) ?_
     refine o_step rfl (s_idx rfl rfl hO59s (by omega)) ?_
     refine o_step rfl (s_field rfl rfl (by decide)) ?_
     obtain ⟨e0, he0⟩ : ∃ e, (m42 ++ [(⟨4, 0, 0, 0⟩ : In)])[q.xs.length]? = some e := ⟨_, List.getElem?_eq_getElem (by simp only [List.length_append, List.length_singleton] at hn42 ⊢; omega)⟩
     refine o_stS (i := q.xs.length) (off := 6) (cs := [.int .i64 ((m42 ++ [(⟨4, 0, 0, 0⟩ : In)]).length : Nat)]) { e0 with y := ((m42 ++ [(⟨4, 0, 0, 0⟩ : In)]).length : Nat) } hS59 pkA rfl rfl rfl rfl (by simp only [List.length_append, List.length_singleton] at hn42 ⊢; omega) (by first | rfl | (rw [Int.toNat_natCast]; first | done | rfl)) (by simp) (fun e he => by rw [he0] at he; cases he; rfl) (by simp [Value.oneCell']) fun S' hS' => ?_
     refine o_nil ?_
     refine x_then (hK13 _ _ ?_)
     refine c_region ?_
     refine o_step rfl (s_move rfl) ?_
     refine o_step rfl (s_move rfl) ?_
     refine o_callP (behind_fn ra rc re y ks1 kp _ hpg.one) rfl rfl rfl (fun w st => (RdK.old hw.1 hw.2).out w st) (fun v68 hv68 => ?_)
     subst hv68
     refine o_step rfl (s_assign rfl) ?_
     refine o_nil ?_
     refine x_block ?_
     refine x_then (hK8 _ _ ?_)
     refine c_region ?_
     refine o_step rfl (s_move rfl) ?_
     refine o_step rfl (s_add rfl rfl (by omega)) ?_
     refine o_step rfl (s_assign rfl) ?_
     refine o_nil ?_
     exact x_then (x_inv (k + 1, r2, kp + 1 + ks1.size, ⟨a59, c59, (m42 ++ [(⟨4, 0, 0, 0⟩ : In)]).set q.xs.length { e0 with y := ((m42 ++ [(⟨4, 0, 0, 0⟩ : In)]).length : Nat) }⟩, S', ⟨a55, c55, jl.xs ++ [m42.length]⟩, S55) ⟨by dsimp only; omega, hpt, by dsimp only; omega, by dsimp only; rw [List.length_set]; simp only [List.length_append, List.length_singleton] at hn42 ⊢; omega, fun t ht => by dsimp only at ht ⊢; rw [List.length_set]; simp only [List.length_append, List.length_singleton] at hn42 ⊢; rcases List.mem_append.1 ht with ht | ht; (· have := hjb t ht; omega); (· obtain rfl := List.mem_singleton.1 ht; omega), by dsimp only; simp; omega, by dsimp only; rw [List.length_set]; exact hS', hS55⟩ (by first | omega | (dsimp only; omega)) (by exact Sub.cons rfl (Sub.cons rfl (Sub.cons' rfl (by dsimp only; rw [List.length_set]) sbA))) hzB)
    ·
     refine o_step rfl (step_cast (v' := .bool false) (s_lss rfl rfl) (by rw [decide_eq_false (by omega)])) ?_
     refine o_nil ?_
     refine x_then (hK14 _ _ ?_)
     refine c_false rfl ?_
     refine c_skip ?_
     refine x_then (hK13 _ _ ?_)
     refine c_region ?_
     refine o_step rfl (s_move rfl) ?_
     refine o_step rfl (s_move rfl) ?_
     refine o_callP (behind_fn ra rc re y ks1 kp _ hpg.one) rfl rfl rfl (fun w st => (RdK.old hw.1 hw.2).out w st) (fun v68 hv68 => ?_)
     subst hv68
     refine o_step rfl (s_assign rfl) ?_
     refine o_nil ?_
     refine x_block ?_
     refine x_then (hK8 _ _ ?_)
     refine c_region ?_
     refine o_step rfl (s_move rfl) ?_
     refine o_step rfl (s_add rfl rfl (by omega)) ?_
     refine o_step rfl (s_assign rfl) ?_
     refine o_nil ?_
     exact x_then (x_inv (k + 1, r2, kp + 1 + ks1.size, ⟨a42, c42, m42⟩, S42, jl, Sj) (by omega) (by first | omega | (dsimp only; omega)) sbA hzB)
   ·
    obtain rfl : r2 = F.nil := F.num_nil (by omega)
    rw [lenM_last] at hln
    refine o_step rfl (step_cast (v' := .bool false) (s_lss rfl rfl) (by rw [decide_eq_false (by omega)])) ?_
    refine o_nil ?_
    refine x_then (hK11 _ _ ?_)
    refine c_false rfl ?_
    refine c_skip ?_
    refine x_then (hK10 _ _ ?_)
    refine c_seq fun _ hK17 => ?_
    refine c_region ?_
    refine o_step rfl (s_move rfl) ?_
    refine o_step rfl (s_move rfl) ?_
    refine o_step rfl (s_move rfl) ?_
    refine o_call (ih y ks1 hsz _ _ _ _ ra rc re kp _ hre hr8 hrl hpg.one hQ (by first | omega | (simp only [List.length_append, List.length_singleton]; omega))) rfl rfl rfl pkA (fun w st => ⟨(RdK.old hw.1 hw.2).out w st, St.apart_M st (by exact hiB) hw.1 hw.2 (by decide)⟩) (fun v42 S42 ⟨a42, c42, m42, hv42, hn42, hO42⟩ => ?_)
    subst hv42
    refine o_step rfl (s_assign rfl) ?_
    refine o_nil ?_
    refine x_then (hK17 _ _ ?_)
    refine c_seq fun _ hK18 => ?_
    refine c_seq fun _ hK19 => ?_
    refine c_region ?_
    refine o_step rfl (s_move rfl) ?_
    refine o_step rfl (s_add rfl rfl (by omega)) ?_
    refine o_step rfl (s_move rfl) ?_
    refine o_step rfl (s_move rfl) ?_
    refine o_step rfl (s_idx rfl rfl hsl (by omega)) ?_
    refine o_step rfl (s_field rfl rfl (by decide)) ?_
    refine o_step rfl (s_ld rfl ((RdK.old hw.1 hw.2).ld i 8 hx rfl (by decide) (by omega))) ?_
    by_cases hm2 : (k : Int) + 1 < x.kids
    ·
     refine o_step rfl (step_cast (v' := .bool true) (s_lss rfl rfl) (by rw [decide_eq_true (by omega)])) ?_
     refine o_nil ?_
     refine x_then (hK19 _ _ ?_)
     refine c_true rfl ?_
     refine c_seq fun _ hK20 => ?_
     refine c_region ?_
     refine o_step rfl (s_move rfl) ?_
     refine o_step rfl (s_move rfl) ?_
     refine o_step rfl (s_len rfl) ?_
     refine o_bs (E := Eix) (xs := [m42.length]) (vs := [_]) rfl rfl rfl rfl rfl (by decide) (by decide) fun b54 S54 hS54 => ?_
     refine o_app hJ (hS54.rdk hiA) rfl rfl rfl rfl (by simp only [List.length_singleton]; omega) (by simp only [List.length_singleton]; omega) rfl pkA fun a55 c55 S55 hS55 => ?_
     refine o_step rfl (s_assign rfl) ?_
     refine o_nil ?_
     refine x_then (hK20 _ _ ?_)
     refine c_seq fun _ hK21 => ?_
     refine c_region ?_
     refine o_step rfl (s_move rfl) ?_
     refine o_step rfl (step_cast (v' := .agg (Ein (⟨4, 0, 0, 0⟩ : In)).toArray) (s_build (cs := [_, _, _, _, _, _, _]) (vs := [_]) rfl rfl (.cons rfl rfl rfl rfl rfl (.nil))) (by rw [Ein_zero]; try rfl)) ?_
     refine o_bs (E := Ein) (xs := [(⟨4, 0, 0, 0⟩ : In)]) (vs := [_]) rfl rfl rfl rfl rfl (by decide) (by decide) fun b58 S58 hS58 => ?_
     refine o_app hO42 (hS58.rdk hiA) rfl rfl rfl rfl (by simp only [List.length_singleton]; omega) (by simp only [List.length_singleton]; omega) rfl pkA fun a59 c59 S59 hS59 => ?_
     have hO59s := hS59.sl
     have hl59 : (m42 ++ [(⟨4, 0, 0, 0⟩ : In)]).length = m42.length + 1 := by simp
     refine o_step rfl (s_assign rfl) ?_
     refine o_nil ?_
     refine x_then (hK21 _ _ ?_)
     refine c_region ?_
     refine o_step rfl (s_move rfl) ?_
     refine o_step rfl (s_move rfl) ?_
     refine o_step rfl (s_move rfl) ?_
     refine o_step rfl (s_len rfl) ?_
     refine o_step rfl (s_idx rfl rfl hO59s (by omega)) ?_
     refine o_step rfl (s_field rfl rfl (by decide)) ?_
     obtain ⟨e0, he0⟩ : ∃ e, (m42 ++ [(⟨4, 0, 0, 0⟩ : In)])[q.xs.length]? = some e := ⟨_, List.getElem?_eq_getElem (by simp only [List.length_append, List.length_singleton] at hn42 ⊢; omega)⟩
     refine o_stS (i := q.xs.length) (off := 6) (cs := [.int .i64 ((m42 ++ [(⟨4, 0, 0, 0⟩ : In)]).length : Nat)]) { e0 with y := ((m42 ++ [(⟨4, 0, 0, 0⟩ : In)]).length : Nat) } hS59 pkA rfl rfl rfl rfl (by simp only [List.length_append, List.length_singleton] at hn42 ⊢; omega) (by first | rfl | (rw [Int.toNat_natCast]; first | done | rfl)) (by simp) (fun e he => by rw [he0] at he; cases he; rfl) (by simp [Value.oneCell']) fun S' hS' => ?_
     refine o_nil ?_
     refine x_then (hK18 _ _ ?_)
     refine c_region ?_
     refine o_step rfl (s_move rfl) ?_
     refine o_step rfl (s_move rfl) ?_
     refine o_callP (behind_fn ra rc re y ks1 kp _ hpg.one) rfl rfl rfl (fun w st => (RdK.old hw.1 hw.2).out w st) (fun v68 hv68 => ?_)
     subst hv68
     refine o_step rfl (s_assign rfl) ?_
     refine o_nil ?_
     refine x_block ?_
     refine x_then (hK8 _ _ ?_)
     refine c_region ?_
     refine o_step rfl (s_move rfl) ?_
     refine o_step rfl (s_add rfl rfl (by omega)) ?_
     refine o_step rfl (s_assign rfl) ?_
     refine o_nil ?_
     exact x_then (x_inv (k + 1, F.nil, kp + 1 + ks1.size, ⟨a59, c59, (m42 ++ [(⟨4, 0, 0, 0⟩ : In)]).set q.xs.length { e0 with y := ((m42 ++ [(⟨4, 0, 0, 0⟩ : In)]).length : Nat) }⟩, S', ⟨a55, c55, jl.xs ++ [m42.length]⟩, S55) (by omega) (by first | omega | (dsimp only; omega)) (by exact Sub.cons rfl (Sub.cons rfl (Sub.cons' rfl (by dsimp only; rw [List.length_set]) sbA))) hzB)
    ·
     refine o_step rfl (step_cast (v' := .bool false) (s_lss rfl rfl) (by rw [decide_eq_false (by omega)])) ?_
     refine o_nil ?_
     refine x_then (hK19 _ _ ?_)
     refine c_false rfl ?_
     refine c_skip ?_
     refine x_then (hK18 _ _ ?_)
     refine c_region ?_
     refine o_step rfl (s_move rfl) ?_
     refine o_step rfl (s_move rfl) ?_
     refine o_callP (behind_fn ra rc re y ks1 kp _ hpg.one) rfl rfl rfl (fun w st => (RdK.old hw.1 hw.2).out w st) (fun v68 hv68 => ?_)
     subst hv68
     refine o_step rfl (s_assign rfl) ?_
     refine o_nil ?_
     refine x_block ?_
     refine x_then (hK8 _ _ ?_)
     refine c_region ?_
     refine o_step rfl (s_move rfl) ?_
     refine o_step rfl (s_add rfl rfl (by omega)) ?_
     refine o_step rfl (s_assign rfl) ?_
     refine o_nil ?_
     exact x_then (x_inv (k + 1, F.nil, kp + 1 + ks1.size, ⟨a42, c42, m42⟩, S42, jl, Sj) ⟨by dsimp only; omega, hpt, by dsimp only; omega, by dsimp only; rw [hn42]; simp only [lenM]; omega, fun t ht => by have := hjb t ht; dsimp only; omega, by dsimp only; omega, hO42, hJ⟩ (by first | omega | (dsimp only; omega)) sbA hzB)
  ·
   obtain rfl : g = F.nil := F.num_nil (by omega)
   simp only [lenM] at hln
   refine o_step rfl (step_cast (v' := .bool false) (s_lss rfl rfl) (by rw [decide_eq_false (by omega)])) ?_
   refine o_nil ?_
   refine x_then (hK7 _ _ ?_)
   refine c_false rfl ?_
   refine c_exit ?_
   refine x_then_exit ?_
   refine x_then_exit ?_
   refine x_block_exit ?_
   refine x_then (hK4 _ _ ?_)
   refine c_seq fun _ hK22 => ?_
   refine c_seq fun _ hK23 => ?_
   refine c_region ?_
   refine o_step rfl (s_assign rfl) ?_
   refine o_nil ?_
   refine x_then (hK23 _ _ ?_)
   refine c_block ?_
   refine c_loop3 (fun (j : Nat) (q2 : Sl In) (Sq2 : Hp) => j ≤ jl.xs.length ∧ q2.xs.length = q.xs.length ∧ OwnS Ein 7 73 (.slice q2.a q2.xs.length q2.c) q2.xs Sq2) (fun (j : Nat) (q2 : Sl In) (Sq2 : Hp) => [(11, .int .i64 j), (0, .slice q2.a q2.xs.length q2.c)]) [(6, _), (7, _)] (fun (j : Nat) (q2 : Sl In) (Sq2 : Hp) => Sq2 ++ Sj) (fun (j : Nat) (q2 : Sl In) (Sq2 : Hp) => jl.xs.length - j) 0 q Sq ⟨by omega, rfl, hQ⟩ sbA sbA hzB ?_
   rintro j q2 Sq2 ⟨hj, hq2, hQ2⟩
   have hQ2s := hQ2.sl
   have hJs := hJ.sl
   refine c_seq fun _ hK24 => ?_
   refine c_seq fun _ hK25 => ?_
   refine c_region ?_
   refine o_step rfl (s_move rfl) ?_
   refine o_step rfl (s_move rfl) ?_
   refine o_step rfl (s_len rfl) ?_
   by_cases hjj : j < jl.xs.length
   ·
    obtain ⟨jt, hjt⟩ : ∃ t, jl.xs[j]? = some t := ⟨_, List.getElem?_eq_getElem hjj⟩
    have hjtl := hjb jt (List.mem_of_getElem? hjt)
    refine o_step rfl (step_cast (v' := .bool true) (s_lss rfl rfl) (by rw [decide_eq_true (by omega)])) ?_
    refine o_nil ?_
    refine x_then (hK25 _ _ ?_)
    refine c_true rfl ?_
    refine c_skip ?_
    refine x_then (hK24 _ _ ?_)
    refine c_seq fun _ hK26 => ?_
    refine c_block ?_
    refine c_region ?_
    refine o_step rfl (s_move rfl) ?_
    refine o_step rfl (s_move rfl) ?_
    refine o_step rfl (s_move rfl) ?_
    refine o_step rfl (s_idx rfl rfl hJs (by omega)) ?_
    refine o_step rfl (s_ld rfl ((hJ.rdk hiA).ld j 0 hjt rfl (by decide) (by omega))) ?_
    refine o_step rfl (s_move rfl) ?_
    refine o_step rfl (s_len rfl) ?_
    refine o_step rfl (s_idx rfl rfl hQ2s (by omega)) ?_
    refine o_step rfl (s_field rfl rfl (by decide)) ?_
    obtain ⟨e0, he0⟩ : ∃ e, q2.xs[jt]? = some e := ⟨_, List.getElem?_eq_getElem (by omega)⟩
    refine o_stS (i := jt) (off := 5) (cs := [.int .i64 (q2.xs.length : Nat)]) { e0 with x := (q2.xs.length : Nat) } hQ2 pkA rfl rfl rfl rfl (by omega) (by first | rfl | (rw [Int.toNat_natCast]; first | done | rfl)) (by simp) (fun e he => by rw [he0] at he; cases he; rfl) (by simp [Value.oneCell']) fun S' hS' => ?_
    refine o_nil ?_
    refine x_block ?_
    refine x_then (hK26 _ _ ?_)
    refine c_region ?_
    refine o_step rfl (s_move rfl) ?_
    refine o_step rfl (s_add rfl rfl (by omega)) ?_
    refine o_step rfl (s_assign rfl) ?_
    refine o_nil ?_
    exact x_then (x_inv (j + 1, ⟨q2.a, q2.c, q2.xs.set jt { e0 with x := (q2.xs.length : Nat) }⟩, S') ⟨by omega, by dsimp only; rw [List.length_set]; exact hq2, by dsimp only; rw [List.length_set]; exact hS'⟩ (by first | omega | (dsimp only; omega)) (by exact Sub.cons rfl (Sub.cons' rfl (by dsimp only; rw [List.length_set]) sbA)) hzB)
   ·
    refine o_step rfl (step_cast (v' := .bool false) (s_lss rfl rfl) (by rw [decide_eq_false (by omega)])) ?_
    refine o_nil ?_
    refine x_then (hK25 _ _ ?_)
    refine c_false rfl ?_
    refine c_exit ?_
    refine x_then_exit ?_
    refine x_then_exit ?_
    refine x_block_exit ?_
    refine x_then (hK22 _ _ ?_)
    refine c_seq fun _ hK27 => ?_
    refine c_region ?_
    refine o_step rfl (s_move rfl) ?_
    refine o_step rfl (s_assign rfl) ?_
    refine o_nil ?_
    refine x_then (hK27 _ _ ?_)
    refine c_ret ?_
    refine ?_
    refine x_sub (Sub.refl _) (H' := Sq2) hzB ?_
    exact x_ret rfl (.tmp rfl (.nil)) ((.of hQ2 (by omega)))
end Go.Proofs.YtihbhlgognpmmaaDoor

/- Part of the proofs over this seat: see the text that holds the theorem. Conditions: each theorem bears its own. -/
namespace Go.Proofs.YtihbhlgognpmmaaDoor
open Go Go.HL Go.Proofs Go.HL.Kl Go.HL.Kl.Mc
set_option maxHeartbeats 2000000 in
theorem code_step (x : Nd) (ks : F) (ih : ∀ y js, js.size < ks.size → CodeC Tryd.prog 31 73 y js) (ma : Option Addr) (mc : Nat) (m : List In) (Sm : Hp) (ra : Option Addr) (rc : Nat) (re : List Nd) (i i1 : Nat) (hre : ∀ x ∈ re, -128 ≤ x.op ∧ x.op < 128) (hr8 : ∀ x ∈ re, ¬ x.op = 8) (hrl : re.length ≤ 1000000) (hp : Part re (.nd x ks .nil) i i1) (hO : OwnS Ein 7 73 (.slice ma m.length mc) m Sm) (hlen : m.length + lenT x ks ≤ 70000) : HL.Fn Tryd.prog 31 [.slice ma m.length mc, .slice ra re.length rc, .int .i64 i] (fun W => Rd En W (.slice ra re.length rc) re ∧ Apart (keys Sm) (.slice ra re.length rc)) Sm (CodeP 73 (m.length + lenT x ks)) := by
  refine fn_of Tryd.func31 rfl rfl rfl fun w0 hw => ?_
  obtain ⟨hx, hpk, _⟩ := hp.head
  have hilt := (List.getElem?_eq_some_iff.1 hx).1
  have hsl := hw.1.sl
  have hbl := hsl.le
  have hox := hre x (List.mem_of_getElem? hx)
  have hx8 := hr8 x (List.mem_of_getElem? hx)
  have hok : ndOk x = true := hp.wf.1
  have hop : 1 ≤ x.op ∧ x.op ≤ 8 := (flds_iff.1 (by simp only [ndOk, Bool.and_eq_true] at hok; exact hok.1)).1
  have hkn : (ks.num : Int) = x.kids := hp.wf.2.1
  have hpkl := hpk.le
  have hkl := F.num_le ks
  refine c_seq fun _ hK1 => ?_
  refine c_region ?_
  refine o_step rfl (s_assign rfl) ?_
  refine o_nil ?_
  refine x_then (hK1 _ _ ?_)
  refine c_seq fun _ hK2 => ?_
  refine c_region ?_
  refine o_step rfl (s_move rfl) ?_
  refine o_step rfl (s_move rfl) ?_
  refine o_step rfl (s_idx rfl rfl hsl (by omega)) ?_
  refine o_step rfl (s_ldB rfl ((RdK.old hw.1 hw.2).lds i hx rfl) (by rfl)) ?_
  refine o_alloc (l := En zN) (by rw [En_zero]; rfl) rfl fun b7 => ?_
  refine o_stW rfl rfl upA lnA lnA onA ?_
  refine o_nil ?_
  refine x_then (hK2 _ _ ?_)
  refine c_seq fun _ hK3 => ?_
  refine c_seq fun _ hK4 => ?_
  refine c_region ?_
  refine o_step rfl (s_field rfl rfl (by decide)) ?_
  refine o_step rfl (s_ld rfl (.own meA rfl)) ?_
  refine o_step rfl (s_convI rfl (by omega)) ?_
  refine o_nil ?_
  refine x_then (hK4 _ _ ?_)
  refine c_block ?_
  refine c_seq fun _ hK5 => ?_
  refine c_region ?_
  by_cases h1 : x.op = 1
  ·
   refine o_step rfl (step_cast (v' := .bool true) (s_eql rfl rfl) (by rw [decide_eq_true h1])) ?_
   refine o_step rfl (s_assign rfl) ?_
   refine o_nil ?_
   refine x_then (hK5 _ _ ?_)
   refine c_true rfl ?_
   refine c_seq fun _ hK6 => ?_
   refine c_region ?_
   refine o_step rfl (s_move rfl) ?_
   refine o_step rfl (s_field rfl rfl (by decide)) ?_
   refine o_step rfl (s_ldB rfl (RdPK.cels (RdPK.own' (cs := Ec x.set) meA nd_set)) (Ec_lenM _)) ?_
   refine o_step rfl (step_cast (v' := .agg (Ein (⟨1, x.set, 0, 0⟩ : In)).toArray) (s_build (cs := [_, _, _, _, _, _, _]) (vs := [_, _]) rfl rfl (.cons rfl rfl rfl rfl rfl (.cons rfl rfl rfl rfl rfl (.nil)))) (rfl)) ?_
   refine o_bs (E := Ein) (xs := [(⟨1, x.set, 0, 0⟩ : In)]) (vs := [_]) rfl rfl rfl rfl rfl (by decide) (by decide) fun b28 S28 hS28 => ?_
   refine o_app hO (hS28.rdk hiA) rfl rfl rfl rfl (by simp only [List.length_singleton]; omega) (by simp only [List.length_singleton]; omega) rfl pkA fun a29 c29 S29 hS29 => ?_
   refine o_step rfl (s_assign rfl) ?_
   refine o_nil ?_
   refine x_then (hK6 _ _ ?_)
   refine c_ret ?_
   refine x_block_ret (x_then_ret (?_))
   refine x_sub (Sub.refl _) (H' := S29) hzB ?_
   exact x_ret rfl (.tmp rfl (.nil)) ((.of hS29 (by rw [lenT_s (.inl h1)]; simp)))
  ·
   refine o_step rfl (step_cast (v' := .bool false) (s_eql rfl rfl) (by rw [decide_eq_false h1])) ?_
   refine o_step rfl (s_assign rfl) ?_
   refine o_nil ?_
   refine x_then (hK5 _ _ ?_)
   refine c_false rfl ?_
   refine c_seq fun _ hK7 => ?_
   refine c_region ?_
   by_cases h2 : x.op = 2
   ·
    refine o_step rfl (step_cast (v' := .bool true) (s_eql rfl rfl) (by rw [decide_eq_true h2])) ?_
    refine o_step rfl (s_assign rfl) ?_
    refine o_nil ?_
    refine x_then (hK7 _ _ ?_)
    refine c_true rfl ?_
    refine c_seq fun _ hK8 => ?_
    refine c_region ?_
    refine o_step rfl (s_move rfl) ?_
    refine o_step rfl (step_cast (v' := .agg (Ein (⟨2, 0, 0, 0⟩ : In)).toArray) (s_build (cs := [_, _, _, _, _, _, _]) (vs := [_]) rfl rfl (.cons rfl rfl rfl rfl rfl (.nil))) (by rw [Ein_zero]; try rfl)) ?_
    refine o_bs (E := Ein) (xs := [(⟨2, 0, 0, 0⟩ : In)]) (vs := [_]) rfl rfl rfl rfl rfl (by decide) (by decide) fun b34 S34 hS34 => ?_
    refine o_app hO (hS34.rdk hiA) rfl rfl rfl rfl (by simp only [List.length_singleton]; omega) (by simp only [List.length_singleton]; omega) rfl pkA fun a35 c35 S35 hS35 => ?_
    refine o_step rfl (s_assign rfl) ?_
    refine o_nil ?_
    refine x_then (hK8 _ _ ?_)
    refine c_ret ?_
    refine x_block_ret (x_then_ret (?_))
    refine x_sub (Sub.refl _) (H' := S35) hzB ?_
    exact x_ret rfl (.tmp rfl (.nil)) ((.of hS35 (by rw [lenT_s (.inr (.inl h2))]; simp)))
   ·
    refine o_step rfl (step_cast (v' := .bool false) (s_eql rfl rfl) (by rw [decide_eq_false h2])) ?_
    refine o_step rfl (s_assign rfl) ?_
    refine o_nil ?_
    refine x_then (hK7 _ _ ?_)
    refine c_false rfl ?_
    refine c_seq fun _ hK9 => ?_
    refine c_region ?_
    by_cases h3 : x.op = 3
    ·
     refine o_step rfl (step_cast (v' := .bool true) (s_eql rfl rfl) (by rw [decide_eq_true h3])) ?_
     refine o_step rfl (s_assign rfl) ?_
     refine o_nil ?_
     refine x_then (hK9 _ _ ?_)
     refine c_true rfl ?_
     refine c_seq fun _ hK10 => ?_
     refine c_region ?_
     refine o_step rfl (s_move rfl) ?_
     refine o_step rfl (step_cast (v' := .agg (Ein (⟨3, 0, 0, 0⟩ : In)).toArray) (s_build (cs := [_, _, _, _, _, _, _]) (vs := [_]) rfl rfl (.cons rfl rfl rfl rfl rfl (.nil))) (by rw [Ein_zero]; try rfl)) ?_
     refine o_bs (E := Ein) (xs := [(⟨3, 0, 0, 0⟩ : In)]) (vs := [_]) rfl rfl rfl rfl rfl (by decide) (by decide) fun b40 S40 hS40 => ?_
     refine o_app hO (hS40.rdk hiA) rfl rfl rfl rfl (by simp only [List.length_singleton]; omega) (by simp only [List.length_singleton]; omega) rfl pkA fun a41 c41 S41 hS41 => ?_
     refine o_step rfl (s_assign rfl) ?_
     refine o_nil ?_
     refine x_then (hK10 _ _ ?_)
     refine c_ret ?_
     refine x_block_ret (x_then_ret (?_))
     refine x_sub (Sub.refl _) (H' := S41) hzB ?_
     exact x_ret rfl (.tmp rfl (.nil)) ((.of hS41 (by rw [lenT_s (.inr (.inr h3))]; simp)))
    ·
     refine o_step rfl (step_cast (v' := .bool false) (s_eql rfl rfl) (by rw [decide_eq_false h3])) ?_
     refine o_step rfl (s_assign rfl) ?_
     refine o_nil ?_
     refine x_then (hK9 _ _ ?_)
     refine c_false rfl ?_
     refine c_seq fun _ hK11 => ?_
     refine c_region ?_
     by_cases h7 : x.op = 7
     ·
      refine o_step rfl (step_cast (v' := .bool true) (s_eql rfl rfl) (by rw [decide_eq_true h7])) ?_
      refine o_step rfl (s_assign rfl) ?_
      refine o_nil ?_
      refine x_then (hK11 _ _ ?_)
      refine c_true rfl ?_
      refine c_seq fun _ hK12 => ?_
      refine c_region ?_
      refine o_step rfl (s_move rfl) ?_
      refine o_step rfl (s_move rfl) ?_
      refine o_step rfl (s_move rfl) ?_
      refine o_step rfl (s_add rfl rfl (by omega)) ?_
      obtain ⟨y, js, rfl⟩ := grp_kid hp.wf h7
      refine o_call (ih y js (by simp only [F.size]; omega) _ _ _ _ ra rc re (i + 1) _ hre hr8 hrl hpk hO (by rw [lenT_7 h7] at hlen; exact hlen)) rfl rfl rfl pkA (fun w st => ⟨(RdK.old hw.1 hw.2).out w st, St.apart_M st (by exact hiB) hw.1 hw.2 (by decide)⟩) (fun v48 S48 ⟨a48, c48, m48, hv48, hn48, hO48⟩ => ?_)
      subst hv48
      refine o_step rfl (s_assign rfl) ?_
      refine o_nil ?_
      refine x_then (hK12 _ _ ?_)
      refine c_ret ?_
      refine x_block_ret (x_then_ret (?_))
      refine x_sub (Sub.refl _) (H' := S48) hzB ?_
      exact x_ret rfl (.tmp rfl (.nil)) ((.of hO48 (by rw [hn48, lenT_7 h7])))
     ·
      refine o_step rfl (step_cast (v' := .bool false) (s_eql rfl rfl) (by rw [decide_eq_false h7])) ?_
      refine o_step rfl (s_assign rfl) ?_
      refine o_nil ?_
      refine x_then (hK11 _ _ ?_)
      refine c_false rfl ?_
      refine c_seq fun _ hK13 => ?_
      refine c_region ?_
      by_cases h4 : x.op = 4
      ·
       have hlc := lenT_c (ks := ks) h1 h2 h3 (by omega) (by omega)
       refine o_step rfl (step_cast (v' := .bool true) (s_eql rfl rfl) (by rw [decide_eq_true h4])) ?_
       refine o_step rfl (s_assign rfl) ?_
       refine o_nil ?_
       refine x_then (hK13 _ _ ?_)
       refine c_true rfl ?_
       refine c_seq fun _ hK14 => ?_
       refine c_region ?_
       refine o_step rfl (s_move rfl) ?_
       refine o_step rfl (s_add rfl rfl (by omega)) ?_
       refine o_step rfl (s_assign rfl) ?_
       refine o_nil ?_
       refine x_then (hK14 _ _ ?_)
       refine c_seq fun _ hK15 => ?_
       refine c_seq fun _ hK16 => ?_
       refine c_region ?_
       refine o_step rfl (s_assign rfl) ?_
       refine o_nil ?_
       refine x_then (hK16 _ _ ?_)
       refine c_block ?_
       refine c_loop5 (fun (k : Nat) (g : F) (kp : Nat) (q : Sl In) (Sq : Hp) => k + g.num = ks.num ∧ Part re g kp (i + 1 + ks.size) ∧ g.size ≤ ks.size ∧ q.xs.length + lenM g false = m.length + lenM ks false ∧ OwnS Ein 7 73 (.slice q.a q.xs.length q.c) q.xs Sq) (fun (k : Nat) (g : F) (kp : Nat) (q : Sl In) (Sq : Hp) => [(9, .int .i64 k), (8, .int .i64 kp), (0, .slice q.a q.xs.length q.c)]) [(1, _), (2, _), (6, _), (7, _)] (fun (k : Nat) (g : F) (kp : Nat) (q : Sl In) (Sq : Hp) => (b7, .cells (En x).toArray 41 (0, 0)) :: Sq) (fun (k : Nat) (g : F) (kp : Nat) (q : Sl In) (Sq : Hp) => ks.num - k) 0 ks (i + 1) ⟨ma, mc, m⟩ Sm ⟨by omega, hpk, Nat.le_refl _, rfl, hO⟩ sbA sbA hzB ?_
       rintro k g kp q Sq ⟨hkg, hpg, hgs, hln, hQ⟩
       refine c_seq fun _ hK17 => ?_
       refine c_seq fun _ hK18 => ?_
       refine c_region ?_
       refine o_step rfl (s_move rfl) ?_
       refine o_step rfl (s_field rfl rfl (by decide)) ?_
       refine o_step rfl (s_ld rfl (.own meA rfl)) ?_
       by_cases hk : (k : Int) < x.kids
       ·
        obtain ⟨y, ks1, r2, rfl⟩ : ∃ y ks1 r2, g = F.nd y ks1 r2 := by cases g with | nil => simp [F.num] at hkg; omega | nd y a b => exact ⟨y, a, b, rfl⟩
        obtain ⟨hy, hpy, hpt⟩ := hpg.head
        have hsz : ks1.size < ks.size := by simp only [F.size] at hgs; omega
        simp only [F.num] at hkg
        simp only [F.size] at hgs
        refine o_step rfl (step_cast (v' := .bool true) (s_lss rfl rfl) (by rw [decide_eq_true (by omega)])) ?_
        refine o_nil ?_
        refine x_then (hK18 _ _ ?_)
        refine c_true rfl ?_
        refine c_skip ?_
        refine x_then (hK17 _ _ ?_)
        refine c_seq fun _ hK19 => ?_
        refine c_block ?_
        refine c_seq fun _ hK20 => ?_
        refine c_region ?_
        refine o_step rfl (s_move rfl) ?_
        refine o_step rfl (s_move rfl) ?_
        refine o_step rfl (s_move rfl) ?_
        refine o_call (ih y ks1 hsz _ _ _ _ ra rc re kp _ hre hr8 hrl hpg.one hQ (by rw [lenM_cat] at hln; omega)) rfl rfl rfl pkA (fun w st => ⟨(RdK.old hw.1 hw.2).out w st, St.apart_M st (by exact hiB) hw.1 hw.2 (by decide)⟩) (fun v62 S62 ⟨a62, c62, m62, hv62, hn62, hO62⟩ => ?_)
        subst hv62
        refine o_step rfl (s_assign rfl) ?_
        refine o_nil ?_
        refine x_then (hK20 _ _ ?_)
        refine c_region ?_
        refine o_step rfl (s_move rfl) ?_
        refine o_step rfl (s_move rfl) ?_
        refine o_callP (behind_fn ra rc re y ks1 kp _ hpg.one) rfl rfl rfl (fun w st => (RdK.old hw.1 hw.2).out w st) (fun v65 hv65 => ?_)
        subst hv65
        refine o_step rfl (s_assign rfl) ?_
        refine o_nil ?_
        refine x_block ?_
        refine x_then (hK19 _ _ ?_)
        refine c_region ?_
        refine o_step rfl (s_move rfl) ?_
        refine o_step rfl (s_add rfl rfl (by omega)) ?_
        refine o_step rfl (s_assign rfl) ?_
        refine o_nil ?_
        exact x_then (x_inv (k + 1, r2, kp + 1 + ks1.size, ⟨a62, c62, m62⟩, S62) ⟨by dsimp only; omega, hpt, by dsimp only; omega, by dsimp only; rw [lenM_cat] at hln; omega, hO62⟩ (by first | omega | (dsimp only; omega)) sbA hzB)
       ·
        obtain rfl : g = F.nil := F.num_nil (by omega)
        simp only [lenM] at hln
        refine o_step rfl (step_cast (v' := .bool false) (s_lss rfl rfl) (by rw [decide_eq_false (by omega)])) ?_
        refine o_nil ?_
        refine x_then (hK18 _ _ ?_)
        refine c_false rfl ?_
        refine c_exit ?_
        refine x_then_exit ?_
        refine x_then_exit ?_
        refine x_block_exit ?_
        refine x_then (hK15 _ _ ?_)
        refine c_seq fun _ hK21 => ?_
        refine c_region ?_
        refine o_step rfl (s_move rfl) ?_
        refine o_step rfl (s_assign rfl) ?_
        refine o_nil ?_
        refine x_then (hK21 _ _ ?_)
        refine c_ret ?_
        refine x_block_ret (x_then_ret (?_))
        refine x_sub (Sub.refl _) (H' := Sq) hzB ?_
        exact x_ret rfl (.tmp rfl (.nil)) ((.of hQ (by omega)))
      ·
       refine o_step rfl (step_cast (v' := .bool false) (s_eql rfl rfl) (by rw [decide_eq_false h4])) ?_
       refine o_step rfl (s_assign rfl) ?_
       refine o_nil ?_
       refine x_then (hK13 _ _ ?_)
       refine c_false rfl ?_
       refine c_seq fun _ hK22 => ?_
       refine c_region ?_
       by_cases h5 : x.op = 5
       ·
        refine o_step rfl (step_cast (v' := .bool true) (s_eql rfl rfl) (by rw [decide_eq_true h5])) ?_
        refine o_step rfl (s_assign rfl) ?_
        refine o_nil ?_
        refine x_then (hK22 _ _ ?_)
        refine c_true rfl ?_
        refine c_seq fun _ hK23 => ?_
        refine c_region ?_
        refine o_step rfl (s_move rfl) ?_
        refine o_step rfl (s_move rfl) ?_
        refine o_step rfl (s_move rfl) ?_
        refine o_call (sides_step x ks ih h5 ma mc m Sm ra rc re i i1 hre hr8 hrl hp hO hlen) rfl rfl rfl pkA (fun w st => ⟨(RdK.old hw.1 hw.2).out w st, St.apart_M st (by exact hiB) hw.1 hw.2 (by decide)⟩) (fun v72 S72 ⟨a72, c72, m72, hv72, hn72, hO72⟩ => ?_)
        subst hv72
        refine o_step rfl (s_assign rfl) ?_
        refine o_nil ?_
        refine x_then (hK23 _ _ ?_)
        refine c_ret ?_
        refine x_block_ret (x_then_ret (?_))
        refine x_sub (Sub.refl _) (H' := S72) hzB ?_
        exact x_ret rfl (.tmp rfl (.nil)) ((.of hO72 hn72))
       ·
        refine o_step rfl (step_cast (v' := .bool false) (s_eql rfl rfl) (by rw [decide_eq_false h5])) ?_
        refine o_step rfl (s_assign rfl) ?_
        refine o_nil ?_
        refine x_then (hK22 _ _ ?_)
        refine c_false rfl ?_
        refine c_skip ?_
        refine x_block ?_
        refine x_then (hK3 _ _ ?_)
        refine c_seq fun _ hK24 => ?_
        refine c_seq fun _ hK25 => ?_
        refine c_region ?_
        refine o_step rfl (s_assign rfl) ?_
        refine o_nil ?_
        refine x_then (hK25 _ _ ?_)
        refine c_block ?_
        have h6 : x.op = 6 := by omega
        obtain ⟨y, js, rfl⟩ := rep_kid hp.wf h6
        have hrf := rep_flds hok h6
        have hlr := rep_len (ks := .nd y js .nil) h6
        rw [lenM_one] at hlr
        have hyz : js.size < (F.nd y js .nil).size := by simp only [F.size]; omega
        refine c_loop3 (fun (j : Nat) (q : Sl In) (Sq : Hp) => (j : Int) ≤ x.mn ∧ q.xs.length = m.length + j * lenT y js ∧ OwnS Ein 7 73 (.slice q.a q.xs.length q.c) q.xs Sq) (fun (j : Nat) (q : Sl In) (Sq : Hp) => [(10, .int .i64 j), (0, .slice q.a q.xs.length q.c)]) [(1, _), (2, _), (6, _), (7, _)] (fun (j : Nat) (q : Sl In) (Sq : Hp) => (b7, .cells (En x).toArray 41 (0, 0)) :: Sq) (fun (j : Nat) (q : Sl In) (Sq : Hp) => x.mn.toNat - j) 0 ⟨ma, mc, m⟩ Sm ⟨by omega, by simp, hO⟩ sbA sbA hzB ?_
        rintro j q Sq ⟨hj, hq, hQ⟩
        refine c_seq fun _ hK26 => ?_
        refine c_seq fun _ hK27 => ?_
        refine c_region ?_
        refine o_step rfl (s_move rfl) ?_
        refine o_step rfl (s_field rfl rfl (by decide)) ?_
        refine o_step rfl (s_ld rfl (.own meA rfl)) ?_
        by_cases hjm : (j : Int) < x.mn
        ·
         have hms := mul_step (j := j) (n := x.mn.toNat) (L := lenT y js) (by omega)
         refine o_step rfl (step_cast (v' := .bool true) (s_lss rfl rfl) (by rw [decide_eq_true (by omega)])) ?_
         refine o_nil ?_
         refine x_then (hK27 _ _ ?_)
         refine c_true rfl ?_
         refine c_skip ?_
         refine x_then (hK26 _ _ ?_)
         refine c_seq fun _ hK28 => ?_
         refine c_block ?_
         refine c_region ?_
         refine o_step rfl (s_move rfl) ?_
         refine o_step rfl (s_move rfl) ?_
         refine o_step rfl (s_move rfl) ?_
         refine o_step rfl (s_add rfl rfl (by omega)) ?_
         refine o_call (ih y js hyz _ _ _ _ ra rc re (i + 1) _ hre hr8 hrl hpk hQ (by omega)) rfl rfl rfl pkA (fun w st => ⟨(RdK.old hw.1 hw.2).out w st, St.apart_M st (by exact hiB) hw.1 hw.2 (by decide)⟩) (fun v83 S83 ⟨a83, c83, m83, hv83, hn83, hO83⟩ => ?_)
         subst hv83
         refine o_step rfl (s_assign rfl) ?_
         refine o_nil ?_
         refine x_block ?_
         refine x_then (hK28 _ _ ?_)
         refine c_region ?_
         refine o_step rfl (s_move rfl) ?_
         refine o_step rfl (s_add rfl rfl (by omega)) ?_
         refine o_step rfl (s_assign rfl) ?_
         refine o_nil ?_
         exact x_then (x_inv (j + 1, ⟨a83, c83, m83⟩, S83) ⟨by omega, by dsimp only; rw [hn83, hq, Nat.succ_mul]; omega, hO83⟩ (by first | omega | (dsimp only; omega)) sbA hzB)
        ·
         obtain rfl : j = x.mn.toNat := by omega
         refine o_step rfl (step_cast (v' := .bool false) (s_lss rfl rfl) (by rw [decide_eq_false (by omega)])) ?_
         refine o_nil ?_
         refine x_then (hK27 _ _ ?_)
         refine c_false rfl ?_
         refine c_exit ?_
         refine x_then_exit ?_
         refine x_then_exit ?_
         refine x_block_exit ?_
         refine x_then (hK24 _ _ ?_)
         refine c_seq fun _ hK29 => ?_
         refine c_seq fun _ hK30 => ?_
         refine c_region ?_
         refine o_step rfl (s_field rfl rfl (by decide)) ?_
         refine o_step rfl (s_ld rfl (.own meA rfl)) ?_
         by_cases hmx : x.mx = -1
         ·
          rw [if_pos hmx] at hlr
          refine o_step rfl (step_cast (v' := .bool true) (s_eql rfl rfl) (by rw [decide_eq_true (by omega)])) ?_
          refine o_nil ?_
          refine x_then (hK30 _ _ ?_)
          refine c_true rfl ?_
          refine c_seq fun _ hK31 => ?_
          refine c_region ?_
          refine o_step rfl (s_move rfl) ?_
          refine o_step rfl (s_len rfl) ?_
          refine o_step rfl (s_assign rfl) ?_
          refine o_nil ?_
          refine x_then (hK31 _ _ ?_)
          refine c_seq fun _ hK32 => ?_
          refine c_region ?_
          refine o_step rfl (s_move rfl) ?_
          refine o_step rfl (s_move rfl) ?_
          refine o_step rfl (s_add rfl rfl (by omega)) ?_
          refine o_step rfl (step_cast (v' := .agg (Ein (⟨5, 0, (q.xs.length + 1 : Nat), 0⟩ : In)).toArray) (s_build (cs := [_, _, _, _, _, _, _]) (vs := [_, _]) rfl rfl (.cons rfl rfl rfl rfl rfl (.cons rfl rfl rfl rfl rfl (.nil)))) (by rw [Ein_zero]; try rfl)) ?_
          refine o_bs (E := Ein) (xs := [(⟨5, 0, (q.xs.length + 1 : Nat), 0⟩ : In)]) (vs := [_]) rfl rfl rfl rfl rfl (by decide) (by decide) fun b93 S93 hS93 => ?_
          refine o_app hQ (hS93.rdk hiA) rfl rfl rfl rfl (by simp only [List.length_singleton]; omega) (by simp only [List.length_singleton]; omega) rfl pkA fun a94 c94 S94 hS94 => ?_
          have hl94 : (q.xs ++ [(⟨5, 0, (q.xs.length + 1 : Nat), 0⟩ : In)]).length = q.xs.length + 1 := by simp
          refine o_step rfl (s_assign rfl) ?_
          refine o_nil ?_
          refine x_then (hK32 _ _ ?_)
          refine c_seq fun _ hK33 => ?_
          refine c_region ?_
          refine o_step rfl (s_move rfl) ?_
          refine o_step rfl (s_move rfl) ?_
          refine o_step rfl (s_move rfl) ?_
          refine o_step rfl (s_add rfl rfl (by omega)) ?_
          refine o_call (ih y js hyz _ _ _ _ ra rc re (i + 1) _ hre hr8 hrl hpk hS94 (by rw [hl94]; omega)) rfl rfl rfl pkA (fun w st => ⟨(RdK.old hw.1 hw.2).out w st, St.apart_M st (by exact hiB) hw.1 hw.2 (by decide)⟩) (fun v99 S99 ⟨a99, c99, m99, hv99, hn99, hO99⟩ => ?_)
          subst hv99
          refine o_step rfl (s_assign rfl) ?_
          refine o_nil ?_
          refine x_then (hK33 _ _ ?_)
          refine c_seq fun _ hK34 => ?_
          refine c_region ?_
          refine o_step rfl (s_move rfl) ?_
          refine o_step rfl (s_move rfl) ?_
          refine o_step rfl (step_cast (v' := .agg (Ein (⟨4, 0, (q.xs.length : Nat), 0⟩ : In)).toArray) (s_build (cs := [_, _, _, _, _, _, _]) (vs := [_, _]) rfl rfl (.cons rfl rfl rfl rfl rfl (.cons rfl rfl rfl rfl rfl (.nil)))) (by rw [Ein_zero]; try rfl)) ?_
          refine o_bs (E := Ein) (xs := [(⟨4, 0, (q.xs.length : Nat), 0⟩ : In)]) (vs := [_]) rfl rfl rfl rfl rfl (by decide) (by decide) fun b103 S103 hS103 => ?_
          refine o_app hO99 (hS103.rdk hiA) rfl rfl rfl rfl (by simp only [List.length_singleton]; omega) (by simp only [List.length_singleton]; omega) rfl pkA fun a104 c104 S104 hS104 => ?_
          have hO104s := hS104.sl
          have hl104 : (m99 ++ [(⟨4, 0, (q.xs.length : Nat), 0⟩ : In)]).length = m99.length + 1 := by simp
          refine o_step rfl (s_assign rfl) ?_
          refine o_nil ?_
          refine x_then (hK34 _ _ ?_)
          refine c_seq fun _ hK35 => ?_
          refine c_region ?_
          refine o_step rfl (s_move rfl) ?_
          refine o_step rfl (s_move rfl) ?_
          refine o_step rfl (s_move rfl) ?_
          refine o_step rfl (s_len rfl) ?_
          refine o_step rfl (s_idx rfl rfl hO104s (by omega)) ?_
          refine o_step rfl (s_field rfl rfl (by decide)) ?_
          obtain ⟨e0, he0⟩ : ∃ e, (m99 ++ [(⟨4, 0, (q.xs.length : Nat), 0⟩ : In)])[q.xs.length]? = some e := ⟨_, List.getElem?_eq_getElem (by omega)⟩
          refine o_stS (i := q.xs.length) (off := 6) (cs := [.int .i64 ((m99 ++ [(⟨4, 0, (q.xs.length : Nat), 0⟩ : In)]).length : Nat)]) { e0 with y := ((m99 ++ [(⟨4, 0, (q.xs.length : Nat), 0⟩ : In)]).length : Nat) } hS104 pkA rfl rfl rfl rfl (by omega) (by first | rfl | (rw [Int.toNat_natCast]; first | done | rfl)) (by simp) (fun e he => by rw [he0] at he; cases he; rfl) (by simp [Value.oneCell']) fun S' hS' => ?_
          refine o_nil ?_
          refine x_then (hK35 _ _ ?_)
          refine c_seq fun _ hK36 => ?_
          refine c_region ?_
          refine o_step rfl (s_move rfl) ?_
          refine o_step rfl (s_assign rfl) ?_
          refine o_nil ?_
          refine x_then (hK36 _ _ ?_)
          refine c_ret ?_
          refine x_then_ret (?_)
          refine x_sub (Sub.refl _) (H' := S') hzB ?_
          exact x_ret rfl (.tmp rfl (.nil)) ((.of2 hS' List.length_set (by omega)))
         ·
          rw [if_neg hmx] at hlr
          refine o_step rfl (step_cast (v' := .bool false) (s_eql rfl rfl) (by rw [decide_eq_false (by omega)])) ?_
          refine o_nil ?_
          refine x_then (hK30 _ _ ?_)
          refine c_false rfl ?_
          refine c_skip ?_
          refine x_then (hK29 _ _ ?_)
          refine c_seq fun _ hK37 => ?_
          refine c_region ?_
          refine o_step rfl (s_assign rfl) ?_
          refine o_nil ?_
          refine x_then (hK37 _ _ ?_)
          refine c_seq fun _ hK38 => ?_
          refine c_seq fun _ hK39 => ?_
          refine c_region ?_
          refine o_step rfl (s_field rfl rfl (by decide)) ?_
          refine o_step rfl (s_ld rfl (.own meA rfl)) ?_
          refine o_step rfl (s_assign rfl) ?_
          refine o_nil ?_
          refine x_then (hK39 _ _ ?_)
          refine c_block ?_
          refine c_loop6 (fun (k : Nat) (d : Nat) (q : Sl In) (Sq : Hp) (jl : Sl Nat) (Sj : Hp) => (k : Int) = x.mn + d ∧ (k : Int) ≤ x.mx ∧ q.xs.length = m.length + x.mn.toNat * lenT y js + d * (lenT y js + 1) ∧ (∀ t ∈ jl.xs, t < q.xs.length) ∧ jl.xs.length ≤ d ∧ OwnS Ein 7 73 (.slice q.a q.xs.length q.c) q.xs Sq ∧ OwnS Eix 1 3 (.slice jl.a jl.xs.length jl.c) jl.xs Sj) (fun (k : Nat) (d : Nat) (q : Sl In) (Sq : Hp) (jl : Sl Nat) (Sj : Hp) => [(13, .int .i64 k), (0, .slice q.a q.xs.length q.c), (12, .slice jl.a jl.xs.length jl.c)]) [(1, _), (2, _), (6, _), (7, _)] (fun (k : Nat) (d : Nat) (q : Sl In) (Sq : Hp) (jl : Sl Nat) (Sj : Hp) => (b7, .cells (En x).toArray 41 (0, 0)) :: (Sq ++ Sj)) (fun (k : Nat) (d : Nat) (q : Sl In) (Sq : Hp) (jl : Sl Nat) (Sj : Hp) => (x.mx - k).toNat) x.mn.toNat 0 q Sq ⟨none, 0, []⟩ [] ⟨by omega, by omega, by simp; omega, fun t h => (by cases h), by simp, hQ, .nil⟩ (by exact Sub.cons' rfl (by congr 1; omega) sbA) sbA hzB ?_
          rintro k d q Sq jl Sj ⟨hk1, hk2, hq, hjb, hjl, hQ, hJ⟩
          refine c_seq fun _ hK40 => ?_
          refine c_seq fun _ hK41 => ?_
          refine c_region ?_
          refine o_step rfl (s_move rfl) ?_
          refine o_step rfl (s_field rfl rfl (by decide)) ?_
          refine o_step rfl (s_ld rfl (.own meA rfl)) ?_
          by_cases hkm : (k : Int) < x.mx
          ·
           have hms := mul_step (j := d) (n := (x.mx - x.mn).toNat) (L := lenT y js + 1) (by omega)
           refine o_step rfl (step_cast (v' := .bool true) (s_lss rfl rfl) (by rw [decide_eq_true (by omega)])) ?_
           refine o_nil ?_
           refine x_then (hK41 _ _ ?_)
           refine c_true rfl ?_
           refine c_skip ?_
           refine x_then (hK40 _ _ ?_)
           refine c_seq fun _ hK42 => ?_
           refine c_block ?_
           refine c_seq fun _ hK43 => ?_
           refine c_region ?_
           refine o_step rfl (s_move rfl) ?_
           refine o_step rfl (s_move rfl) ?_
           refine o_step rfl (s_len rfl) ?_
           refine o_bs (E := Eix) (xs := [q.xs.length]) (vs := [_]) rfl rfl rfl rfl rfl (by decide) (by decide) fun b123 S123 hS123 => ?_
           refine o_app hJ (hS123.rdk hiA) rfl rfl rfl rfl (by simp only [List.length_singleton]; omega) (by simp only [List.length_singleton]; omega) rfl pkA fun a124 c124 S124 hS124 => ?_
           refine o_step rfl (s_assign rfl) ?_
           refine o_nil ?_
           refine x_then (hK43 _ _ ?_)
           refine c_seq fun _ hK44 => ?_
           refine c_region ?_
           refine o_step rfl (s_move rfl) ?_
           refine o_step rfl (s_move rfl) ?_
           refine o_step rfl (s_len rfl) ?_
           refine o_step rfl (s_add rfl rfl (by omega)) ?_
           refine o_step rfl (step_cast (v' := .agg (Ein (⟨5, 0, (q.xs.length + 1 : Nat), 0⟩ : In)).toArray) (s_build (cs := [_, _, _, _, _, _, _]) (vs := [_, _]) rfl rfl (.cons rfl rfl rfl rfl rfl (.cons rfl rfl rfl rfl rfl (.nil)))) (by rw [Ein_zero]; try rfl)) ?_
           refine o_bs (E := Ein) (xs := [(⟨5, 0, (q.xs.length + 1 : Nat), 0⟩ : In)]) (vs := [_]) rfl rfl rfl rfl rfl (by decide) (by decide) fun b130 S130 hS130 => ?_
           refine o_app hQ (hS130.rdk hiA) rfl rfl rfl rfl (by simp only [List.length_singleton]; omega) (by simp only [List.length_singleton]; omega) rfl pkA fun a131 c131 S131 hS131 => ?_
           have hl131 : (q.xs ++ [(⟨5, 0, (q.xs.length + 1 : Nat), 0⟩ : In)]).length = q.xs.length + 1 := by simp
           refine o_step rfl (s_assign rfl) ?_
           refine o_nil ?_
           refine x_then (hK44 _ _ ?_)
           refine c_region ?_
           refine o_step rfl (s_move rfl) ?_
           refine o_step rfl (s_move rfl) ?_
           refine o_step rfl (s_move rfl) ?_
           refine o_step rfl (s_add rfl rfl (by omega)) ?_
           refine o_call (ih y js hyz _ _ _ _ ra rc re (i + 1) _ hre hr8 hrl hpk hS131 (by rw [hl131]; omega)) rfl rfl rfl pkA (fun w st => ⟨(RdK.old hw.1 hw.2).out w st, St.apart_M st (by exact hiB) hw.1 hw.2 (by decide)⟩) (fun v136 S136 ⟨a136, c136, m136, hv136, hn136, hO136⟩ => ?_)
           subst hv136
           refine o_step rfl (s_assign rfl) ?_
           refine o_nil ?_
           refine x_block ?_
           refine x_then (hK42 _ _ ?_)
           refine c_region ?_
           refine o_step rfl (s_move rfl) ?_
           refine o_step rfl (s_add rfl rfl (by omega)) ?_
           refine o_step rfl (s_assign rfl) ?_
           refine o_nil ?_
           exact x_then (x_inv (k + 1, d + 1, ⟨a136, c136, m136⟩, S136, ⟨a124, c124, jl.xs ++ [q.xs.length]⟩, S124) ⟨by dsimp only; omega, by dsimp only; omega, by dsimp only; rw [hn136, hl131, hq, Nat.succ_mul]; omega, fun t ht => by dsimp only at ht ⊢; rcases List.mem_append.1 ht with ht | ht; (· have := hjb t ht; omega); (· obtain rfl := List.mem_singleton.1 ht; omega), by dsimp only; simp; omega, hO136, hS124⟩ (by dsimp only; omega) sbA hzB)
          ·
           obtain rfl : d = (x.mx - x.mn).toNat := by omega
           refine o_step rfl (step_cast (v' := .bool false) (s_lss rfl rfl) (by rw [decide_eq_false (by omega)])) ?_
           refine o_nil ?_
           refine x_then (hK41 _ _ ?_)
           refine c_false rfl ?_
           refine c_exit ?_
           refine x_then_exit ?_
           refine x_then_exit ?_
           refine x_block_exit ?_
           refine x_then (hK38 _ _ ?_)
           refine c_seq fun _ hK45 => ?_
           refine c_seq fun _ hK46 => ?_
           refine c_region ?_
           refine o_step rfl (s_assign rfl) ?_
           refine o_nil ?_
           refine x_then (hK46 _ _ ?_)
           refine c_block ?_
           refine c_loop3 (fun (j : Nat) (q2 : Sl In) (Sq2 : Hp) => j ≤ jl.xs.length ∧ q2.xs.length = q.xs.length ∧ OwnS Ein 7 73 (.slice q2.a q2.xs.length q2.c) q2.xs Sq2) (fun (j : Nat) (q2 : Sl In) (Sq2 : Hp) => [(14, .int .i64 j), (0, .slice q2.a q2.xs.length q2.c)]) [(6, _), (12, _)] (fun (j : Nat) (q2 : Sl In) (Sq2 : Hp) => (b7, .cells (En x).toArray 41 (0, 0)) :: (Sq2 ++ Sj)) (fun (j : Nat) (q2 : Sl In) (Sq2 : Hp) => jl.xs.length - j) 0 q Sq ⟨by omega, rfl, hQ⟩ sbA sbA hzB ?_
           rintro j q2 Sq2 ⟨hj, hq2, hQ2⟩
           have hQ2s := hQ2.sl
           have hJs := hJ.sl
           refine c_seq fun _ hK47 => ?_
           refine c_seq fun _ hK48 => ?_
           refine c_region ?_
           refine o_step rfl (s_move rfl) ?_
           refine o_step rfl (s_move rfl) ?_
           refine o_step rfl (s_len rfl) ?_
           by_cases hjj : j < jl.xs.length
           ·
            obtain ⟨jt, hjt⟩ : ∃ t, jl.xs[j]? = some t := ⟨_, List.getElem?_eq_getElem hjj⟩
            have hjtl := hjb jt (List.mem_of_getElem? hjt)
            refine o_step rfl (step_cast (v' := .bool true) (s_lss rfl rfl) (by rw [decide_eq_true (by omega)])) ?_
            refine o_nil ?_
            refine x_then (hK48 _ _ ?_)
            refine c_true rfl ?_
            refine c_skip ?_
            refine x_then (hK47 _ _ ?_)
            refine c_seq fun _ hK49 => ?_
            refine c_block ?_
            refine c_region ?_
            refine o_step rfl (s_move rfl) ?_
            refine o_step rfl (s_move rfl) ?_
            refine o_step rfl (s_move rfl) ?_
            refine o_step rfl (s_idx rfl rfl hJs (by omega)) ?_
            refine o_step rfl (s_ld rfl ((hJ.rdk hiA).ld j 0 hjt rfl (by decide) (by omega))) ?_
            refine o_step rfl (s_move rfl) ?_
            refine o_step rfl (s_len rfl) ?_
            refine o_step rfl (s_idx rfl rfl hQ2s (by omega)) ?_
            refine o_step rfl (s_field rfl rfl (by decide)) ?_
            obtain ⟨e0, he0⟩ : ∃ e, q2.xs[jt]? = some e := ⟨_, List.getElem?_eq_getElem (by omega)⟩
            refine o_stS (i := jt) (off := 6) (cs := [.int .i64 (q2.xs.length : Nat)]) { e0 with y := (q2.xs.length : Nat) } hQ2 pkA rfl rfl rfl rfl (by omega) (by first | rfl | (rw [Int.toNat_natCast]; first | done | rfl)) (by simp) (fun e he => by rw [he0] at he; cases he; rfl) (by simp [Value.oneCell']) fun S' hS' => ?_
            refine o_nil ?_
            refine x_block ?_
            refine x_then (hK49 _ _ ?_)
            refine c_region ?_
            refine o_step rfl (s_move rfl) ?_
            refine o_step rfl (s_add rfl rfl (by omega)) ?_
            refine o_step rfl (s_assign rfl) ?_
            refine o_nil ?_
            exact x_then (x_inv (j + 1, ⟨q2.a, q2.c, q2.xs.set jt { e0 with y := (q2.xs.length : Nat) }⟩, S') ⟨by omega, by dsimp only; rw [List.length_set]; exact hq2, by dsimp only; rw [List.length_set]; exact hS'⟩ (by first | omega | (dsimp only; omega)) (by exact Sub.cons rfl (Sub.cons' rfl (by dsimp only; rw [List.length_set]) sbA)) hzB)
           ·
            refine o_step rfl (step_cast (v' := .bool false) (s_lss rfl rfl) (by rw [decide_eq_false (by omega)])) ?_
            refine o_nil ?_
            refine x_then (hK48 _ _ ?_)
            refine c_false rfl ?_
            refine c_exit ?_
            refine x_then_exit ?_
            refine x_then_exit ?_
            refine x_block_exit ?_
            refine x_then (hK45 _ _ ?_)
            refine c_seq fun _ hK50 => ?_
            refine c_region ?_
            refine o_step rfl (s_move rfl) ?_
            refine o_step rfl (s_assign rfl) ?_
            refine o_nil ?_
            refine x_then (hK50 _ _ ?_)
            refine c_ret ?_
            refine ?_
            refine x_sub (Sub.refl _) (H' := Sq2) hzB ?_
            exact x_ret rfl (.tmp rfl (.nil)) ((.of hQ2 (by omega)))

theorem code_fn : ∀ (n : Nat) (x : Nd) (ks : F), ks.size < n → CodeC Tryd.prog 31 73 x ks := by
  intro n
  induction n with
  | zero => intro x ks h; omega
  | succ n ihn => exact fun x ks h ma mc m Sm ra rc re i i1 h1 h2 h3 h4 h5 h6 => code_step x ks (fun y js hj => ihn y js (by omega)) ma mc m Sm ra rc re i i1 h1 h2 h3 h4 h5 h6

set_option maxHeartbeats 1000000 in
theorem rCompile_fn (ra : Option Addr) (rc : Nat) (re : List Nd) (hre : ∀ x ∈ re, -128 ≤ x.op ∧ x.op < 128) : HL.Fn Tryd.prog 9 [.slice ra re.length rc] (fun w => Rd En w (.slice ra re.length rc) re) [] (fun v _ => ∃ sv, v = .tuple #[sv, .int .i64 (errC re)]) := by
  refine fn_of Tryd.func9 rfl rfl rfl fun w0 hw => ?_
  refine c_seq fun _ hK1 => ?_
  refine c_region ?_
  refine o_step rfl (s_assign rfl) ?_
  refine o_step rfl (s_assign rfl) ?_
  refine o_nil ?_
  refine x_then (hK1 _ _ ?_)
  refine c_seq fun _ hK2 => ?_
  refine c_seq fun _ hK3 => ?_
  refine c_region ?_
  refine o_step rfl (s_move rfl) ?_
  refine o_callP (rShaped_fn ra rc re hre) rfl rfl rfl (fun w st => (RdK.old0 hw).out w st) (fun v6 hv6 => ?_)
  subst hv6
  cases hsb : shapedB re
  ·
   refine o_step rfl (s_not rfl) ?_
   refine o_nil ?_
   refine x_then (hK3 _ _ ?_)
   refine c_true rfl ?_
   refine c_seq fun _ hK4 => ?_
   refine c_region ?_
   refine o_step rfl (s_assign rfl) ?_
   refine o_step rfl (s_assign rfl) ?_
   refine o_nil ?_
   refine x_then (hK4 _ _ ?_)
   refine c_ret ?_
   refine x_then_ret (?_)
   exact x_ret rfl (.tmp rfl (.tmp rfl (.nil))) (⟨_, by rw [errC, hsb]; rfl⟩)
  ·
   obtain ⟨_, x, ks, hs⟩ := shapedB_iff.1 hsb
   refine o_step rfl (s_not rfl) ?_
   refine o_nil ?_
   refine x_then (hK3 _ _ ?_)
   refine c_false rfl ?_
   refine c_skip ?_
   refine x_then (hK2 _ _ ?_)
   refine c_seq fun _ hK5 => ?_
   refine c_seq fun _ hK6 => ?_
   refine c_region ?_
   refine o_step rfl (s_move rfl) ?_
   refine o_callP (rRefs_fn ra rc re hre) rfl rfl rfl (fun w st => (RdK.old0 hw).out w st) (fun v9 hv9 => ?_)
   subst hv9
   cases hrb : refsB re
   ·
    have hr8 := no_refs hsb hrb
    refine o_nil ?_
    refine x_then (hK6 _ _ ?_)
    refine c_false rfl ?_
    refine c_skip ?_
    refine x_then (hK5 _ _ ?_)
    refine c_seq fun _ hK7 => ?_
    refine c_region ?_
    refine o_step rfl (s_move rfl) ?_
    refine o_call (code_fn (ks.size + 1) x ks (by omega) none 0 [] [] ra rc re 0 _ hre hr8 (by have := hs.len; omega) hs.part .nil (by have := hs.lenT; simp; omega)) rfl rfl rfl (by exact .nil) (fun w st => ⟨(RdK.old0 hw).out w st, Apart.nil⟩) (fun v11 S11 ⟨a11, c11, m11, hv11, hn11, hO11⟩ => ?_)
    subst hv11
    have hml : m11.length ≤ 65533 := by have := hs.lenT; simp at hn11; omega
    refine o_step rfl (s_assign rfl) ?_
    refine o_nil ?_
    refine x_then (hK7 _ _ ?_)
    refine c_seq fun _ hK8 => ?_
    refine c_region ?_
    refine o_step rfl (s_move rfl) ?_
    refine o_step rfl (step_cast (v' := .agg (Ein (⟨6, 0, 0, 0⟩ : In)).toArray) (s_build (cs := [_, _, _, _, _, _, _]) (vs := [_]) rfl rfl (.cons rfl rfl rfl rfl rfl (.nil))) (by rw [Ein_zero]; try rfl)) ?_
    refine o_bs (E := Ein) (xs := [(⟨6, 0, 0, 0⟩ : In)]) (vs := [_]) rfl rfl rfl rfl rfl (by decide) (by decide) fun b14 S14 hS14 => ?_
    refine o_app hO11 (hS14.rdk hiA) rfl rfl rfl rfl (by simp only [List.length_singleton]; omega) (by simp only [List.length_singleton]; omega) rfl pkA fun a15 c15 S15 hS15 => ?_
    refine o_step rfl (s_assign rfl) ?_
    refine o_step rfl (s_assign rfl) ?_
    refine o_nil ?_
    refine x_then (hK8 _ _ ?_)
    refine c_ret ?_
    refine ?_
    exact x_ret rfl (.tmp rfl (.tmp rfl (.nil))) (⟨_, by rw [errC, hsb, hrb]; rfl⟩)
   ·
    refine o_nil ?_
    refine x_then (hK6 _ _ ?_)
    refine c_true rfl ?_
    refine c_seq fun _ hK9 => ?_
    refine c_region ?_
    refine o_step rfl (s_assign rfl) ?_
    refine o_step rfl (s_assign rfl) ?_
    refine o_nil ?_
    refine x_then (hK9 _ _ ?_)
    refine c_ret ?_
    refine x_then_ret (?_)
    exact x_ret rfl (.tmp rfl (.tmp rfl (.nil))) (⟨_, by rw [errC, hsb, hrb]; rfl⟩)
end Go.Proofs.YtihbhlgognpmmaaDoor
