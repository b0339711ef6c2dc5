/- Part of the proofs over this seat: see the text that holds the theorem. Conditions: each theorem bears its own. -/
import Derived.Test.YtiggliigookieaaDoorMK1Z
import Derived.Test.YtiggliigookieaaDoorQF1Z
import Derived.Test.YtiggliigookieaaDoorMK7Z
namespace Go.Proofs.YtiggliigookieaaDoor
open Go Go.HL Go.Proofs Go.Tab Go.HL.Kl Go.HL.Kl.Mc
def fSp (n i : Nat) : Sp := ⟨((1048576 * n + i + 1 : Nat) : Int), -7⟩
theorem num2_fn (k i : Nat) (hk : k ≤ 1000) (hi : i ≤ 8589934592) : HL.Fn Tryd.prog 25 [.int .i64 k, .int .i64 i] (fun _ => True) [] (fun v _ => v = .int .i64 ((1048576 * k + i + 1 : Nat) : Int)) := by
  refine fn_of Tryd.func25 rfl rfl rfl fun w0 hw => ?_
  refine c_seq fun _ hK1 => ?_
  refine c_region ?_
  refine o_step rfl (s_assign rfl) ?_
  refine o_nil ?_
  refine x_then (hK1 _ _ ?_)
  refine c_seq fun _ hK2 => ?_
  refine c_region ?_
  refine o_step rfl (s_move rfl) ?_
  refine o_step rfl (s_mul rfl rfl (by omega)) ?_
  refine o_step rfl (s_move rfl) ?_
  refine o_step rfl (s_add rfl rfl (by omega)) ?_
  refine o_step rfl (s_add rfl rfl (by omega)) ?_
  refine o_step rfl (s_assign rfl) ?_
  refine o_nil ?_
  refine x_then (hK2 _ _ ?_)
  refine c_ret ?_
  refine ?_
  exact x_ret rfl (.tmp rfl (.nil)) ((congrArg (Value.int .i64) (by omega)))
set_option maxHeartbeats 1000000 in
theorem apartSpans_fn (b : Nat) (cs : List Value) (sls : List (Sl Sp)) (oa : Option Addr) (oc : Nat) (So Si : Hp) (hb : cs[5]? = some (.slice oa sls.length oc)) (hN : sls.length ≤ 400) (hlen : ∀ (j : Nat) (s : Sl Sp), sls[j]? = some s → s.xs.length ≤ 4294967296) (hO : OwnS Esl 1 30 (.slice oa sls.length oc) sls So) (xss0 : List (List Sp)) (hI : OwnL Esp 2 62 sls xss0 Si) : HL.Fn Tryd.prog 37 [.pointer (some ⟨b, 0, none⟩)] (fun _ => True) ((b, .cells cs.toArray 58 (0, 0)) :: (So ++ Si)) (fun v S' => v = .bool true ∧ S' = (b, .cells cs.toArray 58 (0, 0)) :: So) := by
  refine fn_of Tryd.func37 rfl rfl rfl fun w0 hw => ?_
  have hOs := hO.sl
  refine c_seq fun _ hK1 => ?_
  refine c_region ?_
  refine o_step rfl (s_assign rfl) ?_
  refine o_nil ?_
  refine x_then (hK1 _ _ ?_)
  refine c_seq fun _ hK2 => ?_
  refine c_seq fun _ hK3 => ?_
  refine c_region ?_
  refine o_step rfl (s_assign rfl) ?_
  refine o_nil ?_
  refine x_then (hK3 _ _ ?_)
  refine c_block ?_
  refine c_loop3 (fun (n : Nat) (xss : List (List Sp)) (Si : Hp) => n ≤ sls.length ∧ OwnL Esp 2 62 sls xss Si ∧ ∀ j s, j < n → sls[j]? = some s → xss[j]? = some (mkL fSp j s.xs.length)) (fun (n : Nat) (xss : List (List Sp)) (Si : Hp) => [(3, .int .i64 n)]) [(0, _), (2, _)] (fun (n : Nat) (xss : List (List Sp)) (Si : Hp) => (b, .cells cs.toArray 58 (0, 0)) :: (So ++ Si)) (fun (n : Nat) (xss : List (List Sp)) (Si : Hp) => sls.length - n) 0 _ _ ⟨by omega, hI, fun j s hj => by omega⟩ sbA sbA hzB ?_
  rintro n xss Si ⟨hn, hI, hA⟩
  refine c_seq fun _ hK4 => ?_
  refine c_seq fun _ hK5 => ?_
  refine c_region ?_
  refine o_step rfl (s_move rfl) ?_
  refine o_step rfl (s_move rfl) ?_
  refine o_step rfl (s_nil rfl) ?_
  refine o_step rfl (s_field rfl rfl (by decide)) ?_
  refine o_step rfl (s_ld rfl (.own meA hb)) ?_
  refine o_step rfl (s_len rfl) ?_
  refine o_step rfl (s_lss rfl rfl) ?_
  refine o_nil ?_
  refine x_then (hK5 _ _ ?_)
  refine c_if rfl (fun hlt => ?_) (fun hlt => ?_)
  ·
   obtain ⟨s, hs⟩ := sl_get (sls := sls) (n := n) (by omega)
   obtain ⟨xs, S1, Sn0, S2, hx, rfl, hx0, hput⟩ := hI.at hs
   have hxl := hx0.lenv
   have hsm := hlen n s hs
   refine c_skip ?_
   refine x_then (hK4 _ _ ?_)
   refine c_seq fun _ hK6 => ?_
   refine c_block ?_
   refine c_seq fun _ hK7 => ?_
   refine c_region ?_
   refine o_step rfl (s_assign rfl) ?_
   refine o_nil ?_
   refine x_then (hK7 _ _ ?_)
   refine c_block ?_
   refine c_loop3 (fun (i : Nat) (l : List Sp) (Sn : Hp) => i ≤ s.xs.length ∧ Tab.Fill (fSp n) s.xs.length i l ∧ OwnS Esp 2 62 s.v l Sn) (fun (i : Nat) (l : List Sp) (Sn : Hp) => [(4, .int .i64 i)]) [(0, _), (2, _), (3, _), (14, _), (15, _), (16, _), (17, _), (18, _), (19, _), (20, _)] (fun (i : Nat) (l : List Sp) (Sn : Hp) => (b, .cells cs.toArray 58 (0, 0)) :: (So ++ (S1 ++ (Sn ++ S2)))) (fun (i : Nat) (l : List Sp) (Sn : Hp) => s.xs.length - i) 0 _ _ ⟨by omega, .zero hxl, hx0⟩ sbA sbA hzB ?_
   rintro i l Sn ⟨hi, hl, hln⟩
   have hll := hln.lenv
   have hlsl := hln.sl
   rw [hll] at hlsl
   refine c_seq fun _ hK8 => ?_
   refine c_seq fun _ hK9 => ?_
   refine c_region ?_
   refine o_step rfl (s_move rfl) ?_
   refine o_step rfl (s_move rfl) ?_
   refine o_step rfl (s_nil rfl) ?_
   refine o_step rfl (s_field rfl rfl (by decide)) ?_
   refine o_step rfl (s_ld rfl (.own meA hb)) ?_
   refine o_step rfl (s_move rfl) ?_
   refine o_step rfl (s_idx rfl rfl hOs (by omega)) ?_
   refine o_step rfl (s_ld rfl ((hO.rdk hiA).ld n 0 hs rfl (by decide) (by omega))) ?_
   refine o_step rfl (s_len rfl) ?_
   refine o_step rfl (s_lss rfl rfl) ?_
   refine o_nil ?_
   refine x_then (hK9 _ _ ?_)
   refine c_if rfl (fun hli => ?_) (fun hli => ?_)
   ·
    refine c_skip ?_
    refine x_then (hK8 _ _ ?_)
    refine c_seq fun _ hK10 => ?_
    refine c_block ?_
    refine c_drawE ((b, .cells cs.toArray 58 (0, 0)) :: So) (fun i => false) ?_
    refine e_take 0 rfl (by kernel_rfl) (by kernel_rfl) (by kernel_rfl) (by kernel_rfl) (fun _ _ => rfl) rfl hzB (s_move rfl) ?_
    refine e_take 1 rfl (by kernel_rfl) (by kernel_rfl) (by kernel_rfl) (by kernel_rfl) (fun _ _ => rfl) rfl hzB (s_nil rfl) ?_
    refine e_take 2 rfl (by kernel_rfl) (by kernel_rfl) (by kernel_rfl) (by kernel_rfl) (fun _ _ => rfl) rfl hzB (s_field rfl rfl (by decide)) ?_
    refine e_take 3 rfl (by kernel_rfl) (by kernel_rfl) (by kernel_rfl) (by kernel_rfl) (fun _ _ => rfl) rfl hzB (s_ld rfl (.own meA hb)) ?_
    refine e_take 4 rfl (by kernel_rfl) (by kernel_rfl) (by kernel_rfl) (by kernel_rfl) (fun _ _ => rfl) rfl hzB (s_move rfl) ?_
    refine e_take 5 rfl (by kernel_rfl) (by kernel_rfl) (by kernel_rfl) (by kernel_rfl) (fun _ _ => rfl) rfl hzB (s_idx rfl rfl hOs (by omega)) ?_
    refine e_take 6 rfl (by kernel_rfl) (by kernel_rfl) (by kernel_rfl) (by kernel_rfl) (fun _ _ => rfl) rfl hzB (s_ld rfl ((hO.rdk hiA).ld n 0 hs rfl (by decide) (by omega))) ?_
    refine e_take 7 rfl (by kernel_rfl) (by kernel_rfl) (by kernel_rfl) (by kernel_rfl) (fun _ _ => rfl) rfl hzB (s_move rfl) ?_
    refine e_take 8 rfl (by kernel_rfl) (by kernel_rfl) (by kernel_rfl) (by kernel_rfl) (fun _ _ => rfl) rfl hzB (s_move rfl) ?_
    refine e_take 9 rfl (by kernel_rfl) (by kernel_rfl) (by kernel_rfl) (by kernel_rfl) (fun _ _ => rfl) rfl hzB (s_move rfl) ?_
    refine e_one 10 rfl (by kernel_rfl) ?_
    refine o_callP (num2_fn n i (by omega) (by omega)) rfl rfl rfl (fun _ _ => trivial) (fun v45 hv45 => ?_)
    subst hv45
    refine o_nil ?_
    refine x_oneS hzB ?_
    refine e_take 11 rfl (by kernel_rfl) (by kernel_rfl) (by kernel_rfl) (by kernel_rfl) (fun _ _ => rfl) rfl hzB (step_cast (v' := .agg (Esp (fSp n i)).toArray) (s_build (cs := [_, _]) (vs := [_, _]) rfl rfl (.cons rfl rfl rfl rfl rfl (.cons rfl rfl rfl rfl rfl (.nil)))) rfl) ?_
    refine e_take 12 rfl (by kernel_rfl) (by kernel_rfl) (by kernel_rfl) (by kernel_rfl) (fun _ _ => rfl) rfl hzB (s_idx rfl rfl hlsl (by omega)) ?_
    refine e_one 13 rfl (by kernel_rfl) ?_
    refine o_stSE i (fSp n i) hln pkA rfl rfl (by omega) (by rw [Int.toNat_natCast]; rfl) fun S' hS' => ?_
    refine o_nil ?_
    refine x_oneS hzB ?_
    refine e_done (by kernel_rfl) ?_
    refine x_block ?_
    refine x_then (hK10 _ _ ?_)
    refine c_region ?_
    refine o_step rfl (s_move rfl) ?_
    refine o_step rfl (s_add rfl rfl (by omega)) ?_
    refine o_step rfl (s_assign rfl) ?_
    refine o_nil ?_
    exact x_then (x_inv (i + 1, _, S') ⟨by omega, hl.step (by omega) rfl, hS'⟩ (by first | omega | (dsimp only; omega)) sbA hzB)
   ·
    refine c_exit ?_
    refine x_then_exit ?_
    refine x_then_exit ?_
    refine x_block_exit ?_
    refine x_block ?_
    refine x_then (hK6 _ _ ?_)
    refine c_region ?_
    refine o_step rfl (s_move rfl) ?_
    refine o_step rfl (s_add rfl rfl (by omega)) ?_
    refine o_step rfl (s_assign rfl) ?_
    refine o_nil ?_
    exact x_then (x_inv (n + 1, xss.set n l, S1 ++ (Sn ++ S2)) ⟨by omega, hput _ _ hln, set_all hA hs (mkL_fill hl (by omega)) hx⟩ (by first | omega | (dsimp only; omega)) sbA hzB)
  ·
   have hF : OwnF Esp 2 62 fSp 0 (sls.drop 0) Si := hI.all (n := 0) (fun j s hs => by rw [Nat.zero_add]; exact hA j s (by have := (List.getElem?_eq_some_iff.1 hs).1; omega) hs)
   refine c_exit ?_
   refine x_then_exit ?_
   refine x_then_exit ?_
   refine x_block_exit ?_
   refine x_then (hK2 _ _ ?_)
   refine c_seq fun _ hK11 => ?_
   refine c_region ?_
   refine o_step rfl (s_assign rfl) ?_
   refine o_step rfl (s_assign rfl) ?_
   refine o_nil ?_
   refine x_then (hK11 _ _ ?_)
   refine c_seq fun _ hK12 => ?_
   refine c_seq fun _ hK13 => ?_
   refine c_region ?_
   refine o_step rfl (s_assign rfl) ?_
   refine o_nil ?_
   refine x_then (hK13 _ _ ?_)
   refine c_block ?_
   refine c_loop7 (fun (n : Nat) (q1 : Sl (Sl Sp)) (q2 : Sl (Sl Sp)) (P1 : Hp) (P2 : Hp) (G : Hp) (R : Hp) => n ≤ sls.length ∧ q1.xs.length = n ∧ q2.xs.length = n ∧ OwnS Esl 1 30 (.slice q1.a q1.xs.length q1.c) q1.xs P1 ∧ OwnS Esl 1 30 (.slice q2.a q2.xs.length q2.c) q2.xs P2 ∧ OwnF Esp 2 62 fSp n (sls.drop n) R ∧ Done Esp fSp sls q1.xs q2.xs G n) (fun (n : Nat) (q1 : Sl (Sl Sp)) (q2 : Sl (Sl Sp)) (P1 : Hp) (P2 : Hp) (G : Hp) (R : Hp) => [(7, .int .i64 n), (5, .slice q1.a q1.xs.length q1.c), (6, .slice q2.a q2.xs.length q2.c)]) [(0, _), (2, _)] (fun (n : Nat) (q1 : Sl (Sl Sp)) (q2 : Sl (Sl Sp)) (P1 : Hp) (P2 : Hp) (G : Hp) (R : Hp) => (b, .cells cs.toArray 58 (0, 0)) :: (So ++ (P1 ++ (P2 ++ (G ++ R))))) (fun (n : Nat) (q1 : Sl (Sl Sp)) (q2 : Sl (Sl Sp)) (P1 : Hp) (P2 : Hp) (G : Hp) (R : Hp) => sls.length - n) 0 ⟨none, 0, []⟩ ⟨none, 0, []⟩ [] [] [] _ ⟨by omega, rfl, rfl, .nil, .nil, hF, .zero⟩ sbA sbA hzB ?_
   rintro n q1 q2 P1 P2 G R ⟨hn, hq1, hq2, hP1, hP2, hR, hD⟩
   refine c_seq fun _ hK14 => ?_
   refine c_seq fun _ hK15 => ?_
   refine c_region ?_
   refine o_step rfl (s_move rfl) ?_
   refine o_step rfl (s_move rfl) ?_
   refine o_step rfl (s_nil rfl) ?_
   refine o_step rfl (s_field rfl rfl (by decide)) ?_
   refine o_step rfl (s_ld rfl (.own meA hb)) ?_
   refine o_step rfl (s_len rfl) ?_
   refine o_step rfl (s_lss rfl rfl) ?_
   refine o_nil ?_
   refine x_then (hK15 _ _ ?_)
   refine c_if rfl (fun hlt => ?_) (fun hlt => ?_)
   ·
    obtain ⟨s, hs⟩ := sl_get (sls := sls) (n := n) (by omega)
    have hsm := hlen n s hs
    obtain ⟨Sa, R2, rfl, hSa, hR2⟩ := hR.head hs
    have hSal : (Value.slice s.a (mkL fSp n s.xs.length).length s.c) = s.v := by rw [mkL_len]; rfl
    have hSas := hSa.sl
    rw [mkL_len] at hSas
    refine c_skip ?_
    refine x_then (hK14 _ _ ?_)
    refine c_seq fun _ hK16 => ?_
    refine c_block ?_
    refine c_seq fun _ hK17 => ?_
    refine c_region ?_
    refine o_step rfl (s_move rfl) ?_
    refine o_step rfl (s_nil rfl) ?_
    refine o_step rfl (s_field rfl rfl (by decide)) ?_
    refine o_step rfl (s_ld rfl (.own meA hb)) ?_
    refine o_step rfl (s_move rfl) ?_
    refine o_step rfl (s_idx rfl rfl hOs (by omega)) ?_
    refine o_step rfl (s_ld rfl ((hO.rdk hiA).ld n 0 hs rfl (by decide) (by omega))) ?_
    refine o_step rfl (s_assign rfl) ?_
    refine o_nil ?_
    refine x_then (hK17 _ _ ?_)
    refine c_seq fun _ hK18 => ?_
    refine c_seq fun _ hK19 => ?_
    refine c_region ?_
    refine o_step rfl (s_move rfl) ?_
    refine o_step rfl (s_len rfl) ?_
    refine o_step rfl (s_assign rfl) ?_
    refine o_nil ?_
    refine x_then (hK19 _ _ ?_)
    refine c_block ?_
    refine c_loop8 (fun (i : Nat) (l : List Sp) (la : Option Addr) (lc : Nat) (q3 : Sl (Sl Sp)) (P3 : Hp) (Sk : Hp) (Gk : Hp) => s.xs.length ≤ i ∧ i ≤ s.xs.length + 70 ∧ l = mkL fSp n i ∧ Keep Esp 2 62 s.v (mkL fSp n s.xs.length) (.slice la l.length lc) l Sk Gk ∧ OwnS Esl 1 30 (.slice q3.a q3.xs.length q3.c) q3.xs P3 ∧ ((i = s.xs.length ∧ q3.xs = q1.xs) ∨ (s.xs.length < i ∧ ∃ o, q3.xs = q1.xs ++ [o] ∧ o.xs = mkL fSp n (s.xs.length + 1) ∧ IsSl o.v o.xs.length ∧ Keep Esp 2 62 o.v o.xs (.slice la l.length lc) l Sk Gk))) (fun (i : Nat) (l : List Sp) (la : Option Addr) (lc : Nat) (q3 : Sl (Sl Sp)) (P3 : Hp) (Sk : Hp) (Gk : Hp) => [(9, .int .i64 i), (8, .slice la l.length lc), (5, .slice q3.a q3.xs.length q3.c)]) [(0, _), (2, _), (6, _), (7, _), (48, _), (49, _), (50, _), (51, _), (52, _), (53, _), (54, _), (57, _), (58, _), (59, _), (60, _), (61, _), (62, _), (63, _), (64, _), (65, _)] (fun (i : Nat) (l : List Sp) (la : Option Addr) (lc : Nat) (q3 : Sl (Sl Sp)) (P3 : Hp) (Sk : Hp) (Gk : Hp) => (b, .cells cs.toArray 58 (0, 0)) :: (So ++ (P3 ++ (P2 ++ (Sk ++ (Gk ++ (G ++ R2))))))) (fun (i : Nat) (l : List Sp) (la : Option Addr) (lc : Nat) (q3 : Sl (Sl Sp)) (P3 : Hp) (Sk : Hp) (Gk : Hp) => s.xs.length + 70 - i) s.xs.length (mkL fSp n s.xs.length) s.a s.c q1 P1 Sa [] ⟨by omega, by omega, rfl, by rw [hSal]; exact Keep.start hSa, hP1, .inl ⟨rfl, rfl⟩⟩ (by exact Sub.cons rfl (Sub.cons' rfl (by rw [mkL_len]; rfl) (Sub.cons rfl .nil))) sbA hzB ?_
    rintro i l la lc q3 P3 Sk Gk ⟨hi1, hi2, hl, hK, hP3, hc⟩
    have hll : l.length = i := by rw [hl, mkL_len]
    refine c_seq fun _ hK20 => ?_
    refine c_seq fun _ hK21 => ?_
    refine c_region ?_
    refine o_step rfl (s_move rfl) ?_
    refine o_step rfl (s_move rfl) ?_
    refine o_step rfl (s_nil rfl) ?_
    refine o_step rfl (s_field rfl rfl (by decide)) ?_
    refine o_step rfl (s_ld rfl (.own meA hb)) ?_
    refine o_step rfl (s_move rfl) ?_
    refine o_step rfl (s_idx rfl rfl hOs (by omega)) ?_
    refine o_step rfl (s_ld rfl ((hO.rdk hiA).ld n 0 hs rfl (by decide) (by omega))) ?_
    refine o_step rfl (s_len rfl) ?_
    refine o_step rfl (s_add rfl rfl (by omega)) ?_
    refine o_step rfl (s_lss rfl rfl) ?_
    refine o_nil ?_
    refine x_then (hK21 _ _ ?_)
    refine c_if rfl (fun hli => ?_) (fun hli => ?_)
    ·
     refine c_skip ?_
     refine x_then (hK20 _ _ ?_)
     refine c_seq fun _ hK22 => ?_
     refine c_block ?_
     refine c_seq fun _ hK23 => ?_
     refine c_region ?_
     refine o_step rfl (s_move rfl) ?_
     refine o_step rfl (s_move rfl) ?_
     refine o_step rfl (s_move rfl) ?_
     refine o_callP (num2_fn n i (by omega) (by omega)) rfl rfl rfl (fun _ _ => trivial) (fun v82 hv82 => ?_)
     subst hv82
     refine o_step rfl (step_cast (v' := .agg (Esp (fSp n i)).toArray) (s_build (cs := [_, _]) (vs := [_, _]) rfl rfl (.cons rfl rfl rfl rfl rfl (.cons rfl rfl rfl rfl rfl (.nil)))) rfl) ?_
     refine o_bs (E := Esp) (xs := [fSp n i]) (vs := [_]) rfl rfl rfl rfl rfl (by decide) (by decide) fun b84 S84 hS84 => ?_
     refine o_app2 hK.own (hS84.rdk hiA) rfl rfl rfl rfl (by simp only [List.length_singleton]; omega) (by simp only [List.length_singleton]; omega) rfl pkA fun a85 c85 S85 G85 hS85 hG85 => ?_
     refine o_step rfl (s_assign rfl) ?_
     refine o_nil ?_
     refine x_then (hK23 _ _ ?_)
     refine c_seq fun _ hK24 => ?_
     refine c_region ?_
     refine o_step rfl (s_move rfl) ?_
     refine o_step rfl (s_move rfl) ?_
     refine o_step rfl (s_nil rfl) ?_
     refine o_step rfl (s_field rfl rfl (by decide)) ?_
     refine o_step rfl (s_ld rfl (.own meA hb)) ?_
     refine o_step rfl (s_move rfl) ?_
     refine o_step rfl (s_idx rfl rfl hOs (by omega)) ?_
     refine o_step rfl (s_ld rfl ((hO.rdk hiA).ld n 0 hs rfl (by decide) (by omega))) ?_
     refine o_step rfl (s_len rfl) ?_
     by_cases hie : i = s.xs.length
     ·
      have hq3 := (hc.resolve_right (fun h => absurd h.1 (by omega))).2
      have hq3l := congrArg List.length hq3
      refine o_step rfl (step_cast (v' := .bool true) (s_eql rfl rfl) (by rw [decide_eq_true (by omega)])) ?_
      refine o_nil ?_
      refine x_then (hK24 _ _ ?_)
      refine c_true rfl ?_
      refine c_region ?_
      refine o_step rfl (s_move rfl) ?_
      refine o_step rfl (s_move rfl) ?_
      refine o_bs (E := Esl) (xs := [⟨a85, c85, l ++ [fSp n i]⟩]) (vs := [_]) rfl rfl rfl rfl rfl (by decide) (by decide) fun b98 S98 hS98 => ?_
      refine o_app hP3 (hS98.rdk hiA) rfl rfl rfl rfl (by simp only [List.length_singleton]; omega) (by simp only [List.length_singleton]; omega) rfl pkA fun a99 c99 S99 hS99 => ?_
      refine o_step rfl (s_assign rfl) ?_
      refine o_nil ?_
      refine x_block ?_
      refine x_then (hK22 _ _ ?_)
      refine c_region ?_
      refine o_step rfl (s_move rfl) ?_
      refine o_step rfl (s_add rfl rfl (by omega)) ?_
      refine o_step rfl (s_assign rfl) ?_
      refine o_nil ?_
      exact x_then (x_inv (i + 1, l ++ [fSp n i], a85, c85, ⟨a99, c99, q3.xs ++ [⟨a85, c85, l ++ [fSp n i]⟩]⟩, S99, S85, G85 ++ Gk) ⟨by omega, by omega, by rw [hl]; exact mkL_succ, hK.app hS85 hG85, hS99, .inr ⟨by omega, ⟨a85, c85, l ++ [fSp n i]⟩, by rw [hq3], by show l ++ _ = _; rw [hl, mkL_succ, hie], hS85.sl, (Keep.start hS85).more (fun _ h => by cases h)⟩⟩ (by first | omega | (dsimp only; omega)) sbA (by simp only [List.append_assoc]; exact hzB))
     ·
      obtain ⟨hgt, o, hq3, ho, hos, hKo⟩ := hc.resolve_left (fun h => hie h.1)
      refine o_step rfl (step_cast (v' := .bool false) (s_eql rfl rfl) (by rw [decide_eq_false (by omega)])) ?_
      refine o_nil ?_
      refine x_then (hK24 _ _ ?_)
      refine c_false rfl ?_
      refine c_skip ?_
      refine x_block ?_
      refine x_then (hK22 _ _ ?_)
      refine c_region ?_
      refine o_step rfl (s_move rfl) ?_
      refine o_step rfl (s_add rfl rfl (by omega)) ?_
      refine o_step rfl (s_assign rfl) ?_
      refine o_nil ?_
      exact x_then (x_inv (i + 1, l ++ [fSp n i], a85, c85, q3, P3, S85, G85 ++ Gk) ⟨by omega, by omega, by rw [hl]; exact mkL_succ, hK.app hS85 hG85, hP3, .inr ⟨by omega, o, hq3, ho, hos, hKo.app hS85 hG85⟩⟩ (by first | omega | (dsimp only; omega)) sbA (by simp only [List.append_assoc]; exact hzB))
    ·
     refine c_exit ?_
     refine x_then_exit ?_
     refine x_then_exit ?_
     refine x_block_exit ?_
     refine x_then (hK18 _ _ ?_)
     refine c_region ?_
     refine o_step rfl (s_move rfl) ?_
     refine o_step rfl (s_move rfl) ?_
     refine o_bs (E := Esl) (xs := [⟨la, lc, l⟩]) (vs := [_]) rfl rfl rfl rfl rfl (by decide) (by decide) fun b102 S102 hS102 => ?_
     refine o_app hP2 (hS102.rdk hiA) rfl rfl rfl rfl (by simp only [List.length_singleton]; omega) (by simp only [List.length_singleton]; omega) rfl pkA fun a103 c103 S103 hS103 => ?_
     refine o_step rfl (s_assign rfl) ?_
     refine o_nil ?_
     refine x_block ?_
     refine x_then (hK16 _ _ ?_)
     refine c_region ?_
     refine o_step rfl (s_move rfl) ?_
     refine o_step rfl (s_add rfl rfl (by omega)) ?_
     refine o_step rfl (s_assign rfl) ?_
     refine o_nil ?_
     obtain ⟨hgt, o, hq3, ho, hos, hKo⟩ := hc.resolve_left (fun h => absurd h.1 (by omega))
     exact x_then (x_inv (n + 1, q3, ⟨a103, c103, q2.xs ++ [⟨la, lc, l⟩]⟩, P3, S103, Sk ++ (Gk ++ G), R2) ⟨by omega, by rw [hq3]; simp; omega, by simp; omega, hP3, hS103, hR2, by rw [hq3, ← List.append_assoc]; exact hD.step hq1 hq2 hs ho (by show l = _; rw [hl]; congr 1; omega) hSas hos hK.own.sl hK.rds hKo.rds (hK.own.rds.mono HIn.appL)⟩ (by first | omega | (dsimp only; omega)) sbA (by simp only [List.append_assoc]; exact hzB))
   ·
    obtain rfl : n = sls.length := by omega
    have hP1s := hP1.sl
    have hP2s := hP2.sl
    refine c_exit ?_
    refine x_then_exit ?_
    refine x_then_exit ?_
    refine x_block_exit ?_
    refine x_then (hK12 _ _ ?_)
    refine c_seq fun _ hK25 => ?_
    refine c_seq fun _ hK26 => ?_
    refine c_region ?_
    refine o_step rfl (s_assign rfl) ?_
    refine o_nil ?_
    refine x_then (hK26 _ _ ?_)
    refine c_block ?_
    -- not carried: 2
    refine c_loopB (fun (j : Nat) => j ≤ sls.length) (fun (j : Nat) => [(10, .int .i64 j)]) [(0, _), (5, _), (6, _)] (fun (j : Nat) => (b, .cells cs.toArray 58 (0, 0)) :: (So ++ (P1 ++ (P2 ++ (G ++ R))))) (fun (j : Nat) => sls.length - j) 0 (by omega) sbA sbA hzB ?_
    rintro j hj
    refine c_seq fun _ hK27 => ?_
    refine c_seq fun _ hK28 => ?_
    refine c_region ?_
    refine o_step rfl (s_move rfl) ?_
    refine o_step rfl (s_move rfl) ?_
    refine o_step rfl (s_len rfl) ?_
    refine o_step rfl (s_lss rfl rfl) ?_
    refine o_nil ?_
    refine x_then (hK28 _ _ ?_)
    refine c_if rfl (fun hlt => ?_) (fun hlt => ?_)
    ·
     obtain ⟨s, o, m, hs, ho, hm, hox, hmx, is_, io, im, rs, ro, rm⟩ := hD.out j (by omega)
     have hml : m.xs.length = s.xs.length + 70 := by rw [hmx, mkL_len]
     have hol : o.xs.length = s.xs.length + 1 := by rw [hox, mkL_len]
     have hsm := hlen j s hs
     refine c_skip ?_
     refine x_then (hK27 _ _ ?_)
     refine c_seq fun _ hK29 => ?_
     refine c_block ?_
     refine c_seq fun _ hK30 => ?_
     refine c_region ?_
     refine o_step rfl (s_assign rfl) ?_
     refine o_nil ?_
     refine x_then (hK30 _ _ ?_)
     refine c_block ?_
     refine c_loopB (fun (i : Nat) => i ≤ s.xs.length + 70) (fun (i : Nat) => [(11, .int .i64 i)]) [(0, _), (5, _), (6, _), (10, _), (104, _), (105, _), (106, _), (107, _)] (fun (i : Nat) => (b, .cells cs.toArray 58 (0, 0)) :: (So ++ (P1 ++ (P2 ++ (G ++ R))))) (fun (i : Nat) => s.xs.length + 70 - i) 0 (by omega) sbA sbA hzB ?_
     rintro i hi
     refine c_seq fun _ hK31 => ?_
     refine c_seq fun _ hK32 => ?_
     refine c_region ?_
     refine o_step rfl (s_move rfl) ?_
     refine o_step rfl (s_move rfl) ?_
     refine o_step rfl (s_move rfl) ?_
     refine o_step rfl (s_idx rfl rfl hP2s (by omega)) ?_
     refine o_step rfl (s_ld rfl ((hP2.rdk hiA).ld j 0 hm rfl (by decide) (by omega))) ?_
     refine o_step rfl (s_len rfl) ?_
     refine o_step rfl (s_lss rfl rfl) ?_
     refine o_nil ?_
     refine x_then (hK32 _ _ ?_)
     refine c_if rfl (fun hli => ?_) (fun hli => ?_)
     ·
      refine c_skip ?_
      refine x_then (hK31 _ _ ?_)
      refine c_seq fun _ hK33 => ?_
      refine c_block ?_
      refine c_seq fun _ hK34 => ?_
      refine c_region ?_
      refine o_step rfl (s_move rfl) ?_
      refine o_step rfl (s_move rfl) ?_
      refine o_step rfl (s_idx rfl rfl hP2s (by omega)) ?_
      refine o_step rfl (s_ld rfl ((hP2.rdk hiA).ld j 0 hm rfl (by decide) (by omega))) ?_
      refine o_step rfl (s_move rfl) ?_
      refine o_step rfl (s_idx rfl rfl im (by omega)) ?_
      refine o_step rfl (s_ldB rfl ((rm.rdk hiA).lds i (by rw [hmx]; exact mkL_get (by omega)) rfl) rfl) ?_
      refine o_alloc (l := Esp ⟨0, 0⟩) rfl rfl fun b12 => ?_
      refine o_stW rfl rfl upA (by rfl) (by rfl) (Enc.one _) ?_
      refine o_nil ?_
      refine x_then (hK34 _ _ ?_)
      refine c_seq fun _ hK35 => ?_
      refine c_seq fun _ hK36 => ?_
      refine c_region ?_
      refine o_step rfl (s_move rfl) ?_
      refine o_step rfl (s_move rfl) ?_
      refine o_step rfl (s_nil rfl) ?_
      refine o_step rfl (s_field rfl rfl (by decide)) ?_
      refine o_step rfl (s_ld rfl (.own meA hb)) ?_
      refine o_step rfl (s_move rfl) ?_
      refine o_step rfl (s_idx rfl rfl hOs (by omega)) ?_
      refine o_step rfl (s_ld rfl ((hO.rdk hiA).ld j 0 hs rfl (by decide) (by omega))) ?_
      refine o_step rfl (s_len rfl) ?_
      by_cases hin : i < s.xs.length
      ·
       refine o_step rfl (step_cast (v' := .bool true) (s_lss rfl rfl) (by rw [decide_eq_true (by omega)])) ?_
       refine o_nil ?_
       refine x_then (hK36 _ _ ?_)
       refine c_true rfl ?_
       refine c_region ?_
       refine o_step rfl (s_move rfl) ?_
       refine o_step rfl (s_nil rfl) ?_
       refine o_step rfl (s_field rfl rfl (by decide)) ?_
       refine o_step rfl (s_ld rfl (.own meA hb)) ?_
       refine o_step rfl (s_move rfl) ?_
       refine o_step rfl (s_idx rfl rfl hOs (by omega)) ?_
       refine o_step rfl (s_ld rfl ((hO.rdk hiA).ld j 0 hs rfl (by decide) (by omega))) ?_
       refine o_step rfl (s_move rfl) ?_
       refine o_step rfl (s_idx rfl rfl is_ (by omega)) ?_
       refine o_step rfl (s_ldB rfl ((rs.rdk hiA).lds i (mkL_get (by omega)) rfl) rfl) ?_
       refine o_stW rfl rfl upA (by rfl) (by rfl) (Enc.one _) ?_
       refine o_nil ?_
       refine x_then (hK35 _ _ ?_)
       refine c_seq fun _ hK37 => ?_
       refine c_seq fun _ hK38 => ?_
       refine c_region ?_
       refine o_step rfl (s_move rfl) ?_
       refine o_step rfl (s_move rfl) ?_
       refine o_step rfl (s_nil rfl) ?_
       refine o_step rfl (s_field rfl rfl (by decide)) ?_
       refine o_step rfl (s_ld rfl (.own meA hb)) ?_
       refine o_step rfl (s_move rfl) ?_
       refine o_step rfl (s_idx rfl rfl hOs (by omega)) ?_
       refine o_step rfl (s_ld rfl ((hO.rdk hiA).ld j 0 hs rfl (by decide) (by omega))) ?_
       refine o_step rfl (s_len rfl) ?_
       by_cases hie : i = s.xs.length
       ·
        refine o_step rfl (step_cast (v' := .bool true) (s_eql rfl rfl) (by rw [decide_eq_true (by omega)])) ?_
        refine o_nil ?_
        refine x_then (hK38 _ _ ?_)
        refine c_true rfl ?_
        refine c_region ?_
        refine o_step rfl (s_move rfl) ?_
        refine o_step rfl (s_move rfl) ?_
        refine o_step rfl (s_idx rfl rfl hP1s (by omega)) ?_
        refine o_step rfl (s_ld rfl ((hP1.rdk hiA).ld j 0 ho rfl (by decide) (by omega))) ?_
        refine o_step rfl (s_move rfl) ?_
        refine o_step rfl (s_idx rfl rfl io (by omega)) ?_
        refine o_step rfl (s_ldB rfl ((ro.rdk hiA).lds i (by rw [hox]; exact mkL_get (by omega)) rfl) rfl) ?_
        refine o_stW rfl rfl upA (by rfl) (by rfl) (Enc.one _) ?_
        refine o_nil ?_
        refine x_then (hK37 _ _ ?_)
        refine c_seq fun _ hK39 => ?_
        refine c_drawE ([(b12, .cells (Esp (fSp j i)).toArray 62 (0, 0))]) (fun i => false) ?_
        refine e_take 0 rfl (by kernel_rfl) (by kernel_rfl) (by kernel_rfl) (by kernel_rfl) (fun _ _ => rfl) rfl hzB (s_ldB rfl (RdPK.cels (.own meA)) lnA) ?_
        refine e_take 1 rfl (by kernel_rfl) (by kernel_rfl) (by kernel_rfl) (by kernel_rfl) (fun _ _ => rfl) rfl hzB (s_move rfl) ?_
        refine e_take 2 rfl (by kernel_rfl) (by kernel_rfl) (by kernel_rfl) (by kernel_rfl) (fun _ _ => rfl) rfl hzB (s_move rfl) ?_
        refine e_one 3 rfl (by kernel_rfl) ?_
        refine o_callP (num2_fn j i (by omega) (by omega)) rfl rfl rfl (fun _ _ => trivial) (fun v166 hv166 => ?_)
        subst hv166
        refine o_nil ?_
        refine x_oneS hzB ?_
        refine e_take 4 rfl (by kernel_rfl) (by kernel_rfl) (by kernel_rfl) (by kernel_rfl) (fun _ _ => rfl) rfl hzB (step_cast (v' := .agg (Esp (fSp j i)).toArray) (s_build (cs := [_, _]) (vs := [_, _]) rfl rfl (.cons rfl rfl rfl rfl rfl (.cons rfl rfl rfl rfl rfl (.nil)))) rfl) ?_
        refine e_take 5 rfl (by kernel_rfl) (by kernel_rfl) (by kernel_rfl) (by kernel_rfl) (fun _ _ => rfl) rfl hzB (step_cast (v' := .bool true) (s_eql_sp (p := fSp j i) (q := fSp j i) rfl rfl) (congrArg Value.bool (decide_eq_true rfl))) ?_
        refine e_take 6 rfl (by kernel_rfl) (by kernel_rfl) (by kernel_rfl) (by kernel_rfl) (fun _ _ => rfl) rfl hzB (s_assign rfl) ?_
        refine e_done (by kernel_rfl) ?_
        refine x_then (hK39 _ _ ?_)
        refine c_seq fun _ hK40 => ?_
        refine c_region ?_
        refine o_step rfl (s_move rfl) ?_
        refine o_step rfl (s_move rfl) ?_
        refine o_step rfl (s_idx rfl rfl hP2s (by omega)) ?_
        refine o_step rfl (s_ld rfl ((hP2.rdk hiA).ld j 0 hm rfl (by decide) (by omega))) ?_
        refine o_step rfl (s_move rfl) ?_
        refine o_step rfl (s_idx rfl rfl im (by omega)) ?_
        refine o_step rfl (s_ldB rfl ((rm.rdk hiA).lds i (by rw [hmx]; exact mkL_get (by omega)) rfl) rfl) ?_
        refine o_stW rfl rfl upA (by rfl) (by rfl) (Enc.one _) ?_
        refine o_nil ?_
        refine x_then (hK40 _ _ ?_)
        refine c_seq fun _ hK41 => ?_
        refine c_drawE ([(b12, .cells (Esp (fSp j i)).toArray 62 (0, 0))]) (fun i => false) ?_
        refine e_take 0 rfl (by kernel_rfl) (by kernel_rfl) (by kernel_rfl) (by kernel_rfl) (fun _ _ => rfl) rfl hzB (s_move rfl) ?_
        refine e_take 1 rfl (by kernel_rfl) (by kernel_rfl) (by kernel_rfl) (by kernel_rfl) (fun _ _ => rfl) rfl hzB (s_not rfl) ?_
        refine e_take 2 rfl (by kernel_rfl) (by kernel_rfl) (by kernel_rfl) (by kernel_rfl) (fun _ _ => rfl) rfl hzB (s_move rfl) ?_
        refine e_take 3 rfl (by kernel_rfl) (by kernel_rfl) (by kernel_rfl) (by kernel_rfl) (fun _ fr => by rw [wanted_of fr rfl rfl rfl]; rfl) rfl hzB (s_ldB rfl (RdPK.cels (.own meA)) lnA) ?_
        refine e_take 4 rfl (by kernel_rfl) (by kernel_rfl) (by kernel_rfl) (by kernel_rfl) (fun _ fr => by rw [wanted_of fr rfl rfl rfl]; rfl) rfl hzB (s_move rfl) ?_
        refine e_take 5 rfl (by kernel_rfl) (by kernel_rfl) (by kernel_rfl) (by kernel_rfl) (fun _ fr => by rw [wanted_of fr rfl rfl rfl]; rfl) rfl hzB (s_move rfl) ?_
        refine e_one 6 rfl (by kernel_rfl) ?_
        refine o_yes rfl rfl ?_
        refine o_callP (num2_fn j i (by omega) (by omega)) rfl rfl rfl (fun _ _ => trivial) (fun v182 hv182 => ?_)
        subst hv182
        refine o_nil ?_
        refine x_oneS hzB ?_
        refine e_take 7 rfl (by kernel_rfl) (by kernel_rfl) (by kernel_rfl) (by kernel_rfl) (fun _ fr => by rw [wanted_of fr rfl rfl rfl]; rfl) rfl hzB (step_cast (v' := .agg (Esp (fSp j i)).toArray) (s_build (cs := [_, _]) (vs := [_, _]) rfl rfl (.cons rfl rfl rfl rfl rfl (.cons rfl rfl rfl rfl rfl (.nil)))) rfl) ?_
        refine e_take 8 rfl (by kernel_rfl) (by kernel_rfl) (by kernel_rfl) (by kernel_rfl) (fun _ fr => by rw [wanted_of fr rfl rfl rfl]; rfl) rfl hzB (step_cast (v' := .bool true) (s_eql_sp (p := fSp j i) (q := fSp j i) rfl rfl) (congrArg Value.bool (decide_eq_true rfl))) ?_
        refine e_take 9 rfl (by kernel_rfl) (by kernel_rfl) (by kernel_rfl) (by kernel_rfl) (fun _ fr => by rw [wanted_of fr rfl rfl rfl]; rfl) rfl hzB (s_not rfl) ?_
        refine e_take 10 rfl (by kernel_rfl) (by kernel_rfl) (by kernel_rfl) (by kernel_rfl) (fun _ _ => rfl) rfl hzB (s_pick_f rfl rfl) ?_
        refine e_done (by kernel_rfl) ?_
        refine x_then (hK41 _ _ ?_)
        refine c_false rfl ?_
        refine c_skip ?_
        refine x_block ?_
        refine x_then (hK33 _ _ ?_)
        refine c_region ?_
        refine o_step rfl (s_move rfl) ?_
        refine o_step rfl (s_add rfl rfl (by omega)) ?_
        refine o_step rfl (s_assign rfl) ?_
        refine o_nil ?_
        exact x_then (x_inv (i + 1) (by omega) (by first | omega | (dsimp only; omega)) sbA hzB)
       ·
        refine o_step rfl (step_cast (v' := .bool false) (s_eql rfl rfl) (by rw [decide_eq_false (by omega)])) ?_
        refine o_nil ?_
        refine x_then (hK38 _ _ ?_)
        refine c_false rfl ?_
        refine c_skip ?_
        refine x_then (hK37 _ _ ?_)
        refine c_seq fun _ hK42 => ?_
        refine c_drawE ([(b12, .cells (Esp (fSp j i)).toArray 62 (0, 0))]) (fun i => false) ?_
        refine e_take 0 rfl (by kernel_rfl) (by kernel_rfl) (by kernel_rfl) (by kernel_rfl) (fun _ _ => rfl) rfl hzB (s_ldB rfl (RdPK.cels (.own meA)) lnA) ?_
        refine e_take 1 rfl (by kernel_rfl) (by kernel_rfl) (by kernel_rfl) (by kernel_rfl) (fun _ _ => rfl) rfl hzB (s_move rfl) ?_
        refine e_take 2 rfl (by kernel_rfl) (by kernel_rfl) (by kernel_rfl) (by kernel_rfl) (fun _ _ => rfl) rfl hzB (s_move rfl) ?_
        refine e_one 3 rfl (by kernel_rfl) ?_
        refine o_callP (num2_fn j i (by omega) (by omega)) rfl rfl rfl (fun _ _ => trivial) (fun v166 hv166 => ?_)
        subst hv166
        refine o_nil ?_
        refine x_oneS hzB ?_
        refine e_take 4 rfl (by kernel_rfl) (by kernel_rfl) (by kernel_rfl) (by kernel_rfl) (fun _ _ => rfl) rfl hzB (step_cast (v' := .agg (Esp (fSp j i)).toArray) (s_build (cs := [_, _]) (vs := [_, _]) rfl rfl (.cons rfl rfl rfl rfl rfl (.cons rfl rfl rfl rfl rfl (.nil)))) rfl) ?_
        refine e_take 5 rfl (by kernel_rfl) (by kernel_rfl) (by kernel_rfl) (by kernel_rfl) (fun _ _ => rfl) rfl hzB (step_cast (v' := .bool true) (s_eql_sp (p := fSp j i) (q := fSp j i) rfl rfl) (congrArg Value.bool (decide_eq_true rfl))) ?_
        refine e_take 6 rfl (by kernel_rfl) (by kernel_rfl) (by kernel_rfl) (by kernel_rfl) (fun _ _ => rfl) rfl hzB (s_assign rfl) ?_
        refine e_done (by kernel_rfl) ?_
        refine x_then (hK42 _ _ ?_)
        refine c_seq fun _ hK43 => ?_
        refine c_region ?_
        refine o_step rfl (s_move rfl) ?_
        refine o_step rfl (s_move rfl) ?_
        refine o_step rfl (s_idx rfl rfl hP2s (by omega)) ?_
        refine o_step rfl (s_ld rfl ((hP2.rdk hiA).ld j 0 hm rfl (by decide) (by omega))) ?_
        refine o_step rfl (s_move rfl) ?_
        refine o_step rfl (s_idx rfl rfl im (by omega)) ?_
        refine o_step rfl (s_ldB rfl ((rm.rdk hiA).lds i (by rw [hmx]; exact mkL_get (by omega)) rfl) rfl) ?_
        refine o_stW rfl rfl upA (by rfl) (by rfl) (Enc.one _) ?_
        refine o_nil ?_
        refine x_then (hK43 _ _ ?_)
        refine c_seq fun _ hK44 => ?_
        refine c_drawE ([(b12, .cells (Esp (fSp j i)).toArray 62 (0, 0))]) (fun i => false) ?_
        refine e_take 0 rfl (by kernel_rfl) (by kernel_rfl) (by kernel_rfl) (by kernel_rfl) (fun _ _ => rfl) rfl hzB (s_move rfl) ?_
        refine e_take 1 rfl (by kernel_rfl) (by kernel_rfl) (by kernel_rfl) (by kernel_rfl) (fun _ _ => rfl) rfl hzB (s_not rfl) ?_
        refine e_take 2 rfl (by kernel_rfl) (by kernel_rfl) (by kernel_rfl) (by kernel_rfl) (fun _ _ => rfl) rfl hzB (s_move rfl) ?_
        refine e_take 3 rfl (by kernel_rfl) (by kernel_rfl) (by kernel_rfl) (by kernel_rfl) (fun _ fr => by rw [wanted_of fr rfl rfl rfl]; rfl) rfl hzB (s_ldB rfl (RdPK.cels (.own meA)) lnA) ?_
        refine e_take 4 rfl (by kernel_rfl) (by kernel_rfl) (by kernel_rfl) (by kernel_rfl) (fun _ fr => by rw [wanted_of fr rfl rfl rfl]; rfl) rfl hzB (s_move rfl) ?_
        refine e_take 5 rfl (by kernel_rfl) (by kernel_rfl) (by kernel_rfl) (by kernel_rfl) (fun _ fr => by rw [wanted_of fr rfl rfl rfl]; rfl) rfl hzB (s_move rfl) ?_
        refine e_one 6 rfl (by kernel_rfl) ?_
        refine o_yes rfl rfl ?_
        refine o_callP (num2_fn j i (by omega) (by omega)) rfl rfl rfl (fun _ _ => trivial) (fun v182 hv182 => ?_)
        subst hv182
        refine o_nil ?_
        refine x_oneS hzB ?_
        refine e_take 7 rfl (by kernel_rfl) (by kernel_rfl) (by kernel_rfl) (by kernel_rfl) (fun _ fr => by rw [wanted_of fr rfl rfl rfl]; rfl) rfl hzB (step_cast (v' := .agg (Esp (fSp j i)).toArray) (s_build (cs := [_, _]) (vs := [_, _]) rfl rfl (.cons rfl rfl rfl rfl rfl (.cons rfl rfl rfl rfl rfl (.nil)))) rfl) ?_
        refine e_take 8 rfl (by kernel_rfl) (by kernel_rfl) (by kernel_rfl) (by kernel_rfl) (fun _ fr => by rw [wanted_of fr rfl rfl rfl]; rfl) rfl hzB (step_cast (v' := .bool true) (s_eql_sp (p := fSp j i) (q := fSp j i) rfl rfl) (congrArg Value.bool (decide_eq_true rfl))) ?_
        refine e_take 9 rfl (by kernel_rfl) (by kernel_rfl) (by kernel_rfl) (by kernel_rfl) (fun _ fr => by rw [wanted_of fr rfl rfl rfl]; rfl) rfl hzB (s_not rfl) ?_
        refine e_take 10 rfl (by kernel_rfl) (by kernel_rfl) (by kernel_rfl) (by kernel_rfl) (fun _ _ => rfl) rfl hzB (s_pick_f rfl rfl) ?_
        refine e_done (by kernel_rfl) ?_
        refine x_then (hK44 _ _ ?_)
        refine c_false rfl ?_
        refine c_skip ?_
        refine x_block ?_
        refine x_then (hK33 _ _ ?_)
        refine c_region ?_
        refine o_step rfl (s_move rfl) ?_
        refine o_step rfl (s_add rfl rfl (by omega)) ?_
        refine o_step rfl (s_assign rfl) ?_
        refine o_nil ?_
        exact x_then (x_inv (i + 1) (by omega) (by first | omega | (dsimp only; omega)) sbA hzB)
      ·
       refine o_step rfl (step_cast (v' := .bool false) (s_lss rfl rfl) (by rw [decide_eq_false (by omega)])) ?_
       refine o_nil ?_
       refine x_then (hK36 _ _ ?_)
       refine c_false rfl ?_
       refine c_skip ?_
       refine x_then (hK35 _ _ ?_)
       refine c_seq fun _ hK45 => ?_
       refine c_seq fun _ hK46 => ?_
       refine c_region ?_
       refine o_step rfl (s_move rfl) ?_
       refine o_step rfl (s_move rfl) ?_
       refine o_step rfl (s_nil rfl) ?_
       refine o_step rfl (s_field rfl rfl (by decide)) ?_
       refine o_step rfl (s_ld rfl (.own meA hb)) ?_
       refine o_step rfl (s_move rfl) ?_
       refine o_step rfl (s_idx rfl rfl hOs (by omega)) ?_
       refine o_step rfl (s_ld rfl ((hO.rdk hiA).ld j 0 hs rfl (by decide) (by omega))) ?_
       refine o_step rfl (s_len rfl) ?_
       by_cases hie : i = s.xs.length
       ·
        refine o_step rfl (step_cast (v' := .bool true) (s_eql rfl rfl) (by rw [decide_eq_true (by omega)])) ?_
        refine o_nil ?_
        refine x_then (hK46 _ _ ?_)
        refine c_true rfl ?_
        refine c_region ?_
        refine o_step rfl (s_move rfl) ?_
        refine o_step rfl (s_move rfl) ?_
        refine o_step rfl (s_idx rfl rfl hP1s (by omega)) ?_
        refine o_step rfl (s_ld rfl ((hP1.rdk hiA).ld j 0 ho rfl (by decide) (by omega))) ?_
        refine o_step rfl (s_move rfl) ?_
        refine o_step rfl (s_idx rfl rfl io (by omega)) ?_
        refine o_step rfl (s_ldB rfl ((ro.rdk hiA).lds i (by rw [hox]; exact mkL_get (by omega)) rfl) rfl) ?_
        refine o_stW rfl rfl upA (by rfl) (by rfl) (Enc.one _) ?_
        refine o_nil ?_
        refine x_then (hK45 _ _ ?_)
        refine c_seq fun _ hK47 => ?_
        refine c_drawE ([(b12, .cells (Esp (fSp j i)).toArray 62 (0, 0))]) (fun i => false) ?_
        refine e_take 0 rfl (by kernel_rfl) (by kernel_rfl) (by kernel_rfl) (by kernel_rfl) (fun _ _ => rfl) rfl hzB (s_ldB rfl (RdPK.cels (.own meA)) lnA) ?_
        refine e_take 1 rfl (by kernel_rfl) (by kernel_rfl) (by kernel_rfl) (by kernel_rfl) (fun _ _ => rfl) rfl hzB (s_move rfl) ?_
        refine e_take 2 rfl (by kernel_rfl) (by kernel_rfl) (by kernel_rfl) (by kernel_rfl) (fun _ _ => rfl) rfl hzB (s_move rfl) ?_
        refine e_one 3 rfl (by kernel_rfl) ?_
        refine o_callP (num2_fn j i (by omega) (by omega)) rfl rfl rfl (fun _ _ => trivial) (fun v166 hv166 => ?_)
        subst hv166
        refine o_nil ?_
        refine x_oneS hzB ?_
        refine e_take 4 rfl (by kernel_rfl) (by kernel_rfl) (by kernel_rfl) (by kernel_rfl) (fun _ _ => rfl) rfl hzB (step_cast (v' := .agg (Esp (fSp j i)).toArray) (s_build (cs := [_, _]) (vs := [_, _]) rfl rfl (.cons rfl rfl rfl rfl rfl (.cons rfl rfl rfl rfl rfl (.nil)))) rfl) ?_
        refine e_take 5 rfl (by kernel_rfl) (by kernel_rfl) (by kernel_rfl) (by kernel_rfl) (fun _ _ => rfl) rfl hzB (step_cast (v' := .bool true) (s_eql_sp (p := fSp j i) (q := fSp j i) rfl rfl) (congrArg Value.bool (decide_eq_true rfl))) ?_
        refine e_take 6 rfl (by kernel_rfl) (by kernel_rfl) (by kernel_rfl) (by kernel_rfl) (fun _ _ => rfl) rfl hzB (s_assign rfl) ?_
        refine e_done (by kernel_rfl) ?_
        refine x_then (hK47 _ _ ?_)
        refine c_seq fun _ hK48 => ?_
        refine c_region ?_
        refine o_step rfl (s_move rfl) ?_
        refine o_step rfl (s_move rfl) ?_
        refine o_step rfl (s_idx rfl rfl hP2s (by omega)) ?_
        refine o_step rfl (s_ld rfl ((hP2.rdk hiA).ld j 0 hm rfl (by decide) (by omega))) ?_
        refine o_step rfl (s_move rfl) ?_
        refine o_step rfl (s_idx rfl rfl im (by omega)) ?_
        refine o_step rfl (s_ldB rfl ((rm.rdk hiA).lds i (by rw [hmx]; exact mkL_get (by omega)) rfl) rfl) ?_
        refine o_stW rfl rfl upA (by rfl) (by rfl) (Enc.one _) ?_
        refine o_nil ?_
        refine x_then (hK48 _ _ ?_)
        refine c_seq fun _ hK49 => ?_
        refine c_drawE ([(b12, .cells (Esp (fSp j i)).toArray 62 (0, 0))]) (fun i => false) ?_
        refine e_take 0 rfl (by kernel_rfl) (by kernel_rfl) (by kernel_rfl) (by kernel_rfl) (fun _ _ => rfl) rfl hzB (s_move rfl) ?_
        refine e_take 1 rfl (by kernel_rfl) (by kernel_rfl) (by kernel_rfl) (by kernel_rfl) (fun _ _ => rfl) rfl hzB (s_not rfl) ?_
        refine e_take 2 rfl (by kernel_rfl) (by kernel_rfl) (by kernel_rfl) (by kernel_rfl) (fun _ _ => rfl) rfl hzB (s_move rfl) ?_
        refine e_take 3 rfl (by kernel_rfl) (by kernel_rfl) (by kernel_rfl) (by kernel_rfl) (fun _ fr => by rw [wanted_of fr rfl rfl rfl]; rfl) rfl hzB (s_ldB rfl (RdPK.cels (.own meA)) lnA) ?_
        refine e_take 4 rfl (by kernel_rfl) (by kernel_rfl) (by kernel_rfl) (by kernel_rfl) (fun _ fr => by rw [wanted_of fr rfl rfl rfl]; rfl) rfl hzB (s_move rfl) ?_
        refine e_take 5 rfl (by kernel_rfl) (by kernel_rfl) (by kernel_rfl) (by kernel_rfl) (fun _ fr => by rw [wanted_of fr rfl rfl rfl]; rfl) rfl hzB (s_move rfl) ?_
        refine e_one 6 rfl (by kernel_rfl) ?_
        refine o_yes rfl rfl ?_
        refine o_callP (num2_fn j i (by omega) (by omega)) rfl rfl rfl (fun _ _ => trivial) (fun v182 hv182 => ?_)
        subst hv182
        refine o_nil ?_
        refine x_oneS hzB ?_
        refine e_take 7 rfl (by kernel_rfl) (by kernel_rfl) (by kernel_rfl) (by kernel_rfl) (fun _ fr => by rw [wanted_of fr rfl rfl rfl]; rfl) rfl hzB (step_cast (v' := .agg (Esp (fSp j i)).toArray) (s_build (cs := [_, _]) (vs := [_, _]) rfl rfl (.cons rfl rfl rfl rfl rfl (.cons rfl rfl rfl rfl rfl (.nil)))) rfl) ?_
        refine e_take 8 rfl (by kernel_rfl) (by kernel_rfl) (by kernel_rfl) (by kernel_rfl) (fun _ fr => by rw [wanted_of fr rfl rfl rfl]; rfl) rfl hzB (step_cast (v' := .bool true) (s_eql_sp (p := fSp j i) (q := fSp j i) rfl rfl) (congrArg Value.bool (decide_eq_true rfl))) ?_
        refine e_take 9 rfl (by kernel_rfl) (by kernel_rfl) (by kernel_rfl) (by kernel_rfl) (fun _ fr => by rw [wanted_of fr rfl rfl rfl]; rfl) rfl hzB (s_not rfl) ?_
        refine e_take 10 rfl (by kernel_rfl) (by kernel_rfl) (by kernel_rfl) (by kernel_rfl) (fun _ _ => rfl) rfl hzB (s_pick_f rfl rfl) ?_
        refine e_done (by kernel_rfl) ?_
        refine x_then (hK49 _ _ ?_)
        refine c_false rfl ?_
        refine c_skip ?_
        refine x_block ?_
        refine x_then (hK33 _ _ ?_)
        refine c_region ?_
        refine o_step rfl (s_move rfl) ?_
        refine o_step rfl (s_add rfl rfl (by omega)) ?_
        refine o_step rfl (s_assign rfl) ?_
        refine o_nil ?_
        exact x_then (x_inv (i + 1) (by omega) (by first | omega | (dsimp only; omega)) sbA hzB)
       ·
        refine o_step rfl (step_cast (v' := .bool false) (s_eql rfl rfl) (by rw [decide_eq_false (by omega)])) ?_
        refine o_nil ?_
        refine x_then (hK46 _ _ ?_)
        refine c_false rfl ?_
        refine c_skip ?_
        refine x_then (hK45 _ _ ?_)
        refine c_seq fun _ hK50 => ?_
        refine c_drawE ([(b12, .cells (Esp (fSp j i)).toArray 62 (0, 0))]) (fun i => false) ?_
        refine e_take 0 rfl (by kernel_rfl) (by kernel_rfl) (by kernel_rfl) (by kernel_rfl) (fun _ _ => rfl) rfl hzB (s_ldB rfl (RdPK.cels (.own meA)) lnA) ?_
        refine e_take 1 rfl (by kernel_rfl) (by kernel_rfl) (by kernel_rfl) (by kernel_rfl) (fun _ _ => rfl) rfl hzB (s_move rfl) ?_
        refine e_take 2 rfl (by kernel_rfl) (by kernel_rfl) (by kernel_rfl) (by kernel_rfl) (fun _ _ => rfl) rfl hzB (s_move rfl) ?_
        refine e_one 3 rfl (by kernel_rfl) ?_
        refine o_callP (num2_fn j i (by omega) (by omega)) rfl rfl rfl (fun _ _ => trivial) (fun v166 hv166 => ?_)
        subst hv166
        refine o_nil ?_
        refine x_oneS hzB ?_
        refine e_take 4 rfl (by kernel_rfl) (by kernel_rfl) (by kernel_rfl) (by kernel_rfl) (fun _ _ => rfl) rfl hzB (step_cast (v' := .agg (Esp (fSp j i)).toArray) (s_build (cs := [_, _]) (vs := [_, _]) rfl rfl (.cons rfl rfl rfl rfl rfl (.cons rfl rfl rfl rfl rfl (.nil)))) rfl) ?_
        refine e_take 5 rfl (by kernel_rfl) (by kernel_rfl) (by kernel_rfl) (by kernel_rfl) (fun _ _ => rfl) rfl hzB (step_cast (v' := .bool true) (s_eql_sp (p := fSp j i) (q := fSp j i) rfl rfl) (congrArg Value.bool (decide_eq_true rfl))) ?_
        refine e_take 6 rfl (by kernel_rfl) (by kernel_rfl) (by kernel_rfl) (by kernel_rfl) (fun _ _ => rfl) rfl hzB (s_assign rfl) ?_
        refine e_done (by kernel_rfl) ?_
        refine x_then (hK50 _ _ ?_)
        refine c_seq fun _ hK51 => ?_
        refine c_region ?_
        refine o_step rfl (s_move rfl) ?_
        refine o_step rfl (s_move rfl) ?_
        refine o_step rfl (s_idx rfl rfl hP2s (by omega)) ?_
        refine o_step rfl (s_ld rfl ((hP2.rdk hiA).ld j 0 hm rfl (by decide) (by omega))) ?_
        refine o_step rfl (s_move rfl) ?_
        refine o_step rfl (s_idx rfl rfl im (by omega)) ?_
        refine o_step rfl (s_ldB rfl ((rm.rdk hiA).lds i (by rw [hmx]; exact mkL_get (by omega)) rfl) rfl) ?_
        refine o_stW rfl rfl upA (by rfl) (by rfl) (Enc.one _) ?_
        refine o_nil ?_
        refine x_then (hK51 _ _ ?_)
        refine c_seq fun _ hK52 => ?_
        refine c_drawE ([(b12, .cells (Esp (fSp j i)).toArray 62 (0, 0))]) (fun i => false) ?_
        refine e_take 0 rfl (by kernel_rfl) (by kernel_rfl) (by kernel_rfl) (by kernel_rfl) (fun _ _ => rfl) rfl hzB (s_move rfl) ?_
        refine e_take 1 rfl (by kernel_rfl) (by kernel_rfl) (by kernel_rfl) (by kernel_rfl) (fun _ _ => rfl) rfl hzB (s_not rfl) ?_
        refine e_take 2 rfl (by kernel_rfl) (by kernel_rfl) (by kernel_rfl) (by kernel_rfl) (fun _ _ => rfl) rfl hzB (s_move rfl) ?_
        refine e_take 3 rfl (by kernel_rfl) (by kernel_rfl) (by kernel_rfl) (by kernel_rfl) (fun _ fr => by rw [wanted_of fr rfl rfl rfl]; rfl) rfl hzB (s_ldB rfl (RdPK.cels (.own meA)) lnA) ?_
        refine e_take 4 rfl (by kernel_rfl) (by kernel_rfl) (by kernel_rfl) (by kernel_rfl) (fun _ fr => by rw [wanted_of fr rfl rfl rfl]; rfl) rfl hzB (s_move rfl) ?_
        refine e_take 5 rfl (by kernel_rfl) (by kernel_rfl) (by kernel_rfl) (by kernel_rfl) (fun _ fr => by rw [wanted_of fr rfl rfl rfl]; rfl) rfl hzB (s_move rfl) ?_
        refine e_one 6 rfl (by kernel_rfl) ?_
        refine o_yes rfl rfl ?_
        refine o_callP (num2_fn j i (by omega) (by omega)) rfl rfl rfl (fun _ _ => trivial) (fun v182 hv182 => ?_)
        subst hv182
        refine o_nil ?_
        refine x_oneS hzB ?_
        refine e_take 7 rfl (by kernel_rfl) (by kernel_rfl) (by kernel_rfl) (by kernel_rfl) (fun _ fr => by rw [wanted_of fr rfl rfl rfl]; rfl) rfl hzB (step_cast (v' := .agg (Esp (fSp j i)).toArray) (s_build (cs := [_, _]) (vs := [_, _]) rfl rfl (.cons rfl rfl rfl rfl rfl (.cons rfl rfl rfl rfl rfl (.nil)))) rfl) ?_
        refine e_take 8 rfl (by kernel_rfl) (by kernel_rfl) (by kernel_rfl) (by kernel_rfl) (fun _ fr => by rw [wanted_of fr rfl rfl rfl]; rfl) rfl hzB (step_cast (v' := .bool true) (s_eql_sp (p := fSp j i) (q := fSp j i) rfl rfl) (congrArg Value.bool (decide_eq_true rfl))) ?_
        refine e_take 9 rfl (by kernel_rfl) (by kernel_rfl) (by kernel_rfl) (by kernel_rfl) (fun _ fr => by rw [wanted_of fr rfl rfl rfl]; rfl) rfl hzB (s_not rfl) ?_
        refine e_take 10 rfl (by kernel_rfl) (by kernel_rfl) (by kernel_rfl) (by kernel_rfl) (fun _ _ => rfl) rfl hzB (s_pick_f rfl rfl) ?_
        refine e_done (by kernel_rfl) ?_
        refine x_then (hK52 _ _ ?_)
        refine c_false rfl ?_
        refine c_skip ?_
        refine x_block ?_
        refine x_then (hK33 _ _ ?_)
        refine c_region ?_
        refine o_step rfl (s_move rfl) ?_
        refine o_step rfl (s_add rfl rfl (by omega)) ?_
        refine o_step rfl (s_assign rfl) ?_
        refine o_nil ?_
        exact x_then (x_inv (i + 1) (by omega) (by first | omega | (dsimp only; omega)) sbA hzB)
     ·
      refine c_exit ?_
      refine x_then_exit ?_
      refine x_then_exit ?_
      refine x_block_exit ?_
      refine x_block ?_
      refine x_then (hK29 _ _ ?_)
      refine c_region ?_
      refine o_step rfl (s_move rfl) ?_
      refine o_step rfl (s_add rfl rfl (by omega)) ?_
      refine o_step rfl (s_assign rfl) ?_
      refine o_nil ?_
      exact x_then (x_inv (j + 1) (by omega) (by first | omega | (dsimp only; omega)) sbA hzB)
    ·
     refine c_exit ?_
     refine x_then_exit ?_
     refine x_then_exit ?_
     refine x_block_exit ?_
     refine x_then (hK25 _ _ ?_)
     refine c_seq fun _ hK53 => ?_
     refine c_region ?_
     refine o_step rfl (s_assign rfl) ?_
     refine o_nil ?_
     refine x_then (hK53 _ _ ?_)
     refine c_ret ?_
     refine ?_
     refine x_sub (Sub.refl _) (H' := (b, .cells cs.toArray 58 (0, 0)) :: So) hzB ?_
     exact x_ret rfl (.tmp rfl (.nil)) (⟨rfl, rfl⟩)
end Go.Proofs.YtiggliigookieaaDoor
