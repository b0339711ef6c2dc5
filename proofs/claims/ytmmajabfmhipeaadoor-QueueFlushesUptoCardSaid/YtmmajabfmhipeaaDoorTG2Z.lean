/- Part of the proofs over this seat: see the text that holds the theorem. Conditions: each theorem bears its own. -/
import Derived.Test.YtmmajabfmhipeaaDoorFM18Z
import Derived.Test.YtmmajabfmhipeaaDoorTF1
import Derived.Test.YtmmajabfmhipeaaDoorHlB
import Derived.Test.YtmmajabfmhipeaaDoorTG1
namespace Go.Proofs.YtmmajabfmhipeaaDoor
open Go Go.HL Go.Proofs Go.Tab
def fBy (n i : Nat) : UInt8 := UInt8.ofNat (31 * n + 7 * i + 3)
set_option maxHeartbeats 1000000 in
theorem apartBytes_fn (b : Nat) (cs : List Value) (sls : List (Sl UInt8)) (oa : Option Addr) (oc : Nat) (So Si : Hp) (hb : cs[0]? = some (.slice oa sls.length oc)) (hN : sls.length ≤ 400) (hlen : ∀ (j : Nat) (s : Sl UInt8), sls[j]? = some s → s.xs.length ≤ 4294967296) (hO : OwnS Esl 1 40 (.slice oa sls.length oc) sls So) (xss0 : List (List UInt8)) (hI : OwnL Eb 1 5 sls xss0 Si) : HL.Fn Tryd.prog 57 [.pointer (some ⟨b, 0, none⟩)] (fun _ => True) ((b, .cells cs.toArray 70 (0, 0)) :: (So ++ Si)) (fun v S' => v = .bool true ∧ S' = (b, .cells cs.toArray 70 (0, 0)) :: So) := by
  refine fn_of Tryd.func57 rfl rfl rfl fun w0 hw => ?_
  have hOs := hO.sl
  refine c_seq fun _ hK1 => ?_
  refine c_region ?_
  refine o_step rfl (s_assign rfl) ?_
  refine o_nil ?_
  refine x_then (hK1 _ _ ?_)
  refine c_seq fun _ hK2 => ?_
  refine c_seq fun _ hK3 => ?_
  refine c_region ?_
  refine o_step rfl (s_assign rfl) ?_
  refine o_nil ?_
  refine x_then (hK3 _ _ ?_)
  refine c_block ?_
  refine c_loop3 (fun (n : Nat) (xss : List (List UInt8)) (Si : Hp) => n ≤ sls.length ∧ OwnL Eb 1 5 sls xss Si ∧ ∀ j s, j < n → sls[j]? = some s → xss[j]? = some (mkL fBy j s.xs.length)) (fun (n : Nat) (xss : List (List UInt8)) (Si : Hp) => [(3, .int .i64 n)]) [(0, _), (2, _)] (fun (n : Nat) (xss : List (List UInt8)) (Si : Hp) => (b, .cells cs.toArray 70 (0, 0)) :: (So ++ Si)) (fun (n : Nat) (xss : List (List UInt8)) (Si : Hp) => sls.length - n) 0 _ _ ⟨by omega, hI, fun j s hj => by omega⟩ sbA sbA hzB ?_
  rintro n xss Si ⟨hn, hI, hA⟩
  refine c_seq fun _ hK4 => ?_
  refine c_seq fun _ hK5 => ?_
  refine c_region ?_
  refine o_step rfl (s_move rfl) ?_
  refine o_step rfl (s_move rfl) ?_
  refine o_step rfl (s_nil rfl) ?_
  refine o_step rfl (s_field rfl rfl (by decide)) ?_
  refine o_step rfl (s_ld rfl (.own meA hb)) ?_
  refine o_step rfl (s_len rfl) ?_
  refine o_step rfl (s_lss rfl rfl) ?_
  refine o_nil ?_
  refine x_then (hK5 _ _ ?_)
  refine c_if rfl (fun hlt => ?_) (fun hlt => ?_)
  ·
   obtain ⟨s, hs⟩ := sl_get (sls := sls) (n := n) (by omega)
   obtain ⟨xs, S1, Sn0, S2, hx, rfl, hx0, hput⟩ := hI.at hs
   have hxl := hx0.lenv
   have hsm := hlen n s hs
   refine c_skip ?_
   refine x_then (hK4 _ _ ?_)
   refine c_seq fun _ hK6 => ?_
   refine c_block ?_
   refine c_seq fun _ hK7 => ?_
   refine c_region ?_
   refine o_step rfl (s_assign rfl) ?_
   refine o_nil ?_
   refine x_then (hK7 _ _ ?_)
   refine c_block ?_
   refine c_loop3 (fun (i : Nat) (l : List UInt8) (Sn : Hp) => i ≤ s.xs.length ∧ Tab.Fill (fBy n) s.xs.length i l ∧ OwnS Eb 1 5 s.v l Sn) (fun (i : Nat) (l : List UInt8) (Sn : Hp) => [(4, .int .i64 i)]) [(0, _), (2, _), (3, _), (14, _), (15, _), (16, _), (17, _), (18, _), (19, _), (20, _)] (fun (i : Nat) (l : List UInt8) (Sn : Hp) => (b, .cells cs.toArray 70 (0, 0)) :: (So ++ (S1 ++ (Sn ++ S2)))) (fun (i : Nat) (l : List UInt8) (Sn : Hp) => s.xs.length - i) 0 _ _ ⟨by omega, .zero hxl, hx0⟩ sbA sbA hzB ?_
   rintro i l Sn ⟨hi, hl, hln⟩
   have hll := hln.lenv
   have hlsl := hln.sl
   rw [hll] at hlsl
   refine c_seq fun _ hK8 => ?_
   refine c_seq fun _ hK9 => ?_
   refine c_region ?_
   refine o_step rfl (s_move rfl) ?_
   refine o_step rfl (s_move rfl) ?_
   refine o_step rfl (s_nil rfl) ?_
   refine o_step rfl (s_field rfl rfl (by decide)) ?_
   refine o_step rfl (s_ld rfl (.own meA hb)) ?_
   refine o_step rfl (s_move rfl) ?_
   refine o_step rfl (s_idx rfl rfl hOs (by omega)) ?_
   refine o_step rfl (s_ld rfl ((hO.rdk hiA).ld n 0 hs rfl (by decide) (by omega))) ?_
   refine o_step rfl (s_len rfl) ?_
   refine o_step rfl (s_lss rfl rfl) ?_
   refine o_nil ?_
   refine x_then (hK9 _ _ ?_)
   refine c_if rfl (fun hli => ?_) (fun hli => ?_)
   ·
    refine c_skip ?_
    refine x_then (hK8 _ _ ?_)
    refine c_seq fun _ hK10 => ?_
    refine c_block ?_
    refine c_region ?_
    refine o_step rfl (s_move rfl) ?_
    refine o_step rfl (s_nil rfl) ?_
    refine o_step rfl (s_field rfl rfl (by decide)) ?_
    refine o_step rfl (s_ld rfl (.own meA hb)) ?_
    refine o_step rfl (s_move rfl) ?_
    refine o_step rfl (s_idx rfl rfl hOs (by omega)) ?_
    refine o_step rfl (s_ld rfl ((hO.rdk hiA).ld n 0 hs rfl (by decide) (by omega))) ?_
    refine o_step rfl (s_move rfl) ?_
    refine o_step rfl (s_move rfl) ?_
    refine o_step rfl (s_mul rfl rfl (by omega)) ?_
    refine o_step rfl (s_move rfl) ?_
    refine o_step rfl (s_mul rfl rfl (by omega)) ?_
    refine o_step rfl (s_add rfl rfl (by omega)) ?_
    refine o_step rfl (s_add rfl rfl (by omega)) ?_
    refine o_step rfl (s_convB (j := 31 * n + 7 * i + 3) rfl) ?_
    refine o_step rfl (s_idx rfl rfl hlsl (by omega)) ?_
    refine o_stS1 i (fBy n i) hln pkA rfl rfl rfl (by omega) (by first | rfl | (rw [Int.toNat_natCast, Nat.mul_one]; first | done | rfl)) fun S' hS' => ?_
    refine o_nil ?_
    refine x_block ?_
    refine x_then (hK10 _ _ ?_)
    refine c_region ?_
    refine o_step rfl (s_move rfl) ?_
    refine o_step rfl (s_add rfl rfl (by omega)) ?_
    refine o_step rfl (s_assign rfl) ?_
    refine o_nil ?_
    exact x_then (x_inv (i + 1, _, S') ⟨by omega, hl.step (by omega) rfl, hS'⟩ (by first | omega | (dsimp only; omega)) sbA hzB)
   ·
    refine c_exit ?_
    refine x_then_exit ?_
    refine x_then_exit ?_
    refine x_block_exit ?_
    refine x_block ?_
    refine x_then (hK6 _ _ ?_)
    refine c_region ?_
    refine o_step rfl (s_move rfl) ?_
    refine o_step rfl (s_add rfl rfl (by omega)) ?_
    refine o_step rfl (s_assign rfl) ?_
    refine o_nil ?_
    exact x_then (x_inv (n + 1, xss.set n l, S1 ++ (Sn ++ S2)) ⟨by omega, hput _ _ hln, set_all hA hs (mkL_fill hl (by omega)) hx⟩ (by first | omega | (dsimp only; omega)) sbA hzB)
  ·
   have hF : OwnF Eb 1 5 fBy 0 (sls.drop 0) Si := hI.all (n := 0) (fun j s hs => by rw [Nat.zero_add]; exact hA j s (by have := (List.getElem?_eq_some_iff.1 hs).1; omega) hs)
   refine c_exit ?_
   refine x_then_exit ?_
   refine x_then_exit ?_
   refine x_block_exit ?_
   refine x_then (hK2 _ _ ?_)
   refine c_seq fun _ hK11 => ?_
   refine c_region ?_
   refine o_step rfl (s_assign rfl) ?_
   refine o_step rfl (s_assign rfl) ?_
   refine o_nil ?_
   refine x_then (hK11 _ _ ?_)
   refine c_seq fun _ hK12 => ?_
   refine c_seq fun _ hK13 => ?_
   refine c_region ?_
   refine o_step rfl (s_assign rfl) ?_
   refine o_nil ?_
   refine x_then (hK13 _ _ ?_)
   refine c_block ?_
   refine c_loop7 (fun (n : Nat) (q1 : Sl (Sl UInt8)) (q2 : Sl (Sl UInt8)) (P1 : Hp) (P2 : Hp) (G : Hp) (R : Hp) => n ≤ sls.length ∧ q1.xs.length = n ∧ q2.xs.length = n ∧ OwnS Esl 1 40 (.slice q1.a q1.xs.length q1.c) q1.xs P1 ∧ OwnS Esl 1 40 (.slice q2.a q2.xs.length q2.c) q2.xs P2 ∧ OwnF Eb 1 5 fBy n (sls.drop n) R ∧ Done Eb fBy sls q1.xs q2.xs G n) (fun (n : Nat) (q1 : Sl (Sl UInt8)) (q2 : Sl (Sl UInt8)) (P1 : Hp) (P2 : Hp) (G : Hp) (R : Hp) => [(7, .int .i64 n), (5, .slice q1.a q1.xs.length q1.c), (6, .slice q2.a q2.xs.length q2.c)]) [(0, _), (2, _)] (fun (n : Nat) (q1 : Sl (Sl UInt8)) (q2 : Sl (Sl UInt8)) (P1 : Hp) (P2 : Hp) (G : Hp) (R : Hp) => (b, .cells cs.toArray 70 (0, 0)) :: (So ++ (P1 ++ (P2 ++ (G ++ R))))) (fun (n : Nat) (q1 : Sl (Sl UInt8)) (q2 : Sl (Sl UInt8)) (P1 : Hp) (P2 : Hp) (G : Hp) (R : Hp) => sls.length - n) 0 ⟨none, 0, []⟩ ⟨none, 0, []⟩ [] [] [] _ ⟨by omega, rfl, rfl, .nil, .nil, hF, .zero⟩ sbA sbA hzB ?_
   rintro n q1 q2 P1 P2 G R ⟨hn, hq1, hq2, hP1, hP2, hR, hD⟩
   refine c_seq fun _ hK14 => ?_
   refine c_seq fun _ hK15 => ?_
   refine c_region ?_
   refine o_step rfl (s_move rfl) ?_
   refine o_step rfl (s_move rfl) ?_
   refine o_step rfl (s_nil rfl) ?_
   refine o_step rfl (s_field rfl rfl (by decide)) ?_
   refine o_step rfl (s_ld rfl (.own meA hb)) ?_
   refine o_step rfl (s_len rfl) ?_
   refine o_step rfl (s_lss rfl rfl) ?_
   refine o_nil ?_
   refine x_then (hK15 _ _ ?_)
   refine c_if rfl (fun hlt => ?_) (fun hlt => ?_)
   ·
    obtain ⟨s, hs⟩ := sl_get (sls := sls) (n := n) (by omega)
    have hsm := hlen n s hs
    obtain ⟨Sa, R2, rfl, hSa, hR2⟩ := hR.head hs
    have hSal : (Value.slice s.a (mkL fBy n s.xs.length).length s.c) = s.v := by rw [mkL_len]; rfl
    have hSas := hSa.sl
    rw [mkL_len] at hSas
    refine c_skip ?_
    refine x_then (hK14 _ _ ?_)
    refine c_seq fun _ hK16 => ?_
    refine c_block ?_
    refine c_seq fun _ hK17 => ?_
    refine c_region ?_
    refine o_step rfl (s_move rfl) ?_
    refine o_step rfl (s_nil rfl) ?_
    refine o_step rfl (s_field rfl rfl (by decide)) ?_
    refine o_step rfl (s_ld rfl (.own meA hb)) ?_
    refine o_step rfl (s_move rfl) ?_
    refine o_step rfl (s_idx rfl rfl hOs (by omega)) ?_
    refine o_step rfl (s_ld rfl ((hO.rdk hiA).ld n 0 hs rfl (by decide) (by omega))) ?_
    refine o_step rfl (s_assign rfl) ?_
    refine o_nil ?_
    refine x_then (hK17 _ _ ?_)
    refine c_seq fun _ hK18 => ?_
    refine c_seq fun _ hK19 => ?_
    refine c_region ?_
    refine o_step rfl (s_move rfl) ?_
    refine o_step rfl (s_len rfl) ?_
    refine o_step rfl (s_assign rfl) ?_
    refine o_nil ?_
    refine x_then (hK19 _ _ ?_)
    refine c_block ?_
    refine c_loop8 (fun (i : Nat) (l : List UInt8) (la : Option Addr) (lc : Nat) (q3 : Sl (Sl UInt8)) (P3 : Hp) (Sk : Hp) (Gk : Hp) => s.xs.length ≤ i ∧ i ≤ s.xs.length + 70 ∧ l = mkL fBy n i ∧ Keep Eb 1 5 s.v (mkL fBy n s.xs.length) (.slice la l.length lc) l Sk Gk ∧ OwnS Esl 1 40 (.slice q3.a q3.xs.length q3.c) q3.xs P3 ∧ ((i = s.xs.length ∧ q3.xs = q1.xs) ∨ (s.xs.length < i ∧ ∃ o, q3.xs = q1.xs ++ [o] ∧ o.xs = mkL fBy n (s.xs.length + 1) ∧ IsSl o.v o.xs.length ∧ Keep Eb 1 5 o.v o.xs (.slice la l.length lc) l Sk Gk))) (fun (i : Nat) (l : List UInt8) (la : Option Addr) (lc : Nat) (q3 : Sl (Sl UInt8)) (P3 : Hp) (Sk : Hp) (Gk : Hp) => [(9, .int .i64 i), (8, .slice la l.length lc), (5, .slice q3.a q3.xs.length q3.c)]) [(0, _), (2, _), (6, _), (7, _), (51, _), (52, _), (53, _), (54, _), (55, _), (56, _), (57, _), (60, _), (61, _), (62, _), (63, _), (64, _), (65, _), (66, _), (67, _), (68, _)] (fun (i : Nat) (l : List UInt8) (la : Option Addr) (lc : Nat) (q3 : Sl (Sl UInt8)) (P3 : Hp) (Sk : Hp) (Gk : Hp) => (b, .cells cs.toArray 70 (0, 0)) :: (So ++ (P3 ++ (P2 ++ (Sk ++ (Gk ++ (G ++ R2))))))) (fun (i : Nat) (l : List UInt8) (la : Option Addr) (lc : Nat) (q3 : Sl (Sl UInt8)) (P3 : Hp) (Sk : Hp) (Gk : Hp) => s.xs.length + 70 - i) s.xs.length (mkL fBy n s.xs.length) s.a s.c q1 P1 Sa [] ⟨by omega, by omega, rfl, by rw [hSal]; exact Keep.start hSa, hP1, .inl ⟨rfl, rfl⟩⟩ (by exact Sub.cons rfl (Sub.cons' rfl (by rw [mkL_len]; rfl) (Sub.cons rfl .nil))) sbA hzB ?_
    rintro i l la lc q3 P3 Sk Gk ⟨hi1, hi2, hl, hK, hP3, hc⟩
    have hll : l.length = i := by rw [hl, mkL_len]
    refine c_seq fun _ hK20 => ?_
    refine c_seq fun _ hK21 => ?_
    refine c_region ?_
    refine o_step rfl (s_move rfl) ?_
    refine o_step rfl (s_move rfl) ?_
    refine o_step rfl (s_nil rfl) ?_
    refine o_step rfl (s_field rfl rfl (by decide)) ?_
    refine o_step rfl (s_ld rfl (.own meA hb)) ?_
    refine o_step rfl (s_move rfl) ?_
    refine o_step rfl (s_idx rfl rfl hOs (by omega)) ?_
    refine o_step rfl (s_ld rfl ((hO.rdk hiA).ld n 0 hs rfl (by decide) (by omega))) ?_
    refine o_step rfl (s_len rfl) ?_
    refine o_step rfl (s_add rfl rfl (by omega)) ?_
    refine o_step rfl (s_lss rfl rfl) ?_
    refine o_nil ?_
    refine x_then (hK21 _ _ ?_)
    refine c_if rfl (fun hli => ?_) (fun hli => ?_)
    ·
     refine c_skip ?_
     refine x_then (hK20 _ _ ?_)
     refine c_seq fun _ hK22 => ?_
     refine c_block ?_
     refine c_seq fun _ hK23 => ?_
     refine c_region ?_
     refine o_step rfl (s_move rfl) ?_
     refine o_step rfl (s_move rfl) ?_
     refine o_step rfl (s_mul rfl rfl (by omega)) ?_
     refine o_step rfl (s_move rfl) ?_
     refine o_step rfl (s_mul rfl rfl (by omega)) ?_
     refine o_step rfl (s_add rfl rfl (by omega)) ?_
     refine o_step rfl (s_add rfl rfl (by omega)) ?_
     refine o_step rfl (s_convB (j := 31 * n + 7 * i + 3) rfl) ?_
     refine o_bs (E := Eb) (xs := [fBy n i]) (vs := [_]) rfl rfl rfl rfl rfl (by decide) (by decide) fun b90 S90 hS90 => ?_
     refine o_app2 hK.own (hS90.rdk hiA) rfl rfl rfl rfl (by simp only [List.length_singleton]; omega) (by simp only [List.length_singleton]; omega) rfl pkA fun a91 c91 S91 G91 hS91 hG91 => ?_
     refine o_step rfl (s_assign rfl) ?_
     refine o_nil ?_
     refine x_then (hK23 _ _ ?_)
     refine c_seq fun _ hK24 => ?_
     refine c_region ?_
     refine o_step rfl (s_move rfl) ?_
     refine o_step rfl (s_move rfl) ?_
     refine o_step rfl (s_nil rfl) ?_
     refine o_step rfl (s_field rfl rfl (by decide)) ?_
     refine o_step rfl (s_ld rfl (.own meA hb)) ?_
     refine o_step rfl (s_move rfl) ?_
     refine o_step rfl (s_idx rfl rfl hOs (by omega)) ?_
     refine o_step rfl (s_ld rfl ((hO.rdk hiA).ld n 0 hs rfl (by decide) (by omega))) ?_
     refine o_step rfl (s_len rfl) ?_
     by_cases hie : i = s.xs.length
     ·
      have hq3 := (hc.resolve_right (fun h => absurd h.1 (by omega))).2
      have hq3l := congrArg List.length hq3
      refine o_step rfl (step_cast (v' := .bool true) (s_eql rfl rfl) (by rw [decide_eq_true (by omega)])) ?_
      refine o_nil ?_
      refine x_then (hK24 _ _ ?_)
      refine c_true rfl ?_
      refine c_region ?_
      refine o_step rfl (s_move rfl) ?_
      refine o_step rfl (s_move rfl) ?_
      refine o_bs (E := Esl) (xs := [⟨a91, c91, l ++ [fBy n i]⟩]) (vs := [_]) rfl rfl rfl rfl rfl (by decide) (by decide) fun b104 S104 hS104 => ?_
      refine o_app hP3 (hS104.rdk hiA) rfl rfl rfl rfl (by simp only [List.length_singleton]; omega) (by simp only [List.length_singleton]; omega) rfl pkA fun a105 c105 S105 hS105 => ?_
      refine o_step rfl (s_assign rfl) ?_
      refine o_nil ?_
      refine x_block ?_
      refine x_then (hK22 _ _ ?_)
      refine c_region ?_
      refine o_step rfl (s_move rfl) ?_
      refine o_step rfl (s_add rfl rfl (by omega)) ?_
      refine o_step rfl (s_assign rfl) ?_
      refine o_nil ?_
      exact x_then (x_inv (i + 1, l ++ [fBy n i], a91, c91, ⟨a105, c105, q3.xs ++ [⟨a91, c91, l ++ [fBy n i]⟩]⟩, S105, S91, G91 ++ Gk) ⟨by omega, by omega, by rw [hl]; exact mkL_succ, hK.app hS91 hG91, hS105, .inr ⟨by omega, ⟨a91, c91, l ++ [fBy n i]⟩, by rw [hq3], by show l ++ _ = _; rw [hl, mkL_succ, hie], hS91.sl, (Keep.start hS91).more (fun _ h => by cases h)⟩⟩ (by first | omega | (dsimp only; omega)) sbA (by simp only [List.append_assoc]; exact hzB))
     ·
      obtain ⟨hgt, o, hq3, ho, hos, hKo⟩ := hc.resolve_left (fun h => hie h.1)
      refine o_step rfl (step_cast (v' := .bool false) (s_eql rfl rfl) (by rw [decide_eq_false (by omega)])) ?_
      refine o_nil ?_
      refine x_then (hK24 _ _ ?_)
      refine c_false rfl ?_
      refine c_skip ?_
      refine x_block ?_
      refine x_then (hK22 _ _ ?_)
      refine c_region ?_
      refine o_step rfl (s_move rfl) ?_
      refine o_step rfl (s_add rfl rfl (by omega)) ?_
      refine o_step rfl (s_assign rfl) ?_
      refine o_nil ?_
      exact x_then (x_inv (i + 1, l ++ [fBy n i], a91, c91, q3, P3, S91, G91 ++ Gk) ⟨by omega, by omega, by rw [hl]; exact mkL_succ, hK.app hS91 hG91, hP3, .inr ⟨by omega, o, hq3, ho, hos, hKo.app hS91 hG91⟩⟩ (by first | omega | (dsimp only; omega)) sbA (by simp only [List.append_assoc]; exact hzB))
    ·
     refine c_exit ?_
     refine x_then_exit ?_
     refine x_then_exit ?_
     refine x_block_exit ?_
     refine x_then (hK18 _ _ ?_)
     refine c_region ?_
     refine o_step rfl (s_move rfl) ?_
     refine o_step rfl (s_move rfl) ?_
     refine o_bs (E := Esl) (xs := [⟨la, lc, l⟩]) (vs := [_]) rfl rfl rfl rfl rfl (by decide) (by decide) fun b108 S108 hS108 => ?_
     refine o_app hP2 (hS108.rdk hiA) rfl rfl rfl rfl (by simp only [List.length_singleton]; omega) (by simp only [List.length_singleton]; omega) rfl pkA fun a109 c109 S109 hS109 => ?_
     refine o_step rfl (s_assign rfl) ?_
     refine o_nil ?_
     refine x_block ?_
     refine x_then (hK16 _ _ ?_)
     refine c_region ?_
     refine o_step rfl (s_move rfl) ?_
     refine o_step rfl (s_add rfl rfl (by omega)) ?_
     refine o_step rfl (s_assign rfl) ?_
     refine o_nil ?_
     obtain ⟨hgt, o, hq3, ho, hos, hKo⟩ := hc.resolve_left (fun h => absurd h.1 (by omega))
     exact x_then (x_inv (n + 1, q3, ⟨a109, c109, q2.xs ++ [⟨la, lc, l⟩]⟩, P3, S109, Sk ++ (Gk ++ G), R2) ⟨by omega, by rw [hq3]; simp; omega, by simp; omega, hP3, hS109, hR2, by rw [hq3, ← List.append_assoc]; exact hD.step hq1 hq2 hs ho (by show l = _; rw [hl]; congr 1; omega) hSas hos hK.own.sl hK.rds hKo.rds (hK.own.rds.mono HIn.appL)⟩ (by first | omega | (dsimp only; omega)) sbA (by simp only [List.append_assoc]; exact hzB))
   ·
    obtain rfl : n = sls.length := by omega
    have hP1s := hP1.sl
    have hP2s := hP2.sl
    refine c_exit ?_
    refine x_then_exit ?_
    refine x_then_exit ?_
    refine x_block_exit ?_
    refine x_then (hK12 _ _ ?_)
    refine c_seq fun _ hK25 => ?_
    refine c_seq fun _ hK26 => ?_
    refine c_region ?_
    refine o_step rfl (s_assign rfl) ?_
    refine o_nil ?_
    refine x_then (hK26 _ _ ?_)
    refine c_block ?_
    -- not carried: 2
    refine c_loopB (fun (j : Nat) => j ≤ sls.length) (fun (j : Nat) => [(10, .int .i64 j)]) [(0, _), (5, _), (6, _)] (fun (j : Nat) => (b, .cells cs.toArray 70 (0, 0)) :: (So ++ (P1 ++ (P2 ++ (G ++ R))))) (fun (j : Nat) => sls.length - j) 0 (by omega) sbA sbA hzB ?_
    rintro j hj
    refine c_seq fun _ hK27 => ?_
    refine c_seq fun _ hK28 => ?_
    refine c_region ?_
    refine o_step rfl (s_move rfl) ?_
    refine o_step rfl (s_move rfl) ?_
    refine o_step rfl (s_len rfl) ?_
    refine o_step rfl (s_lss rfl rfl) ?_
    refine o_nil ?_
    refine x_then (hK28 _ _ ?_)
    refine c_if rfl (fun hlt => ?_) (fun hlt => ?_)
    ·
     obtain ⟨s, o, m, hs, ho, hm, hox, hmx, is_, io, im, rs, ro, rm⟩ := hD.out j (by omega)
     have hml : m.xs.length = s.xs.length + 70 := by rw [hmx, mkL_len]
     have hol : o.xs.length = s.xs.length + 1 := by rw [hox, mkL_len]
     have hsm := hlen j s hs
     refine c_skip ?_
     refine x_then (hK27 _ _ ?_)
     refine c_seq fun _ hK29 => ?_
     refine c_block ?_
     refine c_seq fun _ hK30 => ?_
     refine c_region ?_
     refine o_step rfl (s_assign rfl) ?_
     refine o_nil ?_
     refine x_then (hK30 _ _ ?_)
     refine c_block ?_
     refine c_loopB (fun (i : Nat) => i ≤ s.xs.length + 70) (fun (i : Nat) => [(11, .int .i64 i)]) [(0, _), (5, _), (6, _), (10, _), (110, _), (111, _), (112, _), (113, _)] (fun (i : Nat) => (b, .cells cs.toArray 70 (0, 0)) :: (So ++ (P1 ++ (P2 ++ (G ++ R))))) (fun (i : Nat) => s.xs.length + 70 - i) 0 (by omega) sbA sbA hzB ?_
     rintro i hi
     refine c_seq fun _ hK31 => ?_
     refine c_seq fun _ hK32 => ?_
     refine c_region ?_
     refine o_step rfl (s_move rfl) ?_
     refine o_step rfl (s_move rfl) ?_
     refine o_step rfl (s_move rfl) ?_
     refine o_step rfl (s_idx rfl rfl hP2s (by omega)) ?_
     refine o_step rfl (s_ld rfl ((hP2.rdk hiA).ld j 0 hm rfl (by decide) (by omega))) ?_
     refine o_step rfl (s_len rfl) ?_
     refine o_step rfl (s_lss rfl rfl) ?_
     refine o_nil ?_
     refine x_then (hK32 _ _ ?_)
     refine c_if rfl (fun hli => ?_) (fun hli => ?_)
     ·
      refine c_skip ?_
      refine x_then (hK31 _ _ ?_)
      refine c_seq fun _ hK33 => ?_
      refine c_block ?_
      refine c_seq fun _ hK34 => ?_
      refine c_region ?_
      refine o_step rfl (s_move rfl) ?_
      refine o_step rfl (s_move rfl) ?_
      refine o_step rfl (s_idx rfl rfl hP2s (by omega)) ?_
      refine o_step rfl (s_ld rfl ((hP2.rdk hiA).ld j 0 hm rfl (by decide) (by omega))) ?_
      refine o_step rfl (s_move rfl) ?_
      refine o_step rfl (s_idx rfl rfl im (by omega)) ?_
      refine o_step rfl (s_ld rfl ((rm.rdk hiA).ld i 0 (by rw [hmx]; exact mkL_get (by omega)) rfl (by decide) rfl)) ?_
      refine o_step rfl (s_assign rfl) ?_
      refine o_nil ?_
      refine x_then (hK34 _ _ ?_)
      refine c_seq fun _ hK35 => ?_
      refine c_seq fun _ hK36 => ?_
      refine c_region ?_
      refine o_step rfl (s_move rfl) ?_
      refine o_step rfl (s_move rfl) ?_
      refine o_step rfl (s_nil rfl) ?_
      refine o_step rfl (s_field rfl rfl (by decide)) ?_
      refine o_step rfl (s_ld rfl (.own meA hb)) ?_
      refine o_step rfl (s_move rfl) ?_
      refine o_step rfl (s_idx rfl rfl hOs (by omega)) ?_
      refine o_step rfl (s_ld rfl ((hO.rdk hiA).ld j 0 hs rfl (by decide) (by omega))) ?_
      refine o_step rfl (s_len rfl) ?_
      by_cases hin : i < s.xs.length
      ·
       refine o_step rfl (step_cast (v' := .bool true) (s_lss rfl rfl) (by rw [decide_eq_true (by omega)])) ?_
       refine o_nil ?_
       refine x_then (hK36 _ _ ?_)
       refine c_true rfl ?_
       refine c_region ?_
       refine o_step rfl (s_move rfl) ?_
       refine o_step rfl (s_nil rfl) ?_
       refine o_step rfl (s_field rfl rfl (by decide)) ?_
       refine o_step rfl (s_ld rfl (.own meA hb)) ?_
       refine o_step rfl (s_move rfl) ?_
       refine o_step rfl (s_idx rfl rfl hOs (by omega)) ?_
       refine o_step rfl (s_ld rfl ((hO.rdk hiA).ld j 0 hs rfl (by decide) (by omega))) ?_
       refine o_step rfl (s_move rfl) ?_
       refine o_step rfl (s_idx rfl rfl is_ (by omega)) ?_
       refine o_step rfl (s_ld rfl ((rs.rdk hiA).ld i 0 (mkL_get (by omega)) rfl (by decide) rfl)) ?_
       refine o_step rfl (s_assign rfl) ?_
       refine o_nil ?_
       refine x_then (hK35 _ _ ?_)
       refine c_seq fun _ hK37 => ?_
       refine c_seq fun _ hK38 => ?_
       refine c_region ?_
       refine o_step rfl (s_move rfl) ?_
       refine o_step rfl (s_move rfl) ?_
       refine o_step rfl (s_nil rfl) ?_
       refine o_step rfl (s_field rfl rfl (by decide)) ?_
       refine o_step rfl (s_ld rfl (.own meA hb)) ?_
       refine o_step rfl (s_move rfl) ?_
       refine o_step rfl (s_idx rfl rfl hOs (by omega)) ?_
       refine o_step rfl (s_ld rfl ((hO.rdk hiA).ld j 0 hs rfl (by decide) (by omega))) ?_
       refine o_step rfl (s_len rfl) ?_
       by_cases hie : i = s.xs.length
       ·
        refine o_step rfl (step_cast (v' := .bool true) (s_eql rfl rfl) (by rw [decide_eq_true (by omega)])) ?_
        refine o_nil ?_
        refine x_then (hK38 _ _ ?_)
        refine c_true rfl ?_
        refine c_region ?_
        refine o_step rfl (s_move rfl) ?_
        refine o_step rfl (s_move rfl) ?_
        refine o_step rfl (s_idx rfl rfl hP1s (by omega)) ?_
        refine o_step rfl (s_ld rfl ((hP1.rdk hiA).ld j 0 ho rfl (by decide) (by omega))) ?_
        refine o_step rfl (s_move rfl) ?_
        refine o_step rfl (s_idx rfl rfl io (by omega)) ?_
        refine o_step rfl (s_ld rfl ((ro.rdk hiA).ld i 0 (by rw [hox]; exact mkL_get (by omega)) rfl (by decide) rfl)) ?_
        refine o_step rfl (s_assign rfl) ?_
        refine o_nil ?_
        refine x_then (hK37 _ _ ?_)
        refine c_seq fun _ hK39 => ?_
        refine c_region ?_
        refine o_step rfl (s_move rfl) ?_
        refine o_step rfl (s_move rfl) ?_
        refine o_step rfl (s_mul rfl rfl (by omega)) ?_
        refine o_step rfl (s_move rfl) ?_
        refine o_step rfl (s_mul rfl rfl (by omega)) ?_
        refine o_step rfl (s_add rfl rfl (by omega)) ?_
        refine o_step rfl (s_add rfl rfl (by omega)) ?_
        refine o_step rfl (s_convB (j := 31 * j + 7 * i + 3) rfl) ?_
        refine o_step rfl (step_cast (v' := .bool true) (s_eql rfl rfl) (congrArg Value.bool (decide_eq_true rfl))) ?_
        refine o_step rfl (s_assign rfl) ?_
        refine o_nil ?_
        refine x_then (hK39 _ _ ?_)
        refine c_seq fun _ hK40 => ?_
        refine c_region ?_
        refine o_step rfl (s_move rfl) ?_
        refine o_step rfl (s_move rfl) ?_
        refine o_step rfl (s_idx rfl rfl hP2s (by omega)) ?_
        refine o_step rfl (s_ld rfl ((hP2.rdk hiA).ld j 0 hm rfl (by decide) (by omega))) ?_
        refine o_step rfl (s_move rfl) ?_
        refine o_step rfl (s_idx rfl rfl im (by omega)) ?_
        refine o_step rfl (s_ld rfl ((rm.rdk hiA).ld i 0 (by rw [hmx]; exact mkL_get (by omega)) rfl (by decide) rfl)) ?_
        refine o_step rfl (s_assign rfl) ?_
        refine o_nil ?_
        refine x_then (hK40 _ _ ?_)
        refine c_seq fun _ hK41 => ?_
        refine c_region ?_
        refine o_step rfl (s_move rfl) ?_
        refine o_step rfl (s_not rfl) ?_
        refine o_step rfl (s_move rfl) ?_
        refine o_yes rfl rfl ?_
        refine o_step rfl (s_move rfl) ?_
        refine o_yes rfl rfl ?_
        refine o_step rfl (s_move rfl) ?_
        refine o_yes rfl rfl ?_
        refine o_step rfl (s_mul rfl rfl (by omega)) ?_
        refine o_yes rfl rfl ?_
        refine o_step rfl (s_move rfl) ?_
        refine o_yes rfl rfl ?_
        refine o_step rfl (s_mul rfl rfl (by omega)) ?_
        refine o_yes rfl rfl ?_
        refine o_step rfl (s_add rfl rfl (by omega)) ?_
        refine o_yes rfl rfl ?_
        refine o_step rfl (s_add rfl rfl (by omega)) ?_
        refine o_yes rfl rfl ?_
        refine o_step rfl (s_convB (j := 31 * j + 7 * i + 3) rfl) ?_
        refine o_yes rfl rfl ?_
        refine o_step rfl (step_cast (v' := .bool true) (s_eql rfl rfl) (congrArg Value.bool (decide_eq_true rfl))) ?_
        refine o_yes rfl rfl ?_
        refine o_step rfl (s_not rfl) ?_
        refine o_step rfl (s_pick_f rfl rfl) ?_
        refine o_nil ?_
        refine x_then (hK41 _ _ ?_)
        refine c_false rfl ?_
        refine c_skip ?_
        refine x_block ?_
        refine x_then (hK33 _ _ ?_)
        refine c_region ?_
        refine o_step rfl (s_move rfl) ?_
        refine o_step rfl (s_add rfl rfl (by omega)) ?_
        refine o_step rfl (s_assign rfl) ?_
        refine o_nil ?_
        exact x_then (x_inv (i + 1) (by omega) (by first | omega | (dsimp only; omega)) sbA hzB)
       ·
        refine o_step rfl (step_cast (v' := .bool false) (s_eql rfl rfl) (by rw [decide_eq_false (by omega)])) ?_
        refine o_nil ?_
        refine x_then (hK38 _ _ ?_)
        refine c_false rfl ?_
        refine c_skip ?_
        refine x_then (hK37 _ _ ?_)
        refine c_seq fun _ hK42 => ?_
        refine c_region ?_
        refine o_step rfl (s_move rfl) ?_
        refine o_step rfl (s_move rfl) ?_
        refine o_step rfl (s_mul rfl rfl (by omega)) ?_
        refine o_step rfl (s_move rfl) ?_
        refine o_step rfl (s_mul rfl rfl (by omega)) ?_
        refine o_step rfl (s_add rfl rfl (by omega)) ?_
        refine o_step rfl (s_add rfl rfl (by omega)) ?_
        refine o_step rfl (s_convB (j := 31 * j + 7 * i + 3) rfl) ?_
        refine o_step rfl (step_cast (v' := .bool true) (s_eql rfl rfl) (congrArg Value.bool (decide_eq_true rfl))) ?_
        refine o_step rfl (s_assign rfl) ?_
        refine o_nil ?_
        refine x_then (hK42 _ _ ?_)
        refine c_seq fun _ hK43 => ?_
        refine c_region ?_
        refine o_step rfl (s_move rfl) ?_
        refine o_step rfl (s_move rfl) ?_
        refine o_step rfl (s_idx rfl rfl hP2s (by omega)) ?_
        refine o_step rfl (s_ld rfl ((hP2.rdk hiA).ld j 0 hm rfl (by decide) (by omega))) ?_
        refine o_step rfl (s_move rfl) ?_
        refine o_step rfl (s_idx rfl rfl im (by omega)) ?_
        refine o_step rfl (s_ld rfl ((rm.rdk hiA).ld i 0 (by rw [hmx]; exact mkL_get (by omega)) rfl (by decide) rfl)) ?_
        refine o_step rfl (s_assign rfl) ?_
        refine o_nil ?_
        refine x_then (hK43 _ _ ?_)
        refine c_seq fun _ hK44 => ?_
        refine c_region ?_
        refine o_step rfl (s_move rfl) ?_
        refine o_step rfl (s_not rfl) ?_
        refine o_step rfl (s_move rfl) ?_
        refine o_yes rfl rfl ?_
        refine o_step rfl (s_move rfl) ?_
        refine o_yes rfl rfl ?_
        refine o_step rfl (s_move rfl) ?_
        refine o_yes rfl rfl ?_
        refine o_step rfl (s_mul rfl rfl (by omega)) ?_
        refine o_yes rfl rfl ?_
        refine o_step rfl (s_move rfl) ?_
        refine o_yes rfl rfl ?_
        refine o_step rfl (s_mul rfl rfl (by omega)) ?_
        refine o_yes rfl rfl ?_
        refine o_step rfl (s_add rfl rfl (by omega)) ?_
        refine o_yes rfl rfl ?_
        refine o_step rfl (s_add rfl rfl (by omega)) ?_
        refine o_yes rfl rfl ?_
        refine o_step rfl (s_convB (j := 31 * j + 7 * i + 3) rfl) ?_
        refine o_yes rfl rfl ?_
        refine o_step rfl (step_cast (v' := .bool true) (s_eql rfl rfl) (congrArg Value.bool (decide_eq_true rfl))) ?_
        refine o_yes rfl rfl ?_
        refine o_step rfl (s_not rfl) ?_
        refine o_step rfl (s_pick_f rfl rfl) ?_
        refine o_nil ?_
        refine x_then (hK44 _ _ ?_)
        refine c_false rfl ?_
        refine c_skip ?_
        refine x_block ?_
        refine x_then (hK33 _ _ ?_)
        refine c_region ?_
        refine o_step rfl (s_move rfl) ?_
        refine o_step rfl (s_add rfl rfl (by omega)) ?_
        refine o_step rfl (s_assign rfl) ?_
        refine o_nil ?_
        exact x_then (x_inv (i + 1) (by omega) (by first | omega | (dsimp only; omega)) sbA hzB)
      ·
       refine o_step rfl (step_cast (v' := .bool false) (s_lss rfl rfl) (by rw [decide_eq_false (by omega)])) ?_
       refine o_nil ?_
       refine x_then (hK36 _ _ ?_)
       refine c_false rfl ?_
       refine c_skip ?_
       refine x_then (hK35 _ _ ?_)
       refine c_seq fun _ hK45 => ?_
       refine c_seq fun _ hK46 => ?_
       refine c_region ?_
       refine o_step rfl (s_move rfl) ?_
       refine o_step rfl (s_move rfl) ?_
       refine o_step rfl (s_nil rfl) ?_
       refine o_step rfl (s_field rfl rfl (by decide)) ?_
       refine o_step rfl (s_ld rfl (.own meA hb)) ?_
       refine o_step rfl (s_move rfl) ?_
       refine o_step rfl (s_idx rfl rfl hOs (by omega)) ?_
       refine o_step rfl (s_ld rfl ((hO.rdk hiA).ld j 0 hs rfl (by decide) (by omega))) ?_
       refine o_step rfl (s_len rfl) ?_
       by_cases hie : i = s.xs.length
       ·
        refine o_step rfl (step_cast (v' := .bool true) (s_eql rfl rfl) (by rw [decide_eq_true (by omega)])) ?_
        refine o_nil ?_
        refine x_then (hK46 _ _ ?_)
        refine c_true rfl ?_
        refine c_region ?_
        refine o_step rfl (s_move rfl) ?_
        refine o_step rfl (s_move rfl) ?_
        refine o_step rfl (s_idx rfl rfl hP1s (by omega)) ?_
        refine o_step rfl (s_ld rfl ((hP1.rdk hiA).ld j 0 ho rfl (by decide) (by omega))) ?_
        refine o_step rfl (s_move rfl) ?_
        refine o_step rfl (s_idx rfl rfl io (by omega)) ?_
        refine o_step rfl (s_ld rfl ((ro.rdk hiA).ld i 0 (by rw [hox]; exact mkL_get (by omega)) rfl (by decide) rfl)) ?_
        refine o_step rfl (s_assign rfl) ?_
        refine o_nil ?_
        refine x_then (hK45 _ _ ?_)
        refine c_seq fun _ hK47 => ?_
        refine c_region ?_
        refine o_step rfl (s_move rfl) ?_
        refine o_step rfl (s_move rfl) ?_
        refine o_step rfl (s_mul rfl rfl (by omega)) ?_
        refine o_step rfl (s_move rfl) ?_
        refine o_step rfl (s_mul rfl rfl (by omega)) ?_
        refine o_step rfl (s_add rfl rfl (by omega)) ?_
        refine o_step rfl (s_add rfl rfl (by omega)) ?_
        refine o_step rfl (s_convB (j := 31 * j + 7 * i + 3) rfl) ?_
        refine o_step rfl (step_cast (v' := .bool true) (s_eql rfl rfl) (congrArg Value.bool (decide_eq_true rfl))) ?_
        refine o_step rfl (s_assign rfl) ?_
        refine o_nil ?_
        refine x_then (hK47 _ _ ?_)
        refine c_seq fun _ hK48 => ?_
        refine c_region ?_
        refine o_step rfl (s_move rfl) ?_
        refine o_step rfl (s_move rfl) ?_
        refine o_step rfl (s_idx rfl rfl hP2s (by omega)) ?_
        refine o_step rfl (s_ld rfl ((hP2.rdk hiA).ld j 0 hm rfl (by decide) (by omega))) ?_
        refine o_step rfl (s_move rfl) ?_
        refine o_step rfl (s_idx rfl rfl im (by omega)) ?_
        refine o_step rfl (s_ld rfl ((rm.rdk hiA).ld i 0 (by rw [hmx]; exact mkL_get (by omega)) rfl (by decide) rfl)) ?_
        refine o_step rfl (s_assign rfl) ?_
        refine o_nil ?_
        refine x_then (hK48 _ _ ?_)
        refine c_seq fun _ hK49 => ?_
        refine c_region ?_
        refine o_step rfl (s_move rfl) ?_
        refine o_step rfl (s_not rfl) ?_
        refine o_step rfl (s_move rfl) ?_
        refine o_yes rfl rfl ?_
        refine o_step rfl (s_move rfl) ?_
        refine o_yes rfl rfl ?_
        refine o_step rfl (s_move rfl) ?_
        refine o_yes rfl rfl ?_
        refine o_step rfl (s_mul rfl rfl (by omega)) ?_
        refine o_yes rfl rfl ?_
        refine o_step rfl (s_move rfl) ?_
        refine o_yes rfl rfl ?_
        refine o_step rfl (s_mul rfl rfl (by omega)) ?_
        refine o_yes rfl rfl ?_
        refine o_step rfl (s_add rfl rfl (by omega)) ?_
        refine o_yes rfl rfl ?_
        refine o_step rfl (s_add rfl rfl (by omega)) ?_
        refine o_yes rfl rfl ?_
        refine o_step rfl (s_convB (j := 31 * j + 7 * i + 3) rfl) ?_
        refine o_yes rfl rfl ?_
        refine o_step rfl (step_cast (v' := .bool true) (s_eql rfl rfl) (congrArg Value.bool (decide_eq_true rfl))) ?_
        refine o_yes rfl rfl ?_
        refine o_step rfl (s_not rfl) ?_
        refine o_step rfl (s_pick_f rfl rfl) ?_
        refine o_nil ?_
        refine x_then (hK49 _ _ ?_)
        refine c_false rfl ?_
        refine c_skip ?_
        refine x_block ?_
        refine x_then (hK33 _ _ ?_)
        refine c_region ?_
        refine o_step rfl (s_move rfl) ?_
        refine o_step rfl (s_add rfl rfl (by omega)) ?_
        refine o_step rfl (s_assign rfl) ?_
        refine o_nil ?_
        exact x_then (x_inv (i + 1) (by omega) (by first | omega | (dsimp only; omega)) sbA hzB)
       ·
        refine o_step rfl (step_cast (v' := .bool false) (s_eql rfl rfl) (by rw [decide_eq_false (by omega)])) ?_
        refine o_nil ?_
        refine x_then (hK46 _ _ ?_)
        refine c_false rfl ?_
        refine c_skip ?_
        refine x_then (hK45 _ _ ?_)
        refine c_seq fun _ hK50 => ?_
        refine c_region ?_
        refine o_step rfl (s_move rfl) ?_
        refine o_step rfl (s_move rfl) ?_
        refine o_step rfl (s_mul rfl rfl (by omega)) ?_
        refine o_step rfl (s_move rfl) ?_
        refine o_step rfl (s_mul rfl rfl (by omega)) ?_
        refine o_step rfl (s_add rfl rfl (by omega)) ?_
        refine o_step rfl (s_add rfl rfl (by omega)) ?_
        refine o_step rfl (s_convB (j := 31 * j + 7 * i + 3) rfl) ?_
        refine o_step rfl (step_cast (v' := .bool true) (s_eql rfl rfl) (congrArg Value.bool (decide_eq_true rfl))) ?_
        refine o_step rfl (s_assign rfl) ?_
        refine o_nil ?_
        refine x_then (hK50 _ _ ?_)
        refine c_seq fun _ hK51 => ?_
        refine c_region ?_
        refine o_step rfl (s_move rfl) ?_
        refine o_step rfl (s_move rfl) ?_
        refine o_step rfl (s_idx rfl rfl hP2s (by omega)) ?_
        refine o_step rfl (s_ld rfl ((hP2.rdk hiA).ld j 0 hm rfl (by decide) (by omega))) ?_
        refine o_step rfl (s_move rfl) ?_
        refine o_step rfl (s_idx rfl rfl im (by omega)) ?_
        refine o_step rfl (s_ld rfl ((rm.rdk hiA).ld i 0 (by rw [hmx]; exact mkL_get (by omega)) rfl (by decide) rfl)) ?_
        refine o_step rfl (s_assign rfl) ?_
        refine o_nil ?_
        refine x_then (hK51 _ _ ?_)
        refine c_seq fun _ hK52 => ?_
        refine c_region ?_
        refine o_step rfl (s_move rfl) ?_
        refine o_step rfl (s_not rfl) ?_
        refine o_step rfl (s_move rfl) ?_
        refine o_yes rfl rfl ?_
        refine o_step rfl (s_move rfl) ?_
        refine o_yes rfl rfl ?_
        refine o_step rfl (s_move rfl) ?_
        refine o_yes rfl rfl ?_
        refine o_step rfl (s_mul rfl rfl (by omega)) ?_
        refine o_yes rfl rfl ?_
        refine o_step rfl (s_move rfl) ?_
        refine o_yes rfl rfl ?_
        refine o_step rfl (s_mul rfl rfl (by omega)) ?_
        refine o_yes rfl rfl ?_
        refine o_step rfl (s_add rfl rfl (by omega)) ?_
        refine o_yes rfl rfl ?_
        refine o_step rfl (s_add rfl rfl (by omega)) ?_
        refine o_yes rfl rfl ?_
        refine o_step rfl (s_convB (j := 31 * j + 7 * i + 3) rfl) ?_
        refine o_yes rfl rfl ?_
        refine o_step rfl (step_cast (v' := .bool true) (s_eql rfl rfl) (congrArg Value.bool (decide_eq_true rfl))) ?_
        refine o_yes rfl rfl ?_
        refine o_step rfl (s_not rfl) ?_
        refine o_step rfl (s_pick_f rfl rfl) ?_
        refine o_nil ?_
        refine x_then (hK52 _ _ ?_)
        refine c_false rfl ?_
        refine c_skip ?_
        refine x_block ?_
        refine x_then (hK33 _ _ ?_)
        refine c_region ?_
        refine o_step rfl (s_move rfl) ?_
        refine o_step rfl (s_add rfl rfl (by omega)) ?_
        refine o_step rfl (s_assign rfl) ?_
        refine o_nil ?_
        exact x_then (x_inv (i + 1) (by omega) (by first | omega | (dsimp only; omega)) sbA hzB)
     ·
      refine c_exit ?_
      refine x_then_exit ?_
      refine x_then_exit ?_
      refine x_block_exit ?_
      refine x_block ?_
      refine x_then (hK29 _ _ ?_)
      refine c_region ?_
      refine o_step rfl (s_move rfl) ?_
      refine o_step rfl (s_add rfl rfl (by omega)) ?_
      refine o_step rfl (s_assign rfl) ?_
      refine o_nil ?_
      exact x_then (x_inv (j + 1) (by omega) (by first | omega | (dsimp only; omega)) sbA hzB)
    ·
     refine c_exit ?_
     refine x_then_exit ?_
     refine x_then_exit ?_
     refine x_block_exit ?_
     refine x_then (hK25 _ _ ?_)
     refine c_seq fun _ hK53 => ?_
     refine c_region ?_
     refine o_step rfl (s_assign rfl) ?_
     refine o_nil ?_
     refine x_then (hK53 _ _ ?_)
     refine c_ret ?_
     refine ?_
     refine x_sub (Sub.refl _) (H' := (b, .cells cs.toArray 70 (0, 0)) :: So) hzB ?_
     exact x_ret rfl (.tmp rfl (.nil)) (⟨rfl, rfl⟩)
theorem addBytes_fn (b : Nat) (cs : List Value) (sls : List (Sl UInt8)) (s : Sl UInt8) (oa : Option Addr) (oc : Nat) (So : Hp) (hb : cs[0]? = some (.slice oa sls.length oc)) (hN : sls.length < 400) (hO : OwnS Esl 1 40 (.slice oa sls.length oc) sls So) : HL.Fn Tryd.prog 11 [.pointer (some ⟨b, 0, none⟩), .slice s.a s.xs.length s.c] (fun _ => True) ((b, .cells cs.toArray 70 (0, 0)) :: So) (fun _ S' => ∃ (cs' : List Value) (oa' : Option Addr) (oc' : Nat) (So' : Hp), S' = (b, .cells cs'.toArray 70 (0, 0)) :: So' ∧ cs'[0]? = some (.slice oa' (sls ++ [s]).length oc') ∧ (∀ i, i ≠ 0 → cs'[i]? = cs[i]?) ∧ OwnS Esl 1 40 (.slice oa' (sls ++ [s]).length oc') (sls ++ [s]) So') := by
  refine fn_of Tryd.func11 rfl rfl rfl fun w0 hw => ?_
  have hcl : 0 < cs.length := (List.getElem?_eq_some_iff.1 hb).1
  refine c_seq fun _ hK1 => ?_
  refine c_region ?_
  refine o_step rfl (s_move rfl) ?_
  refine o_step rfl (s_nil rfl) ?_
  refine o_step rfl (s_field rfl rfl (by decide)) ?_
  refine o_step rfl (s_ld rfl (.own meA hb)) ?_
  refine o_step rfl (s_len rfl) ?_
  refine o_step rfl (s_lss_t rfl rfl (by omega)) ?_
  refine o_nil ?_
  refine x_then (hK1 _ _ ?_)
  refine c_true rfl ?_
  refine c_region ?_
  refine o_step rfl (s_move rfl) ?_
  refine o_step rfl (s_move rfl) ?_
  refine o_step rfl (s_nil rfl) ?_
  refine o_step rfl (s_field rfl rfl (by decide)) ?_
  refine o_step rfl (s_ld rfl (.own meA hb)) ?_
  refine o_step rfl (s_move rfl) ?_
  refine o_bs (E := Esl) (xs := [s]) (vs := [_]) rfl rfl rfl rfl rfl (by decide) (by decide) fun b16 S16 hS16 => ?_
  refine o_app hO (hS16.rdk hiA) rfl rfl rfl rfl (by simp only [List.length_singleton]; omega) (by simp only [List.length_singleton]; omega) rfl pkA fun a17 c17 S17 hS17 => ?_
  refine o_step rfl (s_nil rfl) ?_
  refine o_step rfl (s_field rfl rfl (by decide)) ?_
  refine o_store rfl rfl rfl upA (by first | decide | omega | (simp; done) | (simp; omega)) rfl ?_
  refine o_nil ?_
  refine x_sub (Sub.refl _) (H' := (b, .cells (cs.set 0 (.slice a17 (sls ++ [s]).length c17)).toArray 70 (0, 0)) :: S17) hzB ?_
  exact x_end rfl (.nil) (⟨_, _, _, _, rfl, List.getElem?_set_self hcl, fun i hi => List.getElem?_set_ne (Ne.symm hi), hS17⟩)
theorem apart_fn (b : Nat) (cs : List Value) (sls : List (Sl UInt8)) (oa : Option Addr) (oc : Nat) (So Si : Hp) (hb : cs[0]? = some (.slice oa sls.length oc)) (hz : ∀ i, i < 19 → i ≠ 0 → cs[i]? = some (.slice none 0 0)) (hN : sls.length ≤ 400) (hlen : ∀ (j : Nat) (s : Sl UInt8), sls[j]? = some s → s.xs.length ≤ 4294967296) (hO : OwnS Esl 1 40 (.slice oa sls.length oc) sls So) (xss0 : List (List UInt8)) (hI : OwnL Eb 1 5 sls xss0 Si) : HL.Fn Tryd.prog 12 [.pointer (some ⟨b, 0, none⟩)] (fun _ => True) ((b, .cells cs.toArray 70 (0, 0)) :: (So ++ Si)) (fun v S' => v = .bool true ∧ S' = (b, .cells cs.toArray 70 (0, 0)) :: So) := by
  refine fn_of Tryd.func12 rfl rfl rfl fun w0 hw => ?_
  refine c_seq fun _ hK1 => ?_
  refine c_region ?_
  refine o_step rfl (s_assign rfl) ?_
  refine o_nil ?_
  refine x_then (hK1 _ _ ?_)
  refine c_seq fun _ hK2 => ?_
  refine c_region ?_
  refine o_step rfl (s_assign rfl) ?_
  refine o_nil ?_
  refine x_then (hK2 _ _ ?_)
  refine c_seq fun _ hK3 => ?_
  refine c_seq fun _ hK4 => ?_
  refine c_region ?_
  refine o_step rfl (s_move rfl) ?_
  refine o_call (apartBytes_fn b cs sls oa oc So Si hb hN hlen hO xss0 hI) rfl rfl rfl pkA (fun _ _ => trivial) (fun v5 S5 ⟨hv5, hS5⟩ => ?_)
  subst hv5
  subst hS5
  refine o_step rfl (s_not rfl) ?_
  refine o_nil ?_
  refine x_then (hK4 _ _ ?_)
  refine c_false rfl ?_
  refine c_skip ?_
  refine x_then (hK3 _ _ ?_)
  refine c_seq fun _ hK5 => ?_
  refine c_seq fun _ hK6 => ?_
  refine c_region ?_
  refine o_step rfl (s_move rfl) ?_
  refine o_callP (apartInts0_fn b cs (hz 1 (by decide) (by decide))) rfl rfl rfl (fun w st => (RdPK.own (l := cs) meA).out w st) (fun v8 hv8 => ?_)
  subst hv8
  refine o_step rfl (s_not rfl) ?_
  refine o_nil ?_
  refine x_then (hK6 _ _ ?_)
  refine c_false rfl ?_
  refine c_skip ?_
  refine x_then (hK5 _ _ ?_)
  refine c_seq fun _ hK7 => ?_
  refine c_seq fun _ hK8 => ?_
  refine c_region ?_
  refine o_step rfl (s_move rfl) ?_
  refine o_callP (apartBools0_fn b cs (hz 2 (by decide) (by decide))) rfl rfl rfl (fun w st => (RdPK.own (l := cs) meA).out w st) (fun v11 hv11 => ?_)
  subst hv11
  refine o_step rfl (s_not rfl) ?_
  refine o_nil ?_
  refine x_then (hK8 _ _ ?_)
  refine c_false rfl ?_
  refine c_skip ?_
  refine x_then (hK7 _ _ ?_)
  refine c_seq fun _ hK9 => ?_
  refine c_seq fun _ hK10 => ?_
  refine c_region ?_
  refine o_step rfl (s_move rfl) ?_
  refine o_callP (apartTexts0_fn b cs (hz 3 (by decide) (by decide))) rfl rfl rfl (fun w st => (RdPK.own (l := cs) meA).out w st) (fun v14 hv14 => ?_)
  subst hv14
  refine o_step rfl (s_not rfl) ?_
  refine o_nil ?_
  refine x_then (hK10 _ _ ?_)
  refine c_false rfl ?_
  refine c_skip ?_
  refine x_then (hK9 _ _ ?_)
  refine c_seq fun _ hK11 => ?_
  refine c_seq fun _ hK12 => ?_
  refine c_region ?_
  refine o_step rfl (s_move rfl) ?_
  refine o_callP (apartMarks0_fn b cs (hz 4 (by decide) (by decide))) rfl rfl rfl (fun w st => (RdPK.own (l := cs) meA).out w st) (fun v17 hv17 => ?_)
  subst hv17
  refine o_step rfl (s_not rfl) ?_
  refine o_nil ?_
  refine x_then (hK12 _ _ ?_)
  refine c_false rfl ?_
  refine c_skip ?_
  refine x_then (hK11 _ _ ?_)
  refine c_seq fun _ hK13 => ?_
  refine c_seq fun _ hK14 => ?_
  refine c_region ?_
  refine o_step rfl (s_move rfl) ?_
  refine o_callP (apartSpans0_fn b cs (hz 5 (by decide) (by decide))) rfl rfl rfl (fun w st => (RdPK.own (l := cs) meA).out w st) (fun v20 hv20 => ?_)
  subst hv20
  refine o_step rfl (s_not rfl) ?_
  refine o_nil ?_
  refine x_then (hK14 _ _ ?_)
  refine c_false rfl ?_
  refine c_skip ?_
  refine x_then (hK13 _ _ ?_)
  refine c_seq fun _ hK15 => ?_
  refine c_seq fun _ hK16 => ?_
  refine c_region ?_
  refine o_step rfl (s_move rfl) ?_
  refine o_callP (apartRuns0_fn b cs (hz 6 (by decide) (by decide))) rfl rfl rfl (fun w st => (RdPK.own (l := cs) meA).out w st) (fun v23 hv23 => ?_)
  subst hv23
  refine o_step rfl (s_not rfl) ?_
  refine o_nil ?_
  refine x_then (hK16 _ _ ?_)
  refine c_false rfl ?_
  refine c_skip ?_
  refine x_then (hK15 _ _ ?_)
  refine c_seq fun _ hK17 => ?_
  refine c_seq fun _ hK18 => ?_
  refine c_region ?_
  refine o_step rfl (s_move rfl) ?_
  refine o_callP (apartClasses0_fn b cs (hz 7 (by decide) (by decide))) rfl rfl rfl (fun w st => (RdPK.own (l := cs) meA).out w st) (fun v26 hv26 => ?_)
  subst hv26
  refine o_step rfl (s_not rfl) ?_
  refine o_nil ?_
  refine x_then (hK18 _ _ ?_)
  refine c_false rfl ?_
  refine c_skip ?_
  refine x_then (hK17 _ _ ?_)
  refine c_seq fun _ hK19 => ?_
  refine c_seq fun _ hK20 => ?_
  refine c_region ?_
  refine o_step rfl (s_move rfl) ?_
  refine o_callP (apartNodes0_fn b cs (hz 8 (by decide) (by decide))) rfl rfl rfl (fun w st => (RdPK.own (l := cs) meA).out w st) (fun v29 hv29 => ?_)
  subst hv29
  refine o_step rfl (s_not rfl) ?_
  refine o_nil ?_
  refine x_then (hK20 _ _ ?_)
  refine c_false rfl ?_
  refine c_skip ?_
  refine x_then (hK19 _ _ ?_)
  refine c_seq fun _ hK21 => ?_
  refine c_seq fun _ hK22 => ?_
  refine c_region ?_
  refine o_step rfl (s_move rfl) ?_
  refine o_callP (apartInstrs0_fn b cs (hz 9 (by decide) (by decide))) rfl rfl rfl (fun w st => (RdPK.own (l := cs) meA).out w st) (fun v32 hv32 => ?_)
  subst hv32
  refine o_step rfl (s_not rfl) ?_
  refine o_nil ?_
  refine x_then (hK22 _ _ ?_)
  refine c_false rfl ?_
  refine c_skip ?_
  refine x_then (hK21 _ _ ?_)
  refine c_seq fun _ hK23 => ?_
  refine c_seq fun _ hK24 => ?_
  refine c_region ?_
  refine o_step rfl (s_move rfl) ?_
  refine o_callP (apartFaults0_fn b cs (hz 10 (by decide) (by decide))) rfl rfl rfl (fun w st => (RdPK.own (l := cs) meA).out w st) (fun v35 hv35 => ?_)
  subst hv35
  refine o_step rfl (s_not rfl) ?_
  refine o_nil ?_
  refine x_then (hK24 _ _ ?_)
  refine c_false rfl ?_
  refine c_skip ?_
  refine x_then (hK23 _ _ ?_)
  refine c_seq fun _ hK25 => ?_
  refine c_seq fun _ hK26 => ?_
  refine c_region ?_
  refine o_step rfl (s_move rfl) ?_
  refine o_callP (apartNotes0_fn b cs (hz 11 (by decide) (by decide))) rfl rfl rfl (fun w st => (RdPK.own (l := cs) meA).out w st) (fun v38 hv38 => ?_)
  subst hv38
  refine o_step rfl (s_not rfl) ?_
  refine o_nil ?_
  refine x_then (hK26 _ _ ?_)
  refine c_false rfl ?_
  refine c_skip ?_
  refine x_then (hK25 _ _ ?_)
  refine c_seq fun _ hK27 => ?_
  refine c_seq fun _ hK28 => ?_
  refine c_region ?_
  refine o_step rfl (s_move rfl) ?_
  refine o_callP (apartParts0_fn b cs (hz 12 (by decide) (by decide))) rfl rfl rfl (fun w st => (RdPK.own (l := cs) meA).out w st) (fun v41 hv41 => ?_)
  subst hv41
  refine o_step rfl (s_not rfl) ?_
  refine o_nil ?_
  refine x_then (hK28 _ _ ?_)
  refine c_false rfl ?_
  refine c_skip ?_
  refine x_then (hK27 _ _ ?_)
  refine c_seq fun _ hK29 => ?_
  refine c_seq fun _ hK30 => ?_
  refine c_region ?_
  refine o_step rfl (s_move rfl) ?_
  refine o_callP (apartRows0_fn b cs (hz 13 (by decide) (by decide))) rfl rfl rfl (fun w st => (RdPK.own (l := cs) meA).out w st) (fun v44 hv44 => ?_)
  subst hv44
  refine o_step rfl (s_not rfl) ?_
  refine o_nil ?_
  refine x_then (hK30 _ _ ?_)
  refine c_false rfl ?_
  refine c_skip ?_
  refine x_then (hK29 _ _ ?_)
  refine c_seq fun _ hK31 => ?_
  refine c_seq fun _ hK32 => ?_
  refine c_region ?_
  refine o_step rfl (s_move rfl) ?_
  refine o_callP (apartIntss0_fn b cs (hz 14 (by decide) (by decide))) rfl rfl rfl (fun w st => (RdPK.own (l := cs) meA).out w st) (fun v47 hv47 => ?_)
  subst hv47
  refine o_step rfl (s_not rfl) ?_
  refine o_nil ?_
  refine x_then (hK32 _ _ ?_)
  refine c_false rfl ?_
  refine c_skip ?_
  refine x_then (hK31 _ _ ?_)
  refine c_seq fun _ hK33 => ?_
  refine c_seq fun _ hK34 => ?_
  refine c_region ?_
  refine o_step rfl (s_move rfl) ?_
  refine o_callP (apartSpanss0_fn b cs (hz 15 (by decide) (by decide))) rfl rfl rfl (fun w st => (RdPK.own (l := cs) meA).out w st) (fun v50 hv50 => ?_)
  subst hv50
  refine o_step rfl (s_not rfl) ?_
  refine o_nil ?_
  refine x_then (hK34 _ _ ?_)
  refine c_false rfl ?_
  refine c_skip ?_
  refine x_then (hK33 _ _ ?_)
  refine c_seq fun _ hK35 => ?_
  refine c_seq fun _ hK36 => ?_
  refine c_region ?_
  refine o_step rfl (s_move rfl) ?_
  refine o_callP (apartPieces0_fn b cs (hz 16 (by decide) (by decide))) rfl rfl rfl (fun w st => (RdPK.own (l := cs) meA).out w st) (fun v53 hv53 => ?_)
  subst hv53
  refine o_step rfl (s_not rfl) ?_
  refine o_nil ?_
  refine x_then (hK36 _ _ ?_)
  refine c_false rfl ?_
  refine c_skip ?_
  refine x_then (hK35 _ _ ?_)
  refine c_seq fun _ hK37 => ?_
  refine c_seq fun _ hK38 => ?_
  refine c_region ?_
  refine o_step rfl (s_move rfl) ?_
  refine o_callP (apartFiles0_fn b cs (hz 17 (by decide) (by decide))) rfl rfl rfl (fun w st => (RdPK.own (l := cs) meA).out w st) (fun v56 hv56 => ?_)
  subst hv56
  refine o_step rfl (s_not rfl) ?_
  refine o_nil ?_
  refine x_then (hK38 _ _ ?_)
  refine c_false rfl ?_
  refine c_skip ?_
  refine x_then (hK37 _ _ ?_)
  refine c_seq fun _ hK39 => ?_
  refine c_seq fun _ hK40 => ?_
  refine c_region ?_
  refine o_step rfl (s_move rfl) ?_
  refine o_callP (apartCmds0_fn b cs (hz 18 (by decide) (by decide))) rfl rfl rfl (fun w st => (RdPK.own (l := cs) meA).out w st) (fun v59 hv59 => ?_)
  subst hv59
  refine o_step rfl (s_not rfl) ?_
  refine o_nil ?_
  refine x_then (hK40 _ _ ?_)
  refine c_false rfl ?_
  refine c_skip ?_
  refine x_then (hK39 _ _ ?_)
  refine c_seq fun _ hK41 => ?_
  refine c_region ?_
  refine o_step rfl (s_move rfl) ?_
  refine o_step rfl (s_assign rfl) ?_
  refine o_nil ?_
  refine x_then (hK41 _ _ ?_)
  refine c_ret ?_
  refine ?_
  refine x_sub (Sub.refl _) (H' := (b, .cells cs.toArray 70 (0, 0)) :: So) hzB ?_
  exact x_ret rfl (.tmp rfl (.nil)) (⟨rfl, rfl⟩)
end Go.Proofs.YtmmajabfmhipeaaDoor
