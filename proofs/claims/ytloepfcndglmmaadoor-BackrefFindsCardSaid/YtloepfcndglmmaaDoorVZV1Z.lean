/- Part of the proofs over this seat: see the text that holds the theorem. Conditions: each theorem bears its own. -/
import Derived.Test.YtloepfcndglmmaaDoorHTZ
import Derived.Test.YtloepfcndglmmaaDoorBT1Z
import Derived.Test.YtloepfcndglmmaaDoorHM2Z
import Derived.Test.YtloepfcndglmmaaDoorVZN3Z
namespace Go.Proofs.YtloepfcndglmmaaDoor
open Go Go.HL Go.Proofs Go.HL.Kl Go.HL.Kl.Mc Go.HL.Kl.Mc.AskE
set_option maxHeartbeats 2000000 in
theorem moreV_fn (la : Option Addr) (lc : Nat) (zs : List (Sl Sp)) (SL Pool : Hp) (hS : OwnS Esl 1 32 (.slice la zs.length lc) zs SL) (N : Nat) (hz : PoolR zs N Pool) (x : Sl Sp) (hx : RowP N Pool x) (hzl : zs.length ≤ 1000000) (hN : N ≤ 1000000) : HL.Fn Tryd.prog 120 [.slice la zs.length lc, .slice x.a x.xs.length x.c] (fun _ => True) (SL ++ Pool) (fun v S' => ∃ a c zs' SL', v = .slice a zs'.length c ∧ S' = SL' ++ Pool ∧ OwnS Esl 1 32 (.slice a zs'.length c) zs' SL' ∧ PoolR zs' N Pool ∧ zs'.length ≤ zs.length + 1 ∧ (∀ s ∈ zs, s ∈ zs') ∧ x.xs ∈ zs'.map Sl.xs) := by
  refine fn_of Tryd.func120 rfl rfl rfl fun w0 hw => ?_
  have hsl := hS.sl
  have hx1 := hx.1
  refine cR fun _ hK1 => ?_; refine oA (oZ hK1 (c_seq fun _ hK2 => ?_)); refine cR fun _ hK3 => ?_; refine oA (oZ hK3 (c_block ?_))
  -- not carried: 4
  refine c_loopB (fun (i : Nat) => i ≤ zs.length) (fun (i : Nat) => [(5, .int .i64 i)]) [(0, _), (1, _)] (fun (i : Nat) => SL ++ Pool) (fun (i : Nat) => zs.length - i) 0 (Nat.zero_le _) sbA sbA hzB ?_
  rintro i hi
  refine c_seq fun _ hK4 => ?_; refine cR fun _ hK5 => ?_; refine oM (oM ?_); refine oS sC ?_
  by_cases hil : (i : Int) < zs.length
  ·obtain ⟨z, hzi⟩ : ∃ z, zs[i]? = some z := gE
   have hzm := hz z (List.mem_of_getElem? hzi)
   have hz1 := hzm.1
   refine oS lsT (oZ hK5 ?_); refine cTZ hK4 (c_seq fun _ hK6 => ?_); refine c_block (cR fun _ hK7 => ?_); refine oA (oZ hK7 (c_seq fun _ hK8 => ?_)); refine cR fun _ hK9 => ?_; refine oA (oZ hK9 (c_block ?_)); refine c_loop2 (fun (k : Nat) (b : Bool) => k ≤ x.xs.length ∧ (b = true → ∀ m, m < k → z.xs[m]? = x.xs[m]?)) (fun (k : Nat) (b : Bool) => [(7, .int .i64 k), (6, .bool b)]) [(0, _), (1, _), (5, _), (8, _), (9, _), (10, _), (11, _)] (fun (k : Nat) (b : Bool) => SL ++ Pool) (fun (k : Nat) (b : Bool) => x.xs.length - k) 0 true ⟨Nat.zero_le _, fun _ m hm => absurd hm (Nat.not_lt_zero _)⟩ sbA sbA hzB ?_
   rintro k b ⟨hk, hbI⟩
   refine c_seq fun _ hK10 => ?_; refine cR fun _ hK11 => ?_; refine oM (oM ?_); refine oS sC ?_
   by_cases hkl : (k : Int) < x.xs.length
   ·obtain ⟨p, hp⟩ : ∃ p, z.xs[k]? = some p := ⟨_, List.getElem?_eq_getElem (by have := hzm.1; have := hx.1; omega)⟩
    obtain ⟨q, hq⟩ : ∃ q, x.xs[k]? = some q := gE
    refine oS lsT (oZ hK11 ?_); refine cTZ hK10 (c_seq fun _ hK12 => ?_); refine c_block ?_; refine c_drawE (SL ++ Pool) (fun i => false) ?_
    by_cases hb : b = true
    ·refine eK 0 rfl (step_cast (v' := .bool true) (s_move rfl) (by rw [hb])) ?_; refine eK 1 rfl sM ?_; refine eG 2 rfl sM ?_; refine eG 3 rfl sM ?_; refine eG 4 rfl (s_idx rfl rfl hsl (by omega)) ?_; refine eG 5 rfl (s_ld rfl ((hS.rdk hiA).ld i 0 hzi rfl (by decide) (by omega))) ?_; refine eG 6 rfl sM ?_; refine eG 7 rfl (s_idx rfl rfl hzm.2.1 (by omega)) ?_; refine eG 8 rfl (s_ldB rfl ((hzm.2.2.rdk hiA).cels hp) lnA) ?_; refine eG 9 rfl sM ?_; refine eG 10 rfl sM ?_; refine eG 11 rfl (s_idx rfl rfl hx.2.1 (by omega)) ?_; refine eG 12 rfl (s_ldB rfl ((hx.2.2.rdk hiA).cels hq) lnA) ?_; refine eG 13 rfl (s_eql_sp rfl rfl) ?_; refine eK 14 rfl sT ?_; refine eK 15 rfl sA ?_; refine e_done (by kernel_rfl) ?_; refine x_block (xZ hK12 (c_region (oM ?_))); refine oS sD (oA (o_nil ?_)); exact xI (k + 1, _) ⟨by dsimp only; omega, fun h m hm => if e : m = k then (by subst e; rw [hp, hq]; exact congrArg some (of_decide_eq_true h)) else hbI hb m (by omega)⟩
    ·refine eK 0 rfl (step_cast (v' := .bool false) (s_move rfl) (by rw [Bool.eq_false_iff.2 hb])) ?_; refine eK 1 rfl sM ?_; refine eS 2 rfl (eS 3 rfl (eS 4 rfl (eS 5 rfl (eS 6 rfl (eS 7 rfl (eS 8 rfl (eS 9 rfl (eS 10 rfl (eS 11 rfl (eS 12 rfl (eS 13 rfl ?_))))))))))); refine eK 14 rfl sP ?_; refine eK 15 rfl sA ?_; refine e_done (by kernel_rfl) ?_; refine x_block (xZ hK12 (c_region (oM ?_))); refine oS sD (oA (o_nil ?_)); exact xI (k + 1, false) ⟨by dsimp only; omega, fun h => (by cases h)⟩
   ·obtain rfl : k = x.xs.length := by omega
    refine oS lsF (oZ hK11 ?_); refine cF ?_; refine c_exit ?_; refine x_then_exit (x_then_exit (x_block_exit (xZ hK8 (cR fun _ hK13 => ?_))))
    by_cases hb2 : b = true
    ·have hzx : z.xs = x.xs := List.ext_getElem? fun m => by
       rcases Nat.lt_or_ge m x.xs.length with h | h
       · exact hbI hb2 m h
       · rw [List.getElem?_eq_none (by omega), List.getElem?_eq_none h]
     refine oS (step_cast (v' := .bool true) (s_move rfl) (by rw [hb2])) ?_; refine oZ hK13 ?_; refine cT (cR fun _ hK14 => ?_); refine oM (oA (oZ hK14 (c_ret ?_))); refine x_block_ret (x_then_ret (x_then_ret (x_block_ret (x_then_ret (?_)))))
     exact xR rfl rfl (⟨la, lc, zs, SL, rfl, rfl, hS, hz, by omega, fun s h => h, List.mem_map.2 ⟨z, List.mem_of_getElem? hzi, hzx⟩⟩)
    ·refine oS (step_cast (v' := .bool false) (s_move rfl) (by rw [Bool.eq_false_iff.2 hb2])) ?_; refine oZ hK13 ?_; refine cF (c_skip (x_block (xZ hK6 (c_region (oM ?_))))); refine oS sD (oA (o_nil ?_)); exact xI (i + 1) (by omega)
  ·refine oS lsF (oZ hK5 ?_); refine cF ?_; refine c_exit ?_; refine x_then_exit (x_then_exit (x_block_exit (xZ hK2 (cR fun _ hK15 => ?_)))); refine oM (oM ?_); refine o_bs (E := Esl) (xs := [x]) (vs := [_]) rfl rfl rfl rfl rfl (by decide) (by decide) fun b39 S39 hS39 => ?_; refine o_app hS (hS39.rdk hiA) rfl rfl rfl rfl (by simp; omega) (by simp; omega) rfl pkA fun a40 c40 S40 hS40 => ?_; refine oA (oZ hK15 (c_ret ?_)); refine ?_; refine x_sub (Sub.refl _) (H' := S40 ++ Pool) hzB ?_; exact xR rfl rfl (⟨a40, c40, zs ++ [x], S40, rfl, rfl, hS40, hz.snoc hx, by simp, fun s h => List.mem_append_left _ h, List.mem_map.2 ⟨x, by simp, rfl⟩⟩)
set_option maxHeartbeats 2000000 in
theorem tAllV_fn (bT : Nat) (ra : Option Addr) (rc : Nat) (re : List Nd) (n : Int) (ha : Option Addr) (hc : Nat) (hl : List Nat) (left : Int) (la : Option Addr) (lc : Nat) (zs : List (Sl Sp)) (SL : Hp) (hS : OwnS Esl 1 32 (.slice la zs.length lc) zs SL) (ka : Option Addr) (kc : Nat) (ms : List (Sl Sp)) (SM Pool : Hp) (hM : OwnS Esl 1 32 (.slice ka ms.length kc) ms SM) (N : Nat) (hz : PoolR zs N Pool) (hm : PoolR ms N Pool) (hN : N ≤ 1000000) (hK : (zs.length : Int) + left ≤ 600000) (hlo : -700000 ≤ left) (hml : ms.length ≤ 3000000) (hzl : zs.length ≤ 3000000) : HL.Fn Tryd.prog 108 [pt bT, .slice la zs.length lc, .slice ka ms.length kc] (fun _ => True) ((bT, .cells [.slice ra re.length rc, .int .i64 n, .slice ha hl.length hc, .int .i64 left].toArray 144 (0, 0)) :: (SL ++ (SM ++ Pool))) (fun v S' => ∃ a c zs' SL' left', v = .slice a zs'.length c ∧ S' = (bT, .cells [.slice ra re.length rc, .int .i64 n, .slice ha hl.length hc, .int .i64 left'].toArray 144 (0, 0)) :: (SL' ++ (SM ++ Pool)) ∧ OwnS Esl 1 32 (.slice a zs'.length c) zs' SL' ∧ PoolR zs' N Pool ∧ (zs'.length : Int) + left' ≤ zs.length + left ∧ left' ≤ left ∧ -700000 ≤ left' ∧ (0 ≤ left' → (∀ s ∈ zs, s ∈ zs') ∧ (∀ s ∈ ms, s.xs ∈ zs'.map Sl.xs) ∧ left' + ms.length ≤ left)) := by
  refine fn_of Tryd.func108 rfl rfl rfl fun w0 hw => ?_
  have hsl := hM.sl
  refine cR fun _ hK1 => ?_; refine oA (oZ hK1 (c_seq fun _ hK2 => ?_)); refine cR fun _ hK3 => ?_; refine oA (oZ hK3 (c_block ?_)); refine c_loop6 (fun (i : Nat) (a : Option Addr) (c : Nat) (ys : List (Sl Sp)) (S : Hp) (lf : Int) => i ≤ ms.length ∧ OwnS Esl 1 32 (.slice a ys.length c) ys S ∧ PoolR ys N Pool ∧ (ys.length : Int) + lf ≤ zs.length + left ∧ lf ≤ left ∧ -700000 ≤ lf ∧ (∀ s ∈ zs, s ∈ ys) ∧ (∀ m s, m < i → ms[m]? = some s → s.xs ∈ ys.map Sl.xs) ∧ lf + i ≤ left) (fun (i : Nat) (a : Option Addr) (c : Nat) (ys : List (Sl Sp)) (S : Hp) (lf : Int) => [(7, .int .i64 i), (1, .slice a ys.length c)]) [(0, _), (2, _), (6, _)] (fun (i : Nat) (a : Option Addr) (c : Nat) (ys : List (Sl Sp)) (S : Hp) (lf : Int) => (bT, .cells [.slice ra re.length rc, .int .i64 n, .slice ha hl.length hc, .int .i64 lf].toArray 144 (0, 0)) :: (S ++ (SM ++ Pool))) (fun (i : Nat) (a : Option Addr) (c : Nat) (ys : List (Sl Sp)) (S : Hp) (lf : Int) => ms.length - i) 0 la lc zs SL left ⟨Nat.zero_le _, hS, hz, Int.le_refl _, Int.le_refl _, hlo, fun s h => h, fun m s h => absurd h (Nat.not_lt_zero _), by omega⟩ sbA sbA hzB ?_
  rintro i a c ys S lf ⟨hi, hy, hyz, hyk, hlf, hlo2, hin1, hin2, hcst⟩
  refine c_seq fun _ hK4 => ?_; refine cR fun _ hK5 => ?_; refine oM (oM ?_); refine oS sC ?_
  by_cases hil : (i : Int) < ms.length
  ·obtain ⟨z, hzi⟩ : ∃ z, ms[i]? = some z := gE
   have hzm := hm z (List.mem_of_getElem? hzi)
   refine oS lsT (oM ?_); refine oY (oM ?_); refine oY ?_; refine oS sN ?_; refine oY ?_; refine oS sF ?_; refine oY ?_; refine oS sL ?_; refine oY ?_
   by_cases hlf0 : lf ≥ 0
   ·refine oS geT ?_; refine oS sT (oZ hK5 ?_); refine cTZ hK4 (c_seq fun _ hK6 => ?_); refine c_block (cR fun _ hK7 => ?_); refine oM (oM ?_); refine oS sN ?_; refine oS sF ?_; refine oS sL ?_; refine oS sU (oM ?_); refine oS sC ?_; refine oS sU ?_; refine oS sN ?_; refine oS sF ?_; refine o_store rfl rfl rfl upA ltA rfl ?_; refine oZ hK7 ?_
    refine c_region (oM (oM (oM ?_))); refine oS (s_idx rfl rfl hsl (by omega)) ?_; refine oS (s_ld rfl ((hM.rdk hiA).ld i 0 hzi rfl (by decide) (by omega))) ?_; refine o_call (moreV_fn a c ys S Pool hy N hyz z hzm (by omega) hN) rfl rfl rfl ((Pick.takeA pkA pkA)) (fun _ _ => trivial) (fun v37 S37 ⟨a37, c37, ys37, SL37, hv37, hS37, hO37, hP37, hl37, hu37, hw37⟩ => ?_); subst hv37
    subst hS37; refine oA (o_nil (x_block (xZ hK6 (c_region (oM ?_))))); refine oS sD (oA (o_nil ?_))
    have hin3 : ∀ m s, m < i + 1 → ms[m]? = some s → s.xs ∈ ys37.map Sl.xs := fun m s hmi hms => by
      by_cases e : m = i
      · subst e; rw [hzi] at hms; cases hms; exact hw37
      · obtain ⟨s2, h1, h2⟩ := List.mem_map.1 (hin2 m s (by omega) hms)
        exact List.mem_map.2 ⟨s2, hu37 s2 h1, h2⟩
    exact xI (i + 1, a37, c37, ys37, SL37, lf - 1 - (ys.length : Int)) ⟨by dsimp only; omega, hO37, hP37, by dsimp only; omega, by dsimp only; omega, by dsimp only; omega, fun s h => hu37 s (hin1 s h), hin3, by dsimp only; omega⟩
   ·refine oS geF ?_; refine oS sT (oZ hK5 ?_); refine cF ?_; refine c_exit ?_; refine x_then_exit (x_then_exit (x_block_exit (xZ hK2 (cR fun _ hK8 => ?_)))); refine oM (oA (oZ hK8 (c_ret ?_))); refine ?_; refine x_sub (Sub.refl _) (H' := (bT, .cells [.slice ra re.length rc, .int .i64 n, .slice ha hl.length hc, .int .i64 lf].toArray 144 (0, 0)) :: (S ++ (SM ++ Pool))) hzB ?_; exact xR rfl rfl (⟨a, c, ys, S, lf, rfl, rfl, hy, hyz, hyk, hlf, hlo2, fun h => absurd h (by omega)⟩)
  ·refine oS lsF (oM ?_); refine oN ?_; refine oN ?_; refine oN ?_; refine oN ?_; refine oN ?_; refine oS sP (oZ hK5 ?_); refine cF ?_; refine c_exit ?_; refine x_then_exit (x_then_exit (x_block_exit (xZ hK2 (cR fun _ hK9 => ?_)))); refine oM (oA (oZ hK9 (c_ret ?_))); refine ?_; refine x_sub (Sub.refl _) (H' := (bT, .cells [.slice ra re.length rc, .int .i64 n, .slice ha hl.length hc, .int .i64 lf].toArray 144 (0, 0)) :: (S ++ (SM ++ Pool))) hzB ?_; exact xR rfl rfl (⟨a, c, ys, S, lf, rfl, rfl, hy, hyz, hyk, hlf, hlo2, fun _ => ⟨hin1, fun s hs => (by obtain ⟨m, hm1⟩ := List.mem_iff_getElem?.1 hs; exact hin2 m s (by have := (List.getElem?_eq_some_iff.1 hm1).1; omega) hm1), by omega⟩⟩)
set_option maxHeartbeats 2000000 in
theorem emptiedV_fn (bF : Nat) (u1 u2 : Value) (ra : Option Addr) (rc : Nat) (re : List Nd) (hre : ∀ x ∈ re, -128 ≤ x.op ∧ x.op < 128) (hrl : re.length ≤ 1000000) (N : Nat) (hN : N ≤ 1000000) (hs1 : ∀ y ∈ re, y.op = 7 → 1 ≤ y.n ∧ y.n ≤ N) (xa : Option Addr) (xc : Nat) (xs : List Sp) (hx : xs.length = N) (a b : Nat) (hb : b ≤ re.length) : HL.Fn Tryd.prog 119 [pt bF, .slice xa xs.length xc, .int .i64 a, .int .i64 b] (fun W => RdP W bF 0 [.slice ra re.length rc, u1, u2] ∧ Rd En W (.slice ra re.length rc) re ∧ Rd Esp W (.slice xa xs.length xc) xs) [] (fun v S' => ∃ a' c', v = .slice a' N c' ∧ OwnS Esp 2 45 (.slice a' N c') (empTo re a b xs) S') := by
  refine fn_of Tryd.func119 rfl rfl rfl fun w0 hw => ?_
  have hsl := hw.2.1.sl
  have hbl := hsl.le
  have hxl := hw.2.2.sl
  refine cR fun _ hK1 => ?_; refine oA (oZ hK1 (cR fun _ hK2 => ?_)); refine oA (oZ hK2 (cR fun _ hK3 => ?_)); refine oM (oM ?_); refine o_app (OwnS.nil : OwnS Esp 2 45 (.slice none 0 0) [] []) (RdK.old0 hw.2.2) rfl rfl rfl rfl (by simp; omega) (by simp; omega) rfl pkA fun a13 c13 S13 hS13 => ?_
  rw [List.nil_append] at hS13
  rw [List.nil_append, hx]
  rw [hx] at hS13
  refine oA (oZ hK3 (c_seq fun _ hK4 => ?_)); refine cR fun _ hK5 => ?_; refine oM (oA (oZ hK5 (c_block ?_))); refine c_loop2 (fun (j : Nat) (S : Hp) => a ≤ j ∧ (j ≤ b ∨ j = a) ∧ OwnS Esp 2 45 (.slice a13 N c13) (empTo re a j xs) S) (fun (j : Nat) (S : Hp) => [(10, .int .i64 j)]) [(0, _), (3, _), (8, _), (9, _)] (fun (j : Nat) (S : Hp) => S) (fun (j : Nat) (S : Hp) => b - j) a S13 ⟨Nat.le_refl _, .inr rfl, by rw [empTo_start (Nat.le_refl _)]; exact hS13⟩ sbA sbA hzB ?_
  rintro j S ⟨haj, hjb, hS⟩
  have hyl : (empTo re a j xs).length = N := by unfold empTo; rw [emp_len]; exact hx
  have hys := hS.sl
  rw [hyl] at hys
  refine c_seq fun _ hK6 => ?_; refine cR fun _ hK7 => ?_; refine oM (oM ?_)
  by_cases hjl : (j : Int) < b
  ·obtain ⟨y, hj⟩ : ∃ y, re[j]? = some y := gE
   have hym := List.mem_of_getElem? hj
   have hyo := hre y hym
   refine oS lsT (oZ hK7 ?_); refine cTZ hK6 (c_seq fun _ hK8 => ?_); refine c_block (cR fun _ hK9 => ?_); refine oM ?_; refine oS sN ?_; refine oS sF ?_; refine oS (s_ld rfl ((RdPK.old0 hw.1).cel (j := 0) rfl rfl)) ?_; refine oM ?_; refine oS (s_idx rfl rfl hsl (by omega)) ?_; refine oS sF ?_; refine oS (s_ld rfl ((RdK.old0 hw.2.1).ld j 0 hj rfl (by decide) (by omega))) ?_; refine oS (s_convI rfl (by omega)) ?_
   by_cases h7 : y.op = 7
   ·obtain ⟨hn1, hn2⟩ := hs1 y hym h7
    obtain ⟨g, hg⟩ : ∃ g : Nat, y.n = g + 1 := ⟨(y.n - 1).toNat, by omega⟩
    refine oS (eqT (h := h7)) ?_; refine oZ hK9 ?_; refine cT (c_region (oM (oM ?_))); refine oS sN ?_; refine oS sF ?_; refine oS (s_ld rfl ((RdPK.old0 hw.1).cel (j := 0) rfl rfl)) ?_; refine oM ?_; refine oS (s_idx rfl rfl hsl (by omega)) ?_; refine oS sF ?_; refine oS (step_cast (v' := .int .i64 ((g : Int) + 1)) (s_ld rfl ((RdK.old0 hw.2.1).ld j 5 hj rfl (by decide) (by omega))) (by rw [hg])) ?_; refine oS (step_cast (v' := .int .i64 (g : Int)) (s_sub rfl rfl (by omega)) (congrArg _ (by omega))) ?_; refine oS (s_build (cs := [_, _]) (vs := [_, _]) rfl rfl (.cons rfl rfl rfl rfl rfl (.cons rfl rfl rfl rfl rfl (.nil)))) ?_; refine oS (s_idx rfl rfl hys (by omega)) ?_; refine o_stSE g noS hS pkA rfl rfl (by omega) (by rfl) fun S' hS' => ?_; refine o_nil (x_block (xZ hK8 (c_region (oM ?_)))); refine oS sD (oA (o_nil ?_)); exact xI (j + 1, _) ⟨by dsimp only; omega, by dsimp only; omega, by rw [empTo_step hj haj]; unfold em1; rw [if_pos h7, show y.n.toNat - 1 = g by omega]; exact hS'⟩
   ·refine oS (eqF (h := h7)) ?_; refine oZ hK9 ?_; refine cF (c_skip (x_block (xZ hK8 (c_region (oM ?_))))); refine oS sD (oA (o_nil ?_)); exact xI (j + 1, _) ⟨by dsimp only; omega, by dsimp only; omega, by rw [empTo_step hj haj]; unfold em1; rw [if_neg h7]; exact hS⟩
  ·have hend : empTo re a j xs = empTo re a b xs := if e : j ≤ b then by rw [show j = b by omega] else by rw [empTo_start (by omega), empTo_start (by omega)]
   rw [hend] at hS
   refine oS lsF (oZ hK7 ?_); refine cF ?_; refine c_exit ?_; refine x_then_exit (x_then_exit (x_block_exit (xZ hK4 (cR fun _ hK10 => ?_)))); refine oM (oA (oZ hK10 (c_ret ?_))); refine ?_; refine x_sub (Sub.refl _) (H' := S) hzB ?_; exact xR rfl rfl (⟨a13, c13, rfl, hS⟩)
set_option maxHeartbeats 1000000 in
theorem tEmptiedOV_fn (bT : Nat) (us : List Value) (ra : Option Addr) (rc : Nat) (re : List Nd) (hre : ∀ x ∈ re, -128 ≤ x.op ∧ x.op < 128) (hrl : re.length ≤ 1000000) (N : Nat) (hN : N ≤ 1000000) (hs1 : ∀ y ∈ re, y.op = 7 → 1 ≤ y.n ∧ y.n ≤ N) (xa : Option Addr) (xc : Nat) (xs : List Sp) (hx : xs.length = N) (a b : Nat) (hb : b ≤ re.length) : HL.Fn Tryd.prog 110 [pt bT, .slice xa xs.length xc, .int .i64 a, .int .i64 b] (fun W => RdP W bT 0 (.slice ra re.length rc :: us) ∧ Rd En W (.slice ra re.length rc) re ∧ Rd Esp W (.slice xa xs.length xc) xs) [] (fun v S' => ∃ S2, HSub S' S2 ∧ ∃ a' c', v = .slice a' N c' ∧ OwnS Esp 2 45 (.slice a' N c') (empTo re a b xs) S2) := by
  refine fn_of Tryd.func110 rfl rfl rfl fun w0 hw => ?_
  have hsl := hw.2.1.sl
  have hbl := hsl.le
  refine cR fun _ hK1 => ?_; refine oA (oZ hK1 (cR fun _ hK2 => ?_)); refine oM ?_; refine oS sN ?_; refine oS sF ?_; refine oS (s_ld rfl ((RdPK.old0 hw.1).cel (j := 0) rfl rfl)) ?_; refine oS (s_build (cs := [_, _, _]) (vs := [_]) rfl rfl (.cons rfl rfl rfl rfl rfl (.nil))) ?_; refine o_box rfl rfl rfl fun b15 => ?_; refine oA (oZ hK2 (cR fun _ hK3 => ?_)); refine oM (oM (oM (oM ?_))); refine o_call (emptiedV_fn b15 _ _ ra rc re hre hrl N hN hs1 xa xc xs hx a b hb) rfl rfl rfl (by exact .nil) (fun _ st => ⟨(RdPK.own meA).out _ st, (RdK.old0 hw.2.1).out _ st, (RdK.old0 hw.2.2).out _ st⟩) (fun v20 S20 ⟨a20, c20, hv20, hO20⟩ => ?_)
  subst hv20; refine oA (oZ hK3 (c_ret ?_)); refine ?_; exact xR rfl rfl (⟨S20, hzB, a20, c20, rfl, hO20⟩)
theorem tEmptiedV_fn (bT : Nat) (us : List Value) (ra : Option Addr) (rc : Nat) (re : List Nd) (hre : ∀ x ∈ re, -128 ≤ x.op ∧ x.op < 128) (hrl : re.length ≤ 1000000) (N : Nat) (hN : N ≤ 1000000) (hs1 : ∀ y ∈ re, y.op = 7 → 1 ≤ y.n ∧ y.n ≤ N) (xa : Option Addr) (xc : Nat) (xs : List Sp) (hx : xs.length = N) (a b : Nat) (hb : b ≤ re.length) : HL.Fn Tryd.prog 110 [pt bT, .slice xa xs.length xc, .int .i64 a, .int .i64 b] (fun W => RdP W bT 0 (.slice ra re.length rc :: us) ∧ Rd En W (.slice ra re.length rc) re ∧ Rd Esp W (.slice xa xs.length xc) xs) [] (fun v S' => ∃ a' c', v = .slice a' N c' ∧ OwnS Esp 2 45 (.slice a' N c') (empTo re a b xs) S') :=
  Fn.sub (tEmptiedOV_fn bT us ra rc re hre hrl N hN hs1 xa xc xs hx a b hb) fun v S' ⟨S2, h1, h2⟩ => ⟨S2, h1, h2⟩
end Go.Proofs.YtloepfcndglmmaaDoor
namespace Go.Proofs.YtloepfcndglmmaaDoor
open Go Go.HL Go.Proofs Go.HL.Kl Go.HL.Kl.Mc
def OneC (P : Program) (bm bat bnode : Nat) (i : Nat) (ra : Option Addr) (rc : Nat) (re : List Nd) (E : Hp) (c : Nat → List In) (L : Nat) : Prop := ∀ (ma : Option Addr) (mc : Nat) (m : List In) (Sm : Hp), OwnS Ein 7 119 (.slice ma m.length mc) m Sm → m.length + L ≤ 70000 →
  HL.Fn P 77 [.pointer (some ⟨bnode, 0, none⟩), .pointer (some ⟨bat, 0, none⟩)] (fun w => Rd En w (.slice ra re.length rc) re ∧ Apart (keys ((bat, .cells [.int .i64 i].toArray 3 (0, 0)) :: (bm, .cells [.slice ma m.length mc].toArray 81 (0, 0)) :: (Sm ++ E))) (.slice ra re.length rc)) ((bat, .cells [.int .i64 i].toArray 3 (0, 0)) :: (bm, .cells [.slice ma m.length mc].toArray 81 (0, 0)) :: (Sm ++ E)) (fun _ S' => ∃ ma' mc' Sm', S' = ((bat, .cells [.int .i64 i].toArray 3 (0, 0)) :: (bm, .cells [.slice ma' (m ++ c m.length).length mc'].toArray 81 (0, 0)) :: (Sm' ++ E)) ∧ OwnS Ein 7 119 (.slice ma' (m ++ c m.length).length mc') (m ++ c m.length) Sm')
abbrev oRe (bre : Nat) (ra : Option Addr) (rc : Nat) (re : List Nd) : Nat × Obj := (bre, .cells [.slice ra re.length rc].toArray 22 (0, 0))
abbrev oEn (bends be : Nat) (re : List Nd) : Nat × Obj := (bends, .cells [.slice (some ⟨be, 0, none⟩) re.length re.length].toArray 97 (0, 0))
abbrev oPu (bput bm : Nat) : Nat × Obj := (bput, .cells [.func (.func 74) [].toArray [.pointer (some ⟨bm, 0, none⟩)].toArray].toArray 120 (0, 0))
abbrev oNo (bnode bre bput bm bends : Nat) : Nat × Obj := (bnode, .cells [.func (.func 75) [].toArray [.pointer (some ⟨bre, 0, none⟩), .pointer (some ⟨bput, 0, none⟩), .pointer (some ⟨bm, 0, none⟩), .pointer (some ⟨bnode, 0, none⟩), .pointer (some ⟨bends, 0, none⟩)].toArray].toArray 121 (0, 0))
def NdC (P : Program) (x : Nd) (ks : F) : Prop := ∀ (bre bends bm bput bnode be : Nat) (ra : Option Addr) (rc : Nat) (re : List Nd) (l : List Nat) (Se : Hp) (ma : Option Addr) (mc : Nat) (m : List In) (Sm : Hp) (i i1 : Nat), (∀ x ∈ re, -128 ≤ x.op ∧ x.op < 128) → EndsOk re 0 l → OwnS Eix 1 3 (.slice (some ⟨be, 0, none⟩) re.length re.length) l Se → re.length ≤ 1000000 → Part re (.nd x ks .nil) i i1 → OwnS Ein 7 119 (.slice ma m.length mc) m Sm → m.length + lenT x ks ≤ 70000 →
  HL.Fn P 75 (.int .i64 i :: [.pointer (some ⟨bre, 0, none⟩), .pointer (some ⟨bput, 0, none⟩), .pointer (some ⟨bm, 0, none⟩), .pointer (some ⟨bnode, 0, none⟩), .pointer (some ⟨bends, 0, none⟩)]) (fun w => Rd En w (.slice ra re.length rc) re ∧ Apart (keys ((bm, .cells [.slice ma m.length mc].toArray 81 (0, 0)) :: (Sm ++ (oRe bre ra rc re :: oEn bends be re :: oPu bput bm :: oNo bnode bre bput bm bends :: Se)))) (.slice ra re.length rc)) ((bm, .cells [.slice ma m.length mc].toArray 81 (0, 0)) :: (Sm ++ (oRe bre ra rc re :: oEn bends be re :: oPu bput bm :: oNo bnode bre bput bm bends :: Se))) (fun _ S' => ∃ ma' mc' Sm', S' = ((bm, .cells [.slice ma' (m ++ codeOne x ks m.length).length mc'].toArray 81 (0, 0)) :: (Sm' ++ (oRe bre ra rc re :: oEn bends be re :: oPu bput bm :: oNo bnode bre bput bm bends :: Se))) ∧ OwnS Ein 7 119 (.slice ma' (m ++ codeOne x ks m.length).length mc') (m ++ codeOne x ks m.length) Sm')
end Go.Proofs.YtloepfcndglmmaaDoor
namespace Go.Proofs.YtloepfcndglmmaaDoor
open Go Go.HL Go.Proofs Go.HL.Kl Go.HL.Kl.Mc Go.HL.Kl.Mc.AskE
structure TalE where
  (bT : Nat) (ra : Option Addr) (rc : Nat) (re : List Nd) (n : Nat) (ha : Option Addr) (hc : Nat) (hl : List Nat) (N : Nat)
namespace TalE
def vre (K : TalE) : Value := .slice K.ra K.re.length K.rc
def vbh (K : TalE) : Value := .slice K.ha K.hl.length K.hc
abbrev obj (K : TalE) (left : Int) : Nat × Obj := (K.bT, .cells [.slice K.ra K.re.length K.rc, .int .i64 (K.n : Nat), .slice K.ha K.hl.length K.hc, .int .i64 left].toArray 144 (0, 0))
structure ok (K : TalE) : Prop where
  rng : ∀ x ∈ K.re, -128 ≤ x.op ∧ x.op < 128
  rl : K.re.length ≤ 1000000
  nl : K.n ≤ 1000000
  Nl : K.N ≤ 1000000
  grp : ∀ y ∈ K.re, y.op = 7 → 1 ≤ y.n ∧ y.n ≤ K.N
  ref : ∀ y ∈ K.re, y.op = 8 → 1 ≤ y.n ∧ y.n ≤ K.N
  beh : ∀ k y js r i1, Part K.re (.nd y js r) k i1 → K.hl[k]? = some (k + 1 + js.size)
structure Env (K : TalE) (W : World) (S : Hp) : Prop where
  d1 : Rd En W (.slice K.ra K.re.length K.rc) K.re
  a1 : Apart (keys S) (.slice K.ra K.re.length K.rc)
  d2 : Rd Eix W (.slice K.ha K.hl.length K.hc) K.hl
  a2 : Apart (keys S) (.slice K.ha K.hl.length K.hc)
def Post (K : TalE) (left : Int) (d : Int) (Pool : Hp) (v : Value) (S' : Hp) : Prop := ∃ (a : Option Addr) (c : Nat) (zs : List (Sl Sp)) (Sz New : Hp) (lf : Int), v = .slice a zs.length c ∧ S' = K.obj lf :: (Sz ++ (New ++ Pool)) ∧
  OwnS Esl 1 32 (.slice a zs.length c) zs Sz ∧ PoolR zs K.N (New ++ Pool) ∧ (zs.length : Int) + lf ≤ left + d ∧ lf ≤ left ∧ -700000 ≤ lf
def NodeT (K : TalE) (L : Nat) : Prop := ∀ (x : Nd) (ks : F) (at_ i1 : Nat), Part K.re (.nd x ks .nil) at_ i1 → ∀ (i j : Nat), i ≤ j → j ≤ K.n → ∀ (c : Sl Sp) (Pool : Hp), RowP K.N Pool c → ∀ left : Int, 0 ≤ left → left < L → left ≤ 500000 →
  HL.Fn Tryd.prog 90 [pt K.bT, .int .i64 at_, .int .i64 i, .int .i64 j, .slice c.a c.xs.length c.c] (fun W => K.Env W (K.obj left :: Pool)) (K.obj left :: Pool) (K.Post left 0 Pool)
def RowT (K : TalE) (L : Nat) (f : F) : Prop := ∀ (at_ i1 : Nat), Part K.re f at_ i1 → ∀ (i j : Nat), i ≤ j → j ≤ K.n → ∀ (c : Sl Sp) (Pool : Hp), RowP K.N Pool c → ∀ left : Int, 0 ≤ left → left < L → left ≤ 500000 →
  HL.Fn Tryd.prog 107 [pt K.bT, .int .i64 at_, .int .i64 (f.num : Nat), .int .i64 i, .int .i64 j, .slice c.a c.xs.length c.c] (fun W => K.Env W (K.obj left :: Pool)) (K.obj left :: Pool) (K.Post left 1 Pool)
def RoundsT (K : TalE) (L : Nat) : Prop := ∀ (x y : Nd) (js : F) (at_ i1 : Nat), x.op = 6 → Part K.re (.nd x (.nd y js .nil) .nil) at_ i1 → ∀ (had : Nat), had ≤ 600000 → ∀ (i j : Nat), i ≤ j → j ≤ K.n → ∀ (c : Sl Sp) (Pool : Hp), RowP K.N Pool c → ∀ left : Int, 0 ≤ left → left < L → left ≤ 500000 → (had : Int) + left ≤ 600000 →
  HL.Fn Tryd.prog 109 [pt K.bT, .int .i64 at_, .int .i64 had, .int .i64 i, .int .i64 j, .slice c.a c.xs.length c.c] (fun W => K.Env W (K.obj left :: Pool)) (K.obj left :: Pool) (K.Post left 0 Pool)
end TalE
end Go.Proofs.YtloepfcndglmmaaDoor
namespace Go.Proofs.YtloepfcndglmmaaDoor
open Go Go.HL Go.Proofs Go.HL.Kl Go.HL.Kl.Mc Go.HL.Kl.Mc.AskE
namespace TalE
def PostV (K : TalE) (left : Int) (d : Int) (Pool : Hp) (C : List Caps → Int → Prop) (v : Value) (S' : Hp) : Prop := ∃ (a : Option Addr) (c : Nat) (zs : List (Sl Sp)) (Sz New : Hp) (lf : Int), v = .slice a zs.length c ∧ S' = K.obj lf :: (Sz ++ (New ++ Pool)) ∧
  OwnS Esl 1 32 (.slice a zs.length c) zs Sz ∧ PoolR zs K.N (New ++ Pool) ∧ (zs.length : Int) + lf ≤ left + d ∧ lf ≤ left ∧ -700000 ≤ lf ∧ (0 ≤ lf → C (zs.map Sl.xs) (left - lf))
def NodeV (K : TalE) (L : Nat) : Prop := ∀ (x : Nd) (ks : F) (at_ i1 : Nat), Part K.re (.nd x ks .nil) at_ i1 → ∀ (i j : Nat), i ≤ j → j ≤ K.n → ∀ (c : Sl Sp) (Pool : Hp), RowP K.N Pool c → ∀ left : Int, 0 ≤ left → left < L → left ≤ 500000 →
  HL.Fn Tryd.prog 90 [pt K.bT, .int .i64 at_, .int .i64 i, .int .i64 j, .slice c.a c.xs.length c.c] (fun W => K.Env W (K.obj left :: Pool)) (K.obj left :: Pool) (K.PostV left 0 Pool (NodeC' K.n x ks i j c.xs))
def RowV (K : TalE) (L : Nat) (f : F) : Prop := ∀ (at_ i1 : Nat), Part K.re f at_ i1 → ∀ (i j : Nat), i ≤ j → j ≤ K.n → ∀ (c : Sl Sp) (Pool : Hp), RowP K.N Pool c → ∀ left : Int, 0 ≤ left → left < L → left ≤ 500000 →
  HL.Fn Tryd.prog 107 [pt K.bT, .int .i64 at_, .int .i64 (f.num : Nat), .int .i64 i, .int .i64 j, .slice c.a c.xs.length c.c] (fun W => K.Env W (K.obj left :: Pool)) (K.obj left :: Pool) (K.PostV left 1 Pool (RowC K.n f i j c.xs))
def RoundsV (K : TalE) (L : Nat) : Prop := ∀ (x y : Nd) (js : F) (at_ i1 : Nat), x.op = 6 → Part K.re (.nd x (.nd y js .nil) .nil) at_ i1 → ∀ (had : Nat), had ≤ 600000 → ∀ (i j : Nat), i ≤ j → j ≤ K.n → ∀ (c : Sl Sp) (Pool : Hp), RowP K.N Pool c → ∀ left : Int, 0 ≤ left → left < L → left ≤ 500000 → (had : Int) + left ≤ 600000 →
  HL.Fn Tryd.prog 109 [pt K.bT, .int .i64 at_, .int .i64 had, .int .i64 i, .int .i64 j, .slice c.a c.xs.length c.c] (fun W => K.Env W (K.obj left :: Pool)) (K.obj left :: Pool) (K.PostV left 0 Pool (RndC K.n x y js had i j c.xs))
end TalE
end Go.Proofs.YtloepfcndglmmaaDoor
namespace Go.Proofs.YtloepfcndglmmaaDoor
open Go Go.HL Go.Proofs Go.HL.Kl Go.HL.Kl.Mc Go.HL.Kl.Mc.AskE
open TalE
set_option maxHeartbeats 4000000 in
theorem row_stepV (K : TalE) (hK : K.ok) (L : Nat) (hN : K.NodeV L) (f : F) (ih : ∀ g, g.size < f.size → K.RowV L g) (at_ i1 : Nat) (hp : Part K.re f at_ i1) (i j : Nat) (hij : i ≤ j) (hjn : j ≤ K.n) (c : Sl Sp) (Pool : Hp) (hc : RowP K.N Pool c) (left : Int) (h0 : 0 ≤ left) (hL : left < L) (h5 : left ≤ 500000) : HL.Fn Tryd.prog 107 [pt K.bT, .int .i64 at_, .int .i64 (f.num : Nat), .int .i64 i, .int .i64 j, .slice c.a c.xs.length c.c] (fun W => K.Env W (K.obj left :: Pool)) (K.obj left :: Pool) (K.PostV left 1 Pool (RowC K.n f i j c.xs)) := by
  refine fn_of Tryd.func107 rfl rfl rfl fun w0 hw => ?_
  have hnl := hK.nl
  have hNl := hK.Nl
  have hrl := hK.rl
  have hhs := hw.d2.sl
  have hple := hp.le
  have hnum := F.num_le f
  have hpl := hp.len
  refine cR fun _ hK1 => ?_; refine oA (oZ hK1 (c_seq fun _ hK2 => ?_)); refine cR fun _ hK3 => ?_; refine oM ?_
  by_cases hf0 : (f.num : Int) = 0
  ·refine oS eqT (oZ hK3 ?_); refine cT (c_seq fun _ hK4 => ?_); refine cR fun _ hK5 => ?_; refine oM (oM ?_)
   by_cases hne : (i : Int) ≠ j
   ·refine oS nqT (oZ hK5 ?_); refine cT (cR fun _ hK6 => ?_); refine oA (oZ hK6 (c_ret ?_)); refine x_then_ret (x_then_ret (?_))
    obtain rfl : f = F.nil := F.num_nil (by omega)
    exact xR rfl rfl (⟨none, 0, [], [], [], left, rfl, rfl, .nil, fun s hs => (by cases hs), by simp; omega, Int.le_refl _, by omega, fun _ => RowC.nilN (by omega) (by omega)⟩)
   ·refine oS nqF (oZ hK5 ?_); refine cFZ hK4 (cR fun _ hK7 => ?_); refine oM ?_; refine o_bs (E := Esl) (xs := [c]) (vs := [_]) rfl rfl rfl rfl rfl (by decide) (by decide) fun b23 S23 hS23 => ?_; refine oA (oZ hK7 (c_ret ?_)); refine x_then_ret (?_)
    obtain rfl : f = F.nil := F.num_nil (by omega)
    refine x_sub (Sub.refl _) (H' := K.obj left :: (S23 ++ ([] ++ Pool))) (by simpa using hzB) ?_; exact xR rfl rfl (⟨_, _, [c], S23, [], left, rfl, rfl, hS23, fun s hs => (by rw [List.mem_singleton.1 hs]; exact hc), by simp; omega, Int.le_refl _, by omega, fun _ => RowC.nilE (by omega) (List.mem_singleton_self _)⟩)
  ·obtain ⟨y, js, r, rfl⟩ : ∃ y js r, f = F.nd y js r := by cases f with | nil => exact absurd rfl hf0 | nd y a b => exact ⟨y, a, b, rfl⟩
   obtain ⟨hy, hpk, hpr⟩ := hp.head
   have hby := hK.beh _ _ _ _ _ hp
   have hp1 := hp.one
   have hbl := (List.getElem?_eq_some_iff.1 hby).1
   have hnm : (F.nd y js r).num = r.num + 1 := by simp [F.num]; try omega
   refine oS eqF (oZ hK3 ?_); refine cFZ hK2 (cR fun _ hK8 => ?_); refine oA (oZ hK8 (c_seq fun _ hK9 => ?_)); refine cR fun _ hK10 => ?_; refine oM (oA (oZ hK10 (c_block ?_))); refine c_loop7 (fun (e : Int) (ao : Option Addr) (co : Nat) (os : List (Sl Sp)) (So : Hp) (New : Hp) (lf : Int) => (i : Int) - 1 ≤ e ∧ e ≤ j ∧ OwnS Esl 1 32 (.slice ao os.length co) os So ∧ PoolR os K.N (New ++ Pool) ∧ (os.length : Int) + lf ≤ left ∧ lf ≤ left ∧ -700000 ≤ lf ∧ (r.num = 0 → (j : Int) - 1 ≤ e) ∧ (0 ≤ lf → GRow K.n y js r i j c.xs (ends (e + 1).toNat j) (os.map Sl.xs) (left - lf))) (fun (e : Int) (ao : Option Addr) (co : Nat) (os : List (Sl Sp)) (So : Hp) (New : Hp) (lf : Int) => [(14, .int .i64 e), (13, .slice ao os.length co)]) [(0, _), (1, _), (2, _), (3, _), (4, _), (5, _), (12, _)] (fun (e : Int) (ao : Option Addr) (co : Nat) (os : List (Sl Sp)) (So : Hp) (New : Hp) (lf : Int) => K.obj lf :: (So ++ (New ++ Pool))) (fun (e : Int) (ao : Option Addr) (co : Nat) (os : List (Sl Sp)) (So : Hp) (New : Hp) (lf : Int) => (e + 1 - i).toNat) (j : Int) none 0 [] [] [] left ⟨by omega, Int.le_refl _, .nil, fun s hs => (by cases hs), by simp, Int.le_refl _, by omega, fun _ => by omega, fun _ => by rw [show ((j : Int) + 1).toNat = j + 1 by omega, ends_none]; exact .nil (by omega)⟩ sbA sbA hzB ?_
   rintro e ao co os So New lf ⟨he1, he2, hO, hPo, hko, hlf, hlo, he3, hG⟩
   refine c_seq fun _ hK11 => ?_; refine cR fun _ hK12 => ?_; refine oM (oM ?_)
   by_cases hei : e ≥ (i : Int)
   ·obtain ⟨e, rfl⟩ : ∃ n : Nat, e = n := ⟨e.toNat, by omega⟩
    have hen : ((e : Int) + 1).toNat = e + 1 := by omega
    refine oS geT (oM ?_); refine oY (oM ?_); refine oY ?_; refine oS sN ?_; refine oY ?_; refine oS sF ?_; refine oY ?_; refine oS sL ?_; refine oY ?_
    by_cases hlf0 : lf ≥ 0
    ·refine oS geT ?_; refine oS sT (oZ hK12 ?_); refine cTZ hK11 (c_seq fun _ hK13 => ?_); refine c_block (c_seq fun _ hK14 => ?_); refine cR fun _ hK15 => ?_; refine oM ?_
     by_cases hn1 : ((F.nd y js r).num : Int) = 1
     ·refine oS eqT (oM ?_); refine oY (oM ?_); refine oY (oM ?_); refine oY ?_
      by_cases hejl : (e : Int) < j
      ·refine oS lsT ?_; refine oS sT (oZ hK15 ?_); refine cT ?_; refine c_exit ?_; refine x_then_exit ?_; refine x_block_pass rfl ?_; refine x_then_exit (x_then_exit (x_block_exit (xZ hK9 (cR fun _ hK16 => ?_)))); refine oM (oA (oZ hK16 (c_ret ?_))); refine ?_; refine x_sub (Sub.refl _) (H' := K.obj lf :: (So ++ (New ++ Pool))) hzB ?_
       have hfin : 0 ≤ lf → RowC K.n (F.nd y js r) i j c.xs (os.map Sl.xs) (left - lf) := fun h0 => by first | exact absurd h0 (by omega) | exact RowC.cons (hG h0) (ends_fin (fun h => by have := he3 h; omega) (fun h => by omega)) hij
       exact xR rfl rfl (⟨ao, co, os, So, New, lf, rfl, rfl, hO, hPo, by omega, hlf, hlo, hfin⟩)
      ·have hrj : r.num = 0 → e = j := by omega
       refine oS lsF ?_; refine oS sT (oZ hK15 ?_); refine cFZ hK14 (cR fun _ hK17 => ?_); refine oM (oM (oM (oM (oM ?_)))); refine o_call (hN y js at_ _ hp1 i e (by omega) (by omega) c (New ++ Pool) (hc.mono hiA) lf (by omega) (by omega) (by omega)) rfl rfl rfl ((Pick.takeC pkA pkA)) (fun _ st => ⟨(RdK.old hw.d1 hw.a1).out _ st, St.apart_M st (by exact hiB) hw.d1 hw.a1 (by decide), (RdK.old hw.d2 hw.a2).out _ st, St.apart_M st (by exact hiB) hw.d2 hw.a2 (by decide)⟩) (fun v49 S49 ⟨a49, c49, zs49, Sz49, New49, lf49, hv49, hS49, hO49, hP49, hk49, hl49, hb49, hC49⟩ => ?_)
       subst hv49; subst hS49
       refine oA (oZ hK17 (cR fun _ hK18 => ?_)); refine oA (oZ hK18 (c_block ?_)); refine c_loop7 (fun (k : Nat) (a2 : Option Addr) (c2 : Nat) (ws : List (Sl Sp)) (Sw : Hp) (New2 : Hp) (lk : Int) => k ≤ zs49.length ∧ OwnS Esl 1 32 (.slice a2 ws.length c2) ws Sw ∧ PoolR ws K.N (New2 ++ Pool) ∧ (ws.length : Int) + lk ≤ left ∧ lk ≤ left ∧ -700000 ≤ lk ∧ PoolR zs49 K.N (New2 ++ Pool) ∧ lk ≤ lf49 ∧ (0 ≤ lk → GRow K.n y js r i j c.xs (ends (e + 1) j) (ws.map Sl.xs) (left - lf) ∧ IAcc (fun c1 R k => Ct K.n (.row r e j c1) R k) ((zs49.take k).map Sl.xs) (ws.map Sl.xs) (lf49 - lk))) (fun (k : Nat) (a2 : Option Addr) (c2 : Nat) (ws : List (Sl Sp)) (Sw : Hp) (New2 : Hp) (lk : Int) => [(16, .int .i64 k), (13, .slice a2 ws.length c2)]) [(0, _), (1, _), (2, _), (3, _), (4, _), (5, _), (12, _), (14, _), (15, _), (25, _), (26, _), (27, _), (28, _), (29, _), (30, _), (31, _), (32, _), (33, _), (34, _), (37, _), (38, _), (39, _), (40, _), (41, _), (42, _), (43, _), (44, _), (45, _), (46, _), (47, _), (48, _), (49, _)] (fun (k : Nat) (a2 : Option Addr) (c2 : Nat) (ws : List (Sl Sp)) (Sw : Hp) (New2 : Hp) (lk : Int) => K.obj lk :: (Sw ++ (Sz49 ++ (New2 ++ Pool)))) (fun (k : Nat) (a2 : Option Addr) (c2 : Nat) (ws : List (Sl Sp)) (Sw : Hp) (New2 : Hp) (lk : Int) => zs49.length - k) 0 ao co os So (New49 ++ New) lf49 ⟨Nat.zero_le _, hO, by rw [List.append_assoc]; exact hPo.mono (HIn.app HIn.all), by omega, by omega, hb49, by rw [List.append_assoc]; exact hP49, Int.le_refl _, fun h => ⟨by rw [← hen]; exact hG (by omega), .nil (by omega)⟩⟩ sbA sbA (by simp only [List.append_assoc]; exact hzB) ?_
       rintro k a2 c2 ws Sw New2 lk ⟨hk, hOw, hPw, hkw, hlw, hbw, hPz, hlk9, hI2⟩
       refine c_seq fun _ hK19 => ?_; refine cR fun _ hK20 => ?_; refine oM (oM ?_); refine oS sC ?_
       by_cases hkl : (k : Int) < zs49.length
       ·obtain ⟨z, hzk⟩ : ∃ z, zs49[k]? = some z := gE
        have hzm := hP49 z (List.mem_of_getElem? hzk)
        have htk : zs49.take (k + 1) = zs49.take k ++ [z] := by rw [List.take_add_one, hzk]; rfl
        refine oS lsT (oM ?_); refine oY (oM ?_); refine oY ?_; refine oS sN ?_; refine oY ?_; refine oS sF ?_; refine oY ?_; refine oS sL ?_; refine oY ?_
        by_cases hlk0 : lk ≥ 0
        ·refine oS geT ?_; refine oS sT (oZ hK20 ?_); refine cTZ hK19 (c_seq fun _ hK21 => ?_); refine c_block ?_; refine c_drawE (Sz49) (fun i => false) ?_; refine eP 0 rfl sM ?_; refine eP 1 rfl sM ?_; refine eP 2 rfl sM ?_; refine eP 3 rfl sM ?_; refine eP 4 rfl sN ?_; refine eP 5 rfl sF ?_; refine eP 7 rfl sM ?_; refine eP 10 rfl sM ?_; refine eP 11 rfl (step_cast (v' := .int .i64 (r.num : Nat)) (s_sub rfl rfl (by omega)) (congrArg _ (by omega))) ?_; refine eP 12 rfl sM ?_; refine eP 13 rfl sM ?_; refine eP 14 rfl sM ?_; refine eP 15 rfl sM ?_; refine eP 16 rfl (s_idx rfl rfl hO49.sl (by omega)) ?_; refine eK 17 rfl (s_ld rfl ((hO49.rdk hiA).ld k 0 hzk rfl (by decide) (by omega))) ?_; refine eO 6 rfl ?_; refine oS sL (oX (eO 8 rfl ?_)); refine oS (s_idx rfl rfl hhs (by omega)) ?_; refine oX (eO 9 rfl ?_); refine oS (s_ld rfl ((RdK.old hw.d2 hw.a2).ld at_ 0 hby rfl (by decide) (by omega))) ?_; refine oX (eO 18 rfl ?_); refine o_call (ih r (by simp [F.size]; omega) _ _ hpr e j (by omega) hjn z (New2 ++ Pool) (hPz z (List.mem_of_getElem? hzk)) lk (by omega) (by omega) (by omega)) rfl rfl rfl ((Pick.takeC pkA pkA)) (fun _ st => ⟨(RdK.old hw.d1 hw.a1).out _ st, St.apart_M st (by exact hiB) hw.d1 hw.a1 (by decide), (RdK.old hw.d2 hw.a2).out _ st, St.apart_M st (by exact hiB) hw.d2 hw.a2 (by decide)⟩) (fun v81 S81 ⟨a81, c81, zs81, Sz81, New81, lf81, hv81, hS81, hO81, hP81, hk81, hl81, hb81, hC81⟩ => ?_)
         subst hv81; subst hS81
         refine oX (eO 19 rfl ?_); refine o_call (tAllV_fn K.bT K.ra K.rc K.re K.n K.ha K.hc K.hl lf81 a2 c2 ws Sw hOw a81 c81 zs81 Sz81 (New81 ++ (New2 ++ Pool)) hO81 K.N (hPw.mono hiB) hP81 hNl (by omega) hb81 (by omega) (by omega)) rfl rfl rfl ((Pick.takeC pkA (Pick.takeA pkA pkA))) (fun _ _ => trivial) (fun v82 S82 ⟨a82, c82, zs82, SL82, lf82, hv82, hS82, hO82, hP82, hk82, hl82, hb82, hC82⟩ => ?_); subst hv82
         subst hS82; refine oX (eO 20 rfl (oA (oX ?_))); refine e_done (by kernel_rfl) ?_; refine x_block (xZ hK21 (c_region (oM ?_))); refine oS sD (oA (o_nil ?_))
         have hIn : 0 ≤ lf82 → GRow K.n y js r i j c.xs (ends (e + 1) j) (zs82.map Sl.xs) (left - lf) ∧ IAcc (fun c1 R k => Ct K.n (.row r e j c1) R k) ((zs49.take (k + 1)).map Sl.xs) (zs82.map Sl.xs) (lf49 - lf82) := fun h0 => by
           obtain ⟨u1, u2, u3⟩ := hC82 h0
           have um : ∀ d ∈ ws.map Sl.xs, d ∈ zs82.map Sl.xs := fun d hd => by obtain ⟨s, s1, s2⟩ := List.mem_map.1 hd; exact List.mem_map.2 ⟨s, u1 s s1, s2⟩
           obtain ⟨v1, v2⟩ := hI2 (by omega)
           obtain ⟨kk, w1, w2⟩ := row_step (t2 := lk - lf82) (hC81 (by omega)) hrj (by rw [List.length_map]; omega)
           refine ⟨v1.mono um (Int.le_refl _), ?_⟩
           rw [htk, List.map_append, show lf49 - lf82 = (lf49 - lk) + (lk - lf82) by omega]
           exact (v2.mono um (Int.le_refl _)).snoc w1 (fun d hd => by obtain ⟨s, s1, s2⟩ := List.mem_map.1 hd; rw [← s2]; exact u2 s s1) w2
         exact x_then (x_inv (k + 1, a82, c82, zs82, SL82, New81 ++ New2, lf82) ⟨by dsimp only; omega, hO82, by rw [List.append_assoc]; exact hP82, by dsimp only; omega, by dsimp only; omega, hb82, by rw [List.append_assoc]; exact hPz.mono hiB, by dsimp only; omega, hIn⟩ (by first | omega | (dsimp only; omega)) sbA (by simp only [List.append_assoc]; exact hzB))
        ·refine oS geF ?_; refine oS sT (oZ hK20 ?_); refine cF ?_; refine c_exit ?_; refine x_then_exit (x_then_exit (x_block_exit (x_block (xZ hK13 (c_region (oM ?_)))))); refine oS sU (oA (o_nil ?_))
         have hGn : 0 ≤ lk → GRow K.n y js r i j c.xs (ends ((e : Int) - 1 + 1).toNat j) (ws.map Sl.xs) (left - lk) := fun h0 => by
           first
           | exact absurd h0 (by omega)
           | rw [show ((e : Int) - 1 + 1).toNat = e by omega, ends_snoc (by omega), show left - lk = (left - lf) + (lf - lf49) + (lf49 - lk) by omega]; obtain ⟨kn, hn1, hn2⟩ := hC49 (by omega); rw [htk] at hI2; exact GAcc.snoc (hI2 h0).1 ends_out hn1 hn2 (hI2 h0).2
         exact x_then (x_inv ((e : Int) - 1, a2, c2, ws, Sw, New2, lk) ⟨by dsimp only; omega, by dsimp only; omega, hOw, hPw, hkw, hlw, hbw, fun h => by have := hrj h; dsimp only; omega, hGn⟩ (by dsimp only; omega) sbA hzB)
       ·have htk : zs49.take k = zs49 := List.take_of_length_le (by omega)
        refine oS lsF (oM ?_); refine oN ?_; refine oN ?_; refine oN ?_; refine oN ?_; refine oN ?_; refine oS sP (oZ hK20 ?_); refine cF ?_; refine c_exit ?_; refine x_then_exit (x_then_exit (x_block_exit (x_block (xZ hK13 (c_region (oM ?_)))))); refine oS sU (oA (o_nil ?_))
        have hGn : 0 ≤ lk → GRow K.n y js r i j c.xs (ends ((e : Int) - 1 + 1).toNat j) (ws.map Sl.xs) (left - lk) := fun h0 => by
          first
          | exact absurd h0 (by omega)
          | rw [show ((e : Int) - 1 + 1).toNat = e by omega, ends_snoc (by omega), show left - lk = (left - lf) + (lf - lf49) + (lf49 - lk) by omega]; obtain ⟨kn, hn1, hn2⟩ := hC49 (by omega); rw [htk] at hI2; exact GAcc.snoc (hI2 h0).1 ends_out hn1 hn2 (hI2 h0).2
        exact x_then (x_inv ((e : Int) - 1, a2, c2, ws, Sw, New2, lk) ⟨by dsimp only; omega, by dsimp only; omega, hOw, hPw, hkw, hlw, hbw, fun h => by have := hrj h; dsimp only; omega, hGn⟩ (by dsimp only; omega) sbA hzB)
     ·have hrj : r.num = 0 → e = j := by omega
      refine oS eqF (oM ?_); refine oN ?_; refine oN ?_; refine oN ?_; refine oS sP (oZ hK15 ?_); refine cFZ hK14 (cR fun _ hK22 => ?_); refine oM (oM (oM (oM (oM ?_)))); refine o_call (hN y js at_ _ hp1 i e (by omega) (by omega) c (New ++ Pool) (hc.mono hiA) lf (by omega) (by omega) (by omega)) rfl rfl rfl ((Pick.takeC pkA pkA)) (fun _ st => ⟨(RdK.old hw.d1 hw.a1).out _ st, St.apart_M st (by exact hiB) hw.d1 hw.a1 (by decide), (RdK.old hw.d2 hw.a2).out _ st, St.apart_M st (by exact hiB) hw.d2 hw.a2 (by decide)⟩) (fun v49 S49 ⟨a49, c49, zs49, Sz49, New49, lf49, hv49, hS49, hO49, hP49, hk49, hl49, hb49, hC49⟩ => ?_)
      subst hv49; subst hS49
      refine oA (oZ hK22 (cR fun _ hK23 => ?_)); refine oA (oZ hK23 (c_block ?_)); refine c_loop7 (fun (k : Nat) (a2 : Option Addr) (c2 : Nat) (ws : List (Sl Sp)) (Sw : Hp) (New2 : Hp) (lk : Int) => k ≤ zs49.length ∧ OwnS Esl 1 32 (.slice a2 ws.length c2) ws Sw ∧ PoolR ws K.N (New2 ++ Pool) ∧ (ws.length : Int) + lk ≤ left ∧ lk ≤ left ∧ -700000 ≤ lk ∧ PoolR zs49 K.N (New2 ++ Pool) ∧ lk ≤ lf49 ∧ (0 ≤ lk → GRow K.n y js r i j c.xs (ends (e + 1) j) (ws.map Sl.xs) (left - lf) ∧ IAcc (fun c1 R k => Ct K.n (.row r e j c1) R k) ((zs49.take k).map Sl.xs) (ws.map Sl.xs) (lf49 - lk))) (fun (k : Nat) (a2 : Option Addr) (c2 : Nat) (ws : List (Sl Sp)) (Sw : Hp) (New2 : Hp) (lk : Int) => [(16, .int .i64 k), (13, .slice a2 ws.length c2)]) [(0, _), (1, _), (2, _), (3, _), (4, _), (5, _), (12, _), (14, _), (15, _), (25, _), (26, _), (27, _), (28, _), (29, _), (30, _), (31, _), (32, _), (33, _), (34, _), (37, _), (38, _), (39, _), (40, _), (41, _), (42, _), (43, _), (44, _), (45, _), (46, _), (47, _), (48, _), (49, _)] (fun (k : Nat) (a2 : Option Addr) (c2 : Nat) (ws : List (Sl Sp)) (Sw : Hp) (New2 : Hp) (lk : Int) => K.obj lk :: (Sw ++ (Sz49 ++ (New2 ++ Pool)))) (fun (k : Nat) (a2 : Option Addr) (c2 : Nat) (ws : List (Sl Sp)) (Sw : Hp) (New2 : Hp) (lk : Int) => zs49.length - k) 0 ao co os So (New49 ++ New) lf49 ⟨Nat.zero_le _, hO, by rw [List.append_assoc]; exact hPo.mono (HIn.app HIn.all), by omega, by omega, hb49, by rw [List.append_assoc]; exact hP49, Int.le_refl _, fun h => ⟨by rw [← hen]; exact hG (by omega), .nil (by omega)⟩⟩ sbA sbA (by simp only [List.append_assoc]; exact hzB) ?_
      rintro k a2 c2 ws Sw New2 lk ⟨hk, hOw, hPw, hkw, hlw, hbw, hPz, hlk9, hI2⟩
      refine c_seq fun _ hK24 => ?_; refine cR fun _ hK25 => ?_; refine oM (oM ?_); refine oS sC ?_
      by_cases hkl : (k : Int) < zs49.length
      ·obtain ⟨z, hzk⟩ : ∃ z, zs49[k]? = some z := gE
       have hzm := hP49 z (List.mem_of_getElem? hzk)
       have htk : zs49.take (k + 1) = zs49.take k ++ [z] := by rw [List.take_add_one, hzk]; rfl
       refine oS lsT (oM ?_); refine oY (oM ?_); refine oY ?_; refine oS sN ?_; refine oY ?_; refine oS sF ?_; refine oY ?_; refine oS sL ?_; refine oY ?_
       by_cases hlk0 : lk ≥ 0
       ·refine oS geT ?_; refine oS sT (oZ hK25 ?_); refine cTZ hK24 (c_seq fun _ hK26 => ?_); refine c_block ?_; refine c_drawE (Sz49) (fun i => false) ?_; refine eP 0 rfl sM ?_; refine eP 1 rfl sM ?_; refine eP 2 rfl sM ?_; refine eP 3 rfl sM ?_; refine eP 4 rfl sN ?_; refine eP 5 rfl sF ?_; refine eP 7 rfl sM ?_; refine eP 10 rfl sM ?_; refine eP 11 rfl (step_cast (v' := .int .i64 (r.num : Nat)) (s_sub rfl rfl (by omega)) (congrArg _ (by omega))) ?_; refine eP 12 rfl sM ?_; refine eP 13 rfl sM ?_; refine eP 14 rfl sM ?_; refine eP 15 rfl sM ?_; refine eP 16 rfl (s_idx rfl rfl hO49.sl (by omega)) ?_; refine eK 17 rfl (s_ld rfl ((hO49.rdk hiA).ld k 0 hzk rfl (by decide) (by omega))) ?_; refine eO 6 rfl ?_; refine oS sL (oX (eO 8 rfl ?_)); refine oS (s_idx rfl rfl hhs (by omega)) ?_; refine oX (eO 9 rfl ?_); refine oS (s_ld rfl ((RdK.old hw.d2 hw.a2).ld at_ 0 hby rfl (by decide) (by omega))) ?_; refine oX (eO 18 rfl ?_); refine o_call (ih r (by simp [F.size]; omega) _ _ hpr e j (by omega) hjn z (New2 ++ Pool) (hPz z (List.mem_of_getElem? hzk)) lk (by omega) (by omega) (by omega)) rfl rfl rfl ((Pick.takeC pkA pkA)) (fun _ st => ⟨(RdK.old hw.d1 hw.a1).out _ st, St.apart_M st (by exact hiB) hw.d1 hw.a1 (by decide), (RdK.old hw.d2 hw.a2).out _ st, St.apart_M st (by exact hiB) hw.d2 hw.a2 (by decide)⟩) (fun v81 S81 ⟨a81, c81, zs81, Sz81, New81, lf81, hv81, hS81, hO81, hP81, hk81, hl81, hb81, hC81⟩ => ?_)
        subst hv81; subst hS81
        refine oX (eO 19 rfl ?_); refine o_call (tAllV_fn K.bT K.ra K.rc K.re K.n K.ha K.hc K.hl lf81 a2 c2 ws Sw hOw a81 c81 zs81 Sz81 (New81 ++ (New2 ++ Pool)) hO81 K.N (hPw.mono hiB) hP81 hNl (by omega) hb81 (by omega) (by omega)) rfl rfl rfl ((Pick.takeC pkA (Pick.takeA pkA pkA))) (fun _ _ => trivial) (fun v82 S82 ⟨a82, c82, zs82, SL82, lf82, hv82, hS82, hO82, hP82, hk82, hl82, hb82, hC82⟩ => ?_); subst hv82
        subst hS82; refine oX (eO 20 rfl (oA (oX ?_))); refine e_done (by kernel_rfl) ?_; refine x_block (xZ hK26 (c_region (oM ?_))); refine oS sD (oA (o_nil ?_))
        have hIn : 0 ≤ lf82 → GRow K.n y js r i j c.xs (ends (e + 1) j) (zs82.map Sl.xs) (left - lf) ∧ IAcc (fun c1 R k => Ct K.n (.row r e j c1) R k) ((zs49.take (k + 1)).map Sl.xs) (zs82.map Sl.xs) (lf49 - lf82) := fun h0 => by
          obtain ⟨u1, u2, u3⟩ := hC82 h0
          have um : ∀ d ∈ ws.map Sl.xs, d ∈ zs82.map Sl.xs := fun d hd => by obtain ⟨s, s1, s2⟩ := List.mem_map.1 hd; exact List.mem_map.2 ⟨s, u1 s s1, s2⟩
          obtain ⟨v1, v2⟩ := hI2 (by omega)
          obtain ⟨kk, w1, w2⟩ := row_step (t2 := lk - lf82) (hC81 (by omega)) hrj (by rw [List.length_map]; omega)
          refine ⟨v1.mono um (Int.le_refl _), ?_⟩
          rw [htk, List.map_append, show lf49 - lf82 = (lf49 - lk) + (lk - lf82) by omega]
          exact (v2.mono um (Int.le_refl _)).snoc w1 (fun d hd => by obtain ⟨s, s1, s2⟩ := List.mem_map.1 hd; rw [← s2]; exact u2 s s1) w2
        exact x_then (x_inv (k + 1, a82, c82, zs82, SL82, New81 ++ New2, lf82) ⟨by dsimp only; omega, hO82, by rw [List.append_assoc]; exact hP82, by dsimp only; omega, by dsimp only; omega, hb82, by rw [List.append_assoc]; exact hPz.mono hiB, by dsimp only; omega, hIn⟩ (by first | omega | (dsimp only; omega)) sbA (by simp only [List.append_assoc]; exact hzB))
       ·refine oS geF ?_; refine oS sT (oZ hK25 ?_); refine cF ?_; refine c_exit ?_; refine x_then_exit (x_then_exit (x_block_exit (x_block (xZ hK13 (c_region (oM ?_)))))); refine oS sU (oA (o_nil ?_))
        have hGn : 0 ≤ lk → GRow K.n y js r i j c.xs (ends ((e : Int) - 1 + 1).toNat j) (ws.map Sl.xs) (left - lk) := fun h0 => by
          first
          | exact absurd h0 (by omega)
          | rw [show ((e : Int) - 1 + 1).toNat = e by omega, ends_snoc (by omega), show left - lk = (left - lf) + (lf - lf49) + (lf49 - lk) by omega]; obtain ⟨kn, hn1, hn2⟩ := hC49 (by omega); rw [htk] at hI2; exact GAcc.snoc (hI2 h0).1 ends_out hn1 hn2 (hI2 h0).2
        exact x_then (x_inv ((e : Int) - 1, a2, c2, ws, Sw, New2, lk) ⟨by dsimp only; omega, by dsimp only; omega, hOw, hPw, hkw, hlw, hbw, fun h => by have := hrj h; dsimp only; omega, hGn⟩ (by dsimp only; omega) sbA hzB)
      ·have htk : zs49.take k = zs49 := List.take_of_length_le (by omega)
       refine oS lsF (oM ?_); refine oN ?_; refine oN ?_; refine oN ?_; refine oN ?_; refine oN ?_; refine oS sP (oZ hK25 ?_); refine cF ?_; refine c_exit ?_; refine x_then_exit (x_then_exit (x_block_exit (x_block (xZ hK13 (c_region (oM ?_)))))); refine oS sU (oA (o_nil ?_))
       have hGn : 0 ≤ lk → GRow K.n y js r i j c.xs (ends ((e : Int) - 1 + 1).toNat j) (ws.map Sl.xs) (left - lk) := fun h0 => by
         first
         | exact absurd h0 (by omega)
         | rw [show ((e : Int) - 1 + 1).toNat = e by omega, ends_snoc (by omega), show left - lk = (left - lf) + (lf - lf49) + (lf49 - lk) by omega]; obtain ⟨kn, hn1, hn2⟩ := hC49 (by omega); rw [htk] at hI2; exact GAcc.snoc (hI2 h0).1 ends_out hn1 hn2 (hI2 h0).2
       exact x_then (x_inv ((e : Int) - 1, a2, c2, ws, Sw, New2, lk) ⟨by dsimp only; omega, by dsimp only; omega, hOw, hPw, hkw, hlw, hbw, fun h => by have := hrj h; dsimp only; omega, hGn⟩ (by dsimp only; omega) sbA hzB)
    ·refine oS geF ?_; refine oS sT (oZ hK12 ?_); refine cF ?_; refine c_exit ?_; refine x_then_exit (x_then_exit (x_block_exit (xZ hK9 (cR fun _ hK27 => ?_)))); refine oM (oA (oZ hK27 (c_ret ?_))); refine ?_; refine x_sub (Sub.refl _) (H' := K.obj lf :: (So ++ (New ++ Pool))) hzB ?_
     have hfin : 0 ≤ lf → RowC K.n (F.nd y js r) i j c.xs (os.map Sl.xs) (left - lf) := fun h0 => by first | exact absurd h0 (by omega) | exact RowC.cons (hG h0) (ends_fin (fun h => by have := he3 h; omega) (fun h => by omega)) hij
     exact xR rfl rfl (⟨ao, co, os, So, New, lf, rfl, rfl, hO, hPo, by omega, hlf, hlo, hfin⟩)
   ·refine oS geF (oM ?_); refine oN ?_; refine oN ?_; refine oN ?_; refine oN ?_; refine oN ?_; refine oS sP (oZ hK12 ?_); refine cF ?_; refine c_exit ?_; refine x_then_exit (x_then_exit (x_block_exit (xZ hK9 (cR fun _ hK28 => ?_)))); refine oM (oA (oZ hK28 (c_ret ?_))); refine ?_; refine x_sub (Sub.refl _) (H' := K.obj lf :: (So ++ (New ++ Pool))) hzB ?_
    have hfin : 0 ≤ lf → RowC K.n (F.nd y js r) i j c.xs (os.map Sl.xs) (left - lf) := fun h0 => by first | exact absurd h0 (by omega) | exact RowC.cons (hG h0) (ends_fin (fun h => by have := he3 h; omega) (fun h => by omega)) hij
    exact xR rfl rfl (⟨ao, co, os, So, New, lf, rfl, rfl, hO, hPo, by omega, hlf, hlo, hfin⟩)
end Go.Proofs.YtloepfcndglmmaaDoor
namespace Go.Proofs.YtloepfcndglmmaaDoor
open Go Go.HL Go.Proofs Go.HL.Kl Go.HL.Kl.Mc Go.HL.Kl.Mc.AskE
structure TalJ where
  (a : Option Addr) (c : Nat) (zs : List (Sl Sp)) (S New : Hp) (lf : Int)
end Go.Proofs.YtloepfcndglmmaaDoor
