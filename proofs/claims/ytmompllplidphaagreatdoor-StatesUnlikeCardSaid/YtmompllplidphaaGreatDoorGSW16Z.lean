/- Part of the proofs over this seat: see the text that holds the theorem. Conditions: each theorem bears its own. -/
import Derived.Test.YtmompllplidphaaGreatDoorHTZ
import Derived.Test.YtmompllplidphaaGreatDoorGSW14Z
import Derived.Test.YtmompllplidphaaGreatDoorGSW20Z
namespace Go.Proofs.YtmompllplidphaaGreatDoor
open Go Go.HL Go.Proofs Go.HL.Kl Go.HL.Kl.Mc Go.HL.Sts
theorem rem8 (j : Nat) : ((j : Int).tmod 8) = ((j % 8 : Nat) : Int) := by rw [Int.tmod_eq_emod_of_nonneg (by omega)]; omega
theorem num_fn (k i : Nat) (hk : k ≤ 1000) (hi : i ≤ 4294967296) : HL.Fn Tryz.prog 28 [.int .i64 k, .int .i64 i] (fun _ => True) [] (fun v _ => v = .int .i64 ((1048576 * k + i + 1 : Nat) : Int)) := by
  refine fn_of Tryz.func28 rfl rfl rfl fun w0 hw => ?_; refine cR fun _ hK1 => ?_; refine oA (oZ hK1 (cR fun _ hK2 => ?_)); refine oM ?_; refine oS (s_mul rfl rfl (by omega)) ?_; refine oM ?_; refine oS sD ?_; refine oS sD (oA (oZ hK2 (c_ret ?_))); refine ?_; exact xR rfl rfl ((congrArg (Value.int .i64) (by omega)))
theorem eqZ_fn (a a2 : Option Addr) (c c2 : Nat) (xs ys : List Int) : HL.Fn Tryz.prog 114 [.slice a xs.length c, .slice a2 ys.length c2] (fun w => Rd Ei w (.slice a xs.length c) xs ∧ Rd Ei w (.slice a2 ys.length c2) ys) [] (fun v _ => v = .bool (decide (xs = ys))) := by
  refine fn_of Tryz.func114 rfl rfl rfl fun w0 hw => ?_
  obtain ⟨hx, hy⟩ := hw
  have hsx := hx.sl
  have hsy := hy.sl
  have hbx := hsx.le
  have hby := hsy.le
  refine cR fun _ hK1 => ?_; refine oA (oZ hK1 (c_seq fun _ hK2 => ?_)); refine cR fun _ hK3 => ?_; refine oM ?_; refine oS sC (oM ?_); refine oS sC ?_
  by_cases hl : xs.length ≠ ys.length
  ·refine oS (step_cast (v' := .bool true) (s_neq rfl rfl) (congrArg Value.bool (decide_eq_true (by omega)))) ?_; refine oZ hK3 ?_; refine cT (cR fun _ hK4 => ?_); refine oA (oZ hK4 (c_ret ?_)); refine x_then_ret (?_); exact xR rfl rfl ((congrArg Value.bool (decide_eq_false (by intro e; subst e; omega)).symm))
  ·refine oS (step_cast (v' := .bool false) (s_neq rfl rfl) (congrArg Value.bool (decide_eq_false (by omega)))) ?_; refine oZ hK3 ?_; refine cFZ hK2 (c_seq fun _ hK5 => ?_); refine cR fun _ hK6 => ?_; refine oA (oZ hK6 (c_block ?_))
   -- not carried: 4
   refine c_loopB (fun (j : Nat) => j ≤ xs.length ∧ ∀ i, i < j → xs[i]? = ys[i]?) (fun (j : Nat) => [(5, .int .i64 j)]) [(0, _), (1, _)] (fun (j : Nat) => []) (fun (j : Nat) => xs.length - j) 0 ⟨by omega, fun i hi => by omega⟩ sbA sbA hzB ?_
   rintro j ⟨hj, hjt⟩
   refine c_seq fun _ hK7 => ?_; refine cR fun _ hK8 => ?_; refine oM (oM ?_); refine oS sC ?_
   by_cases hlt : j < xs.length
   ·obtain ⟨x, hxj⟩ : ∃ x, xs[j]? = some x := gE
    obtain ⟨y, hyj⟩ : ∃ y, ys[j]? = some y := gE
    refine oS (step_cast (v' := .bool true) (s_lss rfl rfl) (congrArg Value.bool (decide_eq_true (by omega)))) ?_; refine oZ hK8 ?_; refine cTZ hK7 (c_seq fun _ hK9 => ?_); refine c_block (c_seq fun _ hK10 => ?_); refine c_drawE ([]) (fun i => false) ?_; refine eP 0 rfl sM ?_; refine eP 1 rfl sM ?_; refine eP 2 rfl (s_idx rfl rfl hsx (by omega)) ?_; refine e_tk 3 rfl (by exact HSub.nil) (s_ld rfl ((RdK.old0 hx).ld j 0 hxj rfl (by decide) (by omega))) ?_; refine eP 4 rfl sM ?_; refine eP 5 rfl sM ?_; refine eP 6 rfl (s_idx rfl rfl hsy (by omega)) ?_; refine e_tk 7 rfl (by exact HSub.nil) (s_ld rfl ((RdK.old0 hy).ld j 0 hyj rfl (by decide) (by omega))) ?_
    by_cases hne : x ≠ y
    ·refine eP 8 rfl (step_cast (v' := .bool true) (s_neq rfl rfl) (congrArg Value.bool (decide_eq_true hne))) ?_; refine eZ hK10 ?_; refine cT (cR fun _ hK11 => ?_); refine oA (oZ hK11 (c_ret ?_)); refine x_block_ret (x_then_ret (x_then_ret (x_block_ret (x_then_ret (?_)))))
     exact xR rfl rfl ((congrArg Value.bool (decide_eq_false (by intro e; subst e; rw [hxj] at hyj; exact hne (Option.some.inj hyj))).symm))
    ·refine eP 8 rfl (step_cast (v' := .bool false) (s_neq rfl rfl) (congrArg Value.bool (decide_eq_false hne))) ?_; refine eZ hK10 ?_; refine cF (c_skip (x_block (xZ hK9 (c_region (oM ?_))))); refine oS sD (oA (o_nil ?_)); exact xI (j + 1) ⟨by omega, fun i hi => by rcases Nat.lt_or_ge i j with h | h; (· exact hjt i h); (· rw [show i = j by omega, hxj, hyj, Classical.not_not.1 hne])⟩
   ·refine oS (step_cast (v' := .bool false) (s_lss rfl rfl) (congrArg Value.bool (decide_eq_false (by omega)))) ?_; refine oZ hK8 ?_; refine cF ?_; refine c_exit ?_; refine x_then_exit (x_then_exit (x_block_exit (xZ hK5 (cR fun _ hK12 => ?_)))); refine oA (oZ hK12 (c_ret ?_)); refine ?_; exact xR rfl rfl ((congrArg Value.bool (decide_eq_true (ext_upto (by omega) fun i hi => hjt i (by omega))).symm))
theorem eqC_fn (a a2 : Option Addr) (c c2 : Nat) (xs ys : List Kl.Cl) : HL.Fn Tryz.prog 44 [.slice a xs.length c, .slice a2 ys.length c2] (fun w => Rd Ec w (.slice a xs.length c) xs ∧ Rd Ec w (.slice a2 ys.length c2) ys) [] (fun v _ => v = .bool (decide (xs = ys))) := by
  refine fn_of Tryz.func44 rfl rfl rfl fun w0 hw => ?_
  obtain ⟨hx, hy⟩ := hw
  have hsx := hx.sl
  have hsy := hy.sl
  have hbx := hsx.le
  have hby := hsy.le
  refine cR fun _ hK1 => ?_; refine oA (oZ hK1 (c_seq fun _ hK2 => ?_)); refine cR fun _ hK3 => ?_; refine oM ?_; refine oS sC (oM ?_); refine oS sC ?_
  by_cases hl : xs.length ≠ ys.length
  ·refine oS (step_cast (v' := .bool true) (s_neq rfl rfl) (congrArg Value.bool (decide_eq_true (by omega)))) ?_; refine oZ hK3 ?_; refine cT (cR fun _ hK4 => ?_); refine oA (oZ hK4 (c_ret ?_)); refine x_then_ret (?_); exact xR rfl rfl ((congrArg Value.bool (decide_eq_false (by intro e; subst e; omega)).symm))
  ·refine oS (step_cast (v' := .bool false) (s_neq rfl rfl) (congrArg Value.bool (decide_eq_false (by omega)))) ?_; refine oZ hK3 ?_; refine cFZ hK2 (c_seq fun _ hK5 => ?_); refine cR fun _ hK6 => ?_; refine oA (oZ hK6 (c_block ?_))
   -- not carried: 4
   refine c_loopB (fun (j : Nat) => j ≤ xs.length ∧ ∀ i, i < j → xs[i]? = ys[i]?) (fun (j : Nat) => [(5, .int .i64 j)]) [(0, _), (1, _)] (fun (j : Nat) => []) (fun (j : Nat) => xs.length - j) 0 ⟨by omega, fun i hi => by omega⟩ sbA sbA hzB ?_
   rintro j ⟨hj, hjt⟩
   refine c_seq fun _ hK7 => ?_; refine cR fun _ hK8 => ?_; refine oM (oM ?_); refine oS sC ?_
   by_cases hlt : j < xs.length
   ·obtain ⟨x, hxj⟩ : ∃ x, xs[j]? = some x := gE
    obtain ⟨y, hyj⟩ : ∃ y, ys[j]? = some y := gE
    refine oS (step_cast (v' := .bool true) (s_lss rfl rfl) (congrArg Value.bool (decide_eq_true (by omega)))) ?_; refine oZ hK8 ?_; refine cTZ hK7 (c_seq fun _ hK9 => ?_); refine c_block (c_seq fun _ hK10 => ?_); refine c_drawE ([]) (fun i => false) ?_; refine eP 0 rfl sM ?_; refine eP 1 rfl sM ?_; refine eP 2 rfl (s_idx rfl rfl hsx (by omega)) ?_; refine e_tk 3 rfl (by exact HSub.nil) (s_ldB rfl ((RdK.old0 hx).lds j hxj (by omega)) lnA) ?_; refine eP 4 rfl sM ?_; refine eP 5 rfl sM ?_; refine eP 6 rfl (s_idx rfl rfl hsy (by omega)) ?_; refine e_tk 7 rfl (by exact HSub.nil) (s_ldB rfl ((RdK.old0 hy).lds j hyj (by omega)) lnA) ?_
    by_cases hne : x ≠ y
    ·refine eP 8 rfl (step_cast (v' := .bool true) (s_neq_cl rfl rfl) (congrArg Value.bool (decide_eq_true hne))) ?_; refine eZ hK10 ?_; refine cT (cR fun _ hK11 => ?_); refine oA (oZ hK11 (c_ret ?_)); refine x_block_ret (x_then_ret (x_then_ret (x_block_ret (x_then_ret (?_)))))
     exact xR rfl rfl ((congrArg Value.bool (decide_eq_false (by intro e; subst e; rw [hxj] at hyj; exact hne (Option.some.inj hyj))).symm))
    ·refine eP 8 rfl (step_cast (v' := .bool false) (s_neq_cl rfl rfl) (congrArg Value.bool (decide_eq_false hne))) ?_; refine eZ hK10 ?_; refine cF (c_skip (x_block (xZ hK9 (c_region (oM ?_))))); refine oS sD (oA (o_nil ?_)); exact xI (j + 1) ⟨by omega, fun i hi => by rcases Nat.lt_or_ge i j with h | h; (· exact hjt i h); (· rw [show i = j by omega, hxj, hyj, Classical.not_not.1 hne])⟩
   ·refine oS (step_cast (v' := .bool false) (s_lss rfl rfl) (congrArg Value.bool (decide_eq_false (by omega)))) ?_; refine oZ hK8 ?_; refine cF ?_; refine c_exit ?_; refine x_then_exit (x_then_exit (x_block_exit (xZ hK5 (cR fun _ hK12 => ?_)))); refine oA (oZ hK12 (c_ret ?_)); refine ?_; exact xR rfl rfl ((congrArg Value.bool (decide_eq_true (ext_upto (by omega) fun i hi => hjt i (by omega))).symm))
theorem eqB_fn (a a2 : Option Addr) (c c2 : Nat) (xs ys : List Bool) : HL.Fn Tryz.prog 46 [.slice a xs.length c, .slice a2 ys.length c2] (fun w => Rd Ebo w (.slice a xs.length c) xs ∧ Rd Ebo w (.slice a2 ys.length c2) ys) [] (fun v _ => v = .bool (decide (xs = ys))) := by
  refine fn_of Tryz.func46 rfl rfl rfl fun w0 hw => ?_
  obtain ⟨hx, hy⟩ := hw
  have hsx := hx.sl
  have hsy := hy.sl
  have hbx := hsx.le
  have hby := hsy.le
  refine cR fun _ hK1 => ?_; refine oA (oZ hK1 (c_seq fun _ hK2 => ?_)); refine cR fun _ hK3 => ?_; refine oM ?_; refine oS sC (oM ?_); refine oS sC ?_
  by_cases hl : xs.length ≠ ys.length
  ·refine oS (step_cast (v' := .bool true) (s_neq rfl rfl) (congrArg Value.bool (decide_eq_true (by omega)))) ?_; refine oZ hK3 ?_; refine cT (cR fun _ hK4 => ?_); refine oA (oZ hK4 (c_ret ?_)); refine x_then_ret (?_); exact xR rfl rfl ((congrArg Value.bool (decide_eq_false (by intro e; subst e; omega)).symm))
  ·refine oS (step_cast (v' := .bool false) (s_neq rfl rfl) (congrArg Value.bool (decide_eq_false (by omega)))) ?_; refine oZ hK3 ?_; refine cFZ hK2 (c_seq fun _ hK5 => ?_); refine cR fun _ hK6 => ?_; refine oA (oZ hK6 (c_block ?_))
   -- not carried: 4
   refine c_loopB (fun (j : Nat) => j ≤ xs.length ∧ ∀ i, i < j → xs[i]? = ys[i]?) (fun (j : Nat) => [(5, .int .i64 j)]) [(0, _), (1, _)] (fun (j : Nat) => []) (fun (j : Nat) => xs.length - j) 0 ⟨by omega, fun i hi => by omega⟩ sbA sbA hzB ?_
   rintro j ⟨hj, hjt⟩
   refine c_seq fun _ hK7 => ?_; refine cR fun _ hK8 => ?_; refine oM (oM ?_); refine oS sC ?_
   by_cases hlt : j < xs.length
   ·obtain ⟨x, hxj⟩ : ∃ x, xs[j]? = some x := gE
    obtain ⟨y, hyj⟩ : ∃ y, ys[j]? = some y := gE
    refine oS (step_cast (v' := .bool true) (s_lss rfl rfl) (congrArg Value.bool (decide_eq_true (by omega)))) ?_; refine oZ hK8 ?_; refine cTZ hK7 (c_seq fun _ hK9 => ?_); refine c_block (c_seq fun _ hK10 => ?_); refine c_drawE ([]) (fun i => false) ?_; refine eP 0 rfl sM ?_; refine eP 1 rfl sM ?_; refine eP 2 rfl (s_idx rfl rfl hsx (by omega)) ?_; refine e_tk 3 rfl (by exact HSub.nil) (s_ld rfl ((RdK.old0 hx).ld j 0 hxj rfl (by decide) (by omega))) ?_; refine eP 4 rfl sM ?_; refine eP 5 rfl sM ?_; refine eP 6 rfl (s_idx rfl rfl hsy (by omega)) ?_; refine e_tk 7 rfl (by exact HSub.nil) (s_ld rfl ((RdK.old0 hy).ld j 0 hyj rfl (by decide) (by omega))) ?_
    by_cases hne : x ≠ y
    ·refine eP 8 rfl (step_cast (v' := .bool true) (s_neq_bool rfl rfl) (congrArg Value.bool (decide_eq_true hne))) ?_; refine eZ hK10 ?_; refine cT (cR fun _ hK11 => ?_); refine oA (oZ hK11 (c_ret ?_)); refine x_block_ret (x_then_ret (x_then_ret (x_block_ret (x_then_ret (?_)))))
     exact xR rfl rfl ((congrArg Value.bool (decide_eq_false (by intro e; subst e; rw [hxj] at hyj; exact hne (Option.some.inj hyj))).symm))
    ·refine eP 8 rfl (step_cast (v' := .bool false) (s_neq_bool rfl rfl) (congrArg Value.bool (decide_eq_false hne))) ?_; refine eZ hK10 ?_; refine cF (c_skip (x_block (xZ hK9 (c_region (oM ?_))))); refine oS sD (oA (o_nil ?_)); exact xI (j + 1) ⟨by omega, fun i hi => by rcases Nat.lt_or_ge i j with h | h; (· exact hjt i h); (· rw [show i = j by omega, hxj, hyj, Classical.not_not.1 hne])⟩
   ·refine oS (step_cast (v' := .bool false) (s_lss rfl rfl) (congrArg Value.bool (decide_eq_false (by omega)))) ?_; refine oZ hK8 ?_; refine cF ?_; refine c_exit ?_; refine x_then_exit (x_then_exit (x_block_exit (xZ hK5 (cR fun _ hK12 => ?_)))); refine oA (oZ hK12 (c_ret ?_)); refine ?_; exact xR rfl rfl ((congrArg Value.bool (decide_eq_true (ext_upto (by omega) fun i hi => hjt i (by omega))).symm))
theorem wideZ_fn (a : Option Addr) (c : Nat) (xs : List Int) (hn : xs.length ≤ 2147483647) : HL.Fn Tryz.prog 118 [.slice a xs.length c] (fun w => Rd Ei w (.slice a xs.length c) xs) [] (fun v S' => ∃ a', v = .slice a' xs.length (xs.length + 64) ∧ OwnS Ei 1 3 (.slice a' (wdl spZ xs).length (xs.length + 64)) (wdl spZ xs) S') := by
  refine fn_of Tryz.func118 rfl rfl rfl fun w0 hw => ?_
  have hsx := hw.sl
  have hbx := hsx.le
  have hwl := wdl_len spZ xs
  refine cR fun _ hK1 => ?_; refine oA (oZ hK1 (cR fun _ hK2 => ?_)); refine oM ?_; refine oS sC ?_; refine oS sD ?_; refine o_make (E := Ei) (zx := (0 : Int)) (n := xs.length + 64) rfl rfl rfl (by omega) (by omega) rfl fun b8 S8 hS8 => ?_; refine oA (oZ hK2 (c_seq fun _ hK3 => ?_)); refine cR fun _ hK4 => ?_; refine oA (oZ hK4 (c_block ?_)); refine c_loop3 (fun (j : Nat) (l : List (Int)) (S : Hp) => j ≤ xs.length + 64 ∧ Tab.Fill (wdlF spZ xs) (xs.length + 64) j l ∧ OwnS Ei 1 3 (.slice (some ⟨b8, 0, none⟩) (xs.length + 64) (xs.length + 64)) l S) (fun (j : Nat) (l : List (Int)) (S : Hp) => [(4, .int .i64 j)]) [(0, _), (2, _), (3, _)] (fun (j : Nat) (l : List (Int)) (S : Hp) => S) (fun (j : Nat) (l : List (Int)) (S : Hp) => xs.length + 64 - j) 0 _ _ ⟨by omega, .zero List.length_replicate, hS8⟩ sbA sbA hzB ?_
  rintro j l S ⟨hj, hl, hS⟩
  have hsl := hS.sl
  have hll := hl.len
  rw [hll] at hsl
  refine c_seq fun _ hK5 => ?_; refine cR fun _ hK6 => ?_; refine oM (oM ?_); refine oS sC ?_
  by_cases hlt : j < xs.length + 64
  ·refine oS (step_cast (v' := .bool true) (s_lss rfl rfl) (congrArg Value.bool (decide_eq_true (by omega)))) ?_; refine oZ hK6 ?_; refine cTZ hK5 (c_seq fun _ hK7 => ?_); refine c_block (cR fun _ hK8 => ?_); refine oM (oM ?_); refine oS sC ?_
   by_cases hin : j < xs.length
   ·obtain ⟨x, hxj⟩ : ∃ x, xs[j]? = some x := gE
    refine oS (step_cast (v' := .bool true) (s_lss rfl rfl) (congrArg Value.bool (decide_eq_true (by omega)))) ?_; refine oZ hK8 ?_; refine cT (c_region (oM (oM (oM (oM ?_))))); refine oS (s_idx rfl rfl hsx (by omega)) ?_; refine oS (s_ld rfl ((RdK.old0 hw).ld j 0 hxj rfl (by decide) (by omega))) ?_; refine oS (s_idx rfl rfl hsl (by omega)) ?_; refine o_stS1 j (x) hS pkA rfl rfl rfl (by omega) (by omega) fun S9 hS9 => ?_; refine o_nil (x_block (xZ hK7 (c_region (oM ?_)))); refine oS sD (oA (o_nil ?_)); exact xI (j + 1, _, _) ⟨by omega, hl.step (by omega) (wdl_in hxj), hS9⟩
   ·refine oS (step_cast (v' := .bool false) (s_lss rfl rfl) (congrArg Value.bool (decide_eq_false (by omega)))) ?_; refine oZ hK8 ?_; refine cF (c_region (oM (oM (oM ?_)))); refine o_callP (num_fn 9 j (by omega) (by omega)) rfl rfl rfl (fun _ _ => trivial) (fun v29 hv29 => ?_); subst hv29
    refine oS (s_idx rfl rfl hsl (by omega)) ?_; refine o_stS1 j (spZ j) hS pkA rfl rfl rfl (by omega) (by omega) fun S9 hS9 => ?_; refine o_nil (x_block (xZ hK7 (c_region (oM ?_)))); refine oS sD (oA (o_nil ?_)); exact xI (j + 1, _, _) ⟨by omega, hl.step (by omega) (wdl_out (d := spZ) (by omega)), hS9⟩
  ·have hd := fill_wdl hl (by omega)
   subst hd; refine oS (step_cast (v' := .bool false) (s_lss rfl rfl) (congrArg Value.bool (decide_eq_false (by omega)))) ?_; refine oZ hK6 ?_; refine cF ?_; refine c_exit ?_; refine x_then_exit (x_then_exit (x_block_exit (xZ hK3 (cR fun _ hK9 => ?_)))); refine oM (oM ?_); refine oS sC ?_; refine oS (s_slice_hi rfl rfl (by omega)) ?_; refine oA (oZ hK9 (c_ret ?_)); refine ?_; exact xR rfl rfl (⟨_, rfl, by rw [hwl]; exact hS⟩)
theorem wideC_fn (a : Option Addr) (c : Nat) (xs : List Kl.Cl) (hn : xs.length ≤ 2147483647) : HL.Fn Tryz.prog 69 [.slice a xs.length c] (fun w => Rd Ec w (.slice a xs.length c) xs) [] (fun v S' => ∃ a', v = .slice a' xs.length (xs.length + 64) ∧ OwnS Ec 4 39 (.slice a' (wdl spC xs).length (xs.length + 64)) (wdl spC xs) S') := by
  refine fn_of Tryz.func69 rfl rfl rfl fun w0 hw => ?_
  have hsx := hw.sl
  have hbx := hsx.le
  have hwl := wdl_len spC xs
  refine cR fun _ hK1 => ?_; refine oA (oZ hK1 (cR fun _ hK2 => ?_)); refine oM ?_; refine oS sC ?_; refine oS sD ?_; refine o_make (E := Ec) (zx := (0#256 : Kl.Cl)) (n := xs.length + 64) rfl rfl (by rw [Ec_zero]; rfl) (by omega) (by omega) rfl fun b8 S8 hS8 => ?_; refine oA (oZ hK2 (c_seq fun _ hK3 => ?_)); refine cR fun _ hK4 => ?_; refine oA (oZ hK4 (c_block ?_)); refine c_loop3 (fun (j : Nat) (l : List (Kl.Cl)) (S : Hp) => j ≤ xs.length + 64 ∧ Tab.Fill (wdlF spC xs) (xs.length + 64) j l ∧ OwnS Ec 4 39 (.slice (some ⟨b8, 0, none⟩) (xs.length + 64) (xs.length + 64)) l S) (fun (j : Nat) (l : List (Kl.Cl)) (S : Hp) => [(4, .int .i64 j)]) [(0, _), (2, _), (3, _)] (fun (j : Nat) (l : List (Kl.Cl)) (S : Hp) => S) (fun (j : Nat) (l : List (Kl.Cl)) (S : Hp) => xs.length + 64 - j) 0 _ _ ⟨by omega, .zero List.length_replicate, hS8⟩ sbA sbA hzB ?_
  rintro j l S ⟨hj, hl, hS⟩
  have hsl := hS.sl
  have hll := hl.len
  rw [hll] at hsl
  refine c_seq fun _ hK5 => ?_; refine cR fun _ hK6 => ?_; refine oM (oM ?_); refine oS sC ?_
  by_cases hlt : j < xs.length + 64
  ·refine oS (step_cast (v' := .bool true) (s_lss rfl rfl) (congrArg Value.bool (decide_eq_true (by omega)))) ?_; refine oZ hK6 ?_; refine cTZ hK5 (c_seq fun _ hK7 => ?_); refine c_block (cR fun _ hK8 => ?_); refine oM (oM ?_); refine oS sC ?_
   by_cases hin : j < xs.length
   ·obtain ⟨x, hxj⟩ : ∃ x, xs[j]? = some x := gE
    refine oS (step_cast (v' := .bool true) (s_lss rfl rfl) (congrArg Value.bool (decide_eq_true (by omega)))) ?_; refine oZ hK8 ?_; refine cT (c_region (oM (oM (oM (oM ?_))))); refine oS (s_idx rfl rfl hsx (by omega)) ?_; refine oS (s_ldB rfl ((RdK.old0 hw).lds j hxj (by omega)) lnA) ?_; refine oS (s_idx rfl rfl hsl (by omega)) ?_; refine o_stSE j (x) hS pkA rfl rfl (by omega) (by rw [Int.toNat_natCast]) fun S9 hS9 => ?_; refine o_nil (x_block (xZ hK7 (c_region (oM ?_)))); refine oS sD (oA (o_nil ?_)); exact xI (j + 1, _, _) ⟨by omega, hl.step (by omega) (wdl_in hxj), hS9⟩
   ·refine oS (step_cast (v' := .bool false) (s_lss rfl rfl) (congrArg Value.bool (decide_eq_false (by omega)))) ?_; refine oZ hK8 ?_; refine cF (c_region (oM (oM (oM ?_)))); refine o_callP (num_fn 9 j (by omega) (by omega)) rfl rfl rfl (fun _ _ => trivial) (fun v29 hv29 => ?_); subst hv29
    refine oS (step_cast (v' := .int .u64 ((1048576 * 9 + j + 1 : Nat) : Int)) (s_conv rfl) (congrArg _ (convu64 (by omega)))) ?_; refine oS (step_cast (v' := .agg (Ec (spC j)).toArray) (s_buildA (cs := [_, _, _, _]) (vs := [_, _]) rfl rfl (.cons rfl rfl rfl rfl (.cons rfl rfl rfl rfl .nil))) (by rw [Ec_sp (by omega)])) ?_; refine oS (s_idx rfl rfl hsl (by omega)) ?_; refine o_stSE j (spC j) hS pkA rfl rfl (by omega) (by rw [Int.toNat_natCast]) fun S9 hS9 => ?_; refine o_nil (x_block (xZ hK7 (c_region (oM ?_)))); refine oS sD (oA (o_nil ?_)); exact xI (j + 1, _, _) ⟨by omega, hl.step (by omega) (wdl_out (d := spC) (by omega)), hS9⟩
  ·have hd := fill_wdl hl (by omega)
   subst hd; refine oS (step_cast (v' := .bool false) (s_lss rfl rfl) (congrArg Value.bool (decide_eq_false (by omega)))) ?_; refine oZ hK6 ?_; refine cF ?_; refine c_exit ?_; refine x_then_exit (x_then_exit (x_block_exit (xZ hK3 (cR fun _ hK9 => ?_)))); refine oM (oM ?_); refine oS sC ?_; refine oS (s_slice_hi rfl rfl (by omega)) ?_; refine oA (oZ hK9 (c_ret ?_)); refine ?_; exact xR rfl rfl (⟨_, rfl, by rw [hwl]; exact hS⟩)
theorem wideB_fn (a : Option Addr) (c : Nat) (xs : List Bool) (hn : xs.length ≤ 2147483647) : HL.Fn Tryz.prog 71 [.slice a xs.length c] (fun w => Rd Ebo w (.slice a xs.length c) xs) [] (fun v S' => ∃ a', v = .slice a' xs.length (xs.length + 64) ∧ OwnS Ebo 1 4 (.slice a' (wdl spBo xs).length (xs.length + 64)) (wdl spBo xs) S') := by
  refine fn_of Tryz.func71 rfl rfl rfl fun w0 hw => ?_
  have hsx := hw.sl
  have hbx := hsx.le
  have hwl := wdl_len spBo xs
  refine cR fun _ hK1 => ?_; refine oA (oZ hK1 (cR fun _ hK2 => ?_)); refine oM ?_; refine oS sC ?_; refine oS sD ?_; refine o_make (E := Ebo) (zx := false) (n := xs.length + 64) rfl rfl rfl (by omega) (by omega) rfl fun b8 S8 hS8 => ?_; refine oA (oZ hK2 (c_seq fun _ hK3 => ?_)); refine cR fun _ hK4 => ?_; refine oA (oZ hK4 (c_block ?_)); refine c_loop3 (fun (j : Nat) (l : List (Bool)) (S : Hp) => j ≤ xs.length + 64 ∧ Tab.Fill (wdlF spBo xs) (xs.length + 64) j l ∧ OwnS Ebo 1 4 (.slice (some ⟨b8, 0, none⟩) (xs.length + 64) (xs.length + 64)) l S) (fun (j : Nat) (l : List (Bool)) (S : Hp) => [(4, .int .i64 j)]) [(0, _), (2, _), (3, _)] (fun (j : Nat) (l : List (Bool)) (S : Hp) => S) (fun (j : Nat) (l : List (Bool)) (S : Hp) => xs.length + 64 - j) 0 _ _ ⟨by omega, .zero List.length_replicate, hS8⟩ sbA sbA hzB ?_
  rintro j l S ⟨hj, hl, hS⟩
  have hsl := hS.sl
  have hll := hl.len
  rw [hll] at hsl
  refine c_seq fun _ hK5 => ?_; refine cR fun _ hK6 => ?_; refine oM (oM ?_); refine oS sC ?_
  by_cases hlt : j < xs.length + 64
  ·refine oS (step_cast (v' := .bool true) (s_lss rfl rfl) (congrArg Value.bool (decide_eq_true (by omega)))) ?_; refine oZ hK6 ?_; refine cTZ hK5 (c_seq fun _ hK7 => ?_); refine c_block (cR fun _ hK8 => ?_); refine oM (oM ?_); refine oS sC ?_
   by_cases hin : j < xs.length
   ·obtain ⟨x, hxj⟩ : ∃ x, xs[j]? = some x := gE
    refine oS (step_cast (v' := .bool true) (s_lss rfl rfl) (congrArg Value.bool (decide_eq_true (by omega)))) ?_; refine oZ hK8 ?_; refine cT (c_region (oM (oM (oM (oM ?_))))); refine oS (s_idx rfl rfl hsx (by omega)) ?_; refine oS (s_ld rfl ((RdK.old0 hw).ld j 0 hxj rfl (by decide) (by omega))) ?_; refine oS (s_idx rfl rfl hsl (by omega)) ?_; refine o_stS1 j (x) hS pkA rfl rfl rfl (by omega) (by omega) fun S9 hS9 => ?_; refine o_nil (x_block (xZ hK7 (c_region (oM ?_)))); refine oS sD (oA (o_nil ?_)); exact xI (j + 1, _, _) ⟨by omega, hl.step (by omega) (wdl_in hxj), hS9⟩
   ·refine oS (step_cast (v' := .bool false) (s_lss rfl rfl) (congrArg Value.bool (decide_eq_false (by omega)))) ?_; refine oZ hK8 ?_; refine cF (c_region (oM (oM (oM ?_)))); refine o_callP (num_fn 9 j (by omega) (by omega)) rfl rfl rfl (fun _ _ => trivial) (fun v29 hv29 => ?_); subst hv29
    refine oM ?_; refine oS (step_cast (v' := .int .i64 ((j % 8 : Nat) : Int)) (s_rem rfl rfl (by decide)) (congrArg _ (rem8 j))) ?_; refine oS (step_cast (v' := .int .i64 ((20 + j % 8 : Nat) : Int)) (s_add rfl rfl (by omega)) (congrArg _ (by omega))) ?_; refine oS (step_cast (v' := .int .u64 ((20 + j % 8 : Nat) : Int)) (s_conv rfl) (congrArg _ (convu64 (by omega)))) ?_; refine oS (s_shr rfl rfl (by omega)) ?_; refine oS (s_and rfl rfl) ?_; refine oS (step_cast (v' := .bool (spBo j)) (s_eql rfl rfl) rfl) ?_; refine oS (s_idx rfl rfl hsl (by omega)) ?_; refine o_stS1 j (spBo j) hS pkA rfl rfl rfl (by omega) (by omega) fun S9 hS9 => ?_; refine o_nil (x_block (xZ hK7 (c_region (oM ?_)))); refine oS sD (oA (o_nil ?_)); exact xI (j + 1, _, _) ⟨by omega, hl.step (by omega) (wdl_out (d := spBo) (by omega)), hS9⟩
  ·have hd := fill_wdl hl (by omega)
   subst hd; refine oS (step_cast (v' := .bool false) (s_lss rfl rfl) (congrArg Value.bool (decide_eq_false (by omega)))) ?_; refine oZ hK6 ?_; refine cF ?_; refine c_exit ?_; refine x_then_exit (x_then_exit (x_block_exit (xZ hK3 (cR fun _ hK9 => ?_)))); refine oM (oM ?_); refine oS sC ?_; refine oS (s_slice_hi rfl rfl (by omega)) ?_; refine oA (oZ hK9 (c_ret ?_)); refine ?_; exact xR rfl rfl (⟨_, rfl, by rw [hwl]; exact hS⟩)
theorem spareZ_fn (a : Option Addr) (c : Nat) (xs : List Int) (hn : xs.length ≤ 2147483647) : HL.Fn Tryz.prog 125 [.slice a xs.length c] (fun w => Rd Ei w (.slice a (wdl spZ xs).length c) (wdl spZ xs)) [] (fun v _ => v = .bool true) := by
  refine fn_of Tryz.func125 rfl rfl rfl fun w0 hw => ?_
  have hwl := wdl_len spZ xs
  have hsx := hw.sl
  have hc := hsx.cap
  refine cR fun _ hK1 => ?_; refine oA (oZ hK1 (cR fun _ hK2 => ?_)); refine oM (oM ?_); refine oS sC ?_; refine oS sD ?_; refine oS (s_slice_hi rfl rfl (by omega)) ?_
  rw [show ((xs.length : Int) + 64).toNat = (wdl spZ xs).length from by rw [wdl_len]; omega]
  refine oA (oZ hK2 (c_seq fun _ hK3 => ?_)); refine cR fun _ hK4 => ?_; refine oM ?_; refine oS sC (oA (oZ hK4 (c_block ?_)))
  -- not carried: 2
  refine c_loopB (fun (j : Nat) => xs.length ≤ j ∧ j ≤ xs.length + 64) (fun (j : Nat) => [(4, .int .i64 j)]) [(3, _)] (fun (j : Nat) => []) (fun (j : Nat) => xs.length + 64 - j) xs.length ⟨by omega, by omega⟩ sbA sbA hzB ?_
  rintro j ⟨hj1, hj2⟩
  refine c_seq fun _ hK5 => ?_; refine cR fun _ hK6 => ?_; refine oM (oM ?_); refine oS sC ?_
  by_cases hlt : j < (wdl spZ xs).length
  ·have hxj := wdl_spare (d := spZ) (xs := xs) (i := j) (by omega) (by omega)
   refine oS (step_cast (v' := .bool true) (s_lss rfl rfl) (congrArg Value.bool (decide_eq_true (by omega)))) ?_; refine oZ hK6 ?_; refine cTZ hK5 (c_seq fun _ hK7 => ?_); refine c_block (c_seq fun _ hK8 => ?_); refine c_drawE ([]) (fun i => false) ?_; refine eP 0 rfl sM ?_; refine eP 1 rfl sM ?_; refine eP 2 rfl (s_idx rfl rfl hsx (by omega)) ?_; refine e_tk 3 rfl (by exact HSub.nil) (s_ld rfl ((RdK.old0 hw).ld j 0 hxj rfl (by decide) (by omega))) ?_; refine eP 4 rfl sM (eO 5 rfl ?_); refine o_callP (num_fn 9 j (by omega) (by omega)) rfl rfl rfl (fun _ _ => trivial) (fun v23 hv23 => ?_); subst hv23
   refine o_nil ?_; refine x_oneS (by exact HSub.nil) ?_; refine eP 6 rfl (step_cast (v' := .bool true) (s_eql rfl rfl) (congrArg Value.bool (decide_eq_true rfl))) ?_; refine eP 7 rfl (s_not rfl) ?_; refine eZ hK8 ?_; refine cF (c_skip (x_block (xZ hK7 (c_region (oM ?_))))); refine oS sD (oA (o_nil ?_)); exact xI (j + 1) ⟨by omega, by omega⟩
  ·refine oS (step_cast (v' := .bool false) (s_lss rfl rfl) (congrArg Value.bool (decide_eq_false (by omega)))) ?_; refine oZ hK6 ?_; refine cF ?_; refine c_exit ?_; refine x_then_exit (x_then_exit (x_block_exit (xZ hK3 (cR fun _ hK9 => ?_)))); refine oA (oZ hK9 (c_ret ?_)); refine ?_; exact xR rfl rfl (rfl)
theorem spareC_fn (a : Option Addr) (c : Nat) (xs : List Kl.Cl) (hn : xs.length ≤ 2147483647) : HL.Fn Tryz.prog 80 [.slice a xs.length c] (fun w => Rd Ec w (.slice a (wdl spC xs).length c) (wdl spC xs)) [] (fun v _ => v = .bool true) := by
  refine fn_of Tryz.func80 rfl rfl rfl fun w0 hw => ?_
  have hwl := wdl_len spC xs
  have hsx := hw.sl
  have hc := hsx.cap
  refine cR fun _ hK1 => ?_; refine oA (oZ hK1 (cR fun _ hK2 => ?_)); refine oM (oM ?_); refine oS sC ?_; refine oS sD ?_; refine oS (s_slice_hi rfl rfl (by omega)) ?_
  rw [show ((xs.length : Int) + 64).toNat = (wdl spC xs).length from by rw [wdl_len]; omega]
  refine oA (oZ hK2 (c_seq fun _ hK3 => ?_)); refine cR fun _ hK4 => ?_; refine oM ?_; refine oS sC (oA (oZ hK4 (c_block ?_)))
  -- not carried: 2
  refine c_loopB (fun (j : Nat) => xs.length ≤ j ∧ j ≤ xs.length + 64) (fun (j : Nat) => [(4, .int .i64 j)]) [(3, _)] (fun (j : Nat) => []) (fun (j : Nat) => xs.length + 64 - j) xs.length ⟨by omega, by omega⟩ sbA sbA hzB ?_
  rintro j ⟨hj1, hj2⟩
  refine c_seq fun _ hK5 => ?_; refine cR fun _ hK6 => ?_; refine oM (oM ?_); refine oS sC ?_
  by_cases hlt : j < (wdl spC xs).length
  ·have hxj := wdl_spare (d := spC) (xs := xs) (i := j) (by omega) (by omega)
   refine oS (step_cast (v' := .bool true) (s_lss rfl rfl) (congrArg Value.bool (decide_eq_true (by omega)))) ?_; refine oZ hK6 ?_; refine cTZ hK5 (c_seq fun _ hK7 => ?_); refine c_block (c_seq fun _ hK8 => ?_); refine c_drawE ([]) (fun i => false) ?_; refine eP 0 rfl sM ?_; refine eP 1 rfl sM ?_; refine eP 2 rfl (s_idx rfl rfl hsx (by omega)) ?_; refine e_tk 3 rfl (by exact HSub.nil) (s_ldB rfl ((RdK.old0 hw).lds j hxj (by omega)) lnA) ?_; refine eP 4 rfl sM (eO 5 rfl ?_); refine o_callP (num_fn 9 j (by omega) (by omega)) rfl rfl rfl (fun _ _ => trivial) (fun v23 hv23 => ?_); subst hv23
   refine o_nil ?_; refine x_oneS (by exact HSub.nil) ?_; refine eP 6 rfl (step_cast (v' := .int .u64 ((1048576 * 9 + j + 1 : Nat) : Int)) (s_conv rfl) (congrArg _ (convu64 (by omega)))) ?_; refine eP 7 rfl (step_cast (v' := .agg (Ec (spC j)).toArray) (s_buildA (cs := [_, _, _, _]) (vs := [_, _]) rfl rfl (.cons rfl rfl rfl rfl (.cons rfl rfl rfl rfl .nil))) (by rw [Ec_sp (by omega)])) ?_; refine eP 8 rfl (step_cast (v' := .bool true) (s_eql_cl rfl rfl) (congrArg Value.bool (decide_eq_true rfl))) ?_; refine eP 9 rfl (s_not rfl) ?_; refine eZ hK8 ?_; refine cF (c_skip (x_block (xZ hK7 (c_region (oM ?_))))); refine oS sD (oA (o_nil ?_)); exact xI (j + 1) ⟨by omega, by omega⟩
  ·refine oS (step_cast (v' := .bool false) (s_lss rfl rfl) (congrArg Value.bool (decide_eq_false (by omega)))) ?_; refine oZ hK6 ?_; refine cF ?_; refine c_exit ?_; refine x_then_exit (x_then_exit (x_block_exit (xZ hK3 (cR fun _ hK9 => ?_)))); refine oA (oZ hK9 (c_ret ?_)); refine ?_; exact xR rfl rfl (rfl)
theorem spareB_fn (a : Option Addr) (c : Nat) (xs : List Bool) (hn : xs.length ≤ 2147483647) : HL.Fn Tryz.prog 82 [.slice a xs.length c] (fun w => Rd Ebo w (.slice a (wdl spBo xs).length c) (wdl spBo xs)) [] (fun v _ => v = .bool true) := by
  refine fn_of Tryz.func82 rfl rfl rfl fun w0 hw => ?_
  have hwl := wdl_len spBo xs
  have hsx := hw.sl
  have hc := hsx.cap
  refine cR fun _ hK1 => ?_; refine oA (oZ hK1 (cR fun _ hK2 => ?_)); refine oM (oM ?_); refine oS sC ?_; refine oS sD ?_; refine oS (s_slice_hi rfl rfl (by omega)) ?_
  rw [show ((xs.length : Int) + 64).toNat = (wdl spBo xs).length from by rw [wdl_len]; omega]
  refine oA (oZ hK2 (c_seq fun _ hK3 => ?_)); refine cR fun _ hK4 => ?_; refine oM ?_; refine oS sC (oA (oZ hK4 (c_block ?_)))
  -- not carried: 2
  refine c_loopB (fun (j : Nat) => xs.length ≤ j ∧ j ≤ xs.length + 64) (fun (j : Nat) => [(4, .int .i64 j)]) [(3, _)] (fun (j : Nat) => []) (fun (j : Nat) => xs.length + 64 - j) xs.length ⟨by omega, by omega⟩ sbA sbA hzB ?_
  rintro j ⟨hj1, hj2⟩
  refine c_seq fun _ hK5 => ?_; refine cR fun _ hK6 => ?_; refine oM (oM ?_); refine oS sC ?_
  by_cases hlt : j < (wdl spBo xs).length
  ·have hxj := wdl_spare (d := spBo) (xs := xs) (i := j) (by omega) (by omega)
   refine oS (step_cast (v' := .bool true) (s_lss rfl rfl) (congrArg Value.bool (decide_eq_true (by omega)))) ?_; refine oZ hK6 ?_; refine cTZ hK5 (c_seq fun _ hK7 => ?_); refine c_block (c_seq fun _ hK8 => ?_); refine c_drawE ([]) (fun i => false) ?_; refine eP 0 rfl sM ?_; refine eP 1 rfl sM ?_; refine eP 2 rfl (s_idx rfl rfl hsx (by omega)) ?_; refine e_tk 3 rfl (by exact HSub.nil) (s_ld rfl ((RdK.old0 hw).ld j 0 hxj rfl (by decide) (by omega))) ?_; refine eP 4 rfl sM ?_; refine eP 6 rfl sM ?_; refine eP 7 rfl (step_cast (v' := .int .i64 ((j % 8 : Nat) : Int)) (s_rem rfl rfl (by decide)) (congrArg _ (rem8 j))) ?_; refine eP 8 rfl (step_cast (v' := .int .i64 ((20 + j % 8 : Nat) : Int)) (s_add rfl rfl (by omega)) (congrArg _ (by omega))) ?_; refine eP 9 rfl (step_cast (v' := .int .u64 ((20 + j % 8 : Nat) : Int)) (s_conv rfl) (congrArg _ (convu64 (by omega)))) ?_; refine eO 5 rfl ?_; refine o_callP (num_fn 9 j (by omega) (by omega)) rfl rfl rfl (fun _ _ => trivial) (fun v23 hv23 => ?_); subst hv23
   refine o_nil ?_; refine x_oneS (by exact HSub.nil) ?_; refine eP 10 rfl (s_shr rfl rfl (by omega)) ?_; refine eP 11 rfl (s_and rfl rfl) ?_; refine eP 12 rfl (step_cast (v' := .bool (spBo j)) (s_eql rfl rfl) rfl) ?_; refine eP 13 rfl (step_cast (v' := .bool true) (s_eql_bool rfl rfl) (congrArg Value.bool (decide_eq_true rfl))) ?_; refine eP 14 rfl (s_not rfl) ?_; refine eZ hK8 ?_; refine cF (c_skip (x_block (xZ hK7 (c_region (oM ?_))))); refine oS sD (oA (o_nil ?_)); exact xI (j + 1) ⟨by omega, by omega⟩
  ·refine oS (step_cast (v' := .bool false) (s_lss rfl rfl) (congrArg Value.bool (decide_eq_false (by omega)))) ?_; refine oZ hK6 ?_; refine cF ?_; refine c_exit ?_; refine x_then_exit (x_then_exit (x_block_exit (xZ hK3 (cR fun _ hK9 => ?_)))); refine oA (oZ hK9 (c_ret ?_)); refine ?_; exact xR rfl rfl (rfl)
theorem copyZ_fn (a : Option Addr) (c : Nat) (xs : List Int) (hn : xs.length ≤ 3000000000) : HL.Fn Tryz.prog 126 [.slice a xs.length c] (fun w => Rd Ei w (.slice a xs.length c) xs) [] (fun v S' => ∃ a' c', v = .slice a' xs.length c' ∧ OwnS Ei 1 3 (.slice a' xs.length c') xs S') := by
  refine fn_of Tryz.func126 rfl rfl rfl fun w0 hw => ?_; refine cR fun _ hK1 => ?_; refine oA (oZ hK1 (cR fun _ hK2 => ?_)); refine oA (oZ hK2 (cR fun _ hK3 => ?_)); refine oM (oM ?_); refine o_app OwnS.nil (RdK.old0 hw) rfl rfl rfl rfl (by simp; omega) (by simp; omega) rfl pkA fun a6 c6 S6 hS6 => ?_
  simp only [List.nil_append] at hS6
  refine oA (oZ hK3 (c_ret ?_)); refine ?_; refine x_sub (Sub.refl _) (H' := S6) hzB ?_; exact xR rfl rfl (⟨_, _, rfl, hS6⟩)
theorem copyC_fn (a : Option Addr) (c : Nat) (xs : List Kl.Cl) (hn : xs.length ≤ 3000000000) : HL.Fn Tryz.prog 83 [.slice a xs.length c] (fun w => Rd Ec w (.slice a xs.length c) xs) [] (fun v S' => ∃ a' c', v = .slice a' xs.length c' ∧ OwnS Ec 4 39 (.slice a' xs.length c') xs S') := by
  refine fn_of Tryz.func83 rfl rfl rfl fun w0 hw => ?_; refine cR fun _ hK1 => ?_; refine oA (oZ hK1 (cR fun _ hK2 => ?_)); refine oA (oZ hK2 (cR fun _ hK3 => ?_)); refine oM (oM ?_); refine o_app OwnS.nil (RdK.old0 hw) rfl rfl rfl rfl (by simp; omega) (by simp; omega) rfl pkA fun a6 c6 S6 hS6 => ?_
  simp only [List.nil_append] at hS6
  refine oA (oZ hK3 (c_ret ?_)); refine ?_; refine x_sub (Sub.refl _) (H' := S6) hzB ?_; exact xR rfl rfl (⟨_, _, rfl, hS6⟩)
theorem copyB_fn (a : Option Addr) (c : Nat) (xs : List Bool) (hn : xs.length ≤ 3000000000) : HL.Fn Tryz.prog 85 [.slice a xs.length c] (fun w => Rd Ebo w (.slice a xs.length c) xs) [] (fun v S' => ∃ a' c', v = .slice a' xs.length c' ∧ OwnS Ebo 1 4 (.slice a' xs.length c') xs S') := by
  refine fn_of Tryz.func85 rfl rfl rfl fun w0 hw => ?_; refine cR fun _ hK1 => ?_; refine oA (oZ hK1 (cR fun _ hK2 => ?_)); refine oA (oZ hK2 (cR fun _ hK3 => ?_)); refine oM (oM ?_); refine o_app OwnS.nil (RdK.old0 hw) rfl rfl rfl rfl (by simp; omega) (by simp; omega) rfl pkA fun a6 c6 S6 hS6 => ?_
  simp only [List.nil_append] at hS6
  refine oA (oZ hK3 (c_ret ?_)); refine ?_; refine x_sub (Sub.refl _) (H' := S6) hzB ?_; exact xR rfl rfl (⟨_, _, rfl, hS6⟩)
inductive OwnW : List (Sl Int) → Hp → Prop
  | nil : OwnW [] []
  | cons {s : Sl Int} {sls : List (Sl Int)} {S R : Hp} (h : OwnS Ei 1 3 (.slice s.a (wdl spZ s.xs).length s.c) (wdl spZ s.xs) S) (hs : OwnW sls R) : OwnW (s :: sls) (S ++ R)
theorem OwnW.snoc {sls : List (Sl Int)} {S S' : Hp} {s : Sl Int} (h : OwnW sls S) (h' : OwnS Ei 1 3 (.slice s.a (wdl spZ s.xs).length s.c) (wdl spZ s.xs) S') : OwnW (sls ++ [s]) (S ++ S') := by
  induction h with
  | nil => simpa using OwnW.cons h' .nil
  | cons h hs ih => simpa using OwnW.cons h ih
theorem OwnW.rdk {sls : List (Sl Int)} {S H : Hp} {κ : Cx} (h : OwnW sls S) : HIn S H → ∀ s ∈ sls, RdK Ei κ H (.slice s.a (wdl spZ s.xs).length s.c) (wdl spZ s.xs) := by
  induction h with
  | nil => intro _ s hs; cases hs
  | cons h hs ih =>
    intro hin s' hs'
    rcases List.mem_cons.1 hs' with rfl | hs'
    · exact h.rdk fun p hp => hin p (List.mem_append_left _ hp)
    · exact ih (fun p hp => hin p (List.mem_append_right _ hp)) s' hs'
theorem OwnW.rdx {sls : List (Sl Int)} {S H : Hp} {n : Nat} {ds : List Deferred} {w0 : World} {M : List Nat} {w : World} (h : OwnW sls S) (hin : HIn S H) (st : St w0 w M H) {s : Sl Int} (hs : s ∈ sls) : Rd Ei w s.v s.xs := by
  have h1 := (h.rdk (κ := ⟨n, ds, w0, M⟩) hin s hs).out w st
  have h2 := h1.pref s.xs.length
  rw [wdl_take] at h2
  exact h2
def Sps (n : Nat) (sps : List (Sl Int)) : Prop := ∀ j s, sps[j]? = some s → s.xs = [spZ (n + j)]
theorem Sps.nil (n : Nat) : Sps n [] := fun j s h => by simp at h
theorem Sps.snoc {n : Nat} {sps : List (Sl Int)} {s : Sl Int} (h : Sps n sps) (hs : s.xs = [spZ (n + sps.length)]) : Sps n (sps ++ [s]) := by
  intro j s' hj
  rcases Nat.lt_or_ge j sps.length with hl | hl
  · rw [List.getElem?_append_left hl] at hj; exact h j s' hj
  · rw [List.getElem?_append_right hl] at hj
    have hz : j - sps.length = 0 := by
      have := (List.getElem?_eq_some_iff.1 hj).1
      simp at this; omega
    rw [hz] at hj
    simp at hj
    subst hj
    rw [show j = sps.length by omega]; exact hs
theorem map_take_succ {α β : Type} {f : α → β} {l : List α} {j : Nat} {x : α} (h : l[j]? = some x) : (l.take (j + 1)).map f = (l.take j).map f ++ [f x] := by rw [take_succ_get h]; simp
def WdO (d : Df) (v : Value) (S : Hp) : Prop := ∃ (aC aR aE : Option Addr) (hs sps : List (Sl Int)) (SC SB SH SS SE : Hp), v = .agg [.slice aC d.atoms.length (d.atoms.length + 64), .slice aR hs.length (hs.length + 64), .slice aE d.ends.length (d.ends.length + 64)].toArray ∧ S = SC ++ (SB ++ (SH ++ (SS ++ SE))) ∧
  OwnS Ec 4 39 (.slice aC (wdl spC d.atoms).length (d.atoms.length + 64)) (wdl spC d.atoms) SC ∧ OwnS Esl 1 36 (.slice aR (hs ++ sps).length (hs.length + 64)) (hs ++ sps) SB ∧ OwnW hs SH ∧ OwnL Ei 1 3 sps (sps.map Sl.xs) SS ∧ OwnS Ebo 1 4 (.slice aE (wdl spBo d.ends).length (d.ends.length + 64)) (wdl spBo d.ends) SE ∧ d.next = hs.map Sl.xs ∧ sps.length = 64 ∧ Sps hs.length sps
structure Sml (d : Df) (rows : List (Sl Int)) : Prop where
  at_ : d.atoms.length ≤ 16777216
  nx : rows.length ≤ 16777216
  en : d.ends.length ≤ 16777216
  rw_ : ∀ s ∈ rows, s.xs.length ≤ 16777216
theorem eqIntss_fn (a a2 : Option Addr) (c c2 : Nat) (xs ys : List (Sl Int)) : HL.Fn Tryz.prog 45 [.slice a xs.length c, .slice a2 ys.length c2] (fun w => Rd Esl w (.slice a xs.length c) xs ∧ Rd Esl w (.slice a2 ys.length c2) ys ∧ (∀ s ∈ xs, Rd Ei w s.v s.xs) ∧ ∀ s ∈ ys, Rd Ei w s.v s.xs) [] (fun v _ => v = .bool (decide ((xs.map Sl.xs) = (ys.map Sl.xs)))) := by
  refine fn_of Tryz.func45 rfl rfl rfl fun w0 hw => ?_
  obtain ⟨hx, hy, hxr, hyr⟩ := hw
  have hsx := hx.sl
  have hsy := hy.sl
  have hbx := hsx.le
  have hby := hsy.le
  refine cR fun _ hK1 => ?_; refine oA (oZ hK1 (c_seq fun _ hK2 => ?_)); refine cR fun _ hK3 => ?_; refine oM ?_; refine oS sC (oM ?_); refine oS sC ?_
  by_cases hl : xs.length ≠ ys.length
  ·refine oS (step_cast (v' := .bool true) (s_neq rfl rfl) (congrArg Value.bool (decide_eq_true (by omega)))) ?_; refine oZ hK3 ?_; refine cT (cR fun _ hK4 => ?_); refine oA (oZ hK4 (c_ret ?_)); refine x_then_ret (?_); exact xR rfl rfl ((congrArg Value.bool (decide_eq_false (by intro e; have := congrArg List.length e; simp at this; omega)).symm))
  ·refine oS (step_cast (v' := .bool false) (s_neq rfl rfl) (congrArg Value.bool (decide_eq_false (by omega)))) ?_; refine oZ hK3 ?_; refine cFZ hK2 (c_seq fun _ hK5 => ?_); refine cR fun _ hK6 => ?_; refine oA (oZ hK6 (c_block ?_))
   -- not carried: 4
   refine c_loopB (fun (j : Nat) => j ≤ xs.length ∧ ∀ i, i < j → (xs.map Sl.xs)[i]? = (ys.map Sl.xs)[i]?) (fun (j : Nat) => [(5, .int .i64 j)]) [(0, _), (1, _)] (fun (j : Nat) => []) (fun (j : Nat) => xs.length - j) 0 ⟨by omega, fun i hi => by omega⟩ sbA sbA hzB ?_
   rintro j ⟨hj, hjt⟩
   refine c_seq fun _ hK7 => ?_; refine cR fun _ hK8 => ?_; refine oM (oM ?_); refine oS sC ?_
   by_cases hlt : j < xs.length
   ·obtain ⟨x, hxj⟩ : ∃ x, xs[j]? = some x := gE
    obtain ⟨y, hyj⟩ : ∃ y, ys[j]? = some y := gE
    refine oS (step_cast (v' := .bool true) (s_lss rfl rfl) (congrArg Value.bool (decide_eq_true (by omega)))) ?_; refine oZ hK8 ?_; refine cTZ hK7 (c_seq fun _ hK9 => ?_); refine c_block (c_seq fun _ hK10 => ?_); refine c_drawE ([]) (fun i => false) ?_; refine eP 0 rfl sM ?_; refine eP 1 rfl sM ?_; refine eP 2 rfl (s_idx rfl rfl hsx (by omega)) ?_; refine e_tk 3 rfl (by exact HSub.nil) (s_ld rfl ((RdK.old0 hx).ld j 0 hxj rfl (by decide) (by omega))) ?_; refine eP 4 rfl sM ?_; refine eP 5 rfl sM ?_; refine eP 6 rfl (s_idx rfl rfl hsy (by omega)) ?_; refine e_tk 7 rfl (by exact HSub.nil) (s_ld rfl ((RdK.old0 hy).ld j 0 hyj rfl (by decide) (by omega))) ?_; refine eO 8 rfl ?_; refine o_callP (eqZ_fn x.a y.a x.c y.c x.xs y.xs) rfl rfl rfl (fun w st => ⟨(RdK.old0 (hxr x (List.mem_of_getElem? hxj))).out w st, (RdK.old0 (hyr y (List.mem_of_getElem? hyj))).out w st⟩) (fun v25 hv25 => ?_)
    cases hq25 : decide (x.xs = y.xs)
    ·rw [hq25] at hv25
     subst hv25
     have hne := of_decide_eq_false hq25
     refine o_nil ?_; refine x_oneS (by exact HSub.nil) ?_; refine eP 9 rfl (s_not rfl) ?_; refine eZ hK10 ?_; refine cT (cR fun _ hK11 => ?_); refine oA (oZ hK11 (c_ret ?_)); refine x_block_ret (x_then_ret (x_then_ret (x_block_ret (x_then_ret (?_)))))
     exact xR rfl rfl ((congrArg Value.bool (decide_eq_false (by intro e; have := congrArg (fun l => l[j]?) e; simp only [List.getElem?_map, hxj, hyj, Option.map_some, Option.some.injEq] at this; exact hne this)).symm))
    ·rw [hq25] at hv25
     subst hv25
     have hne := of_decide_eq_true hq25
     refine o_nil ?_; refine x_oneS (by exact HSub.nil) ?_; refine eP 9 rfl (s_not rfl) ?_; refine eZ hK10 ?_; refine cF (c_skip (x_block (xZ hK9 (c_region (oM ?_))))); refine oS sD (oA (o_nil ?_)); exact xI (j + 1) ⟨by omega, fun i hi => by rcases Nat.lt_or_ge i j with h | h; (· exact hjt i h); (· rw [show i = j by omega, List.getElem?_map, List.getElem?_map, hxj, hyj]; exact congrArg some hne)⟩
   ·refine oS (step_cast (v' := .bool false) (s_lss rfl rfl) (congrArg Value.bool (decide_eq_false (by omega)))) ?_; refine oZ hK8 ?_; refine cF ?_; refine c_exit ?_; refine x_then_exit (x_then_exit (x_block_exit (xZ hK5 (cR fun _ hK12 => ?_)))); refine oA (oZ hK12 (c_ret ?_)); refine ?_; exact xR rfl rfl ((congrArg Value.bool (decide_eq_true (ext_upto (by simp; omega) fun i hi => hjt i (by simp at hi; omega))).symm))
set_option maxHeartbeats 1000000 in
theorem wideIntss_fn (a : Option Addr) (c : Nat) (rows : List (Sl Int)) (hn : rows.length ≤ 2147483647) (hK : ∀ s ∈ rows, s.xs.length ≤ 2147483647) : HL.Fn Tryz.prog 70 [.slice a rows.length c] (fun w => Rd Esl w (.slice a rows.length c) rows ∧ ∀ s ∈ rows, Rd Ei w s.v s.xs) [] (fun v S' => ∃ a' hs sps SB SH SS, v = .slice a' rows.length (rows.length + 64) ∧ S' = SB ++ (SH ++ SS) ∧ OwnS Esl 1 36 (.slice a' (hs ++ sps).length (rows.length + 64)) (hs ++ sps) SB ∧ OwnW hs SH ∧ OwnL Ei 1 3 sps (sps.map Sl.xs) SS ∧ hs.map Sl.xs = rows.map Sl.xs ∧ sps.length = 64 ∧ Sps rows.length sps) := by
  refine fn_of Tryz.func70 rfl rfl rfl fun w0 hw => ?_
  have hsx := hw.1.sl
  have hbx := hsx.le
  refine cR fun _ hK1 => ?_; refine oA (oZ hK1 (cR fun _ hK2 => ?_)); refine oM ?_; refine oS sC ?_; refine oS sD ?_; refine o_make (E := Esl) (zx := (⟨none, 0, []⟩ : Sl Int)) (n := rows.length + 64) rfl rfl rfl (by omega) (by omega) rfl fun b8 S8 hS8 => ?_
  rw [← filZ_nil] at hS8
  refine oA (oZ hK2 (c_seq fun _ hK3 => ?_)); refine cR fun _ hK4 => ?_; refine oA (oZ hK4 (c_block ?_)); refine c_loop6 (fun (j : Nat) (hs : List (Sl Int)) (sps : List (Sl Int)) (SB : Hp) (SH : Hp) (SS : Hp) => j ≤ rows.length + 64 ∧ hs.length = min j rows.length ∧ sps.length = j - rows.length ∧ hs.map Sl.xs = (rows.take j).map Sl.xs ∧ Sps rows.length sps ∧ OwnS Esl 1 36 (.slice (some ⟨b8, 0, none⟩) (rows.length + 64) (rows.length + 64)) (filZ ⟨none, 0, []⟩ (hs ++ sps) (rows.length + 64)) SB ∧ OwnW hs SH ∧ OwnL Ei 1 3 sps (sps.map Sl.xs) SS) (fun (j : Nat) (hs : List (Sl Int)) (sps : List (Sl Int)) (SB : Hp) (SH : Hp) (SS : Hp) => [(4, .int .i64 j)]) [(0, _), (2, _), (3, _)] (fun (j : Nat) (hs : List (Sl Int)) (sps : List (Sl Int)) (SB : Hp) (SH : Hp) (SS : Hp) => SB ++ (SH ++ SS)) (fun (j : Nat) (hs : List (Sl Int)) (sps : List (Sl Int)) (SB : Hp) (SH : Hp) (SS : Hp) => rows.length + 64 - j) 0 [] [] S8 [] [] ⟨by omega, by simp, by simp, rfl, Sps.nil _, hS8, .nil, .nil⟩ sbA sbA (by show HSub _ (S8 ++ []); rw [List.append_nil]; exact hzB) ?_
  rintro j hs sps SB SH SS ⟨hj, hhl, hsl, hhm, hsp, hB, hH, hS⟩
  have hal : (hs ++ sps).length = j := by rw [List.length_append]; omega
  have hsb := hB.sl
  rw [filZ_len (by omega)] at hsb
  refine c_seq fun _ hK5 => ?_; refine cR fun _ hK6 => ?_; refine oM (oM ?_); refine oS sC ?_
  by_cases hlt : j < rows.length + 64
  ·refine oS (step_cast (v' := .bool true) (s_lss rfl rfl) (congrArg Value.bool (decide_eq_true (by omega)))) ?_; refine oZ hK6 ?_; refine cTZ hK5 (c_seq fun _ hK7 => ?_); refine c_block (cR fun _ hK8 => ?_); refine oM (oM ?_); refine oS sC ?_
   by_cases hin : j < rows.length
   ·obtain ⟨s, hsj⟩ : ∃ x, rows[j]? = some x := gE
    have hsm := List.mem_of_getElem? hsj
    obtain rfl : sps = [] := List.eq_nil_of_length_eq_zero (by omega)
    rw [List.append_nil] at hB hal
    refine oS (step_cast (v' := .bool true) (s_lss rfl rfl) (congrArg Value.bool (decide_eq_true (by omega)))) ?_; refine oZ hK8 ?_; refine cT (c_region (oM (oM (oM (oM ?_))))); refine oS (s_idx rfl rfl hsx (by omega)) ?_; refine oS (s_ld rfl ((RdK.old0 hw.1).ld j 0 hsj rfl (by decide) (by omega))) ?_; refine o_call (wideZ_fn s.a s.c s.xs (hK s hsm)) rfl rfl rfl (by exact .nil) (fun w st => (RdK.old0 (hw.2 s hsm)).out w st) (fun v25 S25 ⟨a25, hv25, hS25⟩ => ?_); subst hv25
    refine oS (s_idx rfl rfl hsb (by omega)) ?_; refine o_stS1 j (⟨a25, s.xs.length + 64, s.xs⟩ : Sl Int) hB pkA rfl rfl rfl (by rw [filZ_len (by omega)]; omega) (by omega) fun S26 hS26 => ?_
    rw [filZ_set hal (by omega)] at hS26
    refine o_nil (x_block (xZ hK7 (c_region (oM ?_)))); refine oS sD (oA (o_nil ?_)); exact x_then (x_inv (j + 1, hs ++ [⟨a25, s.xs.length + 64, s.xs⟩], [], S26, SH ++ S25, []) ⟨by omega, by rw [List.length_append, List.length_singleton]; omega, by simp; omega, by rw [map_take_succ hsj, ← hhm]; simp, Sps.nil _, by simpa using hS26, hH.snoc (s := ⟨a25, s.xs.length + 64, s.xs⟩) hS25, .nil⟩ (by first | omega | (dsimp only; omega)) sbA (by show HSub _ (S26 ++ ((SH ++ S25) ++ [])); rw [List.append_nil]; exact hzB))
   ·refine oS (step_cast (v' := .bool false) (s_lss rfl rfl) (congrArg Value.bool (decide_eq_false (by omega)))) ?_; refine oZ hK8 ?_; refine cF (c_region (oM (oM (oM ?_)))); refine o_callP (num_fn 9 j (by omega) (by omega)) rfl rfl rfl (fun _ _ => trivial) (fun v30 hv30 => ?_); subst hv30
    refine o_bs (E := Ei) (xs := [spZ j]) (vs := [_]) rfl rfl rfl rfl rfl (by decide) (by decide) fun b31 S31 hS31 => ?_; refine oS (s_idx rfl rfl hsb (by omega)) ?_; refine o_stS1 j (⟨some ⟨b31, 0, none⟩, 1, [spZ j]⟩ : Sl Int) hB pkA rfl rfl rfl (by rw [filZ_len (by omega)]; omega) (by omega) fun S32 hS32 => ?_
    rw [filZ_set hal (by omega)] at hS32
    refine o_nil (x_block (xZ hK7 (c_region (oM ?_)))); refine oS sD (oA (o_nil ?_)); exact xI (j + 1, hs, sps ++ [⟨some ⟨b31, 0, none⟩, 1, [spZ j]⟩], S32, SH, SS ++ S31) ⟨by omega, by dsimp only; omega, by rw [List.length_append, List.length_singleton]; dsimp only; omega, by rw [hhm, List.take_of_length_le (by omega), List.take_of_length_le (by omega)], hsp.snoc (by rw [show rows.length + sps.length = j by omega]), by rw [← List.append_assoc]; exact hS32, hH, by rw [List.map_append]; exact hS.snoc (s := ⟨some ⟨b31, 0, none⟩, 1, [spZ j]⟩) hS31⟩
  ·obtain rfl : j = rows.length + 64 := by omega
   rw [filZ_full (by omega)] at hB
   rw [List.take_of_length_le (by omega)] at hhm
   refine oS (step_cast (v' := .bool false) (s_lss rfl rfl) (congrArg Value.bool (decide_eq_false (by omega)))) ?_; refine oZ hK6 ?_; refine cF ?_; refine c_exit ?_; refine x_then_exit (x_then_exit (x_block_exit (xZ hK3 (cR fun _ hK9 => ?_)))); refine oM (oM ?_); refine oS sC ?_; refine oS (s_slice_hi rfl rfl (by omega)) ?_; refine oA (oZ hK9 (c_ret ?_)); refine ?_; refine x_sub (Sub.refl _) (H' := SB ++ (SH ++ SS)) hzB ?_; exact xR rfl rfl (⟨_, hs, sps, SB, SH, SS, rfl, rfl, by rw [hal]; exact hB, hH, hS, hhm, by omega, hsp⟩)
set_option maxHeartbeats 1000000 in
theorem spareIntss_fn (a : Option Addr) (c : Nat) (hs sps : List (Sl Int)) (hn : hs.length ≤ 2147483647) (hK : ∀ s ∈ hs, s.xs.length ≤ 2147483647) (hsl : sps.length = 64) (hsp : Sps hs.length sps) : HL.Fn Tryz.prog 81 [.slice a hs.length c] (fun w => Rd Esl w (.slice a (hs ++ sps).length c) (hs ++ sps) ∧ (∀ s ∈ hs, Rd Ei w (.slice s.a (wdl spZ s.xs).length s.c) (wdl spZ s.xs)) ∧ ∀ s ∈ sps, Rd Ei w s.v s.xs) [] (fun v _ => v = .bool true) := by
  refine fn_of Tryz.func81 rfl rfl rfl fun w0 hw => ?_
  have hal : (hs ++ sps).length = hs.length + 64 := by rw [List.length_append]; omega
  have hsx := hw.1.sl
  have hc := hsx.cap
  have hpr := hw.1.pref hs.length
  rw [List.take_left] at hpr
  have hsh := hpr.sl
  have hbh := hsh.le
  refine cR fun _ hK1 => ?_; refine oA (oZ hK1 (cR fun _ hK2 => ?_)); refine oM (oM ?_); refine oS sC ?_; refine oS sD ?_; refine oS (s_slice_hi rfl rfl (by omega)) ?_
  rw [show ((hs.length : Int) + 64).toNat = (hs ++ sps).length from by omega]
  refine oA (oZ hK2 (c_seq fun _ hK3 => ?_)); refine cR fun _ hK4 => ?_; refine oM ?_; refine oS sC (oA (oZ hK4 (c_block ?_)))
  -- not carried: 2
  refine c_loopB (fun (j : Nat) => hs.length ≤ j ∧ j ≤ hs.length + 64) (fun (j : Nat) => [(4, .int .i64 j)]) [(0, _), (3, _)] (fun (j : Nat) => []) (fun (j : Nat) => hs.length + 64 - j) hs.length ⟨by omega, by omega⟩ sbA sbA hzB ?_
  rintro j ⟨hj1, hj2⟩
  refine c_seq fun _ hK5 => ?_; refine cR fun _ hK6 => ?_; refine oM (oM ?_); refine oS sC ?_
  by_cases hlt : j < (hs ++ sps).length
  ·obtain ⟨s, hsj⟩ : ∃ x, sps[j - hs.length]? = some x := gE
   have hsm := List.mem_of_getElem? hsj
   have hsx1 : s.xs = [spZ j] := by rw [hsp _ s hsj, show hs.length + (j - hs.length) = j by omega]
   have haj : (hs ++ sps)[j]? = some s := by rw [List.getElem?_append_right (by omega)]; exact hsj
   refine oS (step_cast (v' := .bool true) (s_lss rfl rfl) (congrArg Value.bool (decide_eq_true (by omega)))) ?_; refine oZ hK6 ?_; refine cTZ hK5 (c_seq fun _ hK7 => ?_); refine c_block (c_seq fun _ hK8 => ?_); refine c_drawE ([]) (fun i => false) ?_; refine eP 0 rfl sM ?_; refine eP 1 rfl sM ?_; refine eP 2 rfl (s_idx rfl rfl hsx (by omega)) ?_; refine e_tk 3 rfl (by exact HSub.nil) (s_ld rfl ((RdK.old0 hw.1).ld j 0 haj rfl (by decide) (by omega))) ?_; refine eP 4 rfl sM (eO 5 rfl ?_); refine o_callP (num_fn 9 j (by omega) (by omega)) rfl rfl rfl (fun _ _ => trivial) (fun v24 hv24 => ?_); subst hv24
   refine o_nil ?_; refine x_oneS (by exact HSub.nil) ?_; refine eO 6 rfl ?_; refine o_bs (E := Ei) (xs := [spZ j]) (vs := [_]) rfl rfl rfl rfl rfl (by decide) (by decide) fun b25 S25 hS25 => ?_; refine o_nil ?_; refine x_oneS (by exact HSub.nil) ?_; refine eO 7 rfl ?_; refine o_callP (eqZ_fn s.a (some ⟨b25, 0, none⟩) s.c 1 s.xs [spZ j]) rfl rfl rfl (fun w st => ⟨(RdK.old0 (hw.2.2 s hsm)).out w st, (hS25.rdk hiA).out w st⟩) (fun v26 hv26 => ?_)
   rw [decide_eq_true hsx1] at hv26
   subst hv26; refine o_nil ?_; refine x_oneS (by exact HSub.nil) ?_; refine eP 8 rfl (s_not rfl) ?_; refine eZ hK8 ?_; refine cF (c_skip (x_block (xZ hK7 (c_region (oM ?_))))); refine oS sD (oA (o_nil ?_)); exact xI (j + 1) ⟨by omega, by omega⟩
  ·refine oS (step_cast (v' := .bool false) (s_lss rfl rfl) (congrArg Value.bool (decide_eq_false (by omega)))) ?_; refine oZ hK6 ?_; refine cF ?_; refine c_exit ?_; refine x_then_exit (x_then_exit (x_block_exit (xZ hK3 (c_seq fun _ hK9 => ?_)))); refine cR fun _ hK10 => ?_; refine oA (oZ hK10 (c_block ?_)); refine c_loopB (fun (i : Nat) => i ≤ hs.length) (fun (i : Nat) => [(5, .int .i64 i)]) [(0, _)] (fun (i : Nat) => []) (fun (i : Nat) => hs.length - i) 0 (by omega) sbA sbA hzB ?_
   rintro i hi
   refine c_seq fun _ hK11 => ?_; refine cR fun _ hK12 => ?_; refine oM (oM ?_); refine oS sC ?_
   by_cases hlt : i < hs.length
   ·obtain ⟨s, hsi⟩ : ∃ x, hs[i]? = some x := gE
    have hsm := List.mem_of_getElem? hsi
    refine oS (step_cast (v' := .bool true) (s_lss rfl rfl) (congrArg Value.bool (decide_eq_true (by omega)))) ?_; refine oZ hK12 ?_; refine cTZ hK11 (c_seq fun _ hK13 => ?_); refine c_block (cR fun _ hK14 => ?_); refine oM (oM ?_); refine oS (s_idx rfl rfl hsh (by omega)) ?_; refine oS (s_ld rfl ((RdK.old0 hpr).ld i 0 hsi rfl (by decide) (by omega))) ?_; refine o_callP (spareZ_fn s.a s.c s.xs (hK s hsm)) rfl rfl rfl (fun w st => (RdK.old0 (hw.2.1 s hsm)).out w st) (fun v38 hv38 => ?_); subst hv38
    refine oS (s_not rfl) ?_; refine oZ hK14 ?_; refine cF (c_skip (x_block (xZ hK13 (c_region (oM ?_))))); refine oS sD (oA (o_nil ?_)); exact xI (i + 1) (by omega)
   ·refine oS (step_cast (v' := .bool false) (s_lss rfl rfl) (congrArg Value.bool (decide_eq_false (by omega)))) ?_; refine oZ hK12 ?_; refine cF ?_; refine c_exit ?_; refine x_then_exit (x_then_exit (x_block_exit (xZ hK9 (cR fun _ hK15 => ?_)))); refine oA (oZ hK15 (c_ret ?_)); refine ?_; exact xR rfl rfl (rfl)
set_option maxHeartbeats 1000000 in
theorem copyIntss_fn (a : Option Addr) (c : Nat) (rows : List (Sl Int)) (hn : rows.length ≤ 2147483647) (hK : ∀ s ∈ rows, s.xs.length ≤ 2147483647) : HL.Fn Tryz.prog 84 [.slice a rows.length c] (fun w => Rd Esl w (.slice a rows.length c) rows ∧ ∀ s ∈ rows, Rd Ei w s.v s.xs) [] (fun v S' => ∃ a' c' hs SB SH, v = .slice a' hs.length c' ∧ S' = SB ++ SH ∧ OwnS Esl 1 36 (.slice a' hs.length c') hs SB ∧ OwnL Ei 1 3 hs (hs.map Sl.xs) SH ∧ hs.map Sl.xs = rows.map Sl.xs) := by
  refine fn_of Tryz.func84 rfl rfl rfl fun w0 hw => ?_
  have hsx := hw.1.sl
  have hbx := hsx.le
  refine cR fun _ hK1 => ?_; refine oA (oZ hK1 (cR fun _ hK2 => ?_)); refine oA (oZ hK2 (c_seq fun _ hK3 => ?_)); refine cR fun _ hK4 => ?_; refine oA (oZ hK4 (c_block ?_)); refine c_loop6 (fun (i : Nat) (hs : List (Sl Int)) (ha : Option Addr) (hc : Nat) (SB : Hp) (SH : Hp) => i ≤ rows.length ∧ hs.length = i ∧ hs.map Sl.xs = (rows.take i).map Sl.xs ∧ OwnS Esl 1 36 (.slice ha hs.length hc) hs SB ∧ OwnL Ei 1 3 hs (hs.map Sl.xs) SH) (fun (i : Nat) (hs : List (Sl Int)) (ha : Option Addr) (hc : Nat) (SB : Hp) (SH : Hp) => [(4, .int .i64 i), (3, .slice ha hs.length hc)]) [(0, _), (2, _)] (fun (i : Nat) (hs : List (Sl Int)) (ha : Option Addr) (hc : Nat) (SB : Hp) (SH : Hp) => SB ++ SH) (fun (i : Nat) (hs : List (Sl Int)) (ha : Option Addr) (hc : Nat) (SB : Hp) (SH : Hp) => rows.length - i) 0 [] none 0 [] [] ⟨by omega, rfl, rfl, OwnS.nil, .nil⟩ sbA sbA hzB ?_
  rintro i hs ha hc SB SH ⟨hi, hhl, hhm, hB, hH⟩
  refine c_seq fun _ hK5 => ?_; refine cR fun _ hK6 => ?_; refine oM (oM ?_); refine oS sC ?_
  by_cases hlt : i < rows.length
  ·obtain ⟨s, hsi⟩ : ∃ x, rows[i]? = some x := gE
   have hsm := List.mem_of_getElem? hsi
   refine oS (step_cast (v' := .bool true) (s_lss rfl rfl) (congrArg Value.bool (decide_eq_true (by omega)))) ?_; refine oZ hK6 ?_; refine cTZ hK5 (c_seq fun _ hK7 => ?_); refine c_block (c_region (oM (oM (oM ?_)))); refine oS (s_idx rfl rfl hsx (by omega)) ?_; refine oS (s_ld rfl ((RdK.old0 hw.1).ld i 0 hsi rfl (by decide) (by omega))) ?_; refine o_call (copyZ_fn s.a s.c s.xs (by have := hK s hsm; omega)) rfl rfl rfl (by exact .nil) (fun w st => (RdK.old0 (hw.2 s hsm)).out w st) (fun v16 S16 ⟨a16, c16, hv16, hS16⟩ => ?_); subst hv16
   refine o_bs (E := Esl) (xs := [(⟨a16, c16, s.xs⟩ : Sl Int)]) (vs := [_]) rfl rfl rfl rfl rfl (by decide) (by decide) fun b17 S17 hS17 => ?_; refine o_app hB (hS17.rdk hiA) rfl rfl rfl rfl (by simp only [List.length_append, List.length_singleton]; omega) (by simp only [List.length_append, List.length_singleton]; omega) rfl pkA fun a18 c18 S18 hS18 => ?_; refine oA (o_nil (x_block (xZ hK7 (c_region (oM ?_))))); refine oS sD (oA (o_nil ?_)); exact xI (i + 1, hs ++ [⟨a16, c16, s.xs⟩], a18, c18, S18, SH ++ S16) ⟨by omega, by rw [List.length_append, hhl]; rfl, by rw [map_take_succ hsi, ← hhm]; simp, hS18, by rw [List.map_append]; exact hH.snoc (s := ⟨a16, c16, s.xs⟩) hS16⟩
  ·rw [List.take_of_length_le (by omega)] at hhm
   refine oS (step_cast (v' := .bool false) (s_lss rfl rfl) (congrArg Value.bool (decide_eq_false (by omega)))) ?_; refine oZ hK6 ?_; refine cF ?_; refine c_exit ?_; refine x_then_exit (x_then_exit (x_block_exit (xZ hK3 (cR fun _ hK8 => ?_)))); refine oM (oA (oZ hK8 (c_ret ?_))); refine ?_; refine x_sub (Sub.refl _) (H' := SB ++ SH) hzB ?_; exact xR rfl rfl (⟨_, _, hs, SB, SH, rfl, rfl, hB, hH, hhm⟩)
end Go.Proofs.YtmompllplidphaaGreatDoor
