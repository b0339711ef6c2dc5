/- Part of the proofs over this seat: see the text that holds the theorem. Conditions: each theorem bears its own. -/
import Derived.Test.YtmompllplidphaaGreatDoorHTZ
import Derived.Test.YtmompllplidphaaGreatDoorGSW16Z
import Derived.Test.YtmompllplidphaaGreatDoorGSW20Z
import Derived.Test.YtmompllplidphaaGreatDoorKQZ
import Derived.Test.YtmompllplidphaaGreatDoorMC9Z
namespace Go.Proofs.YtmompllplidphaaGreatDoor
open Go Go.HL Go.Proofs Go.HL.Kl Go.HL.Kl.Mc Go.HL.Sts
theorem df_ext {d1 d2 : Df} (h1 : d1.atoms = d2.atoms) (h2 : d1.next = d2.next) (h3 : d1.ends = d2.ends) : d1 = d2 := by
  cases d1; cases d2; simp_all
set_option maxHeartbeats 1000000 in
theorem wideDfa_fn (d : Df) (aa : Option Addr) (ac : Nat) (na : Option Addr) (nc : Nat) (rows : List (Sl Int)) (ea : Option Addr) (ec : Nat) (hx : d.next = rows.map Sl.xs) (hz : Sml d rows) : HL.Fn Tryz.prog 18 [.agg [.slice aa d.atoms.length ac, .slice na rows.length nc, .slice ea d.ends.length ec].toArray] (fun w => RdD d aa ac na nc rows ea ec w) [] (fun v S' => ∃ S2, HSub S' S2 ∧ WdO d v S2) := by
  refine fn_of Tryz.func18 rfl rfl rfl fun w0 hw => ?_; refine cR fun _ hK1 => ?_; refine o_box rfl rfl rfl fun b1 => ?_; refine o_alloc rfl rfl fun b2 => ?_; refine oZ hK1 (c_seq fun _ hK2 => ?_); refine c_drawE ([(b1, .cells [.slice aa d.atoms.length ac, .slice na rows.length nc, .slice ea d.ends.length ec].toArray 30 (0, 0))]) (fun i => false) ?_; refine eP 0 rfl sF ?_; refine eK 1 rfl sL ?_; refine eP 3 rfl sF ?_; refine eK 4 rfl sL ?_; refine eP 6 rfl sF ?_; refine eK 7 rfl sL (eO 2 rfl ?_); refine o_call (wideC_fn aa ac d.atoms (by have := hz.at_; omega)) rfl rfl rfl (by exact .nil) (fun w st => (RdK.old0 hw.at_).out w st) (fun v5 S5 ⟨a5, hv5, hS5⟩ => ?_)
  subst hv5; refine oX (eO 5 rfl ?_); refine o_call (wideIntss_fn na nc rows (by have := hz.nx; omega) (fun s hs => by have := hz.rw_ s hs; omega)) rfl rfl rfl (by exact .nil) (fun w st => ⟨(RdK.old0 hw.nx).out w st, fun s hs => (RdK.old0 (hw.rw_ s hs)).out w st⟩) (fun v8 S8 ⟨a8, hs, sps, SB, SH, SS, hv8, hS8, hB, hH, hS, hhm, hsl, hsp⟩ => ?_)
  have hhl : hs.length = rows.length := by have := congrArg List.length hhm; simpa using this
  rw [← hhl] at hv8 hB hsp
  subst hv8; subst hS8
  refine oX (eO 8 rfl ?_); refine o_call (wideB_fn ea ec d.ends (by have := hz.en; omega)) rfl rfl rfl (by exact .nil) (fun w st => (RdK.old0 hw.en).out w st) (fun v11 S11 ⟨a11, hv11, hS11⟩ => ?_); subst hv11
  refine oX ?_; refine eP 9 rfl (s_build (cs := [_, _, _]) (vs := [_, _, _]) rfl rfl (.cons rfl rfl rfl rfl rfl (.cons rfl rfl rfl rfl rfl (.cons rfl rfl rfl rfl rfl (.nil))))) ?_; refine eO 10 rfl ?_; refine o_stW rfl rfl upA lnA lnA onA ?_; refine oX (eZ hK2 (c_ret ?_)); refine ?_; exact x_ret rfl (.agg inferInstance inferInstance rfl (RdPK.cels (.own meA)) lnA (.nil)) (⟨S5 ++ (SB ++ (SH ++ (SS ++ S11))), by exact hzB, a5, a8, a11, hs, sps, S5, SB, SH, SS, S11, rfl, rfl, hS5, hB, hH, hS, hS11, by rw [hx, hhm], hsl, hsp⟩)
set_option maxHeartbeats 1000000 in
theorem copyDfa_fn (d : Df) (aa : Option Addr) (ac : Nat) (na : Option Addr) (nc : Nat) (rows : List (Sl Int)) (ea : Option Addr) (ec : Nat) (hx : d.next = rows.map Sl.xs) (hz : Sml d rows) : HL.Fn Tryz.prog 23 [.agg [.slice aa d.atoms.length ac, .slice na rows.length nc, .slice ea d.ends.length ec].toArray] (fun w => RdD d aa ac na nc rows ea ec w) [] (fun v S' => ∃ S2, HSub S' S2 ∧ DfO d v S2) := by
  refine fn_of Tryz.func23 rfl rfl rfl fun w0 hw => ?_; refine cR fun _ hK1 => ?_; refine o_box rfl rfl rfl fun b1 => ?_; refine o_alloc rfl rfl fun b2 => ?_; refine oZ hK1 (c_seq fun _ hK2 => ?_); refine c_drawE ([(b1, .cells [.slice aa d.atoms.length ac, .slice na rows.length nc, .slice ea d.ends.length ec].toArray 30 (0, 0))]) (fun i => false) ?_; refine eP 0 rfl sF ?_; refine eK 1 rfl sL ?_; refine eP 3 rfl sF ?_; refine eK 4 rfl sL ?_; refine eP 6 rfl sF ?_; refine eK 7 rfl sL (eO 2 rfl ?_); refine o_call (copyC_fn aa ac d.atoms (by have := hz.at_; omega)) rfl rfl rfl (by exact .nil) (fun w st => (RdK.old0 hw.at_).out w st) (fun v5 S5 ⟨a5, c5, hv5, hS5⟩ => ?_)
  subst hv5; refine oX (eO 5 rfl ?_); refine o_call (copyIntss_fn na nc rows (by have := hz.nx; omega) (fun s hs => by have := hz.rw_ s hs; omega)) rfl rfl rfl (by exact .nil) (fun w st => ⟨(RdK.old0 hw.nx).out w st, fun s hs => (RdK.old0 (hw.rw_ s hs)).out w st⟩) (fun v8 S8 ⟨a8, c8, hs, SB, SH, hv8, hS8, hB, hH, hhm⟩ => ?_); subst hv8
  subst hS8; refine oX (eO 8 rfl ?_); refine o_call (copyB_fn ea ec d.ends (by have := hz.en; omega)) rfl rfl rfl (by exact .nil) (fun w st => (RdK.old0 hw.en).out w st) (fun v11 S11 ⟨a11, c11, hv11, hS11⟩ => ?_); subst hv11
  refine oX ?_; refine eP 9 rfl (s_build (cs := [_, _, _]) (vs := [_, _, _]) rfl rfl (.cons rfl rfl rfl rfl rfl (.cons rfl rfl rfl rfl rfl (.cons rfl rfl rfl rfl rfl (.nil))))) ?_; refine eO 10 rfl ?_; refine o_stW rfl rfl upA lnA lnA onA ?_; refine oX (eZ hK2 (c_ret ?_)); refine ?_; exact x_ret rfl (.agg inferInstance inferInstance rfl (RdPK.cels (.own meA)) lnA (.nil)) (⟨SB ++ (SH ++ (S11 ++ S5)), by exact hzB, a8, c8, hs, a11, c11, a5, c5, SB, SH, S11, S5, rfl, rfl, hB, by rw [hx, ← hhm]; exact hH, by rw [hx, hhm], hS11, hS5⟩)
set_option maxHeartbeats 1000000 in
theorem eqDfa_fn (d1 : Df) (aa1 : Option Addr) (ac1 : Nat) (na1 : Option Addr) (nc1 : Nat) (rows1 : List (Sl Int)) (ea1 : Option Addr) (ec1 : Nat) (hx1 : d1.next = rows1.map Sl.xs) (d2 : Df) (aa2 : Option Addr) (ac2 : Nat) (na2 : Option Addr) (nc2 : Nat) (rows2 : List (Sl Int)) (ea2 : Option Addr) (ec2 : Nat) (hx2 : d2.next = rows2.map Sl.xs) : HL.Fn Tryz.prog 10 [.agg [.slice aa1 d1.atoms.length ac1, .slice na1 rows1.length nc1, .slice ea1 d1.ends.length ec1].toArray, .agg [.slice aa2 d2.atoms.length ac2, .slice na2 rows2.length nc2, .slice ea2 d2.ends.length ec2].toArray] (fun w => RdD d1 aa1 ac1 na1 nc1 rows1 ea1 ec1 w ∧ RdD d2 aa2 ac2 na2 nc2 rows2 ea2 ec2 w) [] (fun v _ => v = .bool (decide (d1 = d2))) := by
  refine fn_of Tryz.func10 rfl rfl rfl fun w0 hw => ?_
  obtain ⟨hw1, hw2⟩ := hw
  refine cR fun _ hK1 => ?_; refine o_box rfl rfl rfl fun b2 => ?_; refine o_box rfl rfl rfl fun b3 => ?_; refine oA (oZ hK1 (cR fun _ hK2 => ?_)); refine oS sF ?_; refine oS sL ?_; refine oS sF ?_; refine oS sL ?_; refine o_callP (eqC_fn aa1 aa2 ac1 ac2 d1.atoms d2.atoms) rfl rfl rfl (fun w st => ⟨(RdK.old0 hw1.at_).out w st, (RdK.old0 hw2.at_).out w st⟩) (fun v9 hv9 => ?_)
  cases hq9 : decide (d1.atoms = d2.atoms)
  ·rw [hq9] at hv9
   subst hv9
   have h1 := of_decide_eq_false hq9
   refine oM ?_; refine oN ?_; refine oN ?_; refine oN ?_; refine oN ?_; refine oN ?_; refine oS sP (oM ?_); refine oN ?_; refine oN ?_; refine oN ?_; refine oN ?_; refine oN ?_; refine oS sP (oA (oZ hK2 (c_ret ?_))); refine ?_; exact xR rfl rfl ((congrArg Value.bool (decide_eq_false (fun e => h1 (by rw [e]))).symm))
  ·rw [hq9] at hv9
   subst hv9
   have h1 := of_decide_eq_true hq9
   refine oM ?_; refine oY ?_; refine oS sF ?_; refine oY ?_; refine oS sL ?_; refine oY ?_; refine oS sF ?_; refine oY ?_; refine oS sL ?_; refine oY ?_; refine o_callP (eqIntss_fn na1 na2 nc1 nc2 rows1 rows2) rfl rfl rfl (fun w st => ⟨(RdK.old0 hw1.nx).out w st, (RdK.old0 hw2.nx).out w st, fun s hs => (RdK.old0 (hw1.rw_ s hs)).out w st, fun s hs => (RdK.old0 (hw2.rw_ s hs)).out w st⟩) (fun v15 hv15 => ?_)
   cases hq15 : decide (rows1.map Sl.xs = rows2.map Sl.xs)
   ·rw [hq15] at hv15
    subst hv15
    have h2 := of_decide_eq_false hq15
    refine oS sT (oM ?_); refine oN ?_; refine oN ?_; refine oN ?_; refine oN ?_; refine oN ?_; refine oS sP (oA (oZ hK2 (c_ret ?_))); refine ?_; exact xR rfl rfl ((congrArg Value.bool (decide_eq_false (fun e => h2 (by rw [← hx1, ← hx2, e]))).symm))
   ·rw [hq15] at hv15
    subst hv15
    have h2 := of_decide_eq_true hq15
    refine oS sT (oM ?_); refine oY ?_; refine oS sF ?_; refine oY ?_; refine oS sL ?_; refine oY ?_; refine oS sF ?_; refine oY ?_; refine oS sL ?_; refine oY ?_; refine o_callP (eqB_fn ea1 ea2 ec1 ec2 d1.ends d2.ends) rfl rfl rfl (fun w st => ⟨(RdK.old0 hw1.en).out w st, (RdK.old0 hw2.en).out w st⟩) (fun v22 hv22 => ?_)
    cases hq22 : decide (d1.ends = d2.ends)
    ·rw [hq22] at hv22
     subst hv22
     have h3 := of_decide_eq_false hq22
     refine oS sT (oA (oZ hK2 (c_ret ?_))); refine ?_; exact xR rfl rfl ((congrArg Value.bool (decide_eq_false (fun e => h3 (by rw [e]))).symm))
    ·rw [hq22] at hv22
     subst hv22
     have h3 := of_decide_eq_true hq22
     refine oS sT (oA (oZ hK2 (c_ret ?_))); refine ?_; exact xR rfl rfl ((congrArg Value.bool (decide_eq_true (df_ext h1 (by rw [hx1, hx2, h2]) h3)).symm))
set_option maxHeartbeats 1000000 in
theorem spareDfa_fn (d : Df) (aC aR aE : Option Addr) (cC cR cE : Nat) (hs sps : List (Sl Int)) (hz : Sml d hs) (hsl : sps.length = 64) (hsp : Sps hs.length sps) : HL.Fn Tryz.prog 21 [.agg [.slice aC d.atoms.length cC, .slice aR hs.length cR, .slice aE d.ends.length cE].toArray] (fun w => Rd Ec w (.slice aC (wdl spC d.atoms).length cC) (wdl spC d.atoms) ∧ Rd Esl w (.slice aR (hs ++ sps).length cR) (hs ++ sps) ∧ (∀ s ∈ hs, Rd Ei w (.slice s.a (wdl spZ s.xs).length s.c) (wdl spZ s.xs)) ∧ (∀ s ∈ sps, Rd Ei w s.v s.xs) ∧ Rd Ebo w (.slice aE (wdl spBo d.ends).length cE) (wdl spBo d.ends)) [] (fun v _ => v = .bool true) := by
  refine fn_of Tryz.func21 rfl rfl rfl fun w0 hw => ?_
  obtain ⟨hw1, hw2, hw3, hw4, hw5⟩ := hw
  refine c_seq fun _ hK1 => ?_; refine c_region ?_; refine o_box rfl rfl rfl fun b1 => ?_; refine o_step rfl (s_assign rfl) ?_; refine o_nil ?_; refine x_then (hK1 _ _ ?_); refine c_seq fun _ hK2 => ?_; refine c_region ?_; refine o_step rfl (s_field rfl rfl (by decide)) ?_; refine o_step rfl (s_ld rfl (.own meA rfl)) ?_; refine o_callP (spareC_fn aC cC d.atoms (by have := hz.at_; omega)) rfl rfl rfl (fun w st => (RdK.old0 hw1).out w st) (fun v5 hv5 => ?_); subst hv5
  refine oM ?_; refine oY ?_; refine oS sF ?_; refine oY ?_; refine oS sL ?_; refine oY ?_; refine o_callP (spareIntss_fn aR cR hs sps (by have := hz.nx; omega) (fun s hs => by have := hz.rw_ s hs; omega) hsl hsp) rfl rfl rfl (fun w st => ⟨(RdK.old0 hw2).out w st, fun s hs => (RdK.old0 (hw3 s hs)).out w st, fun s hs => (RdK.old0 (hw4 s hs)).out w st⟩) (fun v9 hv9 => ?_); subst hv9
  refine oS sT (oM ?_); refine oY ?_; refine oS sF ?_; refine oY ?_; refine oS sL ?_; refine oY ?_; refine o_callP (spareB_fn aE cE d.ends (by have := hz.en; omega)) rfl rfl rfl (fun w st => (RdK.old0 hw5).out w st) (fun v14 hv14 => ?_); subst hv14
  refine oS sT (oA (oZ hK2 (c_ret ?_))); refine ?_; exact xR rfl rfl (rfl)
set_option maxHeartbeats 1000000 in
theorem wideLaw_fn (d : Df) (aa : Option Addr) (ac : Nat) (na : Option Addr) (nc : Nat) (rows : List (Sl Int)) (ea : Option Addr) (ec : Nat) (hx : d.next = rows.map Sl.xs) : HL.Fn Tryz.prog 17 [.agg [.slice aa d.atoms.length ac, .slice na rows.length nc, .slice ea d.ends.length ec].toArray] (fun w => RdD d aa ac na nc rows ea ec w) [] (fun v _ => ∃ b, v = .bool b ∧ (b = false → Sml d rows)) := by
  refine fn_of Tryz.func17 rfl rfl rfl fun w0 hw => ?_
  have hsa := hw.at_.sl.le
  have hsn := hw.nx.sl
  have hbn := hsn.le
  have hse := hw.en.sl.le
  refine cR fun _ hK1 => ?_; refine o_box rfl rfl rfl fun b1 => ?_; refine oA (oZ hK1 (cR fun _ hK2 => ?_)); refine oS sF ?_; refine oS sL ?_; refine oS sC ?_; refine oS sF ?_; refine oS sL ?_; refine oS sC ?_; refine oS (step_cast (v' := .int .i64 ((rows.length + d.ends.length : Nat) : Int)) (s_add rfl rfl (by omega)) (congrArg _ (by omega))) ?_; refine oS sF ?_; refine oS sL ?_; refine oS sC ?_; refine oS (step_cast (v' := .int .i64 ((rows.length + d.ends.length + d.atoms.length : Nat) : Int)) (s_add rfl rfl (by omega)) (congrArg _ (by omega))) ?_; refine oA (oZ hK2 (c_seq fun _ hK3 => ?_)); refine cR fun _ hK4 => ?_; refine oA (oZ hK4 (c_block ?_)); refine c_loop2 (fun (i : Nat) (n : Nat) => i ≤ rows.length ∧ n ≤ 1000000000000000 ∧ (rows.length + d.ends.length + d.atoms.length ≤ n) ∧ ∀ j s, j < i → rows[j]? = some s → s.xs.length ≤ n) (fun (i : Nat) (n : Nat) => [(4, .int .i64 i), (3, .int .i64 n)]) [(1, _), (2, _)] (fun (i : Nat) (n : Nat) => [(b1, .cells [.slice aa d.atoms.length ac, .slice na rows.length nc, .slice ea d.ends.length ec].toArray 30 (0, 0))]) (fun (i : Nat) (n : Nat) => rows.length - i) 0 (rows.length + d.ends.length + d.atoms.length) ⟨by omega, by omega, by omega, fun j s hj _ => by omega⟩ sbA sbA hzB ?_
  rintro i n ⟨hi, hn, hb, hr⟩
  refine c_seq fun _ hK5 => ?_; refine cR fun _ hK6 => ?_; refine oM ?_; refine oS sF ?_; refine oS sL ?_; refine oS sC ?_
  by_cases hlt : i < rows.length
  ·obtain ⟨s, hsi⟩ : ∃ x, rows[i]? = some x := gE
   have hsm := List.mem_of_getElem? hsi
   have hsx := (hw.rw_ s hsm).sl.le
   refine oS (step_cast (v' := .bool true) (s_lss rfl rfl) (congrArg Value.bool (decide_eq_true (by omega)))) ?_; refine oM ?_; refine oY (oM ?_); refine oY ?_
   by_cases hle : (n : Int) ≤ 16777216
   ·refine oS (step_cast (v' := .bool true) (s_leq rfl rfl) (congrArg Value.bool (decide_eq_true hle))) ?_; refine oS sT (oZ hK6 ?_); refine cTZ hK5 (c_seq fun _ hK7 => ?_); refine c_block (c_region (oM ?_)); refine oS sF ?_; refine oS sL (oM ?_); refine oS (s_idx rfl rfl hsn (by omega)) ?_; refine oS (s_ld rfl ((RdK.old0 hw.nx).ld i 0 hsi rfl (by decide) (by omega))) ?_; refine oS sC ?_; refine oS (step_cast (v' := .int .i64 ((n + s.xs.length : Nat) : Int)) (s_add rfl rfl (by omega)) (congrArg _ (by omega))) ?_; refine oA (o_nil (x_block (xZ hK7 ?_)))
    refine c_region (oM ?_); refine oS sD (oA (o_nil ?_)); exact xI (i + 1, n + s.xs.length) ⟨by omega, by dsimp only; omega, by dsimp only; omega, fun j s' hj hs' => by rcases Nat.lt_or_ge j i with h | h; (· have := hr j s' h hs'; dsimp only; omega); (· rw [show j = i by omega, hsi] at hs'; obtain rfl := Option.some.inj hs'; dsimp only; omega)⟩
   ·refine oS (step_cast (v' := .bool false) (s_leq rfl rfl) (congrArg Value.bool (decide_eq_false hle))) ?_; refine oS sT (oZ hK6 ?_); refine cF ?_; refine c_exit ?_; refine x_then_exit (x_then_exit (x_block_exit (xZ hK3 (cR fun _ hK8 => ?_)))); refine oM ?_
    by_cases hgt : (n : Int) > 16777216
    ·refine oS (step_cast (v' := .bool true) (s_gtr rfl rfl) (congrArg Value.bool (decide_eq_true hgt))) ?_; refine oA (oZ hK8 (c_ret ?_)); refine ?_; exact xR rfl rfl (⟨true, rfl, fun h => by cases h⟩)
    ·refine oS (step_cast (v' := .bool false) (s_gtr rfl rfl) (congrArg Value.bool (decide_eq_false hgt))) ?_; refine oA (oZ hK8 (c_ret ?_)); refine ?_; exact xR rfl rfl (⟨false, rfl, fun _ => absurd hle (by omega)⟩)
  ·refine oS (step_cast (v' := .bool false) (s_lss rfl rfl) (congrArg Value.bool (decide_eq_false (by omega)))) ?_; refine oM ?_; refine oN ?_; refine oN ?_; refine oS sP (oZ hK6 ?_); refine cF ?_; refine c_exit ?_; refine x_then_exit (x_then_exit (x_block_exit (xZ hK3 (cR fun _ hK9 => ?_)))); refine oM ?_
   by_cases hgt : (n : Int) > 16777216
   ·refine oS (step_cast (v' := .bool true) (s_gtr rfl rfl) (congrArg Value.bool (decide_eq_true hgt))) ?_; refine oA (oZ hK9 (c_ret ?_)); refine ?_; exact xR rfl rfl (⟨true, rfl, fun h => by cases h⟩)
   ·refine oS (step_cast (v' := .bool false) (s_gtr rfl rfl) (congrArg Value.bool (decide_eq_false hgt))) ?_; refine oA (oZ hK9 (c_ret ?_)); refine ?_; exact xR rfl rfl (⟨false, rfl, fun _ => ⟨by omega, by omega, by omega, fun s hs => by obtain ⟨j, hj⟩ := List.getElem?_of_mem hs; have := hr j s (by have := (List.getElem?_eq_some_iff.1 hj).1; omega) hj; omega⟩⟩)
theorem wideDfaP_fn (d : Df) (aa : Option Addr) (ac : Nat) (na : Option Addr) (nc : Nat) (rows : List (Sl Int)) (ea : Option Addr) (ec : Nat) (hx : d.next = rows.map Sl.xs) (hz : Sml d rows) : HL.Fn Tryz.prog 18 [.agg [.slice aa d.atoms.length ac, .slice na rows.length nc, .slice ea d.ends.length ec].toArray] (fun w => RdD d aa ac na nc rows ea ec w) [] (WdO d) :=
  HL.Fn.sub (wideDfa_fn d aa ac na nc rows ea ec hx hz) fun v S' ⟨S2, h1, h2⟩ => ⟨S2, h1, h2⟩
theorem copyDfaP_fn (d : Df) (aa : Option Addr) (ac : Nat) (na : Option Addr) (nc : Nat) (rows : List (Sl Int)) (ea : Option Addr) (ec : Nat) (hx : d.next = rows.map Sl.xs) (hz : Sml d rows) : HL.Fn Tryz.prog 23 [.agg [.slice aa d.atoms.length ac, .slice na rows.length nc, .slice ea d.ends.length ec].toArray] (fun w => RdD d aa ac na nc rows ea ec w) [] (DfO d) :=
  HL.Fn.sub (copyDfa_fn d aa ac na nc rows ea ec hx hz) fun v S' ⟨S2, h1, h2⟩ => ⟨S2, h1, h2⟩
theorem WdD.rdD {d : Df} {aC aR aE : Option Addr} {cC cR cE : Nat} {hs : List (Sl Int)} {SC SB SH SE H : Hp} {w0 w : World} {M : List Nat} (hC : OwnS Ec 4 39 (.slice aC d.atoms.length cC) d.atoms SC) (hB : OwnS Esl 1 36 (.slice aR hs.length cR) hs SB) (hH : OwnW hs SH) (hE : OwnS Ebo 1 4 (.slice aE d.ends.length cE) d.ends SE)
    (h1 : HIn SC H) (h2 : HIn SB H) (h3 : HIn SH H) (h4 : HIn SE H) (st : St w0 w M H) : RdD d aC cC aR cR hs aE cE w :=
  ⟨(hC.rdk (κ := ⟨0, [], w0, M⟩) h1).out w st, (hB.rdk (κ := ⟨0, [], w0, M⟩) h2).out w st, fun _ hs => hH.rdx (n := 0) (ds := []) h3 st hs, (hE.rdk (κ := ⟨0, [], w0, M⟩) h4).out w st⟩
def xo3 (x : UInt8) : UInt8 := UInt8.ofNat (BitVec.ofInt 8 (x.toNat : Int) ^^^ BitVec.ofInt 8 3).toNat
def flipT {α : Type} (f : α → α) (l : List α) (i : Nat) : List α := (l.take i).map f ++ l.drop i
theorem flip_zero {α : Type} (f : α → α) (l : List α) : flipT f l 0 = l := by simp [flipT]
theorem flip_len {α : Type} (f : α → α) (l : List α) (i : Nat) : (flipT f l i).length = l.length := by simp [flipT]; omega
theorem flip_get {α : Type} {f : α → α} {l : List α} {i : Nat} {x : α} (h : l[i]? = some x) : (flipT f l i)[i]? = some x := by
  have hi := (List.getElem?_eq_some_iff.1 h).1
  unfold flipT
  rw [List.getElem?_append_right (by simp; omega)]
  simp only [List.length_map, List.length_take, List.getElem?_drop]
  rw [show i + (i - min i l.length) = i by omega]; exact h
theorem flip_set {α : Type} {f : α → α} {l : List α} {i : Nat} {x : α} (h : l[i]? = some x) : (flipT f l i).set i (f x) = flipT f l (i + 1) := by
  have hi := (List.getElem?_eq_some_iff.1 h).1
  unfold flipT
  rw [List.set_append_right _ _ (by simp; omega), take_succ_get h, show i - ((l.take i).map f).length = 0 by simp; omega, List.drop_eq_getElem_cons hi, List.set_cons_zero]
  simp
theorem flip_all {α : Type} (f : α → α) (l : List α) : flipT f l l.length = l.map f := by simp [flipT]
end Go.Proofs.YtmompllplidphaaGreatDoor
namespace Go.Proofs.YtmompllplidphaaGreatDoor
open Go Go.HL Go.Proofs
theorem apartInts0_fn (b : Nat) (cs : List Value) (hb : cs[1]? = some (.slice none 0 0)) : HL.Fn Tryz.prog 51 [.pointer (some ⟨b, 0, none⟩)] (fun w => RdP w b 0 cs) [] (fun v _ => v = .bool true) := by
  refine fn_of Tryz.func51 rfl rfl rfl fun w0 hw => ?_; refine cR fun _ hK1 => ?_; refine oA (oZ hK1 (c_seq fun _ hK2 => ?_)); refine cR fun _ hK3 => ?_; refine oA (oZ hK3 (c_block ?_)); refine c_loopB (fun (k : Nat) => k = 0) (fun (k : Nat) => [(3, .int .i64 k)]) [(0, _), (2, _)] (fun (k : Nat) => []) (fun (k : Nat) => k) 0 rfl sbA sbA hzB ?_
  rintro k hk
  subst hk; refine c_seq fun _ hK4 => ?_; refine cR fun _ hK5 => ?_; refine oM (oM ?_); refine oS sN ?_; refine oS sF ?_; refine oS (s_ld rfl ((RdPK.old0 hw).cel hb rfl)) ?_; refine oS sC ?_; refine oS (s_lss_f rfl rfl (by decide)) ?_; refine oZ hK5 ?_; refine cF ?_; refine c_exit ?_; refine x_then_exit (x_then_exit (x_block_exit (xZ hK2 (cR fun _ hK6 => ?_)))); refine oA (oA (oZ hK6 (c_seq fun _ hK7 => ?_))); refine cR fun _ hK8 => ?_; refine oA (oZ hK8 ?_)
  refine c_block ?_; refine c_loopB (fun (k : Nat) => k = 0) (fun (k : Nat) => [(7, .int .i64 k), (6, .slice none 0 0), (5, .slice none 0 0)]) [(0, _), (2, _)] (fun (k : Nat) => []) (fun (k : Nat) => k) 0 rfl sbA sbA hzB ?_
  rintro k hk
  subst hk; refine c_seq fun _ hK9 => ?_; refine cR fun _ hK10 => ?_; refine oM (oM ?_); refine oS sN ?_; refine oS sF ?_; refine oS (s_ld rfl ((RdPK.old0 hw).cel hb rfl)) ?_; refine oS sC ?_; refine oS (s_lss_f rfl rfl (by decide)) ?_; refine oZ hK10 ?_; refine cF ?_; refine c_exit ?_; refine x_then_exit (x_then_exit (x_block_exit (xZ hK7 (c_seq fun _ hK11 => ?_)))); refine cR fun _ hK12 => ?_; refine oA (oZ hK12 (c_block ?_))
  -- not carried: 2
  refine c_loopB (fun (k : Nat) => k = 0) (fun (k : Nat) => [(10, .int .i64 k)]) [(0, _), (5, _), (6, _)] (fun (k : Nat) => []) (fun (k : Nat) => k) 0 rfl sbA sbA hzB ?_
  rintro k hk
  subst hk; refine c_seq fun _ hK13 => ?_; refine cR fun _ hK14 => ?_; refine oM (oM ?_); refine oS sC ?_; refine oS (s_lss_f rfl rfl (by decide)) ?_; refine oZ hK14 ?_; refine cF ?_; refine c_exit ?_; refine x_then_exit (x_then_exit (x_block_exit (xZ hK11 (cR fun _ hK15 => ?_)))); refine oA (oZ hK15 (c_ret ?_)); refine ?_; exact xR rfl rfl (rfl)
theorem apartBools0_fn (b : Nat) (cs : List Value) (hb : cs[2]? = some (.slice none 0 0)) : HL.Fn Tryz.prog 52 [.pointer (some ⟨b, 0, none⟩)] (fun w => RdP w b 0 cs) [] (fun v _ => v = .bool true) := by
  refine fn_of Tryz.func52 rfl rfl rfl fun w0 hw => ?_; refine cR fun _ hK1 => ?_; refine oA (oZ hK1 (c_seq fun _ hK2 => ?_)); refine cR fun _ hK3 => ?_; refine oA (oZ hK3 (c_block ?_)); refine c_loopB (fun (k : Nat) => k = 0) (fun (k : Nat) => [(3, .int .i64 k)]) [(0, _), (2, _)] (fun (k : Nat) => []) (fun (k : Nat) => k) 0 rfl sbA sbA hzB ?_
  rintro k hk
  subst hk; refine c_seq fun _ hK4 => ?_; refine cR fun _ hK5 => ?_; refine oM (oM ?_); refine oS sN ?_; refine oS sF ?_; refine oS (s_ld rfl ((RdPK.old0 hw).cel hb rfl)) ?_; refine oS sC ?_; refine oS (s_lss_f rfl rfl (by decide)) ?_; refine oZ hK5 ?_; refine cF ?_; refine c_exit ?_; refine x_then_exit (x_then_exit (x_block_exit (xZ hK2 (cR fun _ hK6 => ?_)))); refine oA (oA (oZ hK6 (c_seq fun _ hK7 => ?_))); refine cR fun _ hK8 => ?_; refine oA (oZ hK8 ?_)
  refine c_block ?_; refine c_loopB (fun (k : Nat) => k = 0) (fun (k : Nat) => [(7, .int .i64 k), (6, .slice none 0 0), (5, .slice none 0 0)]) [(0, _), (2, _)] (fun (k : Nat) => []) (fun (k : Nat) => k) 0 rfl sbA sbA hzB ?_
  rintro k hk
  subst hk; refine c_seq fun _ hK9 => ?_; refine cR fun _ hK10 => ?_; refine oM (oM ?_); refine oS sN ?_; refine oS sF ?_; refine oS (s_ld rfl ((RdPK.old0 hw).cel hb rfl)) ?_; refine oS sC ?_; refine oS (s_lss_f rfl rfl (by decide)) ?_; refine oZ hK10 ?_; refine cF ?_; refine c_exit ?_; refine x_then_exit (x_then_exit (x_block_exit (xZ hK7 (c_seq fun _ hK11 => ?_)))); refine cR fun _ hK12 => ?_; refine oA (oZ hK12 (c_block ?_))
  -- not carried: 2
  refine c_loopB (fun (k : Nat) => k = 0) (fun (k : Nat) => [(10, .int .i64 k)]) [(0, _), (5, _), (6, _)] (fun (k : Nat) => []) (fun (k : Nat) => k) 0 rfl sbA sbA hzB ?_
  rintro k hk
  subst hk; refine c_seq fun _ hK13 => ?_; refine cR fun _ hK14 => ?_; refine oM (oM ?_); refine oS sC ?_; refine oS (s_lss_f rfl rfl (by decide)) ?_; refine oZ hK14 ?_; refine cF ?_; refine c_exit ?_; refine x_then_exit (x_then_exit (x_block_exit (xZ hK11 (cR fun _ hK15 => ?_)))); refine oA (oZ hK15 (c_ret ?_)); refine ?_; exact xR rfl rfl (rfl)
theorem apartTexts0_fn (b : Nat) (cs : List Value) (hb : cs[3]? = some (.slice none 0 0)) : HL.Fn Tryz.prog 53 [.pointer (some ⟨b, 0, none⟩)] (fun w => RdP w b 0 cs) [] (fun v _ => v = .bool true) := by
  refine fn_of Tryz.func53 rfl rfl rfl fun w0 hw => ?_; refine cR fun _ hK1 => ?_; refine oA (oZ hK1 (c_seq fun _ hK2 => ?_)); refine cR fun _ hK3 => ?_; refine oA (oZ hK3 (c_block ?_)); refine c_loopB (fun (k : Nat) => k = 0) (fun (k : Nat) => [(3, .int .i64 k)]) [(0, _), (2, _)] (fun (k : Nat) => []) (fun (k : Nat) => k) 0 rfl sbA sbA hzB ?_
  rintro k hk
  subst hk; refine c_seq fun _ hK4 => ?_; refine cR fun _ hK5 => ?_; refine oM (oM ?_); refine oS sN ?_; refine oS sF ?_; refine oS (s_ld rfl ((RdPK.old0 hw).cel hb rfl)) ?_; refine oS sC ?_; refine oS (s_lss_f rfl rfl (by decide)) ?_; refine oZ hK5 ?_; refine cF ?_; refine c_exit ?_; refine x_then_exit (x_then_exit (x_block_exit (xZ hK2 (cR fun _ hK6 => ?_)))); refine oA (oA (oZ hK6 (c_seq fun _ hK7 => ?_))); refine cR fun _ hK8 => ?_; refine oA (oZ hK8 ?_)
  refine c_block ?_; refine c_loopB (fun (k : Nat) => k = 0) (fun (k : Nat) => [(7, .int .i64 k), (6, .slice none 0 0), (5, .slice none 0 0)]) [(0, _), (2, _)] (fun (k : Nat) => []) (fun (k : Nat) => k) 0 rfl sbA sbA hzB ?_
  rintro k hk
  subst hk; refine c_seq fun _ hK9 => ?_; refine cR fun _ hK10 => ?_; refine oM (oM ?_); refine oS sN ?_; refine oS sF ?_; refine oS (s_ld rfl ((RdPK.old0 hw).cel hb rfl)) ?_; refine oS sC ?_; refine oS (s_lss_f rfl rfl (by decide)) ?_; refine oZ hK10 ?_; refine cF ?_; refine c_exit ?_; refine x_then_exit (x_then_exit (x_block_exit (xZ hK7 (c_seq fun _ hK11 => ?_)))); refine cR fun _ hK12 => ?_; refine oA (oZ hK12 (c_block ?_))
  -- not carried: 2
  refine c_loopB (fun (k : Nat) => k = 0) (fun (k : Nat) => [(10, .int .i64 k)]) [(0, _), (5, _), (6, _)] (fun (k : Nat) => []) (fun (k : Nat) => k) 0 rfl sbA sbA hzB ?_
  rintro k hk
  subst hk; refine c_seq fun _ hK13 => ?_; refine cR fun _ hK14 => ?_; refine oM (oM ?_); refine oS sC ?_; refine oS (s_lss_f rfl rfl (by decide)) ?_; refine oZ hK14 ?_; refine cF ?_; refine c_exit ?_; refine x_then_exit (x_then_exit (x_block_exit (xZ hK11 (cR fun _ hK15 => ?_)))); refine oA (oZ hK15 (c_ret ?_)); refine ?_; exact xR rfl rfl (rfl)
theorem apartMarks0_fn (b : Nat) (cs : List Value) (hb : cs[4]? = some (.slice none 0 0)) : HL.Fn Tryz.prog 54 [.pointer (some ⟨b, 0, none⟩)] (fun w => RdP w b 0 cs) [] (fun v _ => v = .bool true) := by
  refine fn_of Tryz.func54 rfl rfl rfl fun w0 hw => ?_; refine cR fun _ hK1 => ?_; refine oA (oZ hK1 (c_seq fun _ hK2 => ?_)); refine cR fun _ hK3 => ?_; refine oA (oZ hK3 (c_block ?_)); refine c_loopB (fun (k : Nat) => k = 0) (fun (k : Nat) => [(3, .int .i64 k)]) [(0, _), (2, _)] (fun (k : Nat) => []) (fun (k : Nat) => k) 0 rfl sbA sbA hzB ?_
  rintro k hk
  subst hk; refine c_seq fun _ hK4 => ?_; refine cR fun _ hK5 => ?_; refine oM (oM ?_); refine oS sN ?_; refine oS sF ?_; refine oS (s_ld rfl ((RdPK.old0 hw).cel hb rfl)) ?_; refine oS sC ?_; refine oS (s_lss_f rfl rfl (by decide)) ?_; refine oZ hK5 ?_; refine cF ?_; refine c_exit ?_; refine x_then_exit (x_then_exit (x_block_exit (xZ hK2 (cR fun _ hK6 => ?_)))); refine oA (oA (oZ hK6 (c_seq fun _ hK7 => ?_))); refine cR fun _ hK8 => ?_; refine oA (oZ hK8 ?_)
  refine c_block ?_; refine c_loopB (fun (k : Nat) => k = 0) (fun (k : Nat) => [(7, .int .i64 k), (6, .slice none 0 0), (5, .slice none 0 0)]) [(0, _), (2, _)] (fun (k : Nat) => []) (fun (k : Nat) => k) 0 rfl sbA sbA hzB ?_
  rintro k hk
  subst hk; refine c_seq fun _ hK9 => ?_; refine cR fun _ hK10 => ?_; refine oM (oM ?_); refine oS sN ?_; refine oS sF ?_; refine oS (s_ld rfl ((RdPK.old0 hw).cel hb rfl)) ?_; refine oS sC ?_; refine oS (s_lss_f rfl rfl (by decide)) ?_; refine oZ hK10 ?_; refine cF ?_; refine c_exit ?_; refine x_then_exit (x_then_exit (x_block_exit (xZ hK7 (c_seq fun _ hK11 => ?_)))); refine cR fun _ hK12 => ?_; refine oA (oZ hK12 (c_block ?_))
  -- not carried: 2
  refine c_loopB (fun (k : Nat) => k = 0) (fun (k : Nat) => [(10, .int .i64 k)]) [(0, _), (5, _), (6, _)] (fun (k : Nat) => []) (fun (k : Nat) => k) 0 rfl sbA sbA hzB ?_
  rintro k hk
  subst hk; refine c_seq fun _ hK13 => ?_; refine cR fun _ hK14 => ?_; refine oM (oM ?_); refine oS sC ?_; refine oS (s_lss_f rfl rfl (by decide)) ?_; refine oZ hK14 ?_; refine cF ?_; refine c_exit ?_; refine x_then_exit (x_then_exit (x_block_exit (xZ hK11 (cR fun _ hK15 => ?_)))); refine oA (oZ hK15 (c_ret ?_)); refine ?_; exact xR rfl rfl (rfl)
theorem apartSpans0_fn (b : Nat) (cs : List Value) (hb : cs[5]? = some (.slice none 0 0)) : HL.Fn Tryz.prog 55 [.pointer (some ⟨b, 0, none⟩)] (fun w => RdP w b 0 cs) [] (fun v _ => v = .bool true) := by
  refine fn_of Tryz.func55 rfl rfl rfl fun w0 hw => ?_; refine cR fun _ hK1 => ?_; refine oA (oZ hK1 (c_seq fun _ hK2 => ?_)); refine cR fun _ hK3 => ?_; refine oA (oZ hK3 (c_block ?_)); refine c_loopB (fun (k : Nat) => k = 0) (fun (k : Nat) => [(3, .int .i64 k)]) [(0, _), (2, _)] (fun (k : Nat) => []) (fun (k : Nat) => k) 0 rfl sbA sbA hzB ?_
  rintro k hk
  subst hk; refine c_seq fun _ hK4 => ?_; refine cR fun _ hK5 => ?_; refine oM (oM ?_); refine oS sN ?_; refine oS sF ?_; refine oS (s_ld rfl ((RdPK.old0 hw).cel hb rfl)) ?_; refine oS sC ?_; refine oS (s_lss_f rfl rfl (by decide)) ?_; refine oZ hK5 ?_; refine cF ?_; refine c_exit ?_; refine x_then_exit (x_then_exit (x_block_exit (xZ hK2 (cR fun _ hK6 => ?_)))); refine oA (oA (oZ hK6 (c_seq fun _ hK7 => ?_))); refine cR fun _ hK8 => ?_; refine oA (oZ hK8 ?_)
  refine c_block ?_; refine c_loopB (fun (k : Nat) => k = 0) (fun (k : Nat) => [(7, .int .i64 k), (6, .slice none 0 0), (5, .slice none 0 0)]) [(0, _), (2, _)] (fun (k : Nat) => []) (fun (k : Nat) => k) 0 rfl sbA sbA hzB ?_
  rintro k hk
  subst hk; refine c_seq fun _ hK9 => ?_; refine cR fun _ hK10 => ?_; refine oM (oM ?_); refine oS sN ?_; refine oS sF ?_; refine oS (s_ld rfl ((RdPK.old0 hw).cel hb rfl)) ?_; refine oS sC ?_; refine oS (s_lss_f rfl rfl (by decide)) ?_; refine oZ hK10 ?_; refine cF ?_; refine c_exit ?_; refine x_then_exit (x_then_exit (x_block_exit (xZ hK7 (c_seq fun _ hK11 => ?_)))); refine cR fun _ hK12 => ?_; refine oA (oZ hK12 (c_block ?_))
  -- not carried: 2
  refine c_loopB (fun (k : Nat) => k = 0) (fun (k : Nat) => [(10, .int .i64 k)]) [(0, _), (5, _), (6, _)] (fun (k : Nat) => []) (fun (k : Nat) => k) 0 rfl sbA sbA hzB ?_
  rintro k hk
  subst hk; refine c_seq fun _ hK13 => ?_; refine cR fun _ hK14 => ?_; refine oM (oM ?_); refine oS sC ?_; refine oS (s_lss_f rfl rfl (by decide)) ?_; refine oZ hK14 ?_; refine cF ?_; refine c_exit ?_; refine x_then_exit (x_then_exit (x_block_exit (xZ hK11 (cR fun _ hK15 => ?_)))); refine oA (oZ hK15 (c_ret ?_)); refine ?_; exact xR rfl rfl (rfl)
theorem apartRuns0_fn (b : Nat) (cs : List Value) (hb : cs[6]? = some (.slice none 0 0)) : HL.Fn Tryz.prog 56 [.pointer (some ⟨b, 0, none⟩)] (fun w => RdP w b 0 cs) [] (fun v _ => v = .bool true) := by
  refine fn_of Tryz.func56 rfl rfl rfl fun w0 hw => ?_; refine cR fun _ hK1 => ?_; refine oA (oZ hK1 (c_seq fun _ hK2 => ?_)); refine cR fun _ hK3 => ?_; refine oA (oZ hK3 (c_block ?_)); refine c_loopB (fun (k : Nat) => k = 0) (fun (k : Nat) => [(3, .int .i64 k)]) [(0, _), (2, _)] (fun (k : Nat) => []) (fun (k : Nat) => k) 0 rfl sbA sbA hzB ?_
  rintro k hk
  subst hk; refine c_seq fun _ hK4 => ?_; refine cR fun _ hK5 => ?_; refine oM (oM ?_); refine oS sN ?_; refine oS sF ?_; refine oS (s_ld rfl ((RdPK.old0 hw).cel hb rfl)) ?_; refine oS sC ?_; refine oS (s_lss_f rfl rfl (by decide)) ?_; refine oZ hK5 ?_; refine cF ?_; refine c_exit ?_; refine x_then_exit (x_then_exit (x_block_exit (xZ hK2 (cR fun _ hK6 => ?_)))); refine oA (oA (oZ hK6 (c_seq fun _ hK7 => ?_))); refine cR fun _ hK8 => ?_; refine oA (oZ hK8 ?_)
  refine c_block ?_; refine c_loopB (fun (k : Nat) => k = 0) (fun (k : Nat) => [(7, .int .i64 k), (6, .slice none 0 0), (5, .slice none 0 0)]) [(0, _), (2, _)] (fun (k : Nat) => []) (fun (k : Nat) => k) 0 rfl sbA sbA hzB ?_
  rintro k hk
  subst hk; refine c_seq fun _ hK9 => ?_; refine cR fun _ hK10 => ?_; refine oM (oM ?_); refine oS sN ?_; refine oS sF ?_; refine oS (s_ld rfl ((RdPK.old0 hw).cel hb rfl)) ?_; refine oS sC ?_; refine oS (s_lss_f rfl rfl (by decide)) ?_; refine oZ hK10 ?_; refine cF ?_; refine c_exit ?_; refine x_then_exit (x_then_exit (x_block_exit (xZ hK7 (c_seq fun _ hK11 => ?_)))); refine cR fun _ hK12 => ?_; refine oA (oZ hK12 (c_block ?_))
  -- not carried: 2
  refine c_loopB (fun (k : Nat) => k = 0) (fun (k : Nat) => [(10, .int .i64 k)]) [(0, _), (5, _), (6, _)] (fun (k : Nat) => []) (fun (k : Nat) => k) 0 rfl sbA sbA hzB ?_
  rintro k hk
  subst hk; refine c_seq fun _ hK13 => ?_; refine cR fun _ hK14 => ?_; refine oM (oM ?_); refine oS sC ?_; refine oS (s_lss_f rfl rfl (by decide)) ?_; refine oZ hK14 ?_; refine cF ?_; refine c_exit ?_; refine x_then_exit (x_then_exit (x_block_exit (xZ hK11 (cR fun _ hK15 => ?_)))); refine oA (oZ hK15 (c_ret ?_)); refine ?_; exact xR rfl rfl (rfl)
theorem apartClasses0_fn (b : Nat) (cs : List Value) (hb : cs[7]? = some (.slice none 0 0)) : HL.Fn Tryz.prog 57 [.pointer (some ⟨b, 0, none⟩)] (fun w => RdP w b 0 cs) [] (fun v _ => v = .bool true) := by
  refine fn_of Tryz.func57 rfl rfl rfl fun w0 hw => ?_; refine cR fun _ hK1 => ?_; refine oA (oZ hK1 (c_seq fun _ hK2 => ?_)); refine cR fun _ hK3 => ?_; refine oA (oZ hK3 (c_block ?_)); refine c_loopB (fun (k : Nat) => k = 0) (fun (k : Nat) => [(3, .int .i64 k)]) [(0, _), (2, _)] (fun (k : Nat) => []) (fun (k : Nat) => k) 0 rfl sbA sbA hzB ?_
  rintro k hk
  subst hk; refine c_seq fun _ hK4 => ?_; refine cR fun _ hK5 => ?_; refine oM (oM ?_); refine oS sN ?_; refine oS sF ?_; refine oS (s_ld rfl ((RdPK.old0 hw).cel hb rfl)) ?_; refine oS sC ?_; refine oS (s_lss_f rfl rfl (by decide)) ?_; refine oZ hK5 ?_; refine cF ?_; refine c_exit ?_; refine x_then_exit (x_then_exit (x_block_exit (xZ hK2 (cR fun _ hK6 => ?_)))); refine oA (oA (oZ hK6 (c_seq fun _ hK7 => ?_))); refine cR fun _ hK8 => ?_; refine oA (oZ hK8 ?_)
  refine c_block ?_; refine c_loopB (fun (k : Nat) => k = 0) (fun (k : Nat) => [(7, .int .i64 k), (6, .slice none 0 0), (5, .slice none 0 0)]) [(0, _), (2, _)] (fun (k : Nat) => []) (fun (k : Nat) => k) 0 rfl sbA sbA hzB ?_
  rintro k hk
  subst hk; refine c_seq fun _ hK9 => ?_; refine cR fun _ hK10 => ?_; refine oM (oM ?_); refine oS sN ?_; refine oS sF ?_; refine oS (s_ld rfl ((RdPK.old0 hw).cel hb rfl)) ?_; refine oS sC ?_; refine oS (s_lss_f rfl rfl (by decide)) ?_; refine oZ hK10 ?_; refine cF ?_; refine c_exit ?_; refine x_then_exit (x_then_exit (x_block_exit (xZ hK7 (c_seq fun _ hK11 => ?_)))); refine cR fun _ hK12 => ?_; refine oA (oZ hK12 (c_block ?_))
  -- not carried: 2
  refine c_loopB (fun (k : Nat) => k = 0) (fun (k : Nat) => [(10, .int .i64 k)]) [(0, _), (5, _), (6, _)] (fun (k : Nat) => []) (fun (k : Nat) => k) 0 rfl sbA sbA hzB ?_
  rintro k hk
  subst hk; refine c_seq fun _ hK13 => ?_; refine cR fun _ hK14 => ?_; refine oM (oM ?_); refine oS sC ?_; refine oS (s_lss_f rfl rfl (by decide)) ?_; refine oZ hK14 ?_; refine cF ?_; refine c_exit ?_; refine x_then_exit (x_then_exit (x_block_exit (xZ hK11 (cR fun _ hK15 => ?_)))); refine oA (oZ hK15 (c_ret ?_)); refine ?_; exact xR rfl rfl (rfl)
theorem apartNodes0_fn (b : Nat) (cs : List Value) (hb : cs[8]? = some (.slice none 0 0)) : HL.Fn Tryz.prog 58 [.pointer (some ⟨b, 0, none⟩)] (fun w => RdP w b 0 cs) [] (fun v _ => v = .bool true) := by
  refine fn_of Tryz.func58 rfl rfl rfl fun w0 hw => ?_; refine cR fun _ hK1 => ?_; refine oA (oZ hK1 (c_seq fun _ hK2 => ?_)); refine cR fun _ hK3 => ?_; refine oA (oZ hK3 (c_block ?_)); refine c_loopB (fun (k : Nat) => k = 0) (fun (k : Nat) => [(3, .int .i64 k)]) [(0, _), (2, _)] (fun (k : Nat) => []) (fun (k : Nat) => k) 0 rfl sbA sbA hzB ?_
  rintro k hk
  subst hk; refine c_seq fun _ hK4 => ?_; refine cR fun _ hK5 => ?_; refine oM (oM ?_); refine oS sN ?_; refine oS sF ?_; refine oS (s_ld rfl ((RdPK.old0 hw).cel hb rfl)) ?_; refine oS sC ?_; refine oS (s_lss_f rfl rfl (by decide)) ?_; refine oZ hK5 ?_; refine cF ?_; refine c_exit ?_; refine x_then_exit (x_then_exit (x_block_exit (xZ hK2 (cR fun _ hK6 => ?_)))); refine oA (oA (oZ hK6 (c_seq fun _ hK7 => ?_))); refine cR fun _ hK8 => ?_; refine oA (oZ hK8 ?_)
  refine c_block ?_; refine c_loopB (fun (k : Nat) => k = 0) (fun (k : Nat) => [(7, .int .i64 k), (6, .slice none 0 0), (5, .slice none 0 0)]) [(0, _), (2, _)] (fun (k : Nat) => []) (fun (k : Nat) => k) 0 rfl sbA sbA hzB ?_
  rintro k hk
  subst hk; refine c_seq fun _ hK9 => ?_; refine cR fun _ hK10 => ?_; refine oM (oM ?_); refine oS sN ?_; refine oS sF ?_; refine oS (s_ld rfl ((RdPK.old0 hw).cel hb rfl)) ?_; refine oS sC ?_; refine oS (s_lss_f rfl rfl (by decide)) ?_; refine oZ hK10 ?_; refine cF ?_; refine c_exit ?_; refine x_then_exit (x_then_exit (x_block_exit (xZ hK7 (c_seq fun _ hK11 => ?_)))); refine cR fun _ hK12 => ?_; refine oA (oZ hK12 (c_block ?_))
  -- not carried: 2
  refine c_loopB (fun (k : Nat) => k = 0) (fun (k : Nat) => [(10, .int .i64 k)]) [(0, _), (5, _), (6, _)] (fun (k : Nat) => []) (fun (k : Nat) => k) 0 rfl sbA sbA hzB ?_
  rintro k hk
  subst hk; refine c_seq fun _ hK13 => ?_; refine cR fun _ hK14 => ?_; refine oM (oM ?_); refine oS sC ?_; refine oS (s_lss_f rfl rfl (by decide)) ?_; refine oZ hK14 ?_; refine cF ?_; refine c_exit ?_; refine x_then_exit (x_then_exit (x_block_exit (xZ hK11 (cR fun _ hK15 => ?_)))); refine oA (oZ hK15 (c_ret ?_)); refine ?_; exact xR rfl rfl (rfl)
theorem apartInstrs0_fn (b : Nat) (cs : List Value) (hb : cs[9]? = some (.slice none 0 0)) : HL.Fn Tryz.prog 59 [.pointer (some ⟨b, 0, none⟩)] (fun w => RdP w b 0 cs) [] (fun v _ => v = .bool true) := by
  refine fn_of Tryz.func59 rfl rfl rfl fun w0 hw => ?_; refine cR fun _ hK1 => ?_; refine oA (oZ hK1 (c_seq fun _ hK2 => ?_)); refine cR fun _ hK3 => ?_; refine oA (oZ hK3 (c_block ?_)); refine c_loopB (fun (k : Nat) => k = 0) (fun (k : Nat) => [(3, .int .i64 k)]) [(0, _), (2, _)] (fun (k : Nat) => []) (fun (k : Nat) => k) 0 rfl sbA sbA hzB ?_
  rintro k hk
  subst hk; refine c_seq fun _ hK4 => ?_; refine cR fun _ hK5 => ?_; refine oM (oM ?_); refine oS sN ?_; refine oS sF ?_; refine oS (s_ld rfl ((RdPK.old0 hw).cel hb rfl)) ?_; refine oS sC ?_; refine oS (s_lss_f rfl rfl (by decide)) ?_; refine oZ hK5 ?_; refine cF ?_; refine c_exit ?_; refine x_then_exit (x_then_exit (x_block_exit (xZ hK2 (cR fun _ hK6 => ?_)))); refine oA (oA (oZ hK6 (c_seq fun _ hK7 => ?_))); refine cR fun _ hK8 => ?_; refine oA (oZ hK8 ?_)
  refine c_block ?_; refine c_loopB (fun (k : Nat) => k = 0) (fun (k : Nat) => [(7, .int .i64 k), (6, .slice none 0 0), (5, .slice none 0 0)]) [(0, _), (2, _)] (fun (k : Nat) => []) (fun (k : Nat) => k) 0 rfl sbA sbA hzB ?_
  rintro k hk
  subst hk; refine c_seq fun _ hK9 => ?_; refine cR fun _ hK10 => ?_; refine oM (oM ?_); refine oS sN ?_; refine oS sF ?_; refine oS (s_ld rfl ((RdPK.old0 hw).cel hb rfl)) ?_; refine oS sC ?_; refine oS (s_lss_f rfl rfl (by decide)) ?_; refine oZ hK10 ?_; refine cF ?_; refine c_exit ?_; refine x_then_exit (x_then_exit (x_block_exit (xZ hK7 (c_seq fun _ hK11 => ?_)))); refine cR fun _ hK12 => ?_; refine oA (oZ hK12 (c_block ?_))
  -- not carried: 2
  refine c_loopB (fun (k : Nat) => k = 0) (fun (k : Nat) => [(10, .int .i64 k)]) [(0, _), (5, _), (6, _)] (fun (k : Nat) => []) (fun (k : Nat) => k) 0 rfl sbA sbA hzB ?_
  rintro k hk
  subst hk; refine c_seq fun _ hK13 => ?_; refine cR fun _ hK14 => ?_; refine oM (oM ?_); refine oS sC ?_; refine oS (s_lss_f rfl rfl (by decide)) ?_; refine oZ hK14 ?_; refine cF ?_; refine c_exit ?_; refine x_then_exit (x_then_exit (x_block_exit (xZ hK11 (cR fun _ hK15 => ?_)))); refine oA (oZ hK15 (c_ret ?_)); refine ?_; exact xR rfl rfl (rfl)
theorem apartFaults0_fn (b : Nat) (cs : List Value) (hb : cs[10]? = some (.slice none 0 0)) : HL.Fn Tryz.prog 60 [.pointer (some ⟨b, 0, none⟩)] (fun w => RdP w b 0 cs) [] (fun v _ => v = .bool true) := by
  refine fn_of Tryz.func60 rfl rfl rfl fun w0 hw => ?_; refine cR fun _ hK1 => ?_; refine oA (oZ hK1 (c_seq fun _ hK2 => ?_)); refine cR fun _ hK3 => ?_; refine oA (oZ hK3 (c_block ?_)); refine c_loopB (fun (k : Nat) => k = 0) (fun (k : Nat) => [(3, .int .i64 k)]) [(0, _), (2, _)] (fun (k : Nat) => []) (fun (k : Nat) => k) 0 rfl sbA sbA hzB ?_
  rintro k hk
  subst hk; refine c_seq fun _ hK4 => ?_; refine cR fun _ hK5 => ?_; refine oM (oM ?_); refine oS sN ?_; refine oS sF ?_; refine oS (s_ld rfl ((RdPK.old0 hw).cel hb rfl)) ?_; refine oS sC ?_; refine oS (s_lss_f rfl rfl (by decide)) ?_; refine oZ hK5 ?_; refine cF ?_; refine c_exit ?_; refine x_then_exit (x_then_exit (x_block_exit (xZ hK2 (cR fun _ hK6 => ?_)))); refine oA (oA (oZ hK6 (c_seq fun _ hK7 => ?_))); refine cR fun _ hK8 => ?_; refine oA (oZ hK8 ?_)
  refine c_block ?_; refine c_loopB (fun (k : Nat) => k = 0) (fun (k : Nat) => [(7, .int .i64 k), (6, .slice none 0 0), (5, .slice none 0 0)]) [(0, _), (2, _)] (fun (k : Nat) => []) (fun (k : Nat) => k) 0 rfl sbA sbA hzB ?_
  rintro k hk
  subst hk; refine c_seq fun _ hK9 => ?_; refine cR fun _ hK10 => ?_; refine oM (oM ?_); refine oS sN ?_; refine oS sF ?_; refine oS (s_ld rfl ((RdPK.old0 hw).cel hb rfl)) ?_; refine oS sC ?_; refine oS (s_lss_f rfl rfl (by decide)) ?_; refine oZ hK10 ?_; refine cF ?_; refine c_exit ?_; refine x_then_exit (x_then_exit (x_block_exit (xZ hK7 (c_seq fun _ hK11 => ?_)))); refine cR fun _ hK12 => ?_; refine oA (oZ hK12 (c_block ?_))
  -- not carried: 2
  refine c_loopB (fun (k : Nat) => k = 0) (fun (k : Nat) => [(10, .int .i64 k)]) [(0, _), (5, _), (6, _)] (fun (k : Nat) => []) (fun (k : Nat) => k) 0 rfl sbA sbA hzB ?_
  rintro k hk
  subst hk; refine c_seq fun _ hK13 => ?_; refine cR fun _ hK14 => ?_; refine oM (oM ?_); refine oS sC ?_; refine oS (s_lss_f rfl rfl (by decide)) ?_; refine oZ hK14 ?_; refine cF ?_; refine c_exit ?_; refine x_then_exit (x_then_exit (x_block_exit (xZ hK11 (cR fun _ hK15 => ?_)))); refine oA (oZ hK15 (c_ret ?_)); refine ?_; exact xR rfl rfl (rfl)
theorem apartNotes0_fn (b : Nat) (cs : List Value) (hb : cs[11]? = some (.slice none 0 0)) : HL.Fn Tryz.prog 61 [.pointer (some ⟨b, 0, none⟩)] (fun w => RdP w b 0 cs) [] (fun v _ => v = .bool true) := by
  refine fn_of Tryz.func61 rfl rfl rfl fun w0 hw => ?_; refine cR fun _ hK1 => ?_; refine oA (oZ hK1 (c_seq fun _ hK2 => ?_)); refine cR fun _ hK3 => ?_; refine oA (oZ hK3 (c_block ?_)); refine c_loopB (fun (k : Nat) => k = 0) (fun (k : Nat) => [(3, .int .i64 k)]) [(0, _), (2, _)] (fun (k : Nat) => []) (fun (k : Nat) => k) 0 rfl sbA sbA hzB ?_
  rintro k hk
  subst hk; refine c_seq fun _ hK4 => ?_; refine cR fun _ hK5 => ?_; refine oM (oM ?_); refine oS sN ?_; refine oS sF ?_; refine oS (s_ld rfl ((RdPK.old0 hw).cel hb rfl)) ?_; refine oS sC ?_; refine oS (s_lss_f rfl rfl (by decide)) ?_; refine oZ hK5 ?_; refine cF ?_; refine c_exit ?_; refine x_then_exit (x_then_exit (x_block_exit (xZ hK2 (cR fun _ hK6 => ?_)))); refine oA (oA (oZ hK6 (c_seq fun _ hK7 => ?_))); refine cR fun _ hK8 => ?_; refine oA (oZ hK8 ?_)
  refine c_block ?_; refine c_loopB (fun (k : Nat) => k = 0) (fun (k : Nat) => [(7, .int .i64 k), (6, .slice none 0 0), (5, .slice none 0 0)]) [(0, _), (2, _)] (fun (k : Nat) => []) (fun (k : Nat) => k) 0 rfl sbA sbA hzB ?_
  rintro k hk
  subst hk; refine c_seq fun _ hK9 => ?_; refine cR fun _ hK10 => ?_; refine oM (oM ?_); refine oS sN ?_; refine oS sF ?_; refine oS (s_ld rfl ((RdPK.old0 hw).cel hb rfl)) ?_; refine oS sC ?_; refine oS (s_lss_f rfl rfl (by decide)) ?_; refine oZ hK10 ?_; refine cF ?_; refine c_exit ?_; refine x_then_exit (x_then_exit (x_block_exit (xZ hK7 (c_seq fun _ hK11 => ?_)))); refine cR fun _ hK12 => ?_; refine oA (oZ hK12 (c_block ?_))
  -- not carried: 2
  refine c_loopB (fun (k : Nat) => k = 0) (fun (k : Nat) => [(10, .int .i64 k)]) [(0, _), (5, _), (6, _)] (fun (k : Nat) => []) (fun (k : Nat) => k) 0 rfl sbA sbA hzB ?_
  rintro k hk
  subst hk; refine c_seq fun _ hK13 => ?_; refine cR fun _ hK14 => ?_; refine oM (oM ?_); refine oS sC ?_; refine oS (s_lss_f rfl rfl (by decide)) ?_; refine oZ hK14 ?_; refine cF ?_; refine c_exit ?_; refine x_then_exit (x_then_exit (x_block_exit (xZ hK11 (cR fun _ hK15 => ?_)))); refine oA (oZ hK15 (c_ret ?_)); refine ?_; exact xR rfl rfl (rfl)
theorem apartParts0_fn (b : Nat) (cs : List Value) (hb : cs[12]? = some (.slice none 0 0)) : HL.Fn Tryz.prog 62 [.pointer (some ⟨b, 0, none⟩)] (fun w => RdP w b 0 cs) [] (fun v _ => v = .bool true) := by
  refine fn_of Tryz.func62 rfl rfl rfl fun w0 hw => ?_; refine cR fun _ hK1 => ?_; refine oA (oZ hK1 (c_seq fun _ hK2 => ?_)); refine cR fun _ hK3 => ?_; refine oA (oZ hK3 (c_block ?_)); refine c_loopB (fun (k : Nat) => k = 0) (fun (k : Nat) => [(3, .int .i64 k)]) [(0, _), (2, _)] (fun (k : Nat) => []) (fun (k : Nat) => k) 0 rfl sbA sbA hzB ?_
  rintro k hk
  subst hk; refine c_seq fun _ hK4 => ?_; refine cR fun _ hK5 => ?_; refine oM (oM ?_); refine oS sN ?_; refine oS sF ?_; refine oS (s_ld rfl ((RdPK.old0 hw).cel hb rfl)) ?_; refine oS sC ?_; refine oS (s_lss_f rfl rfl (by decide)) ?_; refine oZ hK5 ?_; refine cF ?_; refine c_exit ?_; refine x_then_exit (x_then_exit (x_block_exit (xZ hK2 (cR fun _ hK6 => ?_)))); refine oA (oA (oZ hK6 (c_seq fun _ hK7 => ?_))); refine cR fun _ hK8 => ?_; refine oA (oZ hK8 ?_)
  refine c_block ?_; refine c_loopB (fun (k : Nat) => k = 0) (fun (k : Nat) => [(7, .int .i64 k), (6, .slice none 0 0), (5, .slice none 0 0)]) [(0, _), (2, _)] (fun (k : Nat) => []) (fun (k : Nat) => k) 0 rfl sbA sbA hzB ?_
  rintro k hk
  subst hk; refine c_seq fun _ hK9 => ?_; refine cR fun _ hK10 => ?_; refine oM (oM ?_); refine oS sN ?_; refine oS sF ?_; refine oS (s_ld rfl ((RdPK.old0 hw).cel hb rfl)) ?_; refine oS sC ?_; refine oS (s_lss_f rfl rfl (by decide)) ?_; refine oZ hK10 ?_; refine cF ?_; refine c_exit ?_; refine x_then_exit (x_then_exit (x_block_exit (xZ hK7 (c_seq fun _ hK11 => ?_)))); refine cR fun _ hK12 => ?_; refine oA (oZ hK12 (c_block ?_))
  -- not carried: 2
  refine c_loopB (fun (k : Nat) => k = 0) (fun (k : Nat) => [(10, .int .i64 k)]) [(0, _), (5, _), (6, _)] (fun (k : Nat) => []) (fun (k : Nat) => k) 0 rfl sbA sbA hzB ?_
  rintro k hk
  subst hk; refine c_seq fun _ hK13 => ?_; refine cR fun _ hK14 => ?_; refine oM (oM ?_); refine oS sC ?_; refine oS (s_lss_f rfl rfl (by decide)) ?_; refine oZ hK14 ?_; refine cF ?_; refine c_exit ?_; refine x_then_exit (x_then_exit (x_block_exit (xZ hK11 (cR fun _ hK15 => ?_)))); refine oA (oZ hK15 (c_ret ?_)); refine ?_; exact xR rfl rfl (rfl)
theorem apartRows0_fn (b : Nat) (cs : List Value) (hb : cs[13]? = some (.slice none 0 0)) : HL.Fn Tryz.prog 63 [.pointer (some ⟨b, 0, none⟩)] (fun w => RdP w b 0 cs) [] (fun v _ => v = .bool true) := by
  refine fn_of Tryz.func63 rfl rfl rfl fun w0 hw => ?_; refine cR fun _ hK1 => ?_; refine oA (oZ hK1 (c_seq fun _ hK2 => ?_)); refine cR fun _ hK3 => ?_; refine oA (oZ hK3 (c_block ?_)); refine c_loopB (fun (k : Nat) => k = 0) (fun (k : Nat) => [(3, .int .i64 k)]) [(0, _), (2, _)] (fun (k : Nat) => []) (fun (k : Nat) => k) 0 rfl sbA sbA hzB ?_
  rintro k hk
  subst hk; refine c_seq fun _ hK4 => ?_; refine cR fun _ hK5 => ?_; refine oM (oM ?_); refine oS sN ?_; refine oS sF ?_; refine oS (s_ld rfl ((RdPK.old0 hw).cel hb rfl)) ?_; refine oS sC ?_; refine oS (s_lss_f rfl rfl (by decide)) ?_; refine oZ hK5 ?_; refine cF ?_; refine c_exit ?_; refine x_then_exit (x_then_exit (x_block_exit (xZ hK2 (cR fun _ hK6 => ?_)))); refine oA (oA (oZ hK6 (c_seq fun _ hK7 => ?_))); refine cR fun _ hK8 => ?_; refine oA (oZ hK8 ?_)
  refine c_block ?_; refine c_loopB (fun (k : Nat) => k = 0) (fun (k : Nat) => [(7, .int .i64 k), (6, .slice none 0 0), (5, .slice none 0 0)]) [(0, _), (2, _)] (fun (k : Nat) => []) (fun (k : Nat) => k) 0 rfl sbA sbA hzB ?_
  rintro k hk
  subst hk; refine c_seq fun _ hK9 => ?_; refine cR fun _ hK10 => ?_; refine oM (oM ?_); refine oS sN ?_; refine oS sF ?_; refine oS (s_ld rfl ((RdPK.old0 hw).cel hb rfl)) ?_; refine oS sC ?_; refine oS (s_lss_f rfl rfl (by decide)) ?_; refine oZ hK10 ?_; refine cF ?_; refine c_exit ?_; refine x_then_exit (x_then_exit (x_block_exit (xZ hK7 (c_seq fun _ hK11 => ?_)))); refine cR fun _ hK12 => ?_; refine oA (oZ hK12 (c_block ?_))
  -- not carried: 2
  refine c_loopB (fun (k : Nat) => k = 0) (fun (k : Nat) => [(10, .int .i64 k)]) [(0, _), (5, _), (6, _)] (fun (k : Nat) => []) (fun (k : Nat) => k) 0 rfl sbA sbA hzB ?_
  rintro k hk
  subst hk; refine c_seq fun _ hK13 => ?_; refine cR fun _ hK14 => ?_; refine oM (oM ?_); refine oS sC ?_; refine oS (s_lss_f rfl rfl (by decide)) ?_; refine oZ hK14 ?_; refine cF ?_; refine c_exit ?_; refine x_then_exit (x_then_exit (x_block_exit (xZ hK11 (cR fun _ hK15 => ?_)))); refine oA (oZ hK15 (c_ret ?_)); refine ?_; exact xR rfl rfl (rfl)
theorem apartIntss0_fn (b : Nat) (cs : List Value) (hb : cs[14]? = some (.slice none 0 0)) : HL.Fn Tryz.prog 64 [.pointer (some ⟨b, 0, none⟩)] (fun w => RdP w b 0 cs) [] (fun v _ => v = .bool true) := by
  refine fn_of Tryz.func64 rfl rfl rfl fun w0 hw => ?_; refine cR fun _ hK1 => ?_; refine oA (oZ hK1 (c_seq fun _ hK2 => ?_)); refine cR fun _ hK3 => ?_; refine oA (oZ hK3 (c_block ?_)); refine c_loopB (fun (k : Nat) => k = 0) (fun (k : Nat) => [(3, .int .i64 k)]) [(0, _), (2, _)] (fun (k : Nat) => []) (fun (k : Nat) => k) 0 rfl sbA sbA hzB ?_
  rintro k hk
  subst hk; refine c_seq fun _ hK4 => ?_; refine cR fun _ hK5 => ?_; refine oM (oM ?_); refine oS sN ?_; refine oS sF ?_; refine oS (s_ld rfl ((RdPK.old0 hw).cel hb rfl)) ?_; refine oS sC ?_; refine oS (s_lss_f rfl rfl (by decide)) ?_; refine oZ hK5 ?_; refine cF ?_; refine c_exit ?_; refine x_then_exit (x_then_exit (x_block_exit (xZ hK2 (cR fun _ hK6 => ?_)))); refine oA (oA (oZ hK6 (c_seq fun _ hK7 => ?_))); refine cR fun _ hK8 => ?_; refine oA (oZ hK8 ?_)
  refine c_block ?_; refine c_loopB (fun (k : Nat) => k = 0) (fun (k : Nat) => [(7, .int .i64 k), (6, .slice none 0 0), (5, .slice none 0 0)]) [(0, _), (2, _)] (fun (k : Nat) => []) (fun (k : Nat) => k) 0 rfl sbA sbA hzB ?_
  rintro k hk
  subst hk; refine c_seq fun _ hK9 => ?_; refine cR fun _ hK10 => ?_; refine oM (oM ?_); refine oS sN ?_; refine oS sF ?_; refine oS (s_ld rfl ((RdPK.old0 hw).cel hb rfl)) ?_; refine oS sC ?_; refine oS (s_lss_f rfl rfl (by decide)) ?_; refine oZ hK10 ?_; refine cF ?_; refine c_exit ?_; refine x_then_exit (x_then_exit (x_block_exit (xZ hK7 (c_seq fun _ hK11 => ?_)))); refine cR fun _ hK12 => ?_; refine oA (oZ hK12 (c_block ?_))
  -- not carried: 2
  refine c_loopB (fun (k : Nat) => k = 0) (fun (k : Nat) => [(10, .int .i64 k)]) [(0, _), (5, _), (6, _)] (fun (k : Nat) => []) (fun (k : Nat) => k) 0 rfl sbA sbA hzB ?_
  rintro k hk
  subst hk; refine c_seq fun _ hK13 => ?_; refine cR fun _ hK14 => ?_; refine oM (oM ?_); refine oS sC ?_; refine oS (s_lss_f rfl rfl (by decide)) ?_; refine oZ hK14 ?_; refine cF ?_; refine c_exit ?_; refine x_then_exit (x_then_exit (x_block_exit (xZ hK11 (cR fun _ hK15 => ?_)))); refine oA (oZ hK15 (c_ret ?_)); refine ?_; exact xR rfl rfl (rfl)
theorem apartSpanss0_fn (b : Nat) (cs : List Value) (hb : cs[15]? = some (.slice none 0 0)) : HL.Fn Tryz.prog 65 [.pointer (some ⟨b, 0, none⟩)] (fun w => RdP w b 0 cs) [] (fun v _ => v = .bool true) := by
  refine fn_of Tryz.func65 rfl rfl rfl fun w0 hw => ?_; refine cR fun _ hK1 => ?_; refine oA (oZ hK1 (c_seq fun _ hK2 => ?_)); refine cR fun _ hK3 => ?_; refine oA (oZ hK3 (c_block ?_)); refine c_loopB (fun (k : Nat) => k = 0) (fun (k : Nat) => [(3, .int .i64 k)]) [(0, _), (2, _)] (fun (k : Nat) => []) (fun (k : Nat) => k) 0 rfl sbA sbA hzB ?_
  rintro k hk
  subst hk; refine c_seq fun _ hK4 => ?_; refine cR fun _ hK5 => ?_; refine oM (oM ?_); refine oS sN ?_; refine oS sF ?_; refine oS (s_ld rfl ((RdPK.old0 hw).cel hb rfl)) ?_; refine oS sC ?_; refine oS (s_lss_f rfl rfl (by decide)) ?_; refine oZ hK5 ?_; refine cF ?_; refine c_exit ?_; refine x_then_exit (x_then_exit (x_block_exit (xZ hK2 (cR fun _ hK6 => ?_)))); refine oA (oA (oZ hK6 (c_seq fun _ hK7 => ?_))); refine cR fun _ hK8 => ?_; refine oA (oZ hK8 ?_)
  refine c_block ?_; refine c_loopB (fun (k : Nat) => k = 0) (fun (k : Nat) => [(7, .int .i64 k), (6, .slice none 0 0), (5, .slice none 0 0)]) [(0, _), (2, _)] (fun (k : Nat) => []) (fun (k : Nat) => k) 0 rfl sbA sbA hzB ?_
  rintro k hk
  subst hk; refine c_seq fun _ hK9 => ?_; refine cR fun _ hK10 => ?_; refine oM (oM ?_); refine oS sN ?_; refine oS sF ?_; refine oS (s_ld rfl ((RdPK.old0 hw).cel hb rfl)) ?_; refine oS sC ?_; refine oS (s_lss_f rfl rfl (by decide)) ?_; refine oZ hK10 ?_; refine cF ?_; refine c_exit ?_; refine x_then_exit (x_then_exit (x_block_exit (xZ hK7 (c_seq fun _ hK11 => ?_)))); refine cR fun _ hK12 => ?_; refine oA (oZ hK12 (c_block ?_))
  -- not carried: 2
  refine c_loopB (fun (k : Nat) => k = 0) (fun (k : Nat) => [(10, .int .i64 k)]) [(0, _), (5, _), (6, _)] (fun (k : Nat) => []) (fun (k : Nat) => k) 0 rfl sbA sbA hzB ?_
  rintro k hk
  subst hk; refine c_seq fun _ hK13 => ?_; refine cR fun _ hK14 => ?_; refine oM (oM ?_); refine oS sC ?_; refine oS (s_lss_f rfl rfl (by decide)) ?_; refine oZ hK14 ?_; refine cF ?_; refine c_exit ?_; refine x_then_exit (x_then_exit (x_block_exit (xZ hK11 (cR fun _ hK15 => ?_)))); refine oA (oZ hK15 (c_ret ?_)); refine ?_; exact xR rfl rfl (rfl)
theorem apartPieces0_fn (b : Nat) (cs : List Value) (hb : cs[16]? = some (.slice none 0 0)) : HL.Fn Tryz.prog 66 [.pointer (some ⟨b, 0, none⟩)] (fun w => RdP w b 0 cs) [] (fun v _ => v = .bool true) := by
  refine fn_of Tryz.func66 rfl rfl rfl fun w0 hw => ?_; refine cR fun _ hK1 => ?_; refine oA (oZ hK1 (c_seq fun _ hK2 => ?_)); refine cR fun _ hK3 => ?_; refine oA (oZ hK3 (c_block ?_)); refine c_loopB (fun (k : Nat) => k = 0) (fun (k : Nat) => [(3, .int .i64 k)]) [(0, _), (2, _)] (fun (k : Nat) => []) (fun (k : Nat) => k) 0 rfl sbA sbA hzB ?_
  rintro k hk
  subst hk; refine c_seq fun _ hK4 => ?_; refine cR fun _ hK5 => ?_; refine oM (oM ?_); refine oS sN ?_; refine oS sF ?_; refine oS (s_ld rfl ((RdPK.old0 hw).cel hb rfl)) ?_; refine oS sC ?_; refine oS (s_lss_f rfl rfl (by decide)) ?_; refine oZ hK5 ?_; refine cF ?_; refine c_exit ?_; refine x_then_exit (x_then_exit (x_block_exit (xZ hK2 (cR fun _ hK6 => ?_)))); refine oA (oA (oZ hK6 (c_seq fun _ hK7 => ?_))); refine cR fun _ hK8 => ?_; refine oA (oZ hK8 ?_)
  refine c_block ?_; refine c_loopB (fun (k : Nat) => k = 0) (fun (k : Nat) => [(7, .int .i64 k), (6, .slice none 0 0), (5, .slice none 0 0)]) [(0, _), (2, _)] (fun (k : Nat) => []) (fun (k : Nat) => k) 0 rfl sbA sbA hzB ?_
  rintro k hk
  subst hk; refine c_seq fun _ hK9 => ?_; refine cR fun _ hK10 => ?_; refine oM (oM ?_); refine oS sN ?_; refine oS sF ?_; refine oS (s_ld rfl ((RdPK.old0 hw).cel hb rfl)) ?_; refine oS sC ?_; refine oS (s_lss_f rfl rfl (by decide)) ?_; refine oZ hK10 ?_; refine cF ?_; refine c_exit ?_; refine x_then_exit (x_then_exit (x_block_exit (xZ hK7 (c_seq fun _ hK11 => ?_)))); refine cR fun _ hK12 => ?_; refine oA (oZ hK12 (c_block ?_))
  -- not carried: 2
  refine c_loopB (fun (k : Nat) => k = 0) (fun (k : Nat) => [(10, .int .i64 k)]) [(0, _), (5, _), (6, _)] (fun (k : Nat) => []) (fun (k : Nat) => k) 0 rfl sbA sbA hzB ?_
  rintro k hk
  subst hk; refine c_seq fun _ hK13 => ?_; refine cR fun _ hK14 => ?_; refine oM (oM ?_); refine oS sC ?_; refine oS (s_lss_f rfl rfl (by decide)) ?_; refine oZ hK14 ?_; refine cF ?_; refine c_exit ?_; refine x_then_exit (x_then_exit (x_block_exit (xZ hK11 (cR fun _ hK15 => ?_)))); refine oA (oZ hK15 (c_ret ?_)); refine ?_; exact xR rfl rfl (rfl)
theorem apartFiles0_fn (b : Nat) (cs : List Value) (hb : cs[17]? = some (.slice none 0 0)) : HL.Fn Tryz.prog 67 [.pointer (some ⟨b, 0, none⟩)] (fun w => RdP w b 0 cs) [] (fun v _ => v = .bool true) := by
  refine fn_of Tryz.func67 rfl rfl rfl fun w0 hw => ?_; refine cR fun _ hK1 => ?_; refine oA (oZ hK1 (c_seq fun _ hK2 => ?_)); refine cR fun _ hK3 => ?_; refine oA (oZ hK3 (c_block ?_)); refine c_loopB (fun (k : Nat) => k = 0) (fun (k : Nat) => [(3, .int .i64 k)]) [(0, _), (2, _)] (fun (k : Nat) => []) (fun (k : Nat) => k) 0 rfl sbA sbA hzB ?_
  rintro k hk
  subst hk; refine c_seq fun _ hK4 => ?_; refine cR fun _ hK5 => ?_; refine oM (oM ?_); refine oS sN ?_; refine oS sF ?_; refine oS (s_ld rfl ((RdPK.old0 hw).cel hb rfl)) ?_; refine oS sC ?_; refine oS (s_lss_f rfl rfl (by decide)) ?_; refine oZ hK5 ?_; refine cF ?_; refine c_exit ?_; refine x_then_exit (x_then_exit (x_block_exit (xZ hK2 (cR fun _ hK6 => ?_)))); refine oA (oA (oZ hK6 (c_seq fun _ hK7 => ?_))); refine cR fun _ hK8 => ?_; refine oA (oZ hK8 ?_)
  refine c_block ?_; refine c_loopB (fun (k : Nat) => k = 0) (fun (k : Nat) => [(7, .int .i64 k), (6, .slice none 0 0), (5, .slice none 0 0)]) [(0, _), (2, _)] (fun (k : Nat) => []) (fun (k : Nat) => k) 0 rfl sbA sbA hzB ?_
  rintro k hk
  subst hk; refine c_seq fun _ hK9 => ?_; refine cR fun _ hK10 => ?_; refine oM (oM ?_); refine oS sN ?_; refine oS sF ?_; refine oS (s_ld rfl ((RdPK.old0 hw).cel hb rfl)) ?_; refine oS sC ?_; refine oS (s_lss_f rfl rfl (by decide)) ?_; refine oZ hK10 ?_; refine cF ?_; refine c_exit ?_; refine x_then_exit (x_then_exit (x_block_exit (xZ hK7 (c_seq fun _ hK11 => ?_)))); refine cR fun _ hK12 => ?_; refine oA (oZ hK12 (c_block ?_))
  -- not carried: 2
  refine c_loopB (fun (k : Nat) => k = 0) (fun (k : Nat) => [(10, .int .i64 k)]) [(0, _), (5, _), (6, _)] (fun (k : Nat) => []) (fun (k : Nat) => k) 0 rfl sbA sbA hzB ?_
  rintro k hk
  subst hk; refine c_seq fun _ hK13 => ?_; refine cR fun _ hK14 => ?_; refine oM (oM ?_); refine oS sC ?_; refine oS (s_lss_f rfl rfl (by decide)) ?_; refine oZ hK14 ?_; refine cF ?_; refine c_exit ?_; refine x_then_exit (x_then_exit (x_block_exit (xZ hK11 (cR fun _ hK15 => ?_)))); refine oA (oZ hK15 (c_ret ?_)); refine ?_; exact xR rfl rfl (rfl)
theorem apartCmds0_fn (b : Nat) (cs : List Value) (hb : cs[18]? = some (.slice none 0 0)) : HL.Fn Tryz.prog 68 [.pointer (some ⟨b, 0, none⟩)] (fun w => RdP w b 0 cs) [] (fun v _ => v = .bool true) := by
  refine fn_of Tryz.func68 rfl rfl rfl fun w0 hw => ?_; refine cR fun _ hK1 => ?_; refine oA (oZ hK1 (c_seq fun _ hK2 => ?_)); refine cR fun _ hK3 => ?_; refine oA (oZ hK3 (c_block ?_)); refine c_loopB (fun (k : Nat) => k = 0) (fun (k : Nat) => [(3, .int .i64 k)]) [(0, _), (2, _)] (fun (k : Nat) => []) (fun (k : Nat) => k) 0 rfl sbA sbA hzB ?_
  rintro k hk
  subst hk; refine c_seq fun _ hK4 => ?_; refine cR fun _ hK5 => ?_; refine oM (oM ?_); refine oS sN ?_; refine oS sF ?_; refine oS (s_ld rfl ((RdPK.old0 hw).cel hb rfl)) ?_; refine oS sC ?_; refine oS (s_lss_f rfl rfl (by decide)) ?_; refine oZ hK5 ?_; refine cF ?_; refine c_exit ?_; refine x_then_exit (x_then_exit (x_block_exit (xZ hK2 (cR fun _ hK6 => ?_)))); refine oA (oA (oZ hK6 (c_seq fun _ hK7 => ?_))); refine cR fun _ hK8 => ?_; refine oA (oZ hK8 ?_)
  refine c_block ?_; refine c_loopB (fun (k : Nat) => k = 0) (fun (k : Nat) => [(7, .int .i64 k), (6, .slice none 0 0), (5, .slice none 0 0)]) [(0, _), (2, _)] (fun (k : Nat) => []) (fun (k : Nat) => k) 0 rfl sbA sbA hzB ?_
  rintro k hk
  subst hk; refine c_seq fun _ hK9 => ?_; refine cR fun _ hK10 => ?_; refine oM (oM ?_); refine oS sN ?_; refine oS sF ?_; refine oS (s_ld rfl ((RdPK.old0 hw).cel hb rfl)) ?_; refine oS sC ?_; refine oS (s_lss_f rfl rfl (by decide)) ?_; refine oZ hK10 ?_; refine cF ?_; refine c_exit ?_; refine x_then_exit (x_then_exit (x_block_exit (xZ hK7 (c_seq fun _ hK11 => ?_)))); refine cR fun _ hK12 => ?_; refine oA (oZ hK12 (c_block ?_))
  -- not carried: 2
  refine c_loopB (fun (k : Nat) => k = 0) (fun (k : Nat) => [(10, .int .i64 k)]) [(0, _), (5, _), (6, _)] (fun (k : Nat) => []) (fun (k : Nat) => k) 0 rfl sbA sbA hzB ?_
  rintro k hk
  subst hk; refine c_seq fun _ hK13 => ?_; refine cR fun _ hK14 => ?_; refine oM (oM ?_); refine oS sC ?_; refine oS (s_lss_f rfl rfl (by decide)) ?_; refine oZ hK14 ?_; refine cF ?_; refine c_exit ?_; refine x_then_exit (x_then_exit (x_block_exit (xZ hK11 (cR fun _ hK15 => ?_)))); refine oA (oZ hK15 (c_ret ?_)); refine ?_; exact xR rfl rfl (rfl)
end Go.Proofs.YtmompllplidphaaGreatDoor
