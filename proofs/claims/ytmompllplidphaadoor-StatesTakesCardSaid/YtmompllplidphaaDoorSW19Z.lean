/- Part of the proofs over this seat: see the text that holds the theorem. Conditions: each theorem bears its own. -/
import Derived.Test.YtmompllplidphaaDoorSW17Z
import Derived.Test.YtmompllplidphaaDoorHDZ
import Derived.Test.YtmompllplidphaaDoorSM4Z
import Derived.Test.YtmompllplidphaaDoorMT8Z
import Derived.Test.YtmompllplidphaaDoorHlB
import Derived.Test.YtmompllplidphaaDoorHLMZ
import Derived.Test.YtmompllplidphaaDoorRows
import Derived.ProofKit
import Derived.LaidMore
import Derived.Stop.Joined
import Derived.Lib.LaidTab
namespace Go.Proofs.YtmompllplidphaaDoor
open Go Go.HL Go.Proofs Go.HL.Kl Go.HL.Kl.Mc Go.HL.Sts
theorem wideDfaP_fn (d : Df) (aa : Option Addr) (ac : Nat) (na : Option Addr) (nc : Nat) (rows : List (Sl Int)) (ea : Option Addr) (ec : Nat) (hx : d.next = rows.map Sl.xs) (hz : Sml d rows) : HL.Fn Tryd.prog 10 [.agg [.slice aa d.atoms.length ac, .slice na rows.length nc, .slice ea d.ends.length ec].toArray] (fun w => RdD d aa ac na nc rows ea ec w) [] (WdO d) :=
  HL.Fn.sub (wideDfa_fn d aa ac na nc rows ea ec hx hz) fun v S' ⟨S2, h1, h2⟩ => ⟨S2, h1, h2⟩
theorem copyDfaP_fn (d : Df) (aa : Option Addr) (ac : Nat) (na : Option Addr) (nc : Nat) (rows : List (Sl Int)) (ea : Option Addr) (ec : Nat) (hx : d.next = rows.map Sl.xs) (hz : Sml d rows) : HL.Fn Tryd.prog 20 [.agg [.slice aa d.atoms.length ac, .slice na rows.length nc, .slice ea d.ends.length ec].toArray] (fun w => RdD d aa ac na nc rows ea ec w) [] (DfO d) :=
  HL.Fn.sub (copyDfa_fn d aa ac na nc rows ea ec hx hz) fun v S' ⟨S2, h1, h2⟩ => ⟨S2, h1, h2⟩
/-- how a machine with room behind its lists is read -/
theorem WdD.rdD {d : Df} {aC aR aE : Option Addr} {cC cR cE : Nat} {hs : List (Sl Int)} {SC SB SH SE H : Hp} {w0 w : World} {M : List Nat} (hC : OwnS Ec 4 54 (.slice aC d.atoms.length cC) d.atoms SC) (hB : OwnS Esl 1 46 (.slice aR hs.length cR) hs SB) (hH : OwnW hs SH) (hE : OwnS Ebo 1 4 (.slice aE d.ends.length cE) d.ends SE)
    (h1 : HIn SC H) (h2 : HIn SB H) (h3 : HIn SH H) (h4 : HIn SE H) (st : St w0 w M H) : RdD d aC cC aR cR hs aE cE w :=
  ⟨(hC.rdk (κ := ⟨0, [], w0, M⟩) h1).out w st, (hB.rdk (κ := ⟨0, [], w0, M⟩) h2).out w st, fun _ hs => hH.rdx (n := 0) (ds := []) h3 st hs, (hE.rdk (κ := ⟨0, [], w0, M⟩) h4).out w st⟩
def xo3 (x : UInt8) : UInt8 := UInt8.ofNat (BitVec.ofInt 8 (x.toNat : Int) ^^^ BitVec.ofInt 8 3).toNat
def flipT {α : Type} (f : α → α) (l : List α) (i : Nat) : List α := (l.take i).map f ++ l.drop i
theorem flip_zero {α : Type} (f : α → α) (l : List α) : flipT f l 0 = l := by simp [flipT]
theorem flip_len {α : Type} (f : α → α) (l : List α) (i : Nat) : (flipT f l i).length = l.length := by simp [flipT]; omega
theorem flip_get {α : Type} {f : α → α} {l : List α} {i : Nat} {x : α} (h : l[i]? = some x) : (flipT f l i)[i]? = some x := by
  have hi := (List.getElem?_eq_some_iff.1 h).1
  unfold flipT
  rw [List.getElem?_append_right (by simp; omega)]
  simp only [List.length_map, List.length_take, List.getElem?_drop]
  rw [show i + (i - min i l.length) = i by omega]; exact h
theorem flip_set {α : Type} {f : α → α} {l : List α} {i : Nat} {x : α} (h : l[i]? = some x) : (flipT f l i).set i (f x) = flipT f l (i + 1) := by
  have hi := (List.getElem?_eq_some_iff.1 h).1
  unfold flipT
  rw [List.set_append_right _ _ (by simp; omega), take_succ_get h, show i - ((l.take i).map f).length = 0 by simp; omega, List.drop_eq_getElem_cons hi, List.set_cons_zero]
  simp
theorem flip_all {α : Type} (f : α → α) (l : List α) : flipT f l l.length = l.map f := by simp [flipT]
set_option maxHeartbeats 4000000 in
theorem statesTakes_fn (d : Df) (aa : Option Addr) (ac : Nat) (na : Option Addr) (nc : Nat) (rows : List (Sl Int)) (ea : Option Addr) (ec : Nat) (hx : d.next = rows.map Sl.xs) (ta : Option Addr) (tc : Nat) (w : List UInt8) : HL.Fn Tryd.prog 3 [.agg [.slice aa d.atoms.length ac, .slice na rows.length nc, .slice ea d.ends.length ec].toArray, .slice ta w.length tc] (fun W => RdD d aa ac na nc rows ea ec W ∧ Tb [] W ∧ Rd Eb W (.slice ta w.length tc) w) [] (fun v _ => v = .bool true) := by
  refine fn_of Tryd.func3 rfl rfl rfl fun w0 hw => ?_
  have hst := hw.2.2.sl
  have hbt := hst.le
  refine c_seq fun _ hK1 => ?_
  refine c_region ?_
  refine o_box rfl rfl rfl fun b2 => ?_
  refine o_step rfl (s_assign rfl) ?_
  refine o_nil ?_
  refine x_then (hK1 _ _ ?_)
  refine c_seq fun _ hK2 => ?_
  refine c_seq fun _ hK3 => ?_
  refine c_region ?_
  refine o_step rfl (s_ldB rfl (RdPK.cels (.own meA)) lnA) ?_
  refine o_callP (wideLaw_fn d aa ac na nc rows ea ec hx) rfl rfl rfl (fun w st => hw.1.old st) (fun v15 ⟨bw, hv15, hbw⟩ => ?_)
  subst hv15
  cases bw
  ·
   have hz := hbw rfl
   refine o_step rfl (s_move rfl) ?_
   refine o_yes rfl rfl ?_
   refine o_step rfl (s_move rfl) ?_
   refine o_yes rfl rfl ?_
   refine o_step rfl (s_len rfl) ?_
   refine o_yes rfl rfl ?_
   refine o_callP (longN_fn w.length) rfl rfl rfl (fun _ _ => trivial) (fun v19 hv19 => ?_)
   subst hv19
   cases hlg : decide ((w.length : Int) > 2147483647)
   ·
    have hwl := of_decide_eq_false hlg
    refine o_step rfl (s_pick_f rfl rfl) ?_
    refine o_nil ?_
    refine x_then (hK3 _ _ ?_)
    refine c_false rfl ?_
    refine c_skip ?_
    refine x_then (hK2 _ _ ?_)
    refine c_seq fun _ hK4 => ?_
    refine c_region ?_
    refine o_callP (lives_fn) rfl rfl rfl (fun w st => tb_of hw.2.1 st HSub.nil) (fun v21 hv21 => ?_)
    subst hv21
    refine o_step rfl (s_assign rfl) ?_
    refine o_nil ?_
    refine x_then (hK4 _ _ ?_)
    refine c_seq fun _ hK5 => ?_
    refine c_region ?_
    refine o_step rfl (s_ldB rfl (RdPK.cels (.own meA)) lnA) ?_
    refine o_call (wideDfaP_fn d aa ac na nc rows ea ec hx hz) rfl rfl rfl (by exact .nil) (fun w st => hw.1.old st) (fun v23 S23 hW => ?_)
    obtain ⟨aC, aR, aE, hs, sps, SC, SB, SH, SS, SE, rfl, rfl, hCf, hBf, hH, hS, hEw, hx2, hsl, hsp⟩ := hW
    have hhl : hs.length = rows.length := by have := congrArg List.length (hx2.symm.trans hx); simpa using this
    have hz2 : Sml d hs := ⟨hz.at_, by have := hz.nx; omega, hz.en, fun s hs1 => by have h1 : s.xs ∈ rows.map Sl.xs := by { rw [← hx, hx2]; exact List.mem_map.2 ⟨s, hs1, rfl⟩ }; obtain ⟨s2, h2, h3⟩ := List.mem_map.1 h1; rw [← h3]; exact hz.rw_ s2 h2⟩
    have hC := hCf.pre d.atoms.length (by rw [wdl_len]; omega)
    rw [wdl_take] at hC
    have hB := hBf.pre hs.length (by rw [List.length_append]; omega)
    rw [List.take_left] at hB
    have hE := hEw.pre d.ends.length (by rw [wdl_len]; omega)
    rw [wdl_take] at hE
    refine o_alloc rfl rfl fun b6 => ?_
    refine o_stW rfl rfl upA lnA lnA onA ?_
    refine o_nil ?_
    refine x_then (hK5 _ _ ?_)
    refine c_seq fun _ hK6 => ?_
    refine c_region ?_
    refine o_step rfl (s_move rfl) ?_
    refine o_call (wideBytes_fn ta tc w (by omega)) rfl rfl rfl (by exact .nil) (fun W st => (RdK.old0 hw.2.2).out W st) (fun v25 S25 ⟨a25, hv25, hS25⟩ => ?_)
    subst hv25
    have hT := hS25.pre w.length (by rw [wdl_len]; omega)
    rw [wdl_take] at hT
    refine o_step rfl (s_assign rfl) ?_
    refine o_nil ?_
    refine x_then (hK6 _ _ ?_)
    refine c_seq fun _ hK7 => ?_
    refine c_region ?_
    refine o_step rfl (s_ldB rfl (RdPK.cels (.own meA)) lnA) ?_
    refine o_callP (shaped2_fn d aC (d.atoms.length + 64) aR (hs.length + 64) hs aE (d.ends.length + 64) hx2) rfl rfl rfl (fun w st => ⟨WdD.rdD hC hB hH hE hiA hiA hiA hiA st, tb_of hw.2.1 st HSub.nil⟩) (fun v27 hv27 => ?_)
    subst hv27
    refine o_step rfl (s_assign rfl) ?_
    refine o_nil ?_
    refine x_then (hK7 _ _ ?_)
    refine c_seq fun _ hK8 => ?_
    refine c_region ?_
    refine o_step rfl (s_ldB rfl (RdPK.cels (.own meA)) lnA) ?_
    refine o_step rfl (s_move rfl) ?_
    refine o_callP (takes2_fn d aC (d.atoms.length + 64) aR (hs.length + 64) hs aE (d.ends.length + 64) hx2 a25 (w.length + 64) w) rfl rfl rfl (fun W st => ⟨WdD.rdD hC hB hH hE hiA hiA hiA hiA st, tb_of hw.2.1 st HSub.nil, (hT.rdk hiA).out W st⟩) (fun v30 hv30 => ?_)
    subst hv30
    refine o_step rfl (s_assign rfl) ?_
    refine o_nil ?_
    refine x_then (hK8 _ _ ?_)
    refine c_seq fun _ hK9 => ?_
    refine c_region ?_
    refine o_step rfl (s_ldB rfl (RdPK.cels (.own meA)) lnA) ?_
    refine o_step rfl (s_ldB rfl (RdPK.cels (.own meA)) lnA) ?_
    refine o_callP (eqDfa_fn d aC (d.atoms.length + 64) aR (hs.length + 64) hs aE (d.ends.length + 64) hx2 d aa ac na nc rows ea ec hx) rfl rfl rfl (fun w st => ⟨WdD.rdD hC hB hH hE hiA hiA hiA hiA st, hw.1.old st⟩) (fun v33 hv33 => ?_)
    rw [decide_eq_true rfl] at hv33
    subst hv33
    refine o_step rfl (s_move rfl) ?_
    refine o_yes rfl rfl ?_
    refine o_step rfl (s_ldB rfl (RdPK.cels (.own meA)) lnA) ?_
    refine o_yes rfl rfl ?_
    refine o_callP (spareDfa_fn d aC aR aE (d.atoms.length + 64) (hs.length + 64) (d.ends.length + 64) hs sps hz2 hsl hsp) rfl rfl rfl (fun w st => ⟨(hCf.rdk hiA).out w st, (hBf.rdk hiA).out w st, fun s h => (hH.rdk hiA s h).out w st, fun s h => (ownL_rdk hS rfl hiA h).out w st, (hEw.rdk hiA).out w st⟩) (fun v36 hv36 => ?_)
    subst hv36
    refine o_step rfl (s_pick_t rfl rfl) ?_
    refine o_step rfl (s_move rfl) ?_
    refine o_yes rfl rfl ?_
    refine o_step rfl (s_move rfl) ?_
    refine o_yes rfl rfl ?_
    refine o_step rfl (s_move rfl) ?_
    refine o_yes rfl rfl ?_
    refine o_callP (eqBytes_fn a25 ta (w.length + 64) tc w w) rfl rfl rfl (fun W st => ⟨(hT.rdk hiA).out W st, (RdK.old0 hw.2.2).out W st⟩) (fun v41 hv41 => ?_)
    rw [decide_eq_true rfl] at hv41
    subst hv41
    refine o_step rfl (s_pick_t rfl rfl) ?_
    refine o_step rfl (s_move rfl) ?_
    refine o_yes rfl rfl ?_
    refine o_step rfl (s_move rfl) ?_
    refine o_yes rfl rfl ?_
    refine o_callP (spareBytes_fn a25 (w.length + 64) w (by omega)) rfl rfl rfl (fun W st => (hS25.rdk hiA).out W st) (fun v45 hv45 => ?_)
    subst hv45
    refine o_step rfl (s_pick_t rfl rfl) ?_
    refine o_step rfl (s_assign rfl) ?_
    refine o_nil ?_
    refine x_then (hK9 _ _ ?_)
    refine c_seq fun _ hK10 => ?_
    refine c_seq fun _ hK11 => ?_
    refine c_region ?_
    refine o_step rfl (s_move rfl) ?_
    refine o_step rfl (s_not rfl) ?_
    refine o_step rfl (s_move rfl) ?_
    refine o_yes rfl rfl ?_
    refine o_step rfl (s_move rfl) ?_
    refine o_yes rfl rfl ?_
    refine o_step rfl (s_ldB rfl (RdPK.cels (.own meA)) lnA) ?_
    refine o_yes rfl rfl ?_
    refine o_callP (rShaped2_fn d aa ac na nc rows ea ec hx) rfl rfl rfl (fun w st => hw.1.old st) (fun v52 hv52 => ?_)
    subst hv52
    refine o_yes rfl rfl ?_
    refine o_step rfl (step_cast (v' := .bool false) (s_neq_bool rfl rfl) (congrArg Value.bool (decide_eq_false (fun h => h (sh_eq d))))) ?_
    refine o_step rfl (s_pick_f rfl rfl) ?_
    refine o_step rfl (s_move rfl) ?_
    refine o_yes rfl rfl ?_
    refine o_step rfl (s_move rfl) ?_
    refine o_yes rfl rfl ?_
    refine o_step rfl (s_ldB rfl (RdPK.cels (.own meA)) lnA) ?_
    refine o_yes rfl rfl ?_
    refine o_step rfl (s_move rfl) ?_
    refine o_yes rfl rfl ?_
    refine o_callP (rTakes2_fn d aa ac na nc rows ea ec hx ta tc w) rfl rfl rfl (fun W st => ⟨hw.1.old st, (RdK.old0 hw.2.2).out W st⟩) (fun v59 hv59 => ?_)
    subst hv59
    refine o_yes rfl rfl ?_
    refine o_step rfl (step_cast (v' := .bool false) (s_neq_bool rfl rfl) (congrArg Value.bool (decide_eq_false (fun h => h (takes_eq d w))))) ?_
    refine o_step rfl (s_pick_f rfl rfl) ?_
    refine o_step rfl (s_move rfl) ?_
    refine o_yes rfl rfl ?_
    refine o_step rfl (s_move rfl) ?_
    refine o_yes rfl rfl ?_
    refine o_step rfl (s_not rfl) ?_
    refine o_step rfl (s_pick_f rfl rfl) ?_
    refine o_nil ?_
    refine x_then (hK11 _ _ ?_)
    refine c_false rfl ?_
    refine c_skip ?_
    refine x_then (hK10 _ _ ?_)
    refine c_seq fun _ hK12 => ?_
    refine c_seq fun _ hK13 => ?_
    refine c_region ?_
    refine o_step rfl (s_assign rfl) ?_
    refine o_nil ?_
    refine x_then (hK13 _ _ ?_)
    refine c_block ?_
    refine c_loop3 (fun (i : Nat) (e : List Bool) (SE2 : Hp) => i ≤ d.ends.length ∧ e = flipT (!·) d.ends i ∧ OwnS Ebo 1 4 (.slice aE d.ends.length (d.ends.length + 64)) e SE2) (fun (i : Nat) (e : List Bool) (SE2 : Hp) => [(11, .int .i64 i)]) [(4, _), (6, _), (7, _)] (fun (i : Nat) (e : List Bool) (SE2 : Hp) => (b6, .cells [.slice aC d.atoms.length (d.atoms.length + 64), .slice aR hs.length (hs.length + 64), .slice aE d.ends.length (d.ends.length + 64)].toArray 26 (0, 0)) :: (S25 ++ (SE2 ++ (SC ++ (SB ++ (SH ++ SS)))))) (fun (i : Nat) (e : List Bool) (SE2 : Hp) => d.ends.length - i) 0 d.ends SE ⟨by omega, (flip_zero _ _).symm, hE⟩ sbA sbA hzB ?_
    rintro i e SE2 ⟨hi, he, hEf⟩
    have hel : e.length = d.ends.length := by rw [he, flip_len]
    have hse := hEf.sl
    have hle := hse.le
    rw [hel] at hse
    refine c_seq fun _ hK14 => ?_
    refine c_seq fun _ hK15 => ?_
    refine c_region ?_
    refine o_step rfl (s_move rfl) ?_
    refine o_step rfl (s_field rfl rfl (by decide)) ?_
    refine o_step rfl (s_ld rfl (.own meA rfl)) ?_
    refine o_step rfl (s_len rfl) ?_
    by_cases hlt : i < d.ends.length
    ·
     obtain ⟨b, hbi⟩ : ∃ b, d.ends[i]? = some b := ⟨_, List.getElem?_eq_getElem (by omega)⟩
     have hbe : e[i]? = some b := by rw [he]; exact flip_get hbi
     refine o_step rfl (step_cast (v' := .bool true) (s_lss rfl rfl) (congrArg Value.bool (decide_eq_true (by omega)))) ?_
     refine o_nil ?_
     refine x_then (hK15 _ _ ?_)
     refine c_true rfl ?_
     refine c_skip ?_
     refine x_then (hK14 _ _ ?_)
     refine c_seq fun _ hK16 => ?_
     refine c_block ?_
     refine c_drawE ((b6, .cells [.slice aC d.atoms.length (d.atoms.length + 64), .slice aR hs.length (hs.length + 64), .slice aE d.ends.length (d.ends.length + 64)].toArray 26 (0, 0)) :: SE2) (fun i => Nat.beq i 10) ?_
     refine e_pure 0 rfl (by kernel_rfl) (by kernel_rfl) (by kernel_rfl) rfl (s_field rfl rfl (by decide)) ?_
     refine e_take 1 rfl (by kernel_rfl) (by kernel_rfl) (by kernel_rfl) (by kernel_rfl) (fun _ _ => rfl) rfl hzB (s_ld rfl (.own meA rfl)) ?_
     refine e_pure 2 rfl (by kernel_rfl) (by kernel_rfl) (by kernel_rfl) rfl (s_move rfl) ?_
     refine e_pure 3 rfl (by kernel_rfl) (by kernel_rfl) (by kernel_rfl) rfl (s_field rfl rfl (by decide)) ?_
     refine e_take 4 rfl (by kernel_rfl) (by kernel_rfl) (by kernel_rfl) (by kernel_rfl) (fun _ _ => rfl) rfl hzB (s_ld rfl (.own meA rfl)) ?_
     refine e_pure 5 rfl (by kernel_rfl) (by kernel_rfl) (by kernel_rfl) rfl (s_move rfl) ?_
     refine e_pure 6 rfl (by kernel_rfl) (by kernel_rfl) (by kernel_rfl) rfl (s_idx rfl rfl hse (by omega)) ?_
     refine e_take 7 rfl (by kernel_rfl) (by kernel_rfl) (by kernel_rfl) (by kernel_rfl) (fun _ _ => rfl) rfl hzB (s_ld rfl ((hEf.rdk hiA).ld i 0 hbe rfl (by decide) (by omega))) ?_
     refine e_pure 8 rfl (by kernel_rfl) (by kernel_rfl) (by kernel_rfl) rfl (s_not rfl) ?_
     refine e_pure 9 rfl (by kernel_rfl) (by kernel_rfl) (by kernel_rfl) rfl (s_idx rfl rfl hse (by omega)) ?_
     refine e_one 10 rfl (by kernel_rfl) ?_
     refine o_stS1 i (!b) hEf pkA rfl rfl rfl (by omega) (by omega) fun S82 hS82 => ?_
     refine o_nil ?_
     refine x_oneL rfl ?_
     refine e_done (by kernel_rfl) ?_
     refine x_block ?_
     refine x_then (hK16 _ _ ?_)
     refine c_region ?_
     refine o_step rfl (s_move rfl) ?_
     refine o_step rfl (s_add rfl rfl (by omega)) ?_
     refine o_step rfl (s_assign rfl) ?_
     refine o_nil ?_
     exact x_then (x_inv (i + 1, _, _) ⟨by omega, by rw [he]; exact flip_set hbi, hS82⟩ (by first | omega | (dsimp only; omega)) sbA hzB)
    ·
     obtain rfl : i = d.ends.length := by omega
     rw [flip_all] at he
     subst he
     refine o_step rfl (step_cast (v' := .bool false) (s_lss rfl rfl) (congrArg Value.bool (decide_eq_false (by omega)))) ?_
     refine o_nil ?_
     refine x_then (hK15 _ _ ?_)
     refine c_false rfl ?_
     refine c_exit ?_
     refine x_then_exit ?_
     refine x_then_exit ?_
     refine x_block_exit ?_
     refine x_then (hK12 _ _ ?_)
     refine c_seq fun _ hK17 => ?_
     refine c_seq fun _ hK18 => ?_
     refine c_region ?_
     refine o_step rfl (s_assign rfl) ?_
     refine o_nil ?_
     refine x_then (hK18 _ _ ?_)
     refine c_block ?_
     refine c_loop3 (fun (i : Nat) (t : List UInt8) (ST2 : Hp) => i ≤ w.length ∧ t = flipT xo3 w i ∧ OwnS Eb 1 5 (.slice a25 w.length (w.length + 64)) t ST2) (fun (i : Nat) (t : List UInt8) (ST2 : Hp) => [(12, .int .i64 i)]) [(4, _), (6, _), (7, _)] (fun (i : Nat) (t : List UInt8) (ST2 : Hp) => (b6, .cells [.slice aC d.atoms.length (d.atoms.length + 64), .slice aR hs.length (hs.length + 64), .slice aE d.ends.length (d.ends.length + 64)].toArray 26 (0, 0)) :: (ST2 ++ (SE2 ++ (SC ++ (SB ++ (SH ++ SS)))))) (fun (i : Nat) (t : List UInt8) (ST2 : Hp) => w.length - i) 0 w S25 ⟨by omega, (flip_zero _ _).symm, hT⟩ sbA sbA hzB ?_
     rintro i t ST2 ⟨hi, ht, hTf⟩
     have htl : t.length = w.length := by rw [ht, flip_len]
     have hsx := hTf.sl
     rw [htl] at hsx
     refine c_seq fun _ hK19 => ?_
     refine c_seq fun _ hK20 => ?_
     refine c_region ?_
     refine o_step rfl (s_move rfl) ?_
     refine o_step rfl (s_move rfl) ?_
     refine o_step rfl (s_len rfl) ?_
     by_cases hlt : i < w.length
     ·
      obtain ⟨u, hui⟩ : ∃ u, w[i]? = some u := ⟨_, List.getElem?_eq_getElem (by omega)⟩
      have hut : t[i]? = some u := by rw [ht]; exact flip_get hui
      refine o_step rfl (step_cast (v' := .bool true) (s_lss rfl rfl) (congrArg Value.bool (decide_eq_true (by omega)))) ?_
      refine o_nil ?_
      refine x_then (hK20 _ _ ?_)
      refine c_true rfl ?_
      refine c_skip ?_
      refine x_then (hK19 _ _ ?_)
      refine c_seq fun _ hK21 => ?_
      refine c_block ?_
      refine c_region ?_
      refine o_step rfl (s_move rfl) ?_
      refine o_step rfl (s_move rfl) ?_
      refine o_step rfl (s_move rfl) ?_
      refine o_step rfl (s_move rfl) ?_
      refine o_step rfl (s_idx rfl rfl hsx (by omega)) ?_
      refine o_step rfl (s_ld rfl ((hTf.rdk hiA).ld i 0 hut rfl (by decide) (by omega))) ?_
      refine o_step rfl (step_cast (v' := .int .u8 (xo3 u).toNat) (s_xor rfl rfl) (by rw [xo3, ← wrap_u8]; rfl)) ?_
      refine o_step rfl (s_idx rfl rfl hsx (by omega)) ?_
      refine o_stS1 i (xo3 u) hTf pkA rfl rfl rfl (by omega) (by omega) fun S96 hS96 => ?_
      refine o_nil ?_
      refine x_block ?_
      refine x_then (hK21 _ _ ?_)
      refine c_region ?_
      refine o_step rfl (s_move rfl) ?_
      refine o_step rfl (s_add rfl rfl (by omega)) ?_
      refine o_step rfl (s_assign rfl) ?_
      refine o_nil ?_
      exact x_then (x_inv (i + 1, _, _) ⟨by omega, by rw [ht]; exact flip_set hui, hS96⟩ (by first | omega | (dsimp only; omega)) sbA hzB)
     ·
      obtain rfl : i = w.length := by omega
      rw [flip_all] at ht
      subst ht
      obtain ⟨d2, hd2⟩ : ∃ x, x = (⟨d.next, d.ends.map (!·), d.atoms⟩ : Df) := ⟨_, rfl⟩
      have hd2n : d2.next = d.next := by rw [hd2]
      have hd2a : d2.atoms = d.atoms := by rw [hd2]
      have hd2e : d2.ends = d.ends.map (!·) := by rw [hd2]
      have hd2l : d2.ends.length = d.ends.length := by rw [hd2e, List.length_map]
      rw [← hd2n] at hx2
      rw [← hd2a] at hC
      rw [← hd2e, ← hd2l] at hEf
      have hz3 : Sml d2 hs := ⟨by rw [hd2a]; exact hz2.at_, hz2.nx, by rw [hd2l]; exact hz2.en, hz2.rw_⟩
      rw [show w.length = (w.map xo3).length by simp] at hTf
      rw [show d.atoms.length = d2.atoms.length by rw [hd2a], ← hd2l, show w.length = (w.map xo3).length by simp]
      refine o_step rfl (step_cast (v' := .bool false) (s_lss rfl rfl) (congrArg Value.bool (decide_eq_false (by omega)))) ?_
      refine o_nil ?_
      refine x_then (hK20 _ _ ?_)
      refine c_false rfl ?_
      refine c_exit ?_
      refine x_then_exit ?_
      refine x_then_exit ?_
      refine x_block_exit ?_
      refine x_then (hK17 _ _ ?_)
      refine c_seq fun _ hK22 => ?_
      refine c_region ?_
      refine o_step rfl (s_ldB rfl (RdPK.cels (.own meA)) lnA) ?_
      refine o_call (copyDfaP_fn d2 aC (d2.atoms.length + 64) aR (hs.length + 64) hs aE (d2.ends.length + 64) hx2 hz3) rfl rfl rfl (by exact .nil) (fun w st => WdD.rdD (d := d2) hC hB hH hEf hiA hiA hiA hiA st) (fun v98 S98 hY => ?_)
      obtain ⟨na3, nc3, rows3, ea3, ec3, aa3, ac3, Sn3, Sq3, Se3, Sa3, rfl, rfl, hR3, hQ3, hx3, hE3, hA3⟩ := hY
      refine o_alloc rfl rfl fun b13 => ?_
      refine o_stW rfl rfl upA lnA lnA onA ?_
      refine o_nil ?_
      refine x_then (hK22 _ _ ?_)
      refine c_seq fun _ hK23 => ?_
      refine c_drawE ([(b6, .cells [.slice aC d2.atoms.length (d2.atoms.length + 64), .slice aR hs.length (hs.length + 64), .slice aE d2.ends.length (d2.ends.length + 64)].toArray 26 (0, 0)), (b13, .cells [.slice aa3 d2.atoms.length ac3, .slice na3 rows3.length nc3, .slice ea3 d2.ends.length ec3].toArray 26 (0, 0))]) (fun i => false) ?_
      refine e_take 0 rfl (by kernel_rfl) (by kernel_rfl) (by kernel_rfl) (by kernel_rfl) (fun _ _ => rfl) rfl hzB (s_ldB rfl (RdPK.cels (.own meA)) lnA) ?_
      refine e_pure 1 rfl (by kernel_rfl) (by kernel_rfl) (by kernel_rfl) rfl (s_move rfl) ?_
      refine e_take 3 rfl (by kernel_rfl) (by kernel_rfl) (by kernel_rfl) (by kernel_rfl) (fun _ _ => rfl) rfl hzB (s_ldB rfl (RdPK.cels (.own meA)) lnA) ?_
      refine e_pure 4 rfl (by kernel_rfl) (by kernel_rfl) (by kernel_rfl) rfl (s_move rfl) ?_
      refine e_one 2 rfl (by kernel_rfl) ?_
      refine o_callP (takes2_fn d2 aC (d2.atoms.length + 64) aR (hs.length + 64) hs aE (d2.ends.length + 64) hx2 a25 ((w.map xo3).length + 64) (w.map xo3)) rfl rfl rfl (fun W st => ⟨WdD.rdD (d := d2) hC hB hH hEf hiA hiA hiA hiA st, tb_of hw.2.1 st HSub.nil, (hTf.rdk hiA).out W st⟩) (fun v101 hv101 => ?_)
      subst hv101
      refine o_nil ?_
      refine x_oneS hzB ?_
      refine e_one 5 rfl (by kernel_rfl) ?_
      refine o_call (copyBytes_fn a25 ((w.map xo3).length + 64) (w.map xo3) (by simp; omega)) rfl rfl rfl (by exact .nil) (fun W st => (hTf.rdk hiA).out W st) (fun v104 S104 ⟨a104, c104, hv104, hS104⟩ => ?_)
      subst hv104
      refine o_nil ?_
      refine x_oneS hzB ?_
      refine e_one 6 rfl (by kernel_rfl) ?_
      refine o_callP (rTakes2_fn d2 aa3 ac3 na3 nc3 rows3 ea3 ec3 hx3 a104 c104 (w.map xo3)) rfl rfl rfl (fun W st => ⟨DfO.rdD hR3 hQ3 hx3 hE3 hA3 hiA hiA hiA hiA st, (hS104.rdk hiA).out W st⟩) (fun v105 hv105 => ?_)
      subst hv105
      refine o_nil ?_
      refine x_oneS hzB ?_
      refine e_pure 7 rfl (by kernel_rfl) (by kernel_rfl) (by kernel_rfl) rfl (step_cast (v' := .bool true) (s_eql_bool rfl rfl) (congrArg Value.bool (decide_eq_true (takes_eq d2 (w.map xo3))))) ?_
      refine e_pure 8 rfl (by kernel_rfl) (by kernel_rfl) (by kernel_rfl) rfl (s_move rfl) ?_
      refine e_take 9 rfl (by kernel_rfl) (by kernel_rfl) (by kernel_rfl) (by kernel_rfl) (fun _ fr => by rw [wanted_of fr rfl rfl rfl]; rfl) rfl hzB (s_ldB rfl (RdPK.cels (.own meA)) lnA) ?_
      refine e_take 11 rfl (by kernel_rfl) (by kernel_rfl) (by kernel_rfl) (by kernel_rfl) (fun _ fr => by rw [wanted_of fr rfl rfl rfl]; rfl) rfl hzB (s_ldB rfl (RdPK.cels (.own meA)) lnA) ?_
      refine e_one 10 rfl (by kernel_rfl) ?_
      refine o_yes rfl rfl ?_
      refine o_callP (shaped2_fn d2 aC (d2.atoms.length + 64) aR (hs.length + 64) hs aE (d2.ends.length + 64) hx2) rfl rfl rfl (fun w st => ⟨WdD.rdD (d := d2) hC hB hH hEf hiA hiA hiA hiA st, tb_of hw.2.1 st HSub.nil⟩) (fun v109 hv109 => ?_)
      subst hv109
      refine o_nil ?_
      refine x_oneS hzB ?_
      refine e_one 12 rfl (by kernel_rfl) ?_
      refine o_yes rfl rfl ?_
      refine o_callP (rShaped2_fn d2 aa3 ac3 na3 nc3 rows3 ea3 ec3 hx3) rfl rfl rfl (fun W st => DfO.rdD hR3 hQ3 hx3 hE3 hA3 hiA hiA hiA hiA st) (fun v111 hv111 => ?_)
      subst hv111
      refine o_nil ?_
      refine x_oneS hzB ?_
      refine e_take 13 rfl (by kernel_rfl) (by kernel_rfl) (by kernel_rfl) (by kernel_rfl) (fun _ fr => by rw [wanted_of fr rfl rfl rfl]; rfl) rfl hzB (step_cast (v' := .bool true) (s_eql_bool rfl rfl) (congrArg Value.bool (decide_eq_true (sh_eq d2)))) ?_
      refine e_pure 14 rfl (by kernel_rfl) (by kernel_rfl) (by kernel_rfl) rfl (s_pick_t rfl rfl) ?_
      refine e_pure 15 rfl (by kernel_rfl) (by kernel_rfl) (by kernel_rfl) rfl (s_assign rfl) ?_
      refine e_done (by kernel_rfl) ?_
      refine x_then (hK23 _ _ ?_)
      refine c_ret ?_
      refine ?_
      exact x_ret rfl (.tmp rfl (.nil)) (rfl)
   ·
    refine o_step rfl (s_pick_f rfl rfl) ?_
    refine o_nil ?_
    refine x_then (hK3 _ _ ?_)
    refine c_true rfl ?_
    refine c_seq fun _ hK24 => ?_
    refine c_region ?_
    refine o_step rfl (s_assign rfl) ?_
    refine o_nil ?_
    refine x_then (hK24 _ _ ?_)
    refine c_ret ?_
    refine x_then_ret (?_)
    exact x_ret rfl (.tmp rfl (.nil)) (rfl)
  ·
   refine o_step rfl (s_move rfl) ?_
   refine o_no rfl rfl rfl rfl ?_
   refine o_no rfl rfl rfl rfl ?_
   refine o_no rfl rfl rfl rfl ?_
   refine o_step rfl (s_pick_t rfl rfl) ?_
   refine o_nil ?_
   refine x_then (hK3 _ _ ?_)
   refine c_true rfl ?_
   refine c_seq fun _ hK25 => ?_
   refine c_region ?_
   refine o_step rfl (s_assign rfl) ?_
   refine o_nil ?_
   refine x_then (hK25 _ _ ?_)
   refine c_ret ?_
   refine x_then_ret (?_)
   exact x_ret rfl (.tmp rfl (.nil)) (rfl)
theorem own : ownKnob Tryd.prog.godebug = none := by kernel_rfl
theorem laidOut : laidOutB Tryd.prog = true := by kernel_rfl
/-- the door's own heap meets the condition -/
theorem door_met (os : Os) (args : Array Value) : laidMetH Tryd.prog [("math/bits.deBruijn64tab", Rows.laid_math_bits_deBruijn64tab)] ((World.doorLaid Tryd.prog 400 os).forCall (fun _ _ => 0) ⟨#[], args, []⟩).memory :=
  laidMetH_of_parts3 (fuel := 8) (laidMet_of_run' 8 (by kernel_rfl) (by kernel_rfl)) (by kernel_rfl) (by kernel_rfl)
theorem tab_eq : Rows.laid_math_bits_deBruijn64tab = Lib.tabData (H := Unit) .u8 (Lib.deBruijn64tab.map fun n : Nat => (n : Int)) := rfl
theorem tb_laid {W : World} (h : laidMetH Tryd.prog [("math/bits.deBruijn64tab", Rows.laid_math_bits_deBruijn64tab)] W) : Tb [] W := by
  rw [MakeChecks.laidMetH_plain _ _ _ (by kernel_rfl)] at h
  rw [tab_eq] at h
  have ht := Lib.tabIs_of_head (g := 0) (t := 139) (e := 5) (n := 64) (by kernel_rfl) (by kernel_rfl) (by kernel_rfl) (by kernel_rfl) (by kernel_rfl) (by kernel_rfl) h
  have h1 := rdp_of_tab (g := 0) (by kernel_rfl) ht
  rw [List.map_map] at h1
  exact ⟨h1, fun hm => by cases hm⟩
/-- a machine as it comes in -/
structure DfV where
  a : Sl Kl.Cl
  n : Sl (Sl Int)
  e : Sl Bool
def EDf (x : DfV) : List Value := [x.a.v, x.n.v, x.e.v]
def DfV.d (x : DfV) : Df := ⟨x.n.xs.map Sl.xs, x.e.xs, x.a.xs⟩
def DfV.ok (w : World) (x : DfV) : Prop := RdD x.d x.a.a x.a.c x.n.a x.n.c x.n.xs x.e.a x.e.c w
theorem open_df : Opens Tryd.prog 26 EDf DfV.ok :=
  open_struct3 Tryd.underlying26 rfl (by kernel_rfl) (by kernel_rfl) (by kernel_rfl) (open_slice' (E := Ec) Tryd.underlying22 (by kernel_rfl) (by decide) (of_decide_eq_true (by kernel_rfl)) (Mc.open_cl Tryd.underlying54 Tryd.underlying52 (by kernel_rfl) (by kernel_rfl)))
    (open_slice' (E := Esl) Tryd.underlying23 (by kernel_rfl) (by decide) (of_decide_eq_true (by kernel_rfl)) (open_slice' (E := Ei) Tryd.underlying46 (by kernel_rfl) (by decide) (of_decide_eq_true (by kernel_rfl)) (open_i64 Tryd.underlying3)))
    (open_slice' (E := Ebo) Tryd.underlying24 (by kernel_rfl) (by decide) (of_decide_eq_true (by kernel_rfl)) (open_bool' Tryd.underlying4)) fun w a n e ha hn he => ⟨⟨a, n, e⟩, rfl, ⟨ha.1, hn.1, fun s hs => (hn.2.1 s hs).1, he.1⟩⟩
end Go.Proofs.YtmompllplidphaaDoor
