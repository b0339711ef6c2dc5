/- Part of the proofs over this seat: see the text that holds the theorem. Conditions: each theorem bears its own. -/
import Derived.Test.YtmompllplidphaaDoorSW21Z
import Derived.Test.YtmompllplidphaaDoorHDZ
import Derived.Test.YtmompllplidphaaDoorSM5Z
import Derived.Test.YtmompllplidphaaDoorMT8Z
import Derived.Test.YtmompllplidphaaDoorHlB
import Derived.Test.YtmompllplidphaaDoorSW10Z
import Derived.Test.YtmompllplidphaaDoorRows
import Derived.ProofKit
import Derived.LaidMore
import Derived.Stop.Joined
import Derived.Lib.LaidTab
namespace Go.Proofs.YtmompllplidphaaDoor
open Go Go.HL Go.Proofs Go.HL.Kl Go.HL.Kl.Mc Go.HL.Sts
set_option maxHeartbeats 4000000 in
theorem statesLeast_fn (ra : Option Addr) (rc : Nat) (re : List Nd) (hre : ∀ x ∈ re, -128 ≤ x.op ∧ x.op < 128) : HL.Fn Tryd.prog 5 [.slice ra re.length rc] (fun W => Rd En W (.slice ra re.length rc) re ∧ Tb [] W) [] (fun v _ => v = .bool true) := by
  refine fn_of Tryd.func5 rfl rfl rfl fun w0 hw => ?_
  refine c_seq fun _ hK1 => ?_
  refine c_region ?_
  refine o_step rfl (s_assign rfl) ?_
  refine o_nil ?_
  refine x_then (hK1 _ _ ?_)
  refine c_seq fun _ hK2 => ?_
  refine c_seq fun _ hK3 => ?_
  refine c_region ?_
  refine o_step rfl (s_move rfl) ?_
  refine o_callP (longRe_fn ra rc re hre) rfl rfl rfl (fun w st => (RdK.old0 hw.1).out w st) (fun v17 ⟨b17, hv17⟩ => ?_)
  subst hv17
  cases b17
  ·
   refine o_nil ?_
   refine x_then (hK3 _ _ ?_)
   refine c_false rfl ?_
   refine c_skip ?_
   refine x_then (hK2 _ _ ?_)
   refine c_seq fun _ hK4 => ?_
   refine c_region ?_
   refine o_callP (lives_fn) rfl rfl rfl (fun w st => tb_of hw.2 st HSub.nil) (fun v18 hv18 => ?_)
   subst hv18
   refine o_step rfl (s_assign rfl) ?_
   refine o_nil ?_
   refine x_then (hK4 _ _ ?_)
   refine c_seq fun _ hK5 => ?_
   refine c_region ?_
   refine o_step rfl (s_move rfl) ?_
   refine o_call (make_fn ra rc re hre) rfl rfl rfl (by exact .nil) (fun w st => ⟨(RdK.old0 hw.1).out w st, tb_of hw.2 st HSub.nil⟩) (fun v21 S21 hM => ?_)
   rcases hM with ⟨he, hv⟩ | ⟨hd, hv, ho⟩
   ·
    subst hv
    have hne := mkErr_ne he
    refine o_step rfl (s_move rfl) ?_
    refine o_step rfl (s_extract rfl rfl) ?_
    refine o_step rfl (s_extract rfl rfl) ?_
    refine o_alloc rfl rfl fun b4 => ?_
    refine o_stW rfl rfl upA lnA lnA onA ?_
    refine o_step rfl (s_assign rfl) ?_
    refine o_nil ?_
    refine x_then (hK5 _ _ ?_)
    refine c_seq fun _ hK6 => ?_
    refine c_seq fun _ hK7 => ?_
    refine c_region ?_
    refine o_step rfl (s_move rfl) ?_
    refine o_step rfl (s_not rfl) ?_
    refine o_step rfl (s_move rfl) ?_
    refine o_yes rfl rfl ?_
    refine o_step rfl (s_move rfl) ?_
    refine o_yes rfl rfl ?_
    refine o_step rfl (step_cast (v' := .bool true) (s_neq rfl rfl) (congrArg Value.bool (decide_eq_true hne))) ?_
    refine o_step rfl (s_pick_f rfl rfl) ?_
    refine o_nil ?_
    refine x_then (hK7 _ _ ?_)
    refine c_true rfl ?_
    refine c_seq fun _ hK8 => ?_
    refine c_region ?_
    refine o_step rfl (s_move rfl) ?_
    refine o_step rfl (s_assign rfl) ?_
    refine o_nil ?_
    refine x_then (hK8 _ _ ?_)
    refine c_ret ?_
    refine x_then_ret (?_)
    exact x_ret rfl (.tmp rfl (.nil)) (rfl)
   ·
    rename_i d dv
    obtain ⟨na1, nc1, rows1, ea1, ec1, aa1, ac1, Sn1, Sq1, Se1, Sa1, rfl, rfl, hR1, hQ1, hx1, hE1, hA1⟩ := ho
    subst hv
    obtain ⟨nd, ks, lv, m, hSp, hrf, hwt, hat, hMk, hlm, hSh⟩ := mk_ok hd
    obtain ⟨w_, hw_⟩ : ∃ w, w = wdM re nd ks := ⟨_, rfl⟩
    rw [← hw_] at hMk hlm
    obtain ⟨hl1, hl2, hl3, hl4⟩ := hMk.len
    have hrl : rows1.length = d.ends.length := by rw [hl2, ← hl1, hx1, List.length_map]
    have hsR := hR1.sl
    have hat6 := hSh.sz.2.2.2.2
    refine o_step rfl (s_move rfl) ?_
    refine o_step rfl (s_extract rfl rfl) ?_
    refine o_step rfl (s_extract rfl rfl) ?_
    refine o_alloc rfl rfl fun b4 => ?_
    refine o_stW rfl rfl upA lnA lnA onA ?_
    refine o_step rfl (s_assign rfl) ?_
    refine o_nil ?_
    refine x_then (hK5 _ _ ?_)
    refine c_seq fun _ hK9 => ?_
    refine c_seq fun _ hK10 => ?_
    refine c_region ?_
    refine o_step rfl (s_move rfl) ?_
    refine o_step rfl (s_not rfl) ?_
    refine o_step rfl (s_move rfl) ?_
    refine o_yes rfl rfl ?_
    refine o_step rfl (s_move rfl) ?_
    refine o_yes rfl rfl ?_
    refine o_step rfl (step_cast (v' := .bool false) (s_neq rfl rfl) rfl) ?_
    refine o_step rfl (s_pick_f rfl rfl) ?_
    refine o_nil ?_
    refine x_then (hK10 _ _ ?_)
    refine c_false rfl ?_
    refine c_skip ?_
    refine x_then (hK9 _ _ ?_)
    refine c_seq fun _ hK11 => ?_
    refine c_seq fun _ hK12 => ?_
    refine c_region ?_
    refine o_step rfl (s_ldB rfl (RdPK.cels (.own meA)) lnA) ?_
    refine o_callP (shaped2_fn d aa1 ac1 na1 nc1 rows1 ea1 ec1 hx1) rfl rfl rfl (fun w st => ⟨DfO.rdD hR1 hQ1 hx1 hE1 hA1 hiA hiA hiA hiA st, tb_of hw.2 st HSub.nil⟩) (fun v32 hv32 => ?_)
    rw [shP_iff.2 hSh] at hv32
    subst hv32
    refine o_step rfl (s_not rfl) ?_
    refine o_nil ?_
    refine x_then (hK12 _ _ ?_)
    refine c_false rfl ?_
    refine c_skip ?_
    refine x_then (hK11 _ _ ?_)
    refine c_seq fun _ hK13 => ?_
    refine c_region ?_
    refine o_step rfl (s_field rfl rfl (by decide)) ?_
    refine o_step rfl (s_ld rfl (.own meA rfl)) ?_
    refine o_step rfl (s_len rfl) ?_
    refine o_step rfl (s_assign rfl) ?_
    refine o_nil ?_
    refine x_then (hK13 _ _ ?_)
    refine c_seq fun _ hK14 => ?_
    refine c_region ?_
    refine o_step rfl (s_assign rfl) ?_
    refine o_nil ?_
    refine x_then (hK14 _ _ ?_)
    refine c_seq fun _ hK15 => ?_
    refine c_seq fun _ hK16 => ?_
    refine c_region ?_
    refine o_step rfl (s_assign rfl) ?_
    refine o_nil ?_
    refine x_then (hK16 _ _ ?_)
    refine c_block ?_
    -- not carried: 2
    refine c_loop3 (fun (q : Nat) (mi : Lm) (c : Nat) => q ≤ d.ends.length ∧ LmT w_ (partsM w_.next w_.ends d.atoms.length) lv d.atoms.length q mi m ∧ c = mi.met.length) (fun (q : Nat) (mi : Lm) (c : Nat) => [(8, .int .i64 q), (7, .int .i64 c)]) [(4, _), (6, _)] (fun (q : Nat) (mi : Lm) (c : Nat) => (b4, .cells [.slice aa1 d.atoms.length ac1, .slice na1 rows1.length nc1, .slice ea1 d.ends.length ec1].toArray 26 (0, 0)) :: (Sn1 ++ (Sq1 ++ (Se1 ++ Sa1)))) (fun (q : Nat) (mi : Lm) (c : Nat) => d.ends.length - q) 0 ⟨[0], [], []⟩ 1 ⟨by omega, hMk.trace hlm, rfl⟩ sbA sbA hzB ?_
    rintro q mi c ⟨hq, hT, hc⟩
    refine c_seq fun _ hK17 => ?_
    refine c_seq fun _ hK18 => ?_
    refine c_region ?_
    refine o_step rfl (s_move rfl) ?_
    refine o_step rfl (s_move rfl) ?_
    by_cases hlt : q < d.ends.length
    ·
     obtain ⟨s, row, hqm, hms, hwr, hrK, hrlv, hnq, hT2, hme⟩ := hT.step hMk.hw hMk.hl.1 (by omega)
     obtain ⟨x, hs⟩ : ∃ s, rows1[q]? = some s := ⟨_, List.getElem?_eq_getElem (by omega)⟩
     have hsm := List.mem_of_getElem? hs
     have hsx := ownL_sl hQ1 hx1 hsm
     have hrow : d.next[q]? = some x.xs := by rw [hx1, List.getElem?_map, hs]; rfl
     have hxr := hSh.rows x.xs (List.mem_of_getElem? hrow)
     have hxk := hxr.1
     have hxe : x.xs = (lrowT (partsM w_.next w_.ends d.atoms.length) lv row mi.met).1 := by have h5 := hnq; rw [← hMk.nx, hrow] at h5; exact Option.some.inj h5
     refine o_step rfl (step_cast (v' := .bool true) (s_lss rfl rfl) (congrArg Value.bool (decide_eq_true (by omega)))) ?_
     refine o_nil ?_
     refine x_then (hK18 _ _ ?_)
     refine c_true rfl ?_
     refine c_skip ?_
     refine x_then (hK17 _ _ ?_)
     refine c_seq fun _ hK19 => ?_
     refine c_block ?_
     refine c_seq fun _ hK20 => ?_
     refine c_region ?_
     refine o_step rfl (s_assign rfl) ?_
     refine o_nil ?_
     refine x_then (hK20 _ _ ?_)
     refine c_block ?_
     refine c_loop2 (fun (k : Nat) (c : Nat) => k ≤ d.atoms.length ∧ c = (lrowT (partsM w_.next w_.ends d.atoms.length) lv (row.take k) mi.met).2.length) (fun (k : Nat) (c : Nat) => [(9, .int .i64 k), (7, .int .i64 c)]) [(4, _), (6, _), (8, _), (37, _), (38, _), (39, _)] (fun (k : Nat) (c : Nat) => (b4, .cells [.slice aa1 d.atoms.length ac1, .slice na1 rows1.length nc1, .slice ea1 d.ends.length ec1].toArray 26 (0, 0)) :: (Sn1 ++ (Sq1 ++ (Se1 ++ Sa1)))) (fun (k : Nat) (c : Nat) => d.atoms.length - k) 0 c ⟨by omega, hc⟩ sbA sbA hzB ?_
     rintro k c ⟨hk, hc⟩
     have hcm := lrowT_mono (partsM w_.next w_.ends d.atoms.length) lv (row.take k) mi.met
     rw [← hc, take_len (by omega)] at hcm
     refine c_seq fun _ hK21 => ?_
     refine c_seq fun _ hK22 => ?_
     refine c_region ?_
     refine o_step rfl (s_move rfl) ?_
     refine o_step rfl (s_field rfl rfl (by decide)) ?_
     refine o_step rfl (s_ld rfl (.own meA rfl)) ?_
     refine o_step rfl (s_move rfl) ?_
     refine o_step rfl (s_idx rfl rfl hsR (by omega)) ?_
     refine o_step rfl (s_ld rfl ((hR1.rdk hiA).ld q 0 hs rfl (by decide) (by omega))) ?_
     refine o_step rfl (s_len rfl) ?_
     by_cases hlt : k < x.xs.length
     ·
      obtain ⟨v, hv⟩ : ∃ v, x.xs[k]? = some v := ⟨_, List.getElem?_eq_getElem (by omega)⟩
      have hvb := hxr.2 v (List.mem_of_getElem? hv)
      obtain ⟨to, hto⟩ : ∃ t, row[k]? = some t := ⟨_, List.getElem?_eq_getElem (by omega)⟩
      have hns := num_step (P := (partsM w_.next w_.ends d.atoms.length)) hrlv hT.1.nd hto (by rw [← hxe]; exact hv)
      have hvle := hns.1
      rw [← hc] at hvle
      refine o_step rfl (step_cast (v' := .bool true) (s_lss rfl rfl) (congrArg Value.bool (decide_eq_true (by omega)))) ?_
      refine o_nil ?_
      refine x_then (hK22 _ _ ?_)
      refine c_true rfl ?_
      refine c_skip ?_
      refine x_then (hK21 _ _ ?_)
      refine c_seq fun _ hK23 => ?_
      refine c_block ?_
      refine c_seq fun _ hK24 => ?_
      refine c_region ?_
      refine o_step rfl (s_field rfl rfl (by decide)) ?_
      refine o_step rfl (s_ld rfl (.own meA rfl)) ?_
      refine o_step rfl (s_move rfl) ?_
      refine o_step rfl (s_idx rfl rfl hsR (by omega)) ?_
      refine o_step rfl (s_ld rfl ((hR1.rdk hiA).ld q 0 hs rfl (by decide) (by omega))) ?_
      refine o_step rfl (s_move rfl) ?_
      refine o_step rfl (s_idx rfl rfl hsx (by omega)) ?_
      refine o_step rfl (s_ld rfl ((ownL_rdk hQ1 hx1 hiA hsm).ld k 0 hv rfl (by decide) (by simp only [Sl.v]; omega))) ?_
      refine o_step rfl (s_assign rfl) ?_
      refine o_nil ?_
      refine x_then (hK24 _ _ ?_)
      refine c_seq fun _ hK25 => ?_
      refine c_seq fun _ hK26 => ?_
      refine c_region ?_
      refine o_step rfl (s_move rfl) ?_
      refine o_step rfl (s_move rfl) ?_
      by_cases hgt : v > (c : Int)
      ·
       omega
      ·
       refine o_step rfl (step_cast (v' := .bool false) (s_gtr rfl rfl) (congrArg Value.bool (decide_eq_false hgt))) ?_
       refine o_step rfl (s_move rfl) ?_
       refine o_yes rfl rfl ?_
       refine o_step rfl (s_move rfl) ?_
       refine o_yes rfl rfl ?_
       refine o_step rfl (s_move rfl) ?_
       refine o_yes rfl rfl ?_
       by_cases hge : (q : Int) ≥ c
       ·
        omega
       ·
        refine o_step rfl (step_cast (v' := .bool false) (s_geq rfl rfl) (congrArg Value.bool (decide_eq_false hge))) ?_
        refine o_step rfl (s_pick_f rfl rfl) ?_
        refine o_nil ?_
        refine x_then (hK26 _ _ ?_)
        refine c_false rfl ?_
        refine c_skip ?_
        refine x_then (hK25 _ _ ?_)
        refine c_seq fun _ hK27 => ?_
        refine c_region ?_
        refine o_step rfl (s_move rfl) ?_
        refine o_step rfl (s_move rfl) ?_
        by_cases hvc : v = (c : Int)
        ·
         refine o_step rfl (step_cast (v' := .bool true) (s_eql rfl rfl) (congrArg Value.bool (decide_eq_true hvc))) ?_
         refine o_nil ?_
         refine x_then (hK27 _ _ ?_)
         refine c_true rfl ?_
         refine c_region ?_
         refine o_step rfl (s_move rfl) ?_
         refine o_step rfl (s_add rfl rfl (by omega)) ?_
         refine o_step rfl (s_assign rfl) ?_
         refine o_nil ?_
         refine x_block ?_
         refine x_then (hK23 _ _ ?_)
         refine c_region ?_
         refine o_step rfl (s_move rfl) ?_
         refine o_step rfl (s_add rfl rfl (by omega)) ?_
         refine o_step rfl (s_assign rfl) ?_
         refine o_nil ?_
         exact x_then (x_inv (k + 1, c + 1) ⟨by omega, by rw [hns.2, ← hc, if_pos hvc]⟩ (by first | omega | (dsimp only; omega)) sbA hzB)
        ·
         refine o_step rfl (step_cast (v' := .bool false) (s_eql rfl rfl) (congrArg Value.bool (decide_eq_false hvc))) ?_
         refine o_nil ?_
         refine x_then (hK27 _ _ ?_)
         refine c_false rfl ?_
         refine c_skip ?_
         refine x_block ?_
         refine x_then (hK23 _ _ ?_)
         refine c_region ?_
         refine o_step rfl (s_move rfl) ?_
         refine o_step rfl (s_add rfl rfl (by omega)) ?_
         refine o_step rfl (s_assign rfl) ?_
         refine o_nil ?_
         exact x_then (x_inv (k + 1, c) ⟨by omega, by rw [hns.2, ← hc, if_neg hvc]⟩ (by first | omega | (dsimp only; omega)) sbA hzB)
     ·
      rw [List.take_of_length_le (by omega)] at hc
      refine o_step rfl (step_cast (v' := .bool false) (s_lss rfl rfl) (congrArg Value.bool (decide_eq_false (by omega)))) ?_
      refine o_nil ?_
      refine x_then (hK22 _ _ ?_)
      refine c_false rfl ?_
      refine c_exit ?_
      refine x_then_exit ?_
      refine x_then_exit ?_
      refine x_block_exit ?_
      refine x_block ?_
      refine x_then (hK19 _ _ ?_)
      refine c_region ?_
      refine o_step rfl (s_move rfl) ?_
      refine o_step rfl (s_add rfl rfl (by omega)) ?_
      refine o_step rfl (s_assign rfl) ?_
      refine o_nil ?_
      exact x_then (x_inv (q + 1, lmStep w_ (partsM w_.next w_.ends d.atoms.length) lv q mi, c) ⟨by omega, hT2, by rw [hme]; exact hc⟩ (by first | omega | (dsimp only; omega)) sbA hzB)
    ·
     have hmi := hT.fin (by omega)
     subst hmi
     refine o_step rfl (step_cast (v' := .bool false) (s_lss rfl rfl) (congrArg Value.bool (decide_eq_false (by omega)))) ?_
     refine o_nil ?_
     refine x_then (hK18 _ _ ?_)
     refine c_false rfl ?_
     refine c_exit ?_
     refine x_then_exit ?_
     refine x_then_exit ?_
     refine x_block_exit ?_
     refine x_then (hK15 _ _ ?_)
     refine c_seq fun _ hK28 => ?_
     refine c_seq fun _ hK29 => ?_
     refine c_region ?_
     refine o_step rfl (s_move rfl) ?_
     refine o_step rfl (s_move rfl) ?_
     refine o_step rfl (step_cast (v' := .bool false) (s_neq rfl rfl) (congrArg Value.bool (decide_eq_false (by omega)))) ?_
     refine o_nil ?_
     refine x_then (hK29 _ _ ?_)
     refine c_false rfl ?_
     refine c_skip ?_
     refine x_then (hK28 _ _ ?_)
     refine c_seq fun _ hK30 => ?_
     refine c_region ?_
     refine o_step rfl (s_field rfl rfl (by decide)) ?_
     refine o_step rfl (s_ld rfl (.own meA rfl)) ?_
     refine o_call (copyB_fn ea1 ec1 d.ends (by omega)) rfl rfl rfl (by exact .nil) (fun w st => (hE1.rdk hiA).out w st) (fun v78 S78 ⟨a78, c78, hv78, hS78⟩ => ?_)
     subst hv78
     refine o_step rfl (s_assign rfl) ?_
     refine o_nil ?_
     refine x_then (hK30 _ _ ?_)
     refine c_seq fun _ hK31 => ?_
     refine c_seq fun _ hK32 => ?_
     refine c_region ?_
     refine o_step rfl (s_assign rfl) ?_
     refine o_nil ?_
     refine x_then (hK32 _ _ ?_)
     refine c_block ?_
     refine c_loop3 (fun (i : Nat) (L : List Bool) (SL : Hp) => i ≤ d.ends.length ∧ L.length = d.ends.length ∧ (∀ q : Nat, d.ends[q]? = some true → L[q]? = some true) ∧ (ClD d L ∨ dead L + i ≤ d.ends.length) ∧ OwnS Ebo 1 4 (.slice a78 d.ends.length c78) L SL) (fun (i : Nat) (L : List Bool) (SL : Hp) => [(12, .int .i64 i)]) [(4, _), (6, _), (11, _)] (fun (i : Nat) (L : List Bool) (SL : Hp) => (b4, .cells [.slice aa1 d.atoms.length ac1, .slice na1 rows1.length nc1, .slice ea1 d.ends.length ec1].toArray 26 (0, 0)) :: (SL ++ (Sn1 ++ (Sq1 ++ (Se1 ++ Sa1))))) (fun (i : Nat) (L : List Bool) (SL : Hp) => d.ends.length - i) 0 d.ends S78 ⟨by omega, rfl, fun _ h => h, .inr (by have := dead_le d.ends; omega), hS78⟩ sbA sbA hzB ?_
     rintro i L SL ⟨hi, hLl, hLe, hLc, hO⟩
     refine c_seq fun _ hK33 => ?_
     refine c_seq fun _ hK34 => ?_
     refine c_region ?_
     refine o_step rfl (s_move rfl) ?_
     refine o_step rfl (s_move rfl) ?_
     by_cases hlt : i < d.ends.length
     ·
      obtain ⟨L0, hL0⟩ : ∃ x, x = L := ⟨_, rfl⟩
      rw [← hL0] at hLe hLc
      refine o_step rfl (step_cast (v' := .bool true) (s_lss rfl rfl) (congrArg Value.bool (decide_eq_true (by omega)))) ?_
      refine o_nil ?_
      refine x_then (hK34 _ _ ?_)
      refine c_true rfl ?_
      refine c_skip ?_
      refine x_then (hK33 _ _ ?_)
      refine c_seq fun _ hK35 => ?_
      refine c_block ?_
      refine c_seq fun _ hK36 => ?_
      refine c_region ?_
      refine o_step rfl (s_assign rfl) ?_
      refine o_nil ?_
      refine x_then (hK36 _ _ ?_)
      refine c_block ?_
      refine c_loop3 (fun (q : Nat) (L : List Bool) (SL : Hp) => q ≤ d.ends.length ∧ RdI d L0 L q 0 ∧ OwnS Ebo 1 4 (.slice a78 d.ends.length c78) L SL) (fun (q : Nat) (L : List Bool) (SL : Hp) => [(13, .int .i64 q)]) [(4, _), (6, _), (11, _), (12, _), (79, _), (80, _), (81, _)] (fun (q : Nat) (L : List Bool) (SL : Hp) => (b4, .cells [.slice aa1 d.atoms.length ac1, .slice na1 rows1.length nc1, .slice ea1 d.ends.length ec1].toArray 26 (0, 0)) :: (SL ++ (Sn1 ++ (Sq1 ++ (Se1 ++ Sa1))))) (fun (q : Nat) (L : List Bool) (SL : Hp) => d.ends.length - q) 0 L SL ⟨by omega, by rw [hL0]; exact RdI.zero hLl, hO⟩ sbA sbA hzB ?_
      rintro q L SL ⟨hq, hrd, hO⟩
      refine c_seq fun _ hK37 => ?_
      refine c_seq fun _ hK38 => ?_
      refine c_region ?_
      refine o_step rfl (s_move rfl) ?_
      refine o_step rfl (s_move rfl) ?_
      by_cases hlt : q < d.ends.length
      ·
       obtain ⟨x, hs⟩ : ∃ s, rows1[q]? = some s := ⟨_, List.getElem?_eq_getElem (by omega)⟩
       have hsm := List.mem_of_getElem? hs
       have hsx := ownL_sl hQ1 hx1 hsm
       have hrow : d.next[q]? = some x.xs := by rw [hx1, List.getElem?_map, hs]; rfl
       have hxr := hSh.rows x.xs (List.mem_of_getElem? hrow)
       have hxk := hxr.1
       refine o_step rfl (step_cast (v' := .bool true) (s_lss rfl rfl) (congrArg Value.bool (decide_eq_true (by omega)))) ?_
       refine o_nil ?_
       refine x_then (hK38 _ _ ?_)
       refine c_true rfl ?_
       refine c_skip ?_
       refine x_then (hK37 _ _ ?_)
       refine c_seq fun _ hK39 => ?_
       refine c_block ?_
       refine c_seq fun _ hK40 => ?_
       refine c_region ?_
       refine o_step rfl (s_assign rfl) ?_
       refine o_nil ?_
       refine x_then (hK40 _ _ ?_)
       refine c_block ?_
       refine c_loop3 (fun (k : Nat) (L : List Bool) (SL : Hp) => k ≤ d.atoms.length ∧ RdI d L0 L q k ∧ OwnS Ebo 1 4 (.slice a78 d.ends.length c78) L SL) (fun (k : Nat) (L : List Bool) (SL : Hp) => [(14, .int .i64 k)]) [(4, _), (6, _), (11, _), (12, _), (13, _), (79, _), (80, _), (81, _), (84, _), (85, _), (86, _)] (fun (k : Nat) (L : List Bool) (SL : Hp) => (b4, .cells [.slice aa1 d.atoms.length ac1, .slice na1 rows1.length nc1, .slice ea1 d.ends.length ec1].toArray 26 (0, 0)) :: (SL ++ (Sn1 ++ (Sq1 ++ (Se1 ++ Sa1))))) (fun (k : Nat) (L : List Bool) (SL : Hp) => d.atoms.length - k) 0 L SL ⟨by omega, hrd, hO⟩ sbA sbA hzB ?_
       rintro k L SL ⟨hk, hrd, hO⟩
       have hLl := hrd.len
       have hsL := hO.sl
       rw [hLl] at hsL
       obtain ⟨b, hbq⟩ : ∃ b, L[q]? = some b := ⟨_, List.getElem?_eq_getElem (by omega)⟩
       refine c_seq fun _ hK41 => ?_
       refine c_seq fun _ hK42 => ?_
       refine c_region ?_
       refine o_step rfl (s_move rfl) ?_
       refine o_step rfl (s_field rfl rfl (by decide)) ?_
       refine o_step rfl (s_ld rfl (.own meA rfl)) ?_
       refine o_step rfl (s_move rfl) ?_
       refine o_step rfl (s_idx rfl rfl hsR (by omega)) ?_
       refine o_step rfl (s_ld rfl ((hR1.rdk hiA).ld q 0 hs rfl (by decide) (by omega))) ?_
       refine o_step rfl (s_len rfl) ?_
       by_cases hlt : k < x.xs.length
       ·
        obtain ⟨v, hv⟩ : ∃ v, x.xs[k]? = some v := ⟨_, List.getElem?_eq_getElem (by omega)⟩
        have hvb := hxr.2 v (List.mem_of_getElem? hv)
        refine o_step rfl (step_cast (v' := .bool true) (s_lss rfl rfl) (congrArg Value.bool (decide_eq_true (by omega)))) ?_
        refine o_nil ?_
        refine x_then (hK42 _ _ ?_)
        refine c_true rfl ?_
        refine c_skip ?_
        refine x_then (hK41 _ _ ?_)
        refine c_seq fun _ hK43 => ?_
        refine c_block ?_
        refine c_region ?_
        refine o_step rfl (s_move rfl) ?_
        refine o_step rfl (s_move rfl) ?_
        refine o_step rfl (s_move rfl) ?_
        refine o_step rfl (s_move rfl) ?_
        refine o_step rfl (s_idx rfl rfl hsL (by omega)) ?_
        by_cases hbt : b = true
        ·
         refine o_step rfl (step_cast (v' := .bool true) (s_ld rfl ((hO.rdk hiA).ld q 0 hbq rfl (by decide) (by omega))) (by rw [hbt])) ?_
         refine o_step rfl (s_move rfl) ?_
         refine o_no rfl rfl rfl rfl ?_
         refine o_no rfl rfl rfl rfl ?_
         refine o_no rfl rfl rfl rfl ?_
         refine o_no rfl rfl rfl rfl ?_
         refine o_no rfl rfl rfl rfl ?_
         refine o_no rfl rfl rfl rfl ?_
         refine o_no rfl rfl rfl rfl ?_
         refine o_no rfl rfl rfl rfl ?_
         refine o_no rfl rfl rfl rfl ?_
         refine o_no rfl rfl rfl rfl ?_
         refine o_noU rfl rfl rfl ?_
         refine o_noU rfl rfl rfl ?_
         refine o_noU rfl rfl rfl ?_
         refine o_noU rfl rfl rfl ?_
         refine o_noU rfl rfl rfl ?_
         refine o_noU rfl rfl rfl ?_
         refine o_noU rfl rfl rfl ?_
         refine o_noU rfl rfl rfl ?_
         refine o_noU rfl rfl rfl ?_
         refine o_noU rfl rfl rfl ?_
         refine o_noU rfl rfl rfl ?_
         refine o_no rfl rfl rfl rfl ?_
         refine o_step rfl (s_pick_t rfl rfl) ?_
         refine o_step rfl (s_idx rfl rfl hsL (by omega)) ?_
         refine o_stS1 q _ hO pkA rfl rfl rfl (by omega) (by omega) fun S129 hS129 => ?_
         refine o_nil ?_
         refine x_block ?_
         refine x_then (hK43 _ _ ?_)
         refine c_region ?_
         refine o_step rfl (s_move rfl) ?_
         refine o_step rfl (s_add rfl rfl (by omega)) ?_
         refine o_step rfl (s_assign rfl) ?_
         refine o_nil ?_
         exact x_then (x_inv (k + 1, L.set q true, S129) ⟨by omega, hrd.step hrow hv hbq (fun _ => rfl) (fun _ _ => rfl) (fun _ => .inl hbt), hS129⟩ (by first | omega | (dsimp only; omega)) sbA hzB)
        ·
         refine o_step rfl (step_cast (v' := .bool false) (s_ld rfl ((hO.rdk hiA).ld q 0 hbq rfl (by decide) (by omega))) (by rw [Bool.not_eq_true] at hbt; rw [hbt])) ?_
         refine o_step rfl (s_move rfl) ?_
         refine o_yes rfl rfl ?_
         refine o_step rfl (s_field rfl rfl (by decide)) ?_
         refine o_yes rfl rfl ?_
         refine o_step rfl (s_ld rfl (.own meA rfl)) ?_
         refine o_yes rfl rfl ?_
         refine o_step rfl (s_move rfl) ?_
         refine o_yes rfl rfl ?_
         refine o_step rfl (s_idx rfl rfl hsR (by omega)) ?_
         refine o_yes rfl rfl ?_
         refine o_step rfl (s_ld rfl ((hR1.rdk hiA).ld q 0 hs rfl (by decide) (by omega))) ?_
         refine o_yes rfl rfl ?_
         refine o_step rfl (s_move rfl) ?_
         refine o_yes rfl rfl ?_
         refine o_step rfl (s_idx rfl rfl hsx (by omega)) ?_
         refine o_yes rfl rfl ?_
         refine o_step rfl (s_ld rfl ((ownL_rdk hQ1 hx1 hiA hsm).ld k 0 hv rfl (by decide) (by simp only [Sl.v]; omega))) ?_
         refine o_yes rfl rfl ?_
         by_cases hv0 : v ≥ 0
         ·
          obtain ⟨e, hev⟩ : ∃ e, L[v.toNat]? = some e := ⟨_, List.getElem?_eq_getElem (by omega)⟩
          refine o_step rfl (step_cast (v' := .bool true) (s_geq rfl rfl) (congrArg Value.bool (decide_eq_true hv0))) ?_
          refine o_yes rfl rfl ?_
          refine o_step rfl (s_move rfl) ?_
          refine o_yes rfl rfl ?_
          refine o_step rfl (s_move rfl) ?_
          refine o_yes rfl rfl ?_
          refine o_step rfl (s_field rfl rfl (by decide)) ?_
          refine o_yes rfl rfl ?_
          refine o_step rfl (s_ld rfl (.own meA rfl)) ?_
          refine o_yes rfl rfl ?_
          refine o_step rfl (s_move rfl) ?_
          refine o_yes rfl rfl ?_
          refine o_step rfl (s_idx rfl rfl hsR (by omega)) ?_
          refine o_yes rfl rfl ?_
          refine o_step rfl (s_ld rfl ((hR1.rdk hiA).ld q 0 hs rfl (by decide) (by omega))) ?_
          refine o_yes rfl rfl ?_
          refine o_step rfl (s_move rfl) ?_
          refine o_yes rfl rfl ?_
          refine o_step rfl (s_idx rfl rfl hsx (by omega)) ?_
          refine o_yes rfl rfl ?_
          refine o_step rfl (s_ld rfl ((ownL_rdk hQ1 hx1 hiA hsm).ld k 0 hv rfl (by decide) (by simp only [Sl.v]; omega))) ?_
          refine o_yes rfl rfl ?_
          refine o_step rfl (s_idx rfl rfl hsL (by omega)) ?_
          refine o_yes rfl rfl ?_
          refine o_step rfl (s_ld rfl ((hO.rdk hiA).ld v.toNat 0 hev rfl (by decide) (by omega))) ?_
          refine o_yes rfl rfl ?_
          refine o_step rfl (s_pick_t rfl rfl) ?_
          refine o_step rfl (s_pick_f rfl rfl) ?_
          refine o_step rfl (s_idx rfl rfl hsL (by omega)) ?_
          refine o_stS1 q _ hO pkA rfl rfl rfl (by omega) (by omega) fun S129 hS129 => ?_
          refine o_nil ?_
          refine x_block ?_
          refine x_then (hK43 _ _ ?_)
          refine c_region ?_
          refine o_step rfl (s_move rfl) ?_
          refine o_step rfl (s_add rfl rfl (by omega)) ?_
          refine o_step rfl (s_assign rfl) ?_
          refine o_nil ?_
          exact x_then (x_inv (k + 1, L.set q e, S129) ⟨by omega, hrd.step hrow hv hbq (fun h => absurd h hbt) (fun _ h2 => (by rw [hev] at h2; exact Option.some.inj h2)) (fun h => .inr ⟨by omega, by rw [hev, h]⟩), hS129⟩ (by first | omega | (dsimp only; omega)) sbA hzB)
         ·
          refine o_step rfl (step_cast (v' := .bool false) (s_geq rfl rfl) (congrArg Value.bool (decide_eq_false hv0))) ?_
          refine o_yes rfl rfl ?_
          refine o_step rfl (s_move rfl) ?_
          refine o_no rfl rfl rfl rfl ?_
          refine o_no rfl rfl rfl rfl ?_
          refine o_no rfl rfl rfl rfl ?_
          refine o_no rfl rfl rfl rfl ?_
          refine o_no rfl rfl rfl rfl ?_
          refine o_no rfl rfl rfl rfl ?_
          refine o_no rfl rfl rfl rfl ?_
          refine o_no rfl rfl rfl rfl ?_
          refine o_no rfl rfl rfl rfl ?_
          refine o_no rfl rfl rfl rfl ?_
          refine o_no rfl rfl rfl rfl ?_
          refine o_yes rfl rfl ?_
          refine o_step rfl (s_pick_f rfl rfl) ?_
          refine o_step rfl (s_pick_f rfl rfl) ?_
          refine o_step rfl (s_idx rfl rfl hsL (by omega)) ?_
          refine o_stS1 q _ hO pkA rfl rfl rfl (by omega) (by omega) fun S129 hS129 => ?_
          refine o_nil ?_
          refine x_block ?_
          refine x_then (hK43 _ _ ?_)
          refine c_region ?_
          refine o_step rfl (s_move rfl) ?_
          refine o_step rfl (s_add rfl rfl (by omega)) ?_
          refine o_step rfl (s_assign rfl) ?_
          refine o_nil ?_
          exact x_then (x_inv (k + 1, L.set q false, S129) ⟨by omega, hrd.step hrow hv hbq (fun h => absurd h hbt) (fun h0 _ => absurd h0 (by omega)) (fun h => (by cases h)), hS129⟩ (by first | omega | (dsimp only; omega)) sbA hzB)
       ·
        refine o_step rfl (step_cast (v' := .bool false) (s_lss rfl rfl) (congrArg Value.bool (decide_eq_false (by omega)))) ?_
        refine o_nil ?_
        refine x_then (hK42 _ _ ?_)
        refine c_false rfl ?_
        refine c_exit ?_
        refine x_then_exit ?_
        refine x_then_exit ?_
        refine x_block_exit ?_
        refine x_block ?_
        refine x_then (hK39 _ _ ?_)
        refine c_region ?_
        refine o_step rfl (s_move rfl) ?_
        refine o_step rfl (s_add rfl rfl (by omega)) ?_
        refine o_step rfl (s_assign rfl) ?_
        refine o_nil ?_
        exact x_then (x_inv (q + 1, L, SL) ⟨by omega, hrd.row hrow (by omega), hO⟩ (by first | omega | (dsimp only; omega)) sbA hzB)
      ·
       have hrdE : RdI d L0 L d.next.length 0 := by have h5 := hrd; rw [show q = d.next.length by omega] at h5; exact h5
       refine o_step rfl (step_cast (v' := .bool false) (s_lss rfl rfl) (congrArg Value.bool (decide_eq_false (by omega)))) ?_
       refine o_nil ?_
       refine x_then (hK38 _ _ ?_)
       refine c_false rfl ?_
       refine c_exit ?_
       refine x_then_exit ?_
       refine x_then_exit ?_
       refine x_block_exit ?_
       refine x_block ?_
       refine x_then (hK35 _ _ ?_)
       refine c_region ?_
       refine o_step rfl (s_move rfl) ?_
       refine o_step rfl (s_add rfl rfl (by omega)) ?_
       refine o_step rfl (s_assign rfl) ?_
       refine o_nil ?_
       exact x_then (x_inv (i + 1, L, SL) ⟨by omega, hrd.len, fun q hq => hrd.mono q (hLe q hq), (hrdE).end_ hLc, hO⟩ (by first | omega | (dsimp only; omega)) sbA hzB)
     ·
      obtain rfl : i = d.ends.length := by omega
      have hsL := hO.sl
      rw [hLl] at hsL
      refine o_step rfl (step_cast (v' := .bool false) (s_lss rfl rfl) (congrArg Value.bool (decide_eq_false (by omega)))) ?_
      refine o_nil ?_
      refine x_then (hK34 _ _ ?_)
      refine c_false rfl ?_
      refine c_exit ?_
      refine x_then_exit ?_
      refine x_then_exit ?_
      refine x_block_exit ?_
      refine x_then (hK31 _ _ ?_)
      refine c_seq fun _ hK44 => ?_
      refine c_seq fun _ hK45 => ?_
      refine c_region ?_
      refine o_step rfl (s_assign rfl) ?_
      refine o_nil ?_
      refine x_then (hK45 _ _ ?_)
      refine c_block ?_
      refine c_loopB (fun (q : Nat) => q ≤ d.ends.length) (fun (q : Nat) => [(15, .int .i64 q)]) [(4, _), (6, _), (11, _)] (fun (q : Nat) => (b4, .cells [.slice aa1 d.atoms.length ac1, .slice na1 rows1.length nc1, .slice ea1 d.ends.length ec1].toArray 26 (0, 0)) :: (SL ++ (Sn1 ++ (Sq1 ++ (Se1 ++ Sa1))))) (fun (q : Nat) => d.ends.length - q) 0 (by omega) sbA sbA hzB ?_
      rintro q hq
      refine c_seq fun _ hK46 => ?_
      refine c_seq fun _ hK47 => ?_
      refine c_region ?_
      refine o_step rfl (s_move rfl) ?_
      refine o_step rfl (s_move rfl) ?_
      by_cases hlt : q < d.ends.length
      ·
       obtain ⟨f, hfq⟩ : ∃ f, L[q]? = some f := ⟨_, List.getElem?_eq_getElem (by omega)⟩
       refine o_step rfl (step_cast (v' := .bool true) (s_lss rfl rfl) (congrArg Value.bool (decide_eq_true (by omega)))) ?_
       refine o_nil ?_
       refine x_then (hK47 _ _ ?_)
       refine c_true rfl ?_
       refine c_skip ?_
       refine x_then (hK46 _ _ ?_)
       refine c_seq fun _ hK48 => ?_
       refine c_block ?_
       refine c_seq fun _ hK49 => ?_
       refine c_region ?_
       refine o_step rfl (s_move rfl) ?_
       refine o_step rfl (s_move rfl) ?_
       refine o_step rfl (s_idx rfl rfl hsL (by omega)) ?_
       by_cases hft : f = true
       ·
        refine o_step rfl (step_cast (v' := .bool true) (s_ld rfl ((hO.rdk hiA).ld q 0 hfq rfl (by decide) (by omega))) (by rw [hft])) ?_
        refine o_step rfl (s_not rfl) ?_
        refine o_step rfl (s_move rfl) ?_
        refine o_no rfl rfl rfl rfl ?_
        refine o_no rfl rfl rfl rfl ?_
        refine o_step rfl (s_pick_f rfl rfl) ?_
        refine o_nil ?_
        refine x_then (hK49 _ _ ?_)
        refine c_false rfl ?_
        refine c_skip ?_
        refine x_block ?_
        refine x_then (hK48 _ _ ?_)
        refine c_region ?_
        refine o_step rfl (s_move rfl) ?_
        refine o_step rfl (s_add rfl rfl (by omega)) ?_
        refine o_step rfl (s_assign rfl) ?_
        refine o_nil ?_
        exact x_then (x_inv (q + 1) (by omega) (by first | omega | (dsimp only; omega)) sbA hzB)
       ·
        refine o_step rfl (step_cast (v' := .bool false) (s_ld rfl ((hO.rdk hiA).ld q 0 hfq rfl (by decide) (by omega))) (by rw [Bool.not_eq_true] at hft; rw [hft])) ?_
        refine o_step rfl (s_not rfl) ?_
        refine o_step rfl (s_move rfl) ?_
        refine o_yes rfl rfl ?_
        refine o_step rfl (s_move rfl) ?_
        refine o_yes rfl rfl ?_
        by_cases h1n : 1 < d.ends.length
        ·
         (obtain ⟨t, ht, ha⟩ := hMk.alive hlm (by omega) (i := q) (by omega); have h9 := rounds_all hSh hLl hLe hLc (by omega) ht ha; rw [hfq] at h9; exact absurd (Option.some.inj h9) hft)
        ·
         refine o_step rfl (step_cast (v' := .bool false) (s_gtr rfl rfl) (congrArg Value.bool (decide_eq_false (by omega)))) ?_
         refine o_step rfl (s_pick_t rfl rfl) ?_
         refine o_nil ?_
         refine x_then (hK49 _ _ ?_)
         refine c_false rfl ?_
         refine c_skip ?_
         refine x_block ?_
         refine x_then (hK48 _ _ ?_)
         refine c_region ?_
         refine o_step rfl (s_move rfl) ?_
         refine o_step rfl (s_add rfl rfl (by omega)) ?_
         refine o_step rfl (s_assign rfl) ?_
         refine o_nil ?_
         exact x_then (x_inv (q + 1) (by omega) (by first | omega | (dsimp only; omega)) sbA hzB)
      ·
       refine o_step rfl (step_cast (v' := .bool false) (s_lss rfl rfl) (congrArg Value.bool (decide_eq_false (by omega)))) ?_
       refine o_nil ?_
       refine x_then (hK47 _ _ ?_)
       refine c_false rfl ?_
       refine c_exit ?_
       refine x_then_exit ?_
       refine x_then_exit ?_
       refine x_block_exit ?_
       refine x_then (hK44 _ _ ?_)
       refine c_seq fun _ hK50 => ?_
       refine c_region ?_
       refine o_step rfl (s_ldB rfl (RdPK.cels (.own meA)) lnA) ?_
       refine o_callP (apart_fn d aa1 ac1 na1 nc1 rows1 ea1 ec1 hx1 hSh (fun i j hi hj hij => hMk.apart (by omega) (by omega) hij) (fun h1 i hi => hMk.alive hlm (by omega) (by omega))) rfl rfl rfl (fun w st => DfO.rdD hR1 hQ1 hx1 hE1 hA1 hiA hiA hiA hiA st) (fun v145 hv145 => ?_)
       subst hv145
       refine o_step rfl (s_assign rfl) ?_
       refine o_nil ?_
       refine x_then (hK50 _ _ ?_)
       refine c_ret ?_
       refine ?_
       exact x_ret rfl (.tmp rfl (.nil)) (rfl)
  ·
   refine o_nil ?_
   refine x_then (hK3 _ _ ?_)
   refine c_true rfl ?_
   refine c_seq fun _ hK51 => ?_
   refine c_region ?_
   refine o_step rfl (s_assign rfl) ?_
   refine o_nil ?_
   refine x_then (hK51 _ _ ?_)
   refine c_ret ?_
   refine x_then_ret (?_)
   exact x_ret rfl (.tmp rfl (.nil)) (rfl)
theorem own : ownKnob Tryd.prog.godebug = none := by kernel_rfl
theorem laidOut : laidOutB Tryd.prog = true := by kernel_rfl
/-- the door's own heap meets the condition -/
theorem door_met (os : Os) (args : Array Value) : laidMetH Tryd.prog [("math/bits.deBruijn64tab", Rows.laid_math_bits_deBruijn64tab)] ((World.doorLaid Tryd.prog 400 os).forCall (fun _ _ => 0) ⟨#[], args, []⟩).memory :=
  laidMetH_of_parts3 (fuel := 8) (laidMet_of_run' 8 (by kernel_rfl) (by kernel_rfl)) (by kernel_rfl) (by kernel_rfl)
theorem tab_eq : Rows.laid_math_bits_deBruijn64tab = Lib.tabData (H := Unit) .u8 (Lib.deBruijn64tab.map fun n : Nat => (n : Int)) := rfl
theorem tb_laid {W : World} (h : laidMetH Tryd.prog [("math/bits.deBruijn64tab", Rows.laid_math_bits_deBruijn64tab)] W) : Tb [] W := by
  rw [MakeChecks.laidMetH_plain _ _ _ (by kernel_rfl)] at h
  rw [tab_eq] at h
  have ht := Lib.tabIs_of_head (g := 0) (t := 139) (e := 5) (n := 64) (by kernel_rfl) (by kernel_rfl) (by kernel_rfl) (by kernel_rfl) (by kernel_rfl) (by kernel_rfl) h
  have h1 := rdp_of_tab (g := 0) (by kernel_rfl) ht
  rw [List.map_map] at h1
  exact ⟨h1, fun hm => by cases hm⟩
theorem open_nd : Opens Tryd.prog 57 En (fun _ t => -128 ≤ t.op ∧ t.op < 128) :=
  open_struct6 Tryd.underlying57 rfl (by kernel_rfl) (by kernel_rfl) (by kernel_rfl) (by kernel_rfl) (by kernel_rfl) (by kernel_rfl) (open_i8 Tryd.underlying55) (Mc.open_cl Tryd.underlying54 Tryd.underlying52 (by kernel_rfl) (by kernel_rfl)) (open_i64 Tryd.underlying3) (open_i64 Tryd.underlying3) (open_i64 Tryd.underlying3) (open_i64 Tryd.underlying3) fun w a b c d e f ha _ _ _ _ _ => ⟨⟨a, b, c, d, e, f⟩, rfl, ha⟩
/-- a machine as it comes in -/
structure DfV where
  a : Sl Kl.Cl
  n : Sl (Sl Int)
  e : Sl Bool
def EDf (x : DfV) : List Value := [x.a.v, x.n.v, x.e.v]
def DfV.d (x : DfV) : Df := ⟨x.n.xs.map Sl.xs, x.e.xs, x.a.xs⟩
def DfV.ok (w : World) (x : DfV) : Prop := RdD x.d x.a.a x.a.c x.n.a x.n.c x.n.xs x.e.a x.e.c w
end Go.Proofs.YtmompllplidphaaDoor
