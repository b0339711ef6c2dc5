/- Part of the proofs over this seat: see the text that holds the theorem. Conditions: each theorem bears its own. -/
import Derived.Test.YtiggliigookieaaMK8Z
import Derived.Test.YtiggliigookieaaKN22
namespace Go.Proofs.Ytiggliigookieaa
open Go Go.HL Go.Proofs Go.HL.Kl Go.HL.Kl.Mc Go.HL.Kl.Mc.AskE
set_option maxHeartbeats 4000000 in
theorem captureNests_fn (ra : Option Addr) (rc : Nat) (re : List Nd) (hre : ∀ x ∈ re, -128 ≤ x.op ∧ x.op < 128) (ta : Option Addr) (tc : Nat) (w : List UInt8) (f : Int) : HL.Fn Try.prog 5 [.slice ra re.length rc, .slice ta w.length tc, .int .i64 f] (fun W => Rd En W (.slice ra re.length rc) re ∧ Rd Eb W (.slice ta w.length tc) w) [] (fun v _ => v = .bool true) := by
  refine fn_of Try.func5 rfl rfl rfl fun w0 hw => ?_
  have hsl := hw.1.sl
  have hbl := hsl.le
  refine c_seq fun _ hK1 => ?_
  refine c_region ?_
  refine o_step rfl (s_assign rfl) ?_
  refine o_nil ?_
  refine x_then (hK1 _ _ ?_)
  refine c_seq fun _ hK2 => ?_
  refine c_region ?_
  refine o_callP (works_fn) rfl rfl rfl (fun _ _ => trivial) (fun v15 hv15 => ?_)
  subst hv15
  refine o_step rfl (s_assign rfl) ?_
  refine o_nil ?_
  refine x_then (hK2 _ _ ?_)
  refine c_seq fun _ hK3 => ?_
  refine c_seq fun _ hK4 => ?_
  refine c_region ?_
  refine o_step rfl (s_move rfl) ?_
  refine o_callP (beyond_fn ra rc re hre) rfl rfl rfl (fun w2 st => (RdK.old0 hw.1).out w2 st) (fun v17 ⟨b17, hv17⟩ => ?_)
  subst hv17
  cases b17
  ·
   refine o_step rfl (s_move rfl) ?_
   refine o_yes rfl rfl ?_
   refine o_step rfl (s_move rfl) ?_
   refine o_yes rfl rfl ?_
   refine o_step rfl (s_len rfl) ?_
   refine o_yes rfl rfl ?_
   by_cases htl : (w.length : Int) > 1024
   ·
    refine o_step rfl (step_cast (v' := .bool true) (s_gtr rfl rfl) (by rw [decide_eq_true (by omega)])) ?_
    refine o_step rfl (s_pick_f rfl rfl) ?_
    refine o_nil ?_
    refine x_then (hK4 _ _ ?_)
    refine c_true rfl ?_
    refine c_seq fun _ hK5 => ?_
    refine c_region ?_
    refine o_step rfl (s_move rfl) ?_
    refine o_step rfl (s_assign rfl) ?_
    refine o_nil ?_
    refine x_then (hK5 _ _ ?_)
    refine c_ret ?_
    refine x_then_ret (?_)
    exact x_ret rfl (.tmp rfl (.nil)) (rfl)
   ·
    refine o_step rfl (step_cast (v' := .bool false) (s_gtr rfl rfl) (by rw [decide_eq_false (by omega)])) ?_
    refine o_step rfl (s_pick_f rfl rfl) ?_
    refine o_nil ?_
    refine x_then (hK4 _ _ ?_)
    refine c_false rfl ?_
    refine c_skip ?_
    refine x_then (hK3 _ _ ?_)
    refine c_seq fun _ hK6 => ?_
    refine c_region ?_
    refine o_step rfl (s_move rfl) ?_
    refine o_step rfl (s_move rfl) ?_
    refine o_call (short_fn ra rc re hre ta tc w (by omega) 3 2097152 (by decide) (by decide)) rfl rfl rfl (by exact .nil) (fun w2 st => ⟨(RdK.old0 hw.1).out w2 st, (RdK.old0 hw.2).out w2 st⟩) (fun v26 S26 ⟨n, a26, c26, hv26, hS26⟩ => ?_)
    subst hv26
    have hwn : (w.take n).length ≤ 1024 := by rw [List.length_take]; omega
    refine o_step rfl (s_assign rfl) ?_
    refine o_nil ?_
    refine x_then (hK6 _ _ ?_)
    refine c_seq fun _ hK7 => ?_
    refine c_region ?_
    refine o_step rfl (s_move rfl) ?_
    refine o_step rfl (s_move rfl) ?_
    refine o_step rfl (s_move rfl) ?_
    refine o_call (find_fn ra rc re hre a26 c26 (w.take n) (by omega) f) rfl rfl rfl (by exact .nil) (fun w2 st => ⟨(RdK.old0 hw.1).out w2 st, (hS26.rdk hiA).out w2 st⟩) (fun v31 S31 hv31 => ?_)
    rcases hv31 with ⟨x, ks, g, p, q, hm, hg, hl, a31, cc31, rfl, hO31⟩ | ⟨hn31, rfl, rfl⟩
    ·
     have hsb := hm.sh
     have hr8 := no_refs hm.sh hm.rf
     have hle := hl.le
     have hcl := capsV_len (w := (w.take n)) (re := re) (x := x) (ks := ks) (p := p) (q := q)
     obtain ⟨_, hc0⟩ := caps_nst hm hl.der
     have hnl := @nest_law re (w.take n) x ks p q hm hl.der
     have hgl : gcn re ≤ re.length := List.countP_le_length
     have hCs := hO31.sl
     generalize capsV (w.take n) re x ks p q = L at hcl hc0 hnl hO31 hCs ⊢
     refine o_step rfl (s_move rfl) ?_
     refine o_step rfl (s_extract rfl rfl) ?_
     refine o_step rfl (s_extract rfl rfl) ?_
     refine o_step rfl (s_assign rfl) ?_
     refine o_step rfl (s_assign rfl) ?_
     refine o_nil ?_
     refine x_then (hK7 _ _ ?_)
     refine c_seq fun _ hK8 => ?_
     refine c_seq fun _ hK9 => ?_
     refine c_region ?_
     refine o_step rfl (s_move rfl) ?_
     refine o_step rfl (s_not rfl) ?_
     refine o_nil ?_
     refine x_then (hK9 _ _ ?_)
     refine c_false rfl ?_
     refine c_skip ?_
     refine x_then (hK8 _ _ ?_)
     refine c_seq fun _ hK10 => ?_
     refine c_seq fun _ hK11 => ?_
     refine c_region ?_
     refine o_step rfl (s_move rfl) ?_
     refine o_callP (may_fn ra rc re hre) rfl rfl rfl (fun w2 st => (RdK.old0 hw.1).out w2 st) (fun v43 hv43 => ?_)
     rw [hm.sh, hm.rf] at hv43
     subst hv43
     refine o_step rfl (s_not rfl) ?_
     refine o_step rfl (s_move rfl) ?_
     refine o_yes rfl rfl ?_
     refine o_step rfl (s_move rfl) ?_
     refine o_yes rfl rfl ?_
     refine o_step rfl (s_len rfl) ?_
     refine o_yes rfl rfl ?_
     refine o_step rfl (s_move rfl) ?_
     refine o_yes rfl rfl ?_
     refine o_callP (rGroups_fn ra rc re hre) rfl rfl rfl (fun w2 st => (RdK.old0 hw.1).out w2 st) (fun v49 hv49 => ?_)
     rw [hm.sh, if_pos rfl] at hv49
     subst hv49
     refine o_yes rfl rfl ?_
     refine o_step rfl (s_add rfl rfl (by omega)) ?_
     refine o_yes rfl rfl ?_
     refine o_step rfl (s_neq_f rfl rfl (by omega)) ?_
     refine o_step rfl (s_pick_f rfl rfl) ?_
     refine o_nil ?_
     refine x_then (hK11 _ _ ?_)
     refine c_false rfl ?_
     refine c_skip ?_
     refine x_then (hK10 _ _ ?_)
     refine c_seq fun _ hK12 => ?_
     refine c_seq fun _ hK13 => ?_
     refine c_region ?_
     refine o_step rfl (s_assign rfl) ?_
     refine o_nil ?_
     refine x_then (hK13 _ _ ?_)
     refine c_block ?_
     -- not carried: 6
     refine c_loopB (fun (i : Nat) => i ≤ re.length) (fun (i : Nat) => [(10, .int .i64 i)]) [(0, _), (7, _), (8, _)] (fun (i : Nat) => S31 ++ S26) (fun (i : Nat) => re.length - i) 0 (Nat.zero_le _) sbA sbA hzB ?_
     rintro i hi
     refine c_seq fun _ hK14 => ?_
     refine c_seq fun _ hK15 => ?_
     refine c_region ?_
     refine o_step rfl (s_move rfl) ?_
     refine o_step rfl (s_move rfl) ?_
     refine o_step rfl (s_len rfl) ?_
     by_cases hil : i < re.length
     ·
      obtain ⟨y, js, r, i2, hpi⟩ := Part.at _ _ _ hm.hs.part i (Nat.zero_le _) hil
      have hy := hpi.head.1
      have hym := List.mem_of_getElem? hy
      have hy8 := hr8 y hym
      have hyok : ndOk y = true := hpi.wf.1
      have hjl := hpi.head.2.1.le
      refine o_step rfl (step_cast (v' := .bool true) (s_lss rfl rfl) (by rw [decide_eq_true (by omega)])) ?_
      refine o_nil ?_
      refine x_then (hK15 _ _ ?_)
      refine c_true rfl ?_
      refine c_skip ?_
      refine x_then (hK14 _ _ ?_)
      refine c_seq fun _ hK16 => ?_
      refine c_block ?_
      refine c_seq fun _ hK17 => ?_
      refine c_seq fun _ hK18 => ?_
      refine c_region ?_
      refine o_step rfl (s_move rfl) ?_
      refine o_step rfl (s_move rfl) ?_
      refine o_step rfl (s_idx rfl rfl hsl (by omega)) ?_
      refine o_step rfl (s_field rfl rfl (by decide)) ?_
      refine o_step rfl (s_ld rfl ((RdK.old0 hw.1).ld i 5 hy rfl (by decide) (by omega))) ?_
      by_cases hn0 : y.n = 0
      ·
       refine o_step rfl (step_cast (v' := .bool true) (s_eql rfl rfl) (by rw [decide_eq_true (by omega)])) ?_
       refine o_nil ?_
       refine x_then (hK18 _ _ ?_)
       refine c_true rfl ?_
       refine c_exit ?_
       refine x_then_exit ?_
       refine x_block_exit ?_
       refine x_then (hK16 _ _ ?_)
       refine c_region ?_
       refine o_step rfl (s_move rfl) ?_
       refine o_step rfl (s_add rfl rfl (by omega)) ?_
       refine o_step rfl (s_assign rfl) ?_
       refine o_nil ?_
       exact x_then (x_inv (i + 1) (by omega) (by first | omega | (dsimp only; omega)) sbA hzB)
      ·
       have hy7 := nz_grp hyok hy8 hn0
       have hgn := grp_n hsb hy hy7
       obtain ⟨s, hs, hsr, hsk⟩ := hnl hpi hy7
       refine o_step rfl (step_cast (v' := .bool false) (s_eql rfl rfl) (by rw [decide_eq_false (by omega)])) ?_
       refine o_nil ?_
       refine x_then (hK18 _ _ ?_)
       refine c_false rfl ?_
       refine c_skip ?_
       refine x_then (hK17 _ _ ?_)
       refine c_seq fun _ hK19 => ?_
       refine c_region ?_
       refine o_step rfl (s_move rfl) ?_
       refine o_step rfl (s_move rfl) ?_
       refine o_step rfl (s_move rfl) ?_
       refine o_step rfl (s_idx rfl rfl hsl (by omega)) ?_
       refine o_step rfl (s_field rfl rfl (by decide)) ?_
       refine o_step rfl (s_ld rfl ((RdK.old0 hw.1).ld i 5 hy rfl (by decide) (by omega))) ?_
       refine o_step rfl (s_idx rfl rfl hCs (by omega)) ?_
       refine o_step rfl (s_ldB rfl ((hO31.rdk hiA).lds y.n.toNat hs (by first | rfl | omega)) (by rfl)) ?_
       refine o_alloc (l := Esp ⟨0, 0⟩) rfl rfl fun b11 => ?_
       refine o_stW rfl rfl upA lnA lnA onA ?_
       refine o_nil ?_
       refine x_then (hK19 _ _ ?_)
       refine c_seq fun _ hK20 => ?_
       refine c_seq fun _ hK21 => ?_
       refine c_region ?_
       refine o_step rfl (s_field rfl rfl (by decide)) ?_
       refine o_step rfl (s_ld rfl (.own meA rfl)) ?_
       by_cases hfr : s.fr = -1
       ·
        have hsn := sp_no hfr (not_half hsr hfr)
        refine o_step rfl (step_cast (v' := .bool true) (s_eql rfl rfl) (by rw [decide_eq_true (by omega)])) ?_
        refine o_step rfl (s_move rfl) ?_
        refine o_yes rfl rfl ?_
        refine o_step rfl (s_field rfl rfl (by decide)) ?_
        refine o_yes rfl rfl ?_
        refine o_step rfl (s_ld rfl (.own meA rfl)) ?_
        refine o_yes rfl rfl ?_
        refine o_step rfl (s_eql_t rfl rfl (not_half hsr hfr)) ?_
        refine o_step rfl (s_pick_t rfl rfl) ?_
        refine o_nil ?_
        refine x_then (hK21 _ _ ?_)
        refine c_true rfl ?_
        refine c_seq fun _ hK22 => ?_
        refine c_seq fun _ hK23 => ?_
        refine c_region ?_
        refine o_step rfl (s_move rfl) ?_
        refine o_step rfl (s_assign rfl) ?_
        refine o_nil ?_
        refine x_then (hK23 _ _ ?_)
        refine c_block ?_
        refine c_loopB (fun (k : Nat) => i ≤ k ∧ k ≤ i + 1 + js.size) (fun (k : Nat) => [(12, .int .i64 k)]) [(0, _), (7, _), (8, _), (10, _), (11, _), (53, _), (54, _), (55, _), (56, _), (59, _), (60, _), (61, _), (62, _), (63, _), (64, _), (65, _), (66, _), (67, _), (68, _), (69, _), (70, _), (71, _), (72, _), (73, _), (74, _), (75, _), (76, _), (77, _), (78, _), (79, _), (80, _), (81, _)] (fun (k : Nat) => (b11, .cells (Esp s).toArray 25 (0, 0)) :: (S31 ++ S26)) (fun (k : Nat) => i + 1 + js.size - k) i ⟨by omega, by omega⟩ sbA sbA hzB ?_
        rintro k ⟨hk1, hk2⟩
        refine c_seq fun _ hK24 => ?_
        refine c_seq fun _ hK25 => ?_
        refine c_region ?_
        refine o_step rfl (s_move rfl) ?_
        refine o_step rfl (s_move rfl) ?_
        refine o_step rfl (s_move rfl) ?_
        refine o_callP (rBehind_fn ra rc re hre hsb y js i (i + 1 + js.size) hpi.one) rfl rfl rfl (fun w2 st => (RdK.old0 hw.1).out w2 st) (fun v85 hv85 => ?_)
        subst hv85
        by_cases hkl : (k : Int) < i + 1 + js.size
        ·
         obtain ⟨z, hz⟩ : ∃ z, re[k]? = some z := ⟨_, List.getElem?_eq_getElem (by omega)⟩
         have hzm := List.mem_of_getElem? hz
         have hz8 := hr8 z hzm
         have hzok := hm.hs.part.nd_ok (Nat.zero_le _) (show k < re.length by omega) hz
         have hzn := n_rng hsb hz hzok hz8
         obtain ⟨t, ht⟩ : ∃ t, L[z.n.toNat]? = some t := ⟨_, List.getElem?_eq_getElem (by omega)⟩
         refine o_step rfl (step_cast (v' := .bool true) (s_lss rfl rfl) (by rw [decide_eq_true (by omega)])) ?_
         refine o_nil ?_
         refine x_then (hK25 _ _ ?_)
         refine c_true rfl ?_
         refine c_skip ?_
         refine x_then (hK24 _ _ ?_)
         refine c_seq fun _ hK26 => ?_
         refine c_block ?_
         refine c_seq fun _ hK27 => ?_
         refine c_drawE ((b11, .cells (Esp s).toArray 25 (0, 0)) :: S31) (fun i => false) ?_
         refine e_take 0 rfl (by kernel_rfl) (by kernel_rfl) (by kernel_rfl) (by kernel_rfl) (fun _ _ => rfl) rfl hzB (s_move rfl) ?_
         refine e_take 1 rfl (by kernel_rfl) (by kernel_rfl) (by kernel_rfl) (by kernel_rfl) (fun _ _ => rfl) rfl hzB (s_move rfl) ?_
         refine e_take 2 rfl (by kernel_rfl) (by kernel_rfl) (by kernel_rfl) (by kernel_rfl) (fun _ _ => rfl) rfl hzB (s_move rfl) ?_
         refine e_take 3 rfl (by kernel_rfl) (by kernel_rfl) (by kernel_rfl) (by kernel_rfl) (fun _ _ => rfl) rfl hzB (s_idx rfl rfl hsl (by omega)) ?_
         refine e_take 4 rfl (by kernel_rfl) (by kernel_rfl) (by kernel_rfl) (by kernel_rfl) (fun _ _ => rfl) rfl hzB (s_field rfl rfl (by decide)) ?_
         refine e_take 5 rfl (by kernel_rfl) (by kernel_rfl) (by kernel_rfl) (by kernel_rfl) (fun _ _ => rfl) rfl hzB (s_ld rfl ((RdK.old0 hw.1).ld k 5 hz rfl (by decide) (by omega))) ?_
         refine e_take 6 rfl (by kernel_rfl) (by kernel_rfl) (by kernel_rfl) (by kernel_rfl) (fun _ _ => rfl) rfl hzB (s_idx rfl rfl hCs (by omega)) ?_
         refine e_take 7 rfl (by kernel_rfl) (by kernel_rfl) (by kernel_rfl) (by kernel_rfl) (fun _ _ => rfl) rfl hzB (s_ldB rfl ((hO31.rdk hiA).lds z.n.toNat ht (by first | rfl | omega)) (by rfl)) ?_
         refine e_take 8 rfl (by kernel_rfl) (by kernel_rfl) (by kernel_rfl) (by kernel_rfl) (fun _ _ => rfl) rfl hzB (s_ldB rfl (RdPK.cels (.own meA)) (by rfl)) ?_
         by_cases hne : ¬ t = s
         ·
          have hz0 : ¬ z.n > 0 := fun h => by obtain ⟨t2, ht2, h2, _⟩ := hsk k z hk1 (by omega) hz (nz_grp hzok hz8 (by omega)); rw [ht] at ht2; cases ht2; exact hne ((h2 hsn).trans hsn.symm)
          refine e_take 9 rfl (by kernel_rfl) (by kernel_rfl) (by kernel_rfl) (by kernel_rfl) (fun _ _ => rfl) rfl hzB (step_cast (v' := .bool true) (s_neq_sp rfl rfl) (by rw [decide_eq_false hne]; rfl)) ?_
          refine e_take 10 rfl (by kernel_rfl) (by kernel_rfl) (by kernel_rfl) (by kernel_rfl) (fun _ _ => rfl) rfl hzB (s_move rfl) ?_
          refine e_take 11 rfl (by kernel_rfl) (by kernel_rfl) (by kernel_rfl) (by kernel_rfl) (fun _ fr => by rw [wanted_of fr rfl rfl rfl]; rfl) rfl hzB (s_move rfl) ?_
          refine e_take 12 rfl (by kernel_rfl) (by kernel_rfl) (by kernel_rfl) (by kernel_rfl) (fun _ fr => by rw [wanted_of fr rfl rfl rfl]; rfl) rfl hzB (s_move rfl) ?_
          refine e_take 13 rfl (by kernel_rfl) (by kernel_rfl) (by kernel_rfl) (by kernel_rfl) (fun _ fr => by rw [wanted_of fr rfl rfl rfl]; rfl) rfl hzB (s_idx rfl rfl hsl (by omega)) ?_
          refine e_take 14 rfl (by kernel_rfl) (by kernel_rfl) (by kernel_rfl) (by kernel_rfl) (fun _ fr => by rw [wanted_of fr rfl rfl rfl]; rfl) rfl hzB (s_field rfl rfl (by decide)) ?_
          refine e_take 15 rfl (by kernel_rfl) (by kernel_rfl) (by kernel_rfl) (by kernel_rfl) (fun _ fr => by rw [wanted_of fr rfl rfl rfl]; rfl) rfl hzB (s_ld rfl ((RdK.old0 hw.1).ld k 5 hz rfl (by decide) (by omega))) ?_
          refine e_take 16 rfl (by kernel_rfl) (by kernel_rfl) (by kernel_rfl) (by kernel_rfl) (fun _ fr => by rw [wanted_of fr rfl rfl rfl]; rfl) rfl hzB (s_gtr_f rfl rfl (by omega)) ?_
          refine e_take 17 rfl (by kernel_rfl) (by kernel_rfl) (by kernel_rfl) (by kernel_rfl) (fun _ _ => rfl) rfl hzB (s_pick_t rfl rfl) ?_
          refine e_done (by kernel_rfl) ?_
          refine x_then (hK27 _ _ ?_)
          refine c_false rfl ?_
          refine c_skip ?_
          refine x_block ?_
          refine x_then (hK26 _ _ ?_)
          refine c_region ?_
          refine o_step rfl (s_move rfl) ?_
          refine o_step rfl (s_add rfl rfl (by omega)) ?_
          refine o_step rfl (s_assign rfl) ?_
          refine o_nil ?_
          exact x_then (x_inv (k + 1) ⟨by omega, by omega⟩ (by first | omega | (dsimp only; omega)) sbA hzB)
         ·
          refine e_take 9 rfl (by kernel_rfl) (by kernel_rfl) (by kernel_rfl) (by kernel_rfl) (fun _ _ => rfl) rfl hzB (step_cast (v' := .bool false) (s_neq_sp rfl rfl) (by rw [decide_eq_true (Decidable.not_not.1 hne)]; rfl)) ?_
          refine e_take 10 rfl (by kernel_rfl) (by kernel_rfl) (by kernel_rfl) (by kernel_rfl) (fun _ _ => rfl) rfl hzB (s_move rfl) ?_
          refine e_skip 11 rfl (by kernel_rfl) (by kernel_rfl) (by kernel_rfl) rfl rfl rfl rfl ?_
          refine e_skip 12 rfl (by kernel_rfl) (by kernel_rfl) (by kernel_rfl) rfl rfl rfl rfl ?_
          refine e_skip 13 rfl (by kernel_rfl) (by kernel_rfl) (by kernel_rfl) rfl rfl rfl rfl ?_
          refine e_skip 14 rfl (by kernel_rfl) (by kernel_rfl) (by kernel_rfl) rfl rfl rfl rfl ?_
          refine e_skip 15 rfl (by kernel_rfl) (by kernel_rfl) (by kernel_rfl) rfl rfl rfl rfl ?_
          refine e_skip 16 rfl (by kernel_rfl) (by kernel_rfl) (by kernel_rfl) rfl rfl rfl rfl ?_
          refine e_take 17 rfl (by kernel_rfl) (by kernel_rfl) (by kernel_rfl) (by kernel_rfl) (fun _ _ => rfl) rfl hzB (s_pick_f rfl rfl) ?_
          refine e_done (by kernel_rfl) ?_
          refine x_then (hK27 _ _ ?_)
          refine c_false rfl ?_
          refine c_skip ?_
          refine x_block ?_
          refine x_then (hK26 _ _ ?_)
          refine c_region ?_
          refine o_step rfl (s_move rfl) ?_
          refine o_step rfl (s_add rfl rfl (by omega)) ?_
          refine o_step rfl (s_assign rfl) ?_
          refine o_nil ?_
          exact x_then (x_inv (k + 1) ⟨by omega, by omega⟩ (by first | omega | (dsimp only; omega)) sbA hzB)
        ·
         refine o_step rfl (step_cast (v' := .bool false) (s_lss rfl rfl) (by rw [decide_eq_false (by omega)])) ?_
         refine o_nil ?_
         refine x_then (hK25 _ _ ?_)
         refine c_false rfl ?_
         refine c_exit ?_
         refine x_then_exit ?_
         refine x_then_exit ?_
         refine x_block_exit ?_
         refine x_then (hK22 _ _ ?_)
         refine c_exit ?_
         refine x_then_exit ?_
         refine x_block_exit ?_
         refine x_then (hK16 _ _ ?_)
         refine c_region ?_
         refine o_step rfl (s_move rfl) ?_
         refine o_step rfl (s_add rfl rfl (by omega)) ?_
         refine o_step rfl (s_assign rfl) ?_
         refine o_nil ?_
         exact x_then (x_inv (i + 1) (by omega) (by first | omega | (dsimp only; omega)) sbA hzB)
       ·
        have hsn : s ≠ noS := fun e => by rw [e] at hfr; exact hfr rfl
        have hsr2 := hsr.resolve_left hsn
        refine o_step rfl (step_cast (v' := .bool false) (s_eql rfl rfl) (by rw [decide_eq_false (by omega)])) ?_
        refine o_step rfl (s_move rfl) ?_
        refine o_no rfl rfl rfl rfl ?_
        refine o_no rfl rfl rfl rfl ?_
        refine o_no rfl rfl rfl rfl ?_
        refine o_step rfl (s_pick_f rfl rfl) ?_
        refine o_nil ?_
        refine x_then (hK21 _ _ ?_)
        refine c_false rfl ?_
        refine c_skip ?_
        refine x_then (hK20 _ _ ?_)
        refine c_seq fun _ hK28 => ?_
        refine c_seq fun _ hK29 => ?_
        refine c_drawE ((b11, .cells (Esp s).toArray 25 (0, 0)) :: S31) (fun i => false) ?_
        refine e_take 0 rfl (by kernel_rfl) (by kernel_rfl) (by kernel_rfl) (by kernel_rfl) (fun _ _ => rfl) rfl hzB (s_field rfl rfl (by decide)) ?_
        refine e_take 1 rfl (by kernel_rfl) (by kernel_rfl) (by kernel_rfl) (by kernel_rfl) (fun _ _ => rfl) rfl hzB (s_ld rfl (.own meA rfl)) ?_
        refine e_take 2 rfl (by kernel_rfl) (by kernel_rfl) (by kernel_rfl) (by kernel_rfl) (fun _ _ => rfl) rfl hzB (s_move rfl) ?_
        refine e_take 3 rfl (by kernel_rfl) (by kernel_rfl) (by kernel_rfl) (by kernel_rfl) (fun _ _ => rfl) rfl hzB (s_idx rfl rfl hCs (by omega)) ?_
        refine e_take 4 rfl (by kernel_rfl) (by kernel_rfl) (by kernel_rfl) (by kernel_rfl) (fun _ _ => rfl) rfl hzB (s_field rfl rfl (by decide)) ?_
        refine e_take 5 rfl (by kernel_rfl) (by kernel_rfl) (by kernel_rfl) (by kernel_rfl) (fun _ _ => rfl) rfl hzB (s_ld rfl (((hO31.rdk hiA).ld 0 0 hc0 rfl (by decide) (by rfl) : Cel _ _ _ (.int .i64 (p : Int))))) ?_
        refine e_take 6 rfl (by kernel_rfl) (by kernel_rfl) (by kernel_rfl) (by kernel_rfl) (fun _ _ => rfl) rfl hzB (s_lss_f rfl rfl (by omega)) ?_
        refine e_take 7 rfl (by kernel_rfl) (by kernel_rfl) (by kernel_rfl) (by kernel_rfl) (fun _ _ => rfl) rfl hzB (s_move rfl) ?_
        refine e_take 8 rfl (by kernel_rfl) (by kernel_rfl) (by kernel_rfl) (by kernel_rfl) (fun _ fr => by rw [wanted_of fr rfl rfl rfl]; rfl) rfl hzB (s_field rfl rfl (by decide)) ?_
        refine e_take 9 rfl (by kernel_rfl) (by kernel_rfl) (by kernel_rfl) (by kernel_rfl) (fun _ fr => by rw [wanted_of fr rfl rfl rfl]; rfl) rfl hzB (s_ld rfl (.own meA rfl)) ?_
        refine e_take 10 rfl (by kernel_rfl) (by kernel_rfl) (by kernel_rfl) (by kernel_rfl) (fun _ fr => by rw [wanted_of fr rfl rfl rfl]; rfl) rfl hzB (s_field rfl rfl (by decide)) ?_
        refine e_take 11 rfl (by kernel_rfl) (by kernel_rfl) (by kernel_rfl) (by kernel_rfl) (fun _ fr => by rw [wanted_of fr rfl rfl rfl]; rfl) rfl hzB (s_ld rfl (.own meA rfl)) ?_
        refine e_take 12 rfl (by kernel_rfl) (by kernel_rfl) (by kernel_rfl) (by kernel_rfl) (fun _ fr => by rw [wanted_of fr rfl rfl rfl]; rfl) rfl hzB (s_gtr_f rfl rfl (by omega)) ?_
        refine e_take 13 rfl (by kernel_rfl) (by kernel_rfl) (by kernel_rfl) (by kernel_rfl) (fun _ _ => rfl) rfl hzB (s_pick_f rfl rfl) ?_
        refine e_take 14 rfl (by kernel_rfl) (by kernel_rfl) (by kernel_rfl) (by kernel_rfl) (fun _ _ => rfl) rfl hzB (s_move rfl) ?_
        refine e_take 15 rfl (by kernel_rfl) (by kernel_rfl) (by kernel_rfl) (by kernel_rfl) (fun _ fr => by rw [wanted_of fr rfl rfl rfl]; rfl) rfl hzB (s_field rfl rfl (by decide)) ?_
        refine e_take 16 rfl (by kernel_rfl) (by kernel_rfl) (by kernel_rfl) (by kernel_rfl) (fun _ fr => by rw [wanted_of fr rfl rfl rfl]; rfl) rfl hzB (s_ld rfl (.own meA rfl)) ?_
        refine e_take 17 rfl (by kernel_rfl) (by kernel_rfl) (by kernel_rfl) (by kernel_rfl) (fun _ fr => by rw [wanted_of fr rfl rfl rfl]; rfl) rfl hzB (s_move rfl) ?_
        refine e_take 18 rfl (by kernel_rfl) (by kernel_rfl) (by kernel_rfl) (by kernel_rfl) (fun _ fr => by rw [wanted_of fr rfl rfl rfl]; rfl) rfl hzB (s_idx rfl rfl hCs (by omega)) ?_
        refine e_take 19 rfl (by kernel_rfl) (by kernel_rfl) (by kernel_rfl) (by kernel_rfl) (fun _ fr => by rw [wanted_of fr rfl rfl rfl]; rfl) rfl hzB (s_field rfl rfl (by decide)) ?_
        refine e_take 20 rfl (by kernel_rfl) (by kernel_rfl) (by kernel_rfl) (by kernel_rfl) (fun _ fr => by rw [wanted_of fr rfl rfl rfl]; rfl) rfl hzB (s_ld rfl (((hO31.rdk hiA).ld 0 1 hc0 rfl (by decide) (by rfl) : Cel _ _ _ (.int .i64 (q : Int))))) ?_
        refine e_take 21 rfl (by kernel_rfl) (by kernel_rfl) (by kernel_rfl) (by kernel_rfl) (fun _ fr => by rw [wanted_of fr rfl rfl rfl]; rfl) rfl hzB (s_gtr_f rfl rfl (by omega)) ?_
        refine e_take 22 rfl (by kernel_rfl) (by kernel_rfl) (by kernel_rfl) (by kernel_rfl) (fun _ _ => rfl) rfl hzB (s_pick_f rfl rfl) ?_
        refine e_done (by kernel_rfl) ?_
        refine x_then (hK29 _ _ ?_)
        refine c_false rfl ?_
        refine c_skip ?_
        refine x_then (hK28 _ _ ?_)
        refine c_seq fun _ hK30 => ?_
        refine c_region ?_
        refine o_step rfl (s_move rfl) ?_
        refine o_step rfl (s_assign rfl) ?_
        refine o_nil ?_
        refine x_then (hK30 _ _ ?_)
        refine c_block ?_
        refine c_loopB (fun (k : Nat) => i ≤ k ∧ k ≤ i + 1 + js.size) (fun (k : Nat) => [(13, .int .i64 k)]) [(0, _), (7, _), (8, _), (10, _), (11, _), (53, _), (54, _), (55, _), (56, _), (59, _), (60, _), (61, _), (62, _), (63, _), (64, _), (65, _), (66, _), (67, _), (68, _), (69, _), (70, _), (71, _), (72, _), (73, _), (74, _), (75, _), (76, _), (77, _), (78, _), (79, _), (80, _), (107, _), (108, _), (109, _), (110, _), (111, _), (112, _), (113, _), (114, _), (115, _), (116, _), (117, _), (118, _), (119, _), (120, _), (121, _), (122, _), (123, _), (124, _), (125, _), (126, _), (127, _), (128, _), (129, _), (130, _)] (fun (k : Nat) => (b11, .cells (Esp s).toArray 25 (0, 0)) :: (S31 ++ S26)) (fun (k : Nat) => i + 1 + js.size - k) i ⟨by omega, by omega⟩ sbA sbA hzB ?_
        rintro k ⟨hk1, hk2⟩
        refine c_seq fun _ hK31 => ?_
        refine c_seq fun _ hK32 => ?_
        refine c_region ?_
        refine o_step rfl (s_move rfl) ?_
        refine o_step rfl (s_move rfl) ?_
        refine o_step rfl (s_move rfl) ?_
        refine o_callP (rBehind_fn ra rc re hre hsb y js i (i + 1 + js.size) hpi.one) rfl rfl rfl (fun w2 st => (RdK.old0 hw.1).out w2 st) (fun v134 hv134 => ?_)
        subst hv134
        by_cases hkl : (k : Int) < i + 1 + js.size
        ·
         obtain ⟨z, hz⟩ : ∃ z, re[k]? = some z := ⟨_, List.getElem?_eq_getElem (by omega)⟩
         have hzm := List.mem_of_getElem? hz
         have hz8 := hr8 z hzm
         have hzok := hm.hs.part.nd_ok (Nat.zero_le _) (show k < re.length by omega) hz
         have hzn := n_rng hsb hz hzok hz8
         obtain ⟨t, ht⟩ : ∃ t, L[z.n.toNat]? = some t := ⟨_, List.getElem?_eq_getElem (by omega)⟩
         refine o_step rfl (step_cast (v' := .bool true) (s_lss rfl rfl) (by rw [decide_eq_true (by omega)])) ?_
         refine o_nil ?_
         refine x_then (hK32 _ _ ?_)
         refine c_true rfl ?_
         refine c_skip ?_
         refine x_then (hK31 _ _ ?_)
         refine c_seq fun _ hK33 => ?_
         refine c_block ?_
         refine c_seq fun _ hK34 => ?_
         refine c_region ?_
         refine o_step rfl (s_move rfl) ?_
         refine o_step rfl (s_move rfl) ?_
         refine o_step rfl (s_move rfl) ?_
         refine o_step rfl (s_idx rfl rfl hsl (by omega)) ?_
         refine o_step rfl (s_field rfl rfl (by decide)) ?_
         refine o_step rfl (s_ld rfl ((RdK.old0 hw.1).ld k 5 hz rfl (by decide) (by omega))) ?_
         refine o_step rfl (s_idx rfl rfl hCs (by omega)) ?_
         refine o_step rfl (s_ldB rfl ((hO31.rdk hiA).lds z.n.toNat ht (by first | rfl | omega)) (by rfl)) ?_
         refine o_alloc (l := Esp ⟨0, 0⟩) rfl rfl fun b14 => ?_
         refine o_stW rfl rfl upA lnA lnA onA ?_
         refine o_nil ?_
         refine x_then (hK34 _ _ ?_)
         refine c_seq fun _ hK35 => ?_
         refine c_region ?_
         refine o_step rfl (s_move rfl) ?_
         refine o_step rfl (s_move rfl) ?_
         refine o_step rfl (s_idx rfl rfl hsl (by omega)) ?_
         refine o_step rfl (s_field rfl rfl (by decide)) ?_
         refine o_step rfl (s_ld rfl ((RdK.old0 hw.1).ld k 5 hz rfl (by decide) (by omega))) ?_
         by_cases hz0 : z.n > 0
         ·
          obtain ⟨t2, ht2, _, h3⟩ := hsk k z hk1 (by omega) hz (nz_grp hzok hz8 (by omega))
          obtain rfl : t = t2 := by rw [ht] at ht2; exact Option.some.inj ht2
          refine o_step rfl (step_cast (v' := .bool true) (s_gtr rfl rfl) (by rw [decide_eq_true (by omega)])) ?_
          refine o_step rfl (s_move rfl) ?_
          refine o_yes rfl rfl ?_
          refine o_step rfl (s_field rfl rfl (by decide)) ?_
          refine o_yes rfl rfl ?_
          refine o_step rfl (s_ld rfl (.own meA rfl)) ?_
          refine o_yes rfl rfl ?_
          by_cases htf : ¬ t.fr = -1
          ·
           have h4 := (h3 hsn).resolve_left fun e => by rw [e] at htf; exact htf rfl
           refine o_step rfl (s_neq_t rfl rfl htf) ?_
           refine o_step rfl (s_pick_t rfl rfl) ?_
           refine o_step rfl (s_move rfl) ?_
           refine o_yes rfl rfl ?_
           refine o_step rfl (s_field rfl rfl (by decide)) ?_
           refine o_yes rfl rfl ?_
           refine o_step rfl (s_ld rfl (.own meA rfl)) ?_
           refine o_yes rfl rfl ?_
           refine o_step rfl (s_field rfl rfl (by decide)) ?_
           refine o_yes rfl rfl ?_
           refine o_step rfl (s_ld rfl (.own meA rfl)) ?_
           refine o_yes rfl rfl ?_
           refine o_step rfl (s_lss_f rfl rfl (by omega)) ?_
           refine o_yes rfl rfl ?_
           refine o_step rfl (s_move rfl) ?_
           refine o_yes rfl rfl ?_
           refine o_step rfl (s_field rfl rfl (by decide)) ?_
           refine o_yes rfl rfl ?_
           refine o_step rfl (s_ld rfl (.own meA rfl)) ?_
           refine o_yes rfl rfl ?_
           refine o_step rfl (s_field rfl rfl (by decide)) ?_
           refine o_yes rfl rfl ?_
           refine o_step rfl (s_ld rfl (.own meA rfl)) ?_
           refine o_yes rfl rfl ?_
           refine o_step rfl (s_gtr_f rfl rfl (by omega)) ?_
           refine o_yes rfl rfl ?_
           refine o_step rfl (s_pick_f rfl rfl) ?_
           refine o_step rfl (s_pick_t rfl rfl) ?_
           refine o_nil ?_
           refine x_then (hK35 _ _ ?_)
           refine c_false rfl ?_
           refine c_skip ?_
           refine x_block ?_
           refine x_then (hK33 _ _ ?_)
           refine c_region ?_
           refine o_step rfl (s_move rfl) ?_
           refine o_step rfl (s_add rfl rfl (by omega)) ?_
           refine o_step rfl (s_assign rfl) ?_
           refine o_nil ?_
           exact x_then (x_inv (k + 1) ⟨by omega, by omega⟩ (by first | omega | (dsimp only; omega)) sbA hzB)
          ·
           refine o_step rfl (s_neq_f rfl rfl (Decidable.not_not.1 htf)) ?_
           refine o_step rfl (s_pick_t rfl rfl) ?_
           refine o_step rfl (s_move rfl) ?_
           refine o_no rfl rfl rfl rfl ?_
           refine o_no rfl rfl rfl rfl ?_
           refine o_no rfl rfl rfl rfl ?_
           refine o_no rfl rfl rfl rfl ?_
           refine o_no rfl rfl rfl rfl ?_
           refine o_no rfl rfl rfl rfl ?_
           refine o_noU rfl rfl rfl ?_
           refine o_noU rfl rfl rfl ?_
           refine o_noU rfl rfl rfl ?_
           refine o_noU rfl rfl rfl ?_
           refine o_noU rfl rfl rfl ?_
           refine o_no rfl rfl rfl rfl ?_
           refine o_step rfl (s_pick_f rfl rfl) ?_
           refine o_nil ?_
           refine x_then (hK35 _ _ ?_)
           refine c_false rfl ?_
           refine c_skip ?_
           refine x_block ?_
           refine x_then (hK33 _ _ ?_)
           refine c_region ?_
           refine o_step rfl (s_move rfl) ?_
           refine o_step rfl (s_add rfl rfl (by omega)) ?_
           refine o_step rfl (s_assign rfl) ?_
           refine o_nil ?_
           exact x_then (x_inv (k + 1) ⟨by omega, by omega⟩ (by first | omega | (dsimp only; omega)) sbA hzB)
         ·
          refine o_step rfl (step_cast (v' := .bool false) (s_gtr rfl rfl) (by rw [decide_eq_false (by omega)])) ?_
          refine o_step rfl (s_move rfl) ?_
          refine o_no rfl rfl rfl rfl ?_
          refine o_no rfl rfl rfl rfl ?_
          refine o_no rfl rfl rfl rfl ?_
          refine o_step rfl (s_pick_f rfl rfl) ?_
          refine o_step rfl (s_move rfl) ?_
          refine o_no rfl rfl rfl rfl ?_
          refine o_no rfl rfl rfl rfl ?_
          refine o_no rfl rfl rfl rfl ?_
          refine o_no rfl rfl rfl rfl ?_
          refine o_no rfl rfl rfl rfl ?_
          refine o_no rfl rfl rfl rfl ?_
          refine o_noU rfl rfl rfl ?_
          refine o_noU rfl rfl rfl ?_
          refine o_noU rfl rfl rfl ?_
          refine o_noU rfl rfl rfl ?_
          refine o_noU rfl rfl rfl ?_
          refine o_no rfl rfl rfl rfl ?_
          refine o_step rfl (s_pick_f rfl rfl) ?_
          refine o_nil ?_
          refine x_then (hK35 _ _ ?_)
          refine c_false rfl ?_
          refine c_skip ?_
          refine x_block ?_
          refine x_then (hK33 _ _ ?_)
          refine c_region ?_
          refine o_step rfl (s_move rfl) ?_
          refine o_step rfl (s_add rfl rfl (by omega)) ?_
          refine o_step rfl (s_assign rfl) ?_
          refine o_nil ?_
          exact x_then (x_inv (k + 1) ⟨by omega, by omega⟩ (by first | omega | (dsimp only; omega)) sbA hzB)
        ·
         refine o_step rfl (step_cast (v' := .bool false) (s_lss rfl rfl) (by rw [decide_eq_false (by omega)])) ?_
         refine o_nil ?_
         refine x_then (hK32 _ _ ?_)
         refine c_false rfl ?_
         refine c_exit ?_
         refine x_then_exit ?_
         refine x_then_exit ?_
         refine x_block_exit ?_
         refine x_block ?_
         refine x_then (hK16 _ _ ?_)
         refine c_region ?_
         refine o_step rfl (s_move rfl) ?_
         refine o_step rfl (s_add rfl rfl (by omega)) ?_
         refine o_step rfl (s_assign rfl) ?_
         refine o_nil ?_
         exact x_then (x_inv (i + 1) (by omega) (by first | omega | (dsimp only; omega)) sbA hzB)
     ·
      refine o_step rfl (step_cast (v' := .bool false) (s_lss rfl rfl) (by rw [decide_eq_false (by omega)])) ?_
      refine o_nil ?_
      refine x_then (hK15 _ _ ?_)
      refine c_false rfl ?_
      refine c_exit ?_
      refine x_then_exit ?_
      refine x_then_exit ?_
      refine x_block_exit ?_
      refine x_then (hK12 _ _ ?_)
      refine c_seq fun _ hK36 => ?_
      refine c_region ?_
      refine o_step rfl (s_move rfl) ?_
      refine o_step rfl (s_assign rfl) ?_
      refine o_nil ?_
      refine x_then (hK36 _ _ ?_)
      refine c_ret ?_
      refine ?_
      exact x_ret rfl (.tmp rfl (.nil)) (rfl)
    ·
     refine o_step rfl (s_move rfl) ?_
     refine o_step rfl (s_extract rfl rfl) ?_
     refine o_step rfl (s_extract rfl rfl) ?_
     refine o_step rfl (s_assign rfl) ?_
     refine o_step rfl (s_assign rfl) ?_
     refine o_nil ?_
     refine x_then (hK7 _ _ ?_)
     refine c_seq fun _ hK37 => ?_
     refine c_seq fun _ hK38 => ?_
     refine c_region ?_
     refine o_step rfl (s_move rfl) ?_
     refine o_step rfl (s_not rfl) ?_
     refine o_nil ?_
     refine x_then (hK38 _ _ ?_)
     refine c_true rfl ?_
     refine c_seq fun _ hK39 => ?_
     refine c_region ?_
     refine o_step rfl (s_move rfl) ?_
     refine o_step rfl (s_move rfl) ?_
     refine o_yes rfl rfl ?_
     refine o_step rfl (s_move rfl) ?_
     refine o_yes rfl rfl ?_
     refine o_step rfl (s_len rfl) ?_
     refine o_yes rfl rfl ?_
     refine o_step rfl (s_eql_t rfl rfl (by rfl)) ?_
     refine o_step rfl (s_pick_t rfl rfl) ?_
     refine o_step rfl (s_assign rfl) ?_
     refine o_nil ?_
     refine x_then (hK39 _ _ ?_)
     refine c_ret ?_
     refine x_then_ret (?_)
     exact x_ret rfl (.tmp rfl (.nil)) (rfl)
  ·
   refine o_step rfl (s_move rfl) ?_
   refine o_no rfl rfl rfl rfl ?_
   refine o_no rfl rfl rfl rfl ?_
   refine o_no rfl rfl rfl rfl ?_
   refine o_step rfl (s_pick_t rfl rfl) ?_
   refine o_nil ?_
   refine x_then (hK4 _ _ ?_)
   refine c_true rfl ?_
   refine c_seq fun _ hK40 => ?_
   refine c_region ?_
   refine o_step rfl (s_move rfl) ?_
   refine o_step rfl (s_assign rfl) ?_
   refine o_nil ?_
   refine x_then (hK40 _ _ ?_)
   refine c_ret ?_
   refine x_then_ret (?_)
   exact x_ret rfl (.tmp rfl (.nil)) (rfl)
end Go.Proofs.Ytiggliigookieaa
