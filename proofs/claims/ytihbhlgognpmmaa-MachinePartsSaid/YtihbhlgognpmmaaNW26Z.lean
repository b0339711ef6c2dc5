/- Part of the proofs over this seat: see the text that holds the theorem. Conditions: each theorem bears its own. -/
import Derived.Test.YtihbhlgognpmmaaNW24Z
import Derived.Test.YtihbhlgognpmmaaNW22Z
import Derived.Test.YtihbhlgognpmmaaHlB
import Derived.Test.YtihbhlgognpmmaaNF1Z
import Derived.Test.YtihbhlgognpmmaaMC3Z
namespace Go.Proofs.Ytihbhlgognpmmaa
open Go Go.HL Go.Proofs Go.HL.Kl Go.HL.Kl.Mc
set_option maxHeartbeats 4000000 in
theorem machineParts_fn (aa : Option Addr) (ac : Nat) (a : List Nd) (hra : ∀ x ∈ a, -128 ≤ x.op ∧ x.op < 128) (ba : Option Addr) (bc : Nat) (b : List Nd) (hrb : ∀ x ∈ b, -128 ≤ x.op ∧ x.op < 128) (ta : Option Addr) (tc : Nat) (w : List UInt8) : HL.Fn Try.prog 5 [.slice aa a.length ac, .slice ba b.length bc, .slice ta w.length tc] (fun W => Rd En W (.slice aa a.length ac) a ∧ Rd En W (.slice ba b.length bc) b ∧ Rd Eb W (.slice ta w.length tc) w) [] (fun v _ => v = .bool true) := by
  refine fn_of Try.func5 rfl rfl rfl fun w0 hw => ?_
  have hal := hw.1.sl.le
  have hbl := hw.2.1.sl.le
  refine c_seq fun _ hK1 => ?_
  refine c_region ?_
  refine o_step rfl (s_assign rfl) ?_
  refine o_nil ?_
  refine x_then (hK1 _ _ ?_)
  refine c_seq fun _ hK2 => ?_
  refine c_region ?_
  refine o_callP (works_fn) rfl rfl rfl (fun _ _ => trivial) (fun v22 hv22 => ?_)
  subst hv22
  refine o_step rfl (s_assign rfl) ?_
  refine o_nil ?_
  refine x_then (hK2 _ _ ?_)
  refine c_seq fun _ hK3 => ?_
  refine c_seq fun _ hK4 => ?_
  refine c_region ?_
  refine o_step rfl (s_move rfl) ?_
  refine o_callP (beyond_fn aa ac a hra) rfl rfl rfl (fun w st => (RdK.old0 hw.1).out w st) (fun v24 ⟨b24, hv24⟩ => ?_)
  subst hv24
  cases b24
  ·
   refine o_step rfl (s_move rfl) ?_
   refine o_yes rfl rfl ?_
   refine o_step rfl (s_move rfl) ?_
   refine o_yes rfl rfl ?_
   refine o_callP (beyond_fn ba bc b hrb) rfl rfl rfl (fun w st => (RdK.old0 hw.2.1).out w st) (fun v27 ⟨b27, hv27⟩ => ?_)
   subst hv27
   cases b27
   ·
    refine o_step rfl (s_pick_f rfl rfl) ?_
    refine o_step rfl (s_move rfl) ?_
    refine o_yes rfl rfl ?_
    refine o_step rfl (s_move rfl) ?_
    refine o_yes rfl rfl ?_
    refine o_step rfl (s_len rfl) ?_
    refine o_yes rfl rfl ?_
    refine o_step rfl (s_move rfl) ?_
    refine o_yes rfl rfl ?_
    refine o_step rfl (s_len rfl) ?_
    refine o_yes rfl rfl ?_
    refine o_step rfl (s_add rfl rfl (by omega)) ?_
    refine o_yes rfl rfl ?_
    by_cases hl2 : (a.length : Int) + b.length > 65536
    ·
     refine o_step rfl (step_cast (v' := .bool true) (s_gtr rfl rfl) (by rw [decide_eq_true (by omega)])) ?_
     refine o_step rfl (s_pick_f rfl rfl) ?_
     refine o_step rfl (s_move rfl) ?_
     refine o_no rfl rfl rfl rfl ?_
     refine o_no rfl rfl rfl rfl ?_
     refine o_no rfl rfl rfl rfl ?_
     refine o_step rfl (s_pick_t rfl rfl) ?_
     refine o_nil ?_
     refine x_then (hK4 _ _ ?_)
     refine c_true rfl ?_
     refine c_seq fun _ hK5 => ?_
     refine c_region ?_
     refine o_step rfl (s_move rfl) ?_
     refine o_step rfl (s_assign rfl) ?_
     refine o_nil ?_
     refine x_then (hK5 _ _ ?_)
     refine c_ret ?_
     refine x_then_ret (?_)
     exact x_ret rfl (.tmp rfl (.nil)) (rfl)
    ·
     refine o_step rfl (step_cast (v' := .bool false) (s_gtr rfl rfl) (by rw [decide_eq_false (by omega)])) ?_
     refine o_step rfl (s_pick_f rfl rfl) ?_
     refine o_step rfl (s_move rfl) ?_
     refine o_yes rfl rfl ?_
     refine o_step rfl (s_move rfl) ?_
     refine o_yes rfl rfl ?_
     refine o_step rfl (s_len rfl) ?_
     refine o_yes rfl rfl ?_
     by_cases hw4 : (w.length : Int) > 1024
     ·
      refine o_step rfl (step_cast (v' := .bool true) (s_gtr rfl rfl) (by rw [decide_eq_true (by omega)])) ?_
      refine o_step rfl (s_pick_f rfl rfl) ?_
      refine o_nil ?_
      refine x_then (hK4 _ _ ?_)
      refine c_true rfl ?_
      refine c_seq fun _ hK6 => ?_
      refine c_region ?_
      refine o_step rfl (s_move rfl) ?_
      refine o_step rfl (s_assign rfl) ?_
      refine o_nil ?_
      refine x_then (hK6 _ _ ?_)
      refine c_ret ?_
      refine x_then_ret (?_)
      exact x_ret rfl (.tmp rfl (.nil)) (rfl)
     ·
      refine o_step rfl (step_cast (v' := .bool false) (s_gtr rfl rfl) (by rw [decide_eq_false (by omega)])) ?_
      refine o_step rfl (s_pick_f rfl rfl) ?_
      refine o_nil ?_
      refine x_then (hK4 _ _ ?_)
      refine c_false rfl ?_
      refine c_skip ?_
      refine x_then (hK3 _ _ ?_)
      refine c_seq fun _ hK7 => ?_
      refine c_region ?_
      refine o_step rfl (s_move rfl) ?_
      refine o_step rfl (s_move rfl) ?_
      refine o_step rfl (s_move rfl) ?_
      refine o_call (short_fn aa ac a hra ta tc w (by omega) 3 4194304 (by decide) (by decide)) rfl rfl rfl (by exact .nil) (fun w st => ⟨(RdK.old0 hw.1).out w st, (RdK.old0 hw.2.2).out w st⟩) (fun v46 S46 ⟨n46, a46, c46, hv46, hS46⟩ => ?_)
      subst hv46
      have hw46 : (w.take n46).length ≤ 1024 := by rw [List.length_take]; omega
      generalize w.take n46 = w1 at hS46 hw46 ⊢
      refine o_call (short_fn ba bc b hrb a46 c46 w1 (by omega) 3 4194304 (by decide) (by decide)) rfl rfl rfl (by exact .nil) (fun w st => ⟨(RdK.old0 hw.2.1).out w st, (hS46.rdk hiA).out w st⟩) (fun v47 S47 ⟨n47, a47, c47, hv47, hS47⟩ => ?_)
      subst hv47
      have hw47 : (w1.take n47).length ≤ 1024 := by rw [List.length_take]; omega
      generalize w1.take n47 = w2 at hS47 hw47 ⊢
      have hS47s := hS47.sl
      refine o_step rfl (s_assign rfl) ?_
      refine o_nil ?_
      refine x_then (hK7 _ _ ?_)
      refine c_seq fun _ hK8 => ?_
      refine c_region ?_
      refine o_step rfl (s_move rfl) ?_
      refine o_call (compile_fn aa ac a hra) rfl rfl rfl (by exact .nil) (fun w st => (RdK.old0 hw.1).out w st) (fun v50 S50 hv50 => ?_)
      obtain ⟨sA, eA, rfl, hcA⟩ := CompP.pair hv50
      refine o_step rfl (s_move rfl) ?_
      refine o_step rfl (s_extract rfl rfl) ?_
      refine o_step rfl (s_extract rfl rfl) ?_
      refine o_step rfl (s_assign rfl) ?_
      refine o_step rfl (s_assign rfl) ?_
      refine o_nil ?_
      refine x_then (hK8 _ _ ?_)
      refine c_seq fun _ hK9 => ?_
      refine c_region ?_
      refine o_step rfl (s_move rfl) ?_
      refine o_call (compile_fn ba bc b hrb) rfl rfl rfl (by exact .nil) (fun w st => (RdK.old0 hw.2.1).out w st) (fun v55 S55 hv55 => ?_)
      obtain ⟨sB, eB, rfl, hcB⟩ := CompP.pair hv55
      refine o_step rfl (s_move rfl) ?_
      refine o_step rfl (s_extract rfl rfl) ?_
      refine o_step rfl (s_extract rfl rfl) ?_
      refine o_step rfl (s_assign rfl) ?_
      refine o_step rfl (s_assign rfl) ?_
      refine o_nil ?_
      refine x_then (hK9 _ _ ?_)
      refine c_seq fun _ hK10 => ?_
      refine c_seq fun _ hK11 => ?_
      refine c_region ?_
      refine o_step rfl (s_move rfl) ?_
      by_cases hA : eA ≠ 0
      ·
       refine o_step rfl (step_cast (v' := .bool true) (s_neq rfl rfl) (by rw [decide_eq_true hA])) ?_
       refine o_step rfl (s_move rfl) ?_
       refine o_no rfl rfl rfl rfl ?_
       refine o_no rfl rfl rfl rfl ?_
       refine o_step rfl (s_pick_t rfl rfl) ?_
       refine o_nil ?_
       refine x_then (hK11 _ _ ?_)
       refine c_true rfl ?_
       refine c_seq fun _ hK12 => ?_
       refine c_region ?_
       refine o_step rfl (s_move rfl) ?_
       refine o_step rfl (s_assign rfl) ?_
       refine o_nil ?_
       refine x_then (hK12 _ _ ?_)
       refine c_ret ?_
       refine x_then_ret (?_)
       exact x_ret rfl (.tmp rfl (.nil)) (rfl)
      ·
       have hA := Decidable.not_not.1 hA
       obtain ⟨xa, ka, mA, _, _, hsA, hvA, hmA⟩ := hcA hA
       subst hvA
       have hkA := hsA.mok
       refine o_step rfl (step_cast (v' := .bool false) (s_neq rfl rfl) (by rw [decide_eq_false (fun h => h hA)])) ?_
       refine o_step rfl (s_move rfl) ?_
       refine o_yes rfl rfl ?_
       refine o_step rfl (s_move rfl) ?_
       refine o_yes rfl rfl ?_
       by_cases hB : eB ≠ 0
       ·
        refine o_step rfl (step_cast (v' := .bool true) (s_neq rfl rfl) (by rw [decide_eq_true hB])) ?_
        refine o_step rfl (s_pick_f rfl rfl) ?_
        refine o_nil ?_
        refine x_then (hK11 _ _ ?_)
        refine c_true rfl ?_
        refine c_seq fun _ hK13 => ?_
        refine c_region ?_
        refine o_step rfl (s_move rfl) ?_
        refine o_step rfl (s_assign rfl) ?_
        refine o_nil ?_
        refine x_then (hK13 _ _ ?_)
        refine c_ret ?_
        refine x_then_ret (?_)
        exact x_ret rfl (.tmp rfl (.nil)) (rfl)
       ·
        have hB := Decidable.not_not.1 hB
        obtain ⟨xb, kb, mB, _, _, hsB, hvB, hmB⟩ := hcB hB
        subst hvB
        have hkB := hsB.mok
        refine o_step rfl (step_cast (v' := .bool false) (s_neq rfl rfl) (by rw [decide_eq_false (fun h => h hB)])) ?_
        refine o_step rfl (s_pick_f rfl rfl) ?_
        refine o_nil ?_
        refine x_then (hK11 _ _ ?_)
        refine c_false rfl ?_
        refine c_skip ?_
        refine x_then (hK10 _ _ ?_)
        refine c_seq fun _ hK14 => ?_
        refine c_seq fun _ hK15 => ?_
        refine c_region ?_
        refine o_step rfl (s_move rfl) ?_
        refine o_callP (rMShaped_fn mA _ (mach (.nd xa ka .nil)) hkA.rng) rfl rfl rfl (fun w st => (hmA.rdk hiA).out w st) (fun v66 hv66 => ?_)
        rw [mokB_iff.2 hkA] at hv66
        subst hv66
        refine o_step rfl (s_not rfl) ?_
        refine o_step rfl (s_move rfl) ?_
        refine o_yes rfl rfl ?_
        refine o_step rfl (s_move rfl) ?_
        refine o_yes rfl rfl ?_
        refine o_callP (rMShaped_fn mB _ (mach (.nd xb kb .nil)) hkB.rng) rfl rfl rfl (fun w st => (hmB.rdk hiA).out w st) (fun v70 hv70 => ?_)
        rw [mokB_iff.2 hkB] at hv70
        subst hv70
        refine o_yes rfl rfl ?_
        refine o_step rfl (s_not rfl) ?_
        refine o_step rfl (s_pick_f rfl rfl) ?_
        refine o_nil ?_
        refine x_then (hK15 _ _ ?_)
        refine c_false rfl ?_
        refine c_skip ?_
        refine x_then (hK14 _ _ ?_)
        refine c_seq fun _ hK16 => ?_
        refine c_region ?_
        refine o_step rfl (step_cast (v' := .agg (En catN).toArray) (s_build (cs := [_, _, _, _, _, _, _, _, _]) (vs := [_, _]) rfl rfl (.cons rfl rfl rfl rfl rfl (.cons rfl rfl rfl rfl rfl (.nil)))) (by rw [En_cat])) ?_
        refine o_step rfl (s_move rfl) ?_
        refine o_step rfl (s_move rfl) ?_
        refine o_call (two_fn catN aa ac a hra ba bc b (by omega)) rfl rfl rfl (by exact .nil) (fun w st => ⟨(RdK.old0 hw.1).out w st, (RdK.old0 hw.2.1).out w st⟩) (fun v77 S77 ⟨g77, a77, c77, hv77, hS77⟩ => ?_)
        subst hv77
        refine o_call (compile_fn a77 c77 (twoL catN a b g77) (twoL_rng (by decide) hra hrb)) rfl rfl rfl (by exact .nil) (fun w st => (hS77.rdk hiA).out w st) (fun v78 S78 hv78 => ?_)
        obtain ⟨sC, eC, rfl, hcC⟩ := CompP.pair hv78
        refine o_step rfl (s_move rfl) ?_
        refine o_step rfl (s_extract rfl rfl) ?_
        refine o_step rfl (s_extract rfl rfl) ?_
        refine o_step rfl (s_assign rfl) ?_
        refine o_step rfl (s_assign rfl) ?_
        refine o_nil ?_
        refine x_then (hK16 _ _ ?_)
        refine c_seq fun _ hK17 => ?_
        refine c_region ?_
        refine o_step rfl (step_cast (v' := .agg (En altN).toArray) (s_build (cs := [_, _, _, _, _, _, _, _, _]) (vs := [_, _]) rfl rfl (.cons rfl rfl rfl rfl rfl (.cons rfl rfl rfl rfl rfl (.nil)))) (by rw [En_alt])) ?_
        refine o_step rfl (s_move rfl) ?_
        refine o_step rfl (s_move rfl) ?_
        refine o_call (two_fn altN aa ac a hra ba bc b (by omega)) rfl rfl rfl (by exact .nil) (fun w st => ⟨(RdK.old0 hw.1).out w st, (RdK.old0 hw.2.1).out w st⟩) (fun v85 S85 ⟨g85, a85, c85, hv85, hS85⟩ => ?_)
        subst hv85
        refine o_call (compile_fn a85 c85 (twoL altN a b g85) (twoL_rng (by decide) hra hrb)) rfl rfl rfl (by exact .nil) (fun w st => (hS85.rdk hiA).out w st) (fun v86 S86 hv86 => ?_)
        obtain ⟨sD, eD, rfl, hcD⟩ := CompP.pair hv86
        refine o_step rfl (s_move rfl) ?_
        refine o_step rfl (s_extract rfl rfl) ?_
        refine o_step rfl (s_extract rfl rfl) ?_
        refine o_step rfl (s_assign rfl) ?_
        refine o_step rfl (s_assign rfl) ?_
        refine o_nil ?_
        refine x_then (hK17 _ _ ?_)
        refine c_seq fun _ hK18 => ?_
        refine c_region ?_
        refine o_step rfl (step_cast (v' := .agg (En starN).toArray) (s_build (cs := [_, _, _, _, _, _, _, _, _]) (vs := [_, _, _]) rfl rfl (.cons rfl rfl rfl rfl rfl (.cons rfl rfl rfl rfl rfl (.cons rfl rfl rfl rfl rfl (.nil))))) (by rw [En_star])) ?_
        refine o_bs (E := En) (xs := [starN]) (vs := [_]) rfl rfl rfl rfl rfl (by decide) (by decide) fun b90 S90 hS90 => ?_
        refine o_step rfl (s_assign rfl) ?_
        refine o_nil ?_
        refine x_then (hK18 _ _ ?_)
        refine c_seq fun _ hK19 => ?_
        refine c_region ?_
        refine o_step rfl (s_move rfl) ?_
        refine o_step rfl (s_move rfl) ?_
        refine o_app hS90 (RdK.old0 hw.1) rfl rfl rfl rfl (by simp; omega) (by simp; omega) rfl pkA fun a94 c94 S94 hS94 => ?_
        refine o_call (compile_fn a94 c94 (starN :: a) (cons_rng (by decide) hra)) rfl rfl rfl (by exact .nil) (fun w st => (hS94.rdk hiA).out w st) (fun v95 S95 hv95 => ?_)
        obtain ⟨sE, eE, rfl, hcE⟩ := CompP.pair hv95
        refine o_step rfl (s_move rfl) ?_
        refine o_step rfl (s_extract rfl rfl) ?_
        refine o_step rfl (s_extract rfl rfl) ?_
        refine o_step rfl (s_assign rfl) ?_
        refine o_step rfl (s_assign rfl) ?_
        refine o_nil ?_
        refine x_then (hK19 _ _ ?_)
        refine c_seq fun _ hK20 => ?_
        refine c_region ?_
        refine o_step rfl (s_move rfl) ?_
        refine o_step rfl (s_move rfl) ?_
        refine o_call (runs_fn mA _ (mach (.nd xa ka .nil)) hkA.rng a47 c47 w2 (by omega) (der1 w2 xa ka) (fun p out hp h => ends_isS hsA.wf hkA hp h)) rfl rfl rfl (by exact .nil) (fun w st => ⟨(hmA.rdk hiA).out w st, (hS47.rdk hiA).out w st⟩) (fun v100 S100 ⟨ra, rc, rsa, hv100, hRa, hda⟩ => ?_)
        subst hv100
        have hda : RdRS _ _ S100 := hda
        refine o_step rfl (s_assign rfl) ?_
        refine o_nil ?_
        refine x_then (hK20 _ _ ?_)
        refine c_seq fun _ hK21 => ?_
        refine c_region ?_
        refine o_step rfl (s_move rfl) ?_
        refine o_step rfl (s_move rfl) ?_
        refine o_call (runs_fn mB _ (mach (.nd xb kb .nil)) hkB.rng a47 c47 w2 (by omega) (der1 w2 xb kb) (fun p out hp h => ends_isS hsB.wf hkB hp h)) rfl rfl rfl (by exact .nil) (fun w st => ⟨(hmB.rdk hiA).out w st, (hS47.rdk hiA).out w st⟩) (fun v103 S103 ⟨rb, rd, rsb, hv103, hRb, hdb⟩ => ?_)
        subst hv103
        have hdb : RdRS _ _ S103 := hdb
        refine o_step rfl (s_assign rfl) ?_
        refine o_nil ?_
        refine x_then (hK21 _ _ ?_)
        refine c_seq fun _ hK22 => ?_
        refine c_seq fun _ hK23 => ?_
        refine c_region ?_
        refine o_step rfl (s_assign rfl) ?_
        refine o_nil ?_
        refine x_then (hK23 _ _ ?_)
        refine c_block ?_
        -- not carried: 6
        refine c_knw (p := IsSl (.slice ra rsa.length rc) rsa.length ∧ IsSl (.slice rb rsb.length rd) rsb.length) (fun w st => ⟨(hda.at hiA st).out.sl, (hdb.at hiA st).out.sl⟩) fun hrsl => ?_
        refine c_loopB (fun (p : Nat) => p ≤ w2.length + 1) (fun (p : Nat) => [(21, .int .i64 p)]) [(2, _), (7, _), (12, _), (13, _), (14, _), (15, _), (17, _), (18, _), (19, _), (20, _)] (fun (p : Nat) => S103 ++ (S100 ++ (S95 ++ (S86 ++ (S78 ++ (S55 ++ (S50 ++ S47))))))) (fun (p : Nat) => w2.length + 1 - p) 0 (by omega) sbA sbA hzB ?_
        rintro p hp
        refine c_seq fun _ hK24 => ?_
        refine c_seq fun _ hK25 => ?_
        refine c_region ?_
        refine o_step rfl (s_move rfl) ?_
        refine o_step rfl (s_move rfl) ?_
        refine o_step rfl (s_len rfl) ?_
        by_cases hpw : p ≤ w2.length
        ·
         obtain ⟨sa, hsa, hia⟩ := hRa.get p hpw
         obtain ⟨sb, hsb, hib⟩ := hRb.get p hpw
         have hral := hRa.len
         have hrbl := hRb.len
         refine o_step rfl (step_cast (v' := .bool true) (s_leq rfl rfl) (by rw [decide_eq_true (by omega)])) ?_
         refine o_nil ?_
         refine x_then (hK25 _ _ ?_)
         refine c_true rfl ?_
         refine c_skip ?_
         refine x_then (hK24 _ _ ?_)
         refine c_seq fun _ hK26 => ?_
         refine c_block ?_
         refine c_seq fun _ hK27 => ?_
         refine c_seq fun _ hK28 => ?_
         refine c_drawE (S103 ++ (S100 ++ (S95 ++ (S86 ++ (S78 ++ (S55 ++ (S50 ++ S47))))))) (fun i => false) ?_
         refine e_take 0 rfl (by kernel_rfl) (by kernel_rfl) (by kernel_rfl) (by kernel_rfl) (fun _ _ => rfl) rfl hzB (s_move rfl) ?_
         by_cases hC : eC = 0
         ·
          obtain ⟨xc, kc, mC, _, _, hsC, hvC, hmC⟩ := hcC hC
          subst hvC
          obtain ⟨rfl, rfl⟩ := hsA.two cat_ok rfl hsB hsC
          have hkC := hsC.mok
          refine e_take 1 rfl (by kernel_rfl) (by kernel_rfl) (by kernel_rfl) (by kernel_rfl) (fun _ _ => rfl) rfl hzB (step_cast (v' := .bool true) (s_eql rfl rfl) (by rw [decide_eq_true hC])) ?_
          refine e_take 2 rfl (by kernel_rfl) (by kernel_rfl) (by kernel_rfl) (by kernel_rfl) (fun _ _ => rfl) rfl hzB (s_move rfl) ?_
          refine e_take 3 rfl (by kernel_rfl) (by kernel_rfl) (by kernel_rfl) (by kernel_rfl) (fun _ fr => by rw [wanted_of fr rfl rfl rfl]; rfl) rfl hzB (s_move rfl) ?_
          refine e_take 4 rfl (by kernel_rfl) (by kernel_rfl) (by kernel_rfl) (by kernel_rfl) (fun _ fr => by rw [wanted_of fr rfl rfl rfl]; rfl) rfl hzB (s_move rfl) ?_
          refine e_take 5 rfl (by kernel_rfl) (by kernel_rfl) (by kernel_rfl) (by kernel_rfl) (fun _ fr => by rw [wanted_of fr rfl rfl rfl]; rfl) rfl hzB (s_move rfl) ?_
          refine e_take 7 rfl (by kernel_rfl) (by kernel_rfl) (by kernel_rfl) (by kernel_rfl) (fun _ fr => by rw [wanted_of fr rfl rfl rfl]; rfl) rfl hzB (s_move rfl) ?_
          refine e_take 8 rfl (by kernel_rfl) (by kernel_rfl) (by kernel_rfl) (by kernel_rfl) (fun _ fr => by rw [wanted_of fr rfl rfl rfl]; rfl) rfl hzB (s_move rfl) ?_
          refine e_take 9 rfl (by kernel_rfl) (by kernel_rfl) (by kernel_rfl) (by kernel_rfl) (fun _ fr => by rw [wanted_of fr rfl rfl rfl]; rfl) rfl hzB (s_move rfl) ?_
          refine e_take 10 rfl (by kernel_rfl) (by kernel_rfl) (by kernel_rfl) (by kernel_rfl) (fun _ fr => by rw [wanted_of fr rfl rfl rfl]; rfl) rfl hzB (s_idx rfl rfl hrsl.1 (by omega)) ?_
          refine e_take 11 rfl (by kernel_rfl) (by kernel_rfl) (by kernel_rfl) (by kernel_rfl) (fun _ fr => by rw [wanted_of fr rfl rfl rfl]; rfl) rfl hzB (step_cast (v' := .slice sa.a sa.xs.length sa.c) (s_ld rfl ((hda.rdk hiA).ld p 0 hsa rfl (by decide) (by omega))) rfl) ?_
          refine e_one 6 rfl (by kernel_rfl) ?_
          refine o_yes rfl rfl ?_
          refine o_call (ends_fn mC _ (mach (.nd catN (.nd xa ka (.nd (mvN g77 xb) (kb.mv g77) .nil)) .nil)) hkC.rng a47 c47 w2 (by omega) p) rfl rfl rfl (by exact .nil) (fun w st => ⟨(hmC.rdk hiA).out w st, (hS47.rdk hiA).out w st⟩) (fun v116 S116 ⟨ae116, ce116, o116, hv116, hE116, hP116⟩ => ?_)
          have hi116 := ends_isS hsC.wf hkC hpw hP116
          rw [← hP116.1] at hv116
          subst hv116
          refine o_nil ?_
          refine x_oneS hzB ?_
          refine e_one 12 rfl (by kernel_rfl) ?_
          refine o_yes rfl rfl ?_
          refine o_call (from_fn rb rd rsb w2.length (der1 w2 xb kb) hRb (by omega) sa.a sa.c sa.xs (der1 w2 xa ka p) hia (fun q h => der1_inn p q hpw h)) rfl rfl rfl (by exact .nil) (fun w st => ⟨hdb.at hiA st, (hda.row (List.mem_of_getElem? hsa) hiA).out w st⟩) (fun v122 S122 ⟨a122, c122, o122, hv122, hO122, hi122⟩ => ?_)
          subst hv122
          refine o_nil ?_
          refine x_oneS hzB ?_
          refine e_one 13 rfl (by kernel_rfl) ?_
          refine o_yes rfl rfl ?_
          have heq123 := (hi116.iff fun q _ => der1_cat2).eq hi122
          refine o_callP (eqBools_fn ae116 a122 ce116 c122 o116 o122) rfl rfl rfl (fun w st => ⟨(hE116.rdk hiA).out w st, (hO122.rdk hiA).out w st⟩) (fun v123 hv123 => ?_)
          rw [decide_eq_true heq123] at hv123
          subst hv123
          refine o_nil ?_
          refine x_oneS hzB ?_
          refine e_take 14 rfl (by kernel_rfl) (by kernel_rfl) (by kernel_rfl) (by kernel_rfl) (fun _ fr => by rw [wanted_of fr rfl rfl rfl]; rfl) rfl hzB (s_not rfl) ?_
          refine e_take 15 rfl (by kernel_rfl) (by kernel_rfl) (by kernel_rfl) (by kernel_rfl) (fun _ _ => rfl) rfl hzB (s_pick_t rfl rfl) ?_
          refine e_done (by kernel_rfl) ?_
          refine x_then (hK28 _ _ ?_)
          refine c_false rfl ?_
          refine c_skip ?_
          refine x_then (hK27 _ _ ?_)
          refine c_seq fun _ hK29 => ?_
          refine c_seq fun _ hK30 => ?_
          refine c_drawE (S103 ++ (S100 ++ (S95 ++ (S86 ++ (S78 ++ (S55 ++ (S50 ++ S47))))))) (fun i => false) ?_
          refine e_take 0 rfl (by kernel_rfl) (by kernel_rfl) (by kernel_rfl) (by kernel_rfl) (fun _ _ => rfl) rfl hzB (s_move rfl) ?_
          by_cases hD : eD = 0
          ·
           obtain ⟨xc, kc, mD, _, _, hsD, hvD, hmD⟩ := hcD hD
           subst hvD
           obtain ⟨rfl, rfl⟩ := hsA.two alt_ok rfl hsB hsD
           have hkD := hsD.mok
           refine e_take 1 rfl (by kernel_rfl) (by kernel_rfl) (by kernel_rfl) (by kernel_rfl) (fun _ _ => rfl) rfl hzB (step_cast (v' := .bool true) (s_eql rfl rfl) (by rw [decide_eq_true hD])) ?_
           refine e_take 2 rfl (by kernel_rfl) (by kernel_rfl) (by kernel_rfl) (by kernel_rfl) (fun _ _ => rfl) rfl hzB (s_move rfl) ?_
           refine e_take 3 rfl (by kernel_rfl) (by kernel_rfl) (by kernel_rfl) (by kernel_rfl) (fun _ fr => by rw [wanted_of fr rfl rfl rfl]; rfl) rfl hzB (s_move rfl) ?_
           refine e_take 4 rfl (by kernel_rfl) (by kernel_rfl) (by kernel_rfl) (by kernel_rfl) (fun _ fr => by rw [wanted_of fr rfl rfl rfl]; rfl) rfl hzB (s_move rfl) ?_
           refine e_take 5 rfl (by kernel_rfl) (by kernel_rfl) (by kernel_rfl) (by kernel_rfl) (fun _ fr => by rw [wanted_of fr rfl rfl rfl]; rfl) rfl hzB (s_move rfl) ?_
           refine e_take 7 rfl (by kernel_rfl) (by kernel_rfl) (by kernel_rfl) (by kernel_rfl) (fun _ fr => by rw [wanted_of fr rfl rfl rfl]; rfl) rfl hzB (s_move rfl) ?_
           refine e_take 8 rfl (by kernel_rfl) (by kernel_rfl) (by kernel_rfl) (by kernel_rfl) (fun _ fr => by rw [wanted_of fr rfl rfl rfl]; rfl) rfl hzB (s_move rfl) ?_
           refine e_take 9 rfl (by kernel_rfl) (by kernel_rfl) (by kernel_rfl) (by kernel_rfl) (fun _ fr => by rw [wanted_of fr rfl rfl rfl]; rfl) rfl hzB (s_idx rfl rfl hrsl.1 (by omega)) ?_
           refine e_take 10 rfl (by kernel_rfl) (by kernel_rfl) (by kernel_rfl) (by kernel_rfl) (fun _ fr => by rw [wanted_of fr rfl rfl rfl]; rfl) rfl hzB (step_cast (v' := .slice sa.a sa.xs.length sa.c) (s_ld rfl ((hda.rdk hiA).ld p 0 hsa rfl (by decide) (by omega))) rfl) ?_
           refine e_take 11 rfl (by kernel_rfl) (by kernel_rfl) (by kernel_rfl) (by kernel_rfl) (fun _ fr => by rw [wanted_of fr rfl rfl rfl]; rfl) rfl hzB (s_move rfl) ?_
           refine e_take 12 rfl (by kernel_rfl) (by kernel_rfl) (by kernel_rfl) (by kernel_rfl) (fun _ fr => by rw [wanted_of fr rfl rfl rfl]; rfl) rfl hzB (s_move rfl) ?_
           refine e_take 13 rfl (by kernel_rfl) (by kernel_rfl) (by kernel_rfl) (by kernel_rfl) (fun _ fr => by rw [wanted_of fr rfl rfl rfl]; rfl) rfl hzB (s_idx rfl rfl hrsl.2 (by omega)) ?_
           refine e_take 14 rfl (by kernel_rfl) (by kernel_rfl) (by kernel_rfl) (by kernel_rfl) (fun _ fr => by rw [wanted_of fr rfl rfl rfl]; rfl) rfl hzB (step_cast (v' := .slice sb.a sb.xs.length sb.c) (s_ld rfl ((hdb.rdk hiA).ld p 0 hsb rfl (by decide) (by omega))) rfl) ?_
           refine e_one 6 rfl (by kernel_rfl) ?_
           refine o_yes rfl rfl ?_
           refine o_call (ends_fn mD _ (mach (.nd altN (.nd xa ka (.nd (mvN g85 xb) (kb.mv g85) .nil)) .nil)) hkD.rng a47 c47 w2 (by omega) p) rfl rfl rfl (by exact .nil) (fun w st => ⟨(hmD.rdk hiA).out w st, (hS47.rdk hiA).out w st⟩) (fun v132 S132 ⟨ae132, ce132, o132, hv132, hE132, hP132⟩ => ?_)
           have hi132 := ends_isS hsD.wf hkD hpw hP132
           rw [← hP132.1] at hv132
           subst hv132
           refine o_nil ?_
           refine x_oneS hzB ?_
           refine e_one 15 rfl (by kernel_rfl) ?_
           refine o_yes rfl rfl ?_
           refine o_call (either_fn sa.a sb.a sa.c sb.c sa.xs sb.xs (by rw [hia.len, hib.len]) (by rw [hia.len]; omega)) rfl rfl rfl (by exact .nil) (fun w st => ⟨(hda.row (List.mem_of_getElem? hsa) hiA).out w st, (hdb.row (List.mem_of_getElem? hsb) hiA).out w st⟩) (fun v141 S141 ⟨a141, c141, hv141, hO141⟩ => ?_)
           subst hv141
           refine o_nil ?_
           refine x_oneS hzB ?_
           refine e_one 16 rfl (by kernel_rfl) ?_
           refine o_yes rfl rfl ?_
           have heq142 := (hi132.iff fun q _ => der1_alt2).eq (hia.or hib)
           refine o_callP (eqBools_fn ae132 a141 ce132 c141 o132 (orL sa.xs sb.xs)) rfl rfl rfl (fun w st => ⟨(hE132.rdk hiA).out w st, (hO141.rdk hiA).out w st⟩) (fun v142 hv142 => ?_)
           rw [decide_eq_true heq142] at hv142
           subst hv142
           refine o_nil ?_
           refine x_oneS hzB ?_
           refine e_take 17 rfl (by kernel_rfl) (by kernel_rfl) (by kernel_rfl) (by kernel_rfl) (fun _ fr => by rw [wanted_of fr rfl rfl rfl]; rfl) rfl hzB (s_not rfl) ?_
           refine e_take 18 rfl (by kernel_rfl) (by kernel_rfl) (by kernel_rfl) (by kernel_rfl) (fun _ _ => rfl) rfl hzB (s_pick_t rfl rfl) ?_
           refine e_done (by kernel_rfl) ?_
           refine x_then (hK30 _ _ ?_)
           refine c_false rfl ?_
           refine c_skip ?_
           refine x_then (hK29 _ _ ?_)
           refine c_seq fun _ hK31 => ?_
           refine c_region ?_
           refine o_step rfl (s_move rfl) ?_
           by_cases hE : eE = 0
           ·
            obtain ⟨xc, kc, mE, _, _, hsE, hvE, hmE⟩ := hcE hE
            subst hvE
            obtain ⟨rfl, rfl⟩ := hsA.rep1 hsE
            have hkE := hsE.mok
            refine o_step rfl (step_cast (v' := .bool true) (s_eql rfl rfl) (by rw [decide_eq_true hE])) ?_
            refine o_step rfl (s_move rfl) ?_
            refine o_yes rfl rfl ?_
            refine o_step rfl (s_move rfl) ?_
            refine o_yes rfl rfl ?_
            refine o_step rfl (s_move rfl) ?_
            refine o_yes rfl rfl ?_
            refine o_step rfl (s_move rfl) ?_
            refine o_yes rfl rfl ?_
            refine o_call (ends_fn mE _ (mach (.nd starN (.nd xa ka .nil) .nil)) hkE.rng a47 c47 w2 (by omega) p) rfl rfl rfl (by exact .nil) (fun w st => ⟨(hmE.rdk hiA).out w st, (hS47.rdk hiA).out w st⟩) (fun v151 S151 ⟨ae151, ce151, o151, hv151, hE151, hP151⟩ => ?_)
            have hi151 := ends_isS hsE.wf hkE hpw hP151
            rw [← hP151.1] at hv151
            subst hv151
            refine o_yes rfl rfl ?_
            refine o_step rfl (s_move rfl) ?_
            refine o_yes rfl rfl ?_
            refine o_step rfl (s_move rfl) ?_
            refine o_yes rfl rfl ?_
            refine o_call (again_fn ra rc rsa w2.length (der1 w2 xa ka) hRa (by omega) der1_inn p hpw) rfl rfl rfl (by exact .nil) (fun w st => hda.at hiA st) (fun v154 S154 ⟨a154, c154, o154, hv154, hO154, hi154⟩ => ?_)
            subst hv154
            refine o_yes rfl rfl ?_
            have heq155 := (hi151.iff fun q _ => der1_star).eq hi154
            refine o_callP (eqBools_fn ae151 a154 ce151 c154 o151 o154) rfl rfl rfl (fun w st => ⟨(hE151.rdk hiA).out w st, (hO154.rdk hiA).out w st⟩) (fun v155 hv155 => ?_)
            rw [decide_eq_true heq155] at hv155
            subst hv155
            refine o_yes rfl rfl ?_
            refine o_step rfl (s_not rfl) ?_
            refine o_step rfl (s_pick_t rfl rfl) ?_
            refine o_nil ?_
            refine x_then (hK31 _ _ ?_)
            refine c_false rfl ?_
            refine c_skip ?_
            refine x_block ?_
            refine x_then (hK26 _ _ ?_)
            refine c_region ?_
            refine o_step rfl (s_move rfl) ?_
            refine o_step rfl (s_add rfl rfl (by omega)) ?_
            refine o_step rfl (s_assign rfl) ?_
            refine o_nil ?_
            exact x_then (x_inv (p + 1) (by omega) (by first | omega | (dsimp only; omega)) sbA hzB)
           ·
            refine o_step rfl (step_cast (v' := .bool false) (s_eql rfl rfl) (by rw [decide_eq_false hE])) ?_
            refine o_step rfl (s_move rfl) ?_
            refine o_no rfl rfl rfl rfl ?_
            refine o_no rfl rfl rfl rfl ?_
            refine o_no rfl rfl rfl rfl ?_
            refine o_no rfl rfl rfl rfl ?_
            refine o_no rfl rfl rfl rfl ?_
            refine o_no rfl rfl rfl rfl ?_
            refine o_no rfl rfl rfl rfl ?_
            refine o_no rfl rfl rfl rfl ?_
            refine o_no rfl rfl rfl rfl ?_
            refine o_step rfl (s_pick_f rfl rfl) ?_
            refine o_nil ?_
            refine x_then (hK31 _ _ ?_)
            refine c_false rfl ?_
            refine c_skip ?_
            refine x_block ?_
            refine x_then (hK26 _ _ ?_)
            refine c_region ?_
            refine o_step rfl (s_move rfl) ?_
            refine o_step rfl (s_add rfl rfl (by omega)) ?_
            refine o_step rfl (s_assign rfl) ?_
            refine o_nil ?_
            exact x_then (x_inv (p + 1) (by omega) (by first | omega | (dsimp only; omega)) sbA hzB)
          ·
           refine e_take 1 rfl (by kernel_rfl) (by kernel_rfl) (by kernel_rfl) (by kernel_rfl) (fun _ _ => rfl) rfl hzB (step_cast (v' := .bool false) (s_eql rfl rfl) (by rw [decide_eq_false hD])) ?_
           refine e_take 2 rfl (by kernel_rfl) (by kernel_rfl) (by kernel_rfl) (by kernel_rfl) (fun _ _ => rfl) rfl hzB (s_move rfl) ?_
           refine e_skip 3 rfl (by kernel_rfl) (by kernel_rfl) (by kernel_rfl) rfl rfl rfl rfl ?_
           refine e_skip 4 rfl (by kernel_rfl) (by kernel_rfl) (by kernel_rfl) rfl rfl rfl rfl ?_
           refine e_skip 5 rfl (by kernel_rfl) (by kernel_rfl) (by kernel_rfl) rfl rfl rfl rfl ?_
           refine e_skip 7 rfl (by kernel_rfl) (by kernel_rfl) (by kernel_rfl) rfl rfl rfl rfl ?_
           refine e_skip 8 rfl (by kernel_rfl) (by kernel_rfl) (by kernel_rfl) rfl rfl rfl rfl ?_
           refine e_skip 9 rfl (by kernel_rfl) (by kernel_rfl) (by kernel_rfl) rfl rfl rfl rfl ?_
           refine e_skip 10 rfl (by kernel_rfl) (by kernel_rfl) (by kernel_rfl) rfl rfl rfl rfl ?_
           refine e_skip 11 rfl (by kernel_rfl) (by kernel_rfl) (by kernel_rfl) rfl rfl rfl rfl ?_
           refine e_skip 12 rfl (by kernel_rfl) (by kernel_rfl) (by kernel_rfl) rfl rfl rfl rfl ?_
           refine e_skip 13 rfl (by kernel_rfl) (by kernel_rfl) (by kernel_rfl) rfl rfl rfl rfl ?_
           refine e_skip 14 rfl (by kernel_rfl) (by kernel_rfl) (by kernel_rfl) rfl rfl rfl rfl ?_
           refine e_one 6 rfl (by kernel_rfl) ?_
           refine o_no rfl rfl rfl rfl ?_
           refine o_nil ?_
           refine x_oneS hzB ?_
           refine e_one 15 rfl (by kernel_rfl) ?_
           refine o_no rfl rfl rfl rfl ?_
           refine o_nil ?_
           refine x_oneS hzB ?_
           refine e_one 16 rfl (by kernel_rfl) ?_
           refine o_no rfl rfl rfl rfl ?_
           refine o_nil ?_
           refine x_oneS hzB ?_
           refine e_skip 17 rfl (by kernel_rfl) (by kernel_rfl) (by kernel_rfl) rfl rfl rfl rfl ?_
           refine e_take 18 rfl (by kernel_rfl) (by kernel_rfl) (by kernel_rfl) (by kernel_rfl) (fun _ _ => rfl) rfl hzB (s_pick_f rfl rfl) ?_
           refine e_done (by kernel_rfl) ?_
           refine x_then (hK30 _ _ ?_)
           refine c_false rfl ?_
           refine c_skip ?_
           refine x_then (hK29 _ _ ?_)
           refine c_seq fun _ hK32 => ?_
           refine c_region ?_
           refine o_step rfl (s_move rfl) ?_
           by_cases hE : eE = 0
           ·
            obtain ⟨xc, kc, mE, _, _, hsE, hvE, hmE⟩ := hcE hE
            subst hvE
            obtain ⟨rfl, rfl⟩ := hsA.rep1 hsE
            have hkE := hsE.mok
            refine o_step rfl (step_cast (v' := .bool true) (s_eql rfl rfl) (by rw [decide_eq_true hE])) ?_
            refine o_step rfl (s_move rfl) ?_
            refine o_yes rfl rfl ?_
            refine o_step rfl (s_move rfl) ?_
            refine o_yes rfl rfl ?_
            refine o_step rfl (s_move rfl) ?_
            refine o_yes rfl rfl ?_
            refine o_step rfl (s_move rfl) ?_
            refine o_yes rfl rfl ?_
            refine o_call (ends_fn mE _ (mach (.nd starN (.nd xa ka .nil) .nil)) hkE.rng a47 c47 w2 (by omega) p) rfl rfl rfl (by exact .nil) (fun w st => ⟨(hmE.rdk hiA).out w st, (hS47.rdk hiA).out w st⟩) (fun v151 S151 ⟨ae151, ce151, o151, hv151, hE151, hP151⟩ => ?_)
            have hi151 := ends_isS hsE.wf hkE hpw hP151
            rw [← hP151.1] at hv151
            subst hv151
            refine o_yes rfl rfl ?_
            refine o_step rfl (s_move rfl) ?_
            refine o_yes rfl rfl ?_
            refine o_step rfl (s_move rfl) ?_
            refine o_yes rfl rfl ?_
            refine o_call (again_fn ra rc rsa w2.length (der1 w2 xa ka) hRa (by omega) der1_inn p hpw) rfl rfl rfl (by exact .nil) (fun w st => hda.at hiA st) (fun v154 S154 ⟨a154, c154, o154, hv154, hO154, hi154⟩ => ?_)
            subst hv154
            refine o_yes rfl rfl ?_
            have heq155 := (hi151.iff fun q _ => der1_star).eq hi154
            refine o_callP (eqBools_fn ae151 a154 ce151 c154 o151 o154) rfl rfl rfl (fun w st => ⟨(hE151.rdk hiA).out w st, (hO154.rdk hiA).out w st⟩) (fun v155 hv155 => ?_)
            rw [decide_eq_true heq155] at hv155
            subst hv155
            refine o_yes rfl rfl ?_
            refine o_step rfl (s_not rfl) ?_
            refine o_step rfl (s_pick_t rfl rfl) ?_
            refine o_nil ?_
            refine x_then (hK32 _ _ ?_)
            refine c_false rfl ?_
            refine c_skip ?_
            refine x_block ?_
            refine x_then (hK26 _ _ ?_)
            refine c_region ?_
            refine o_step rfl (s_move rfl) ?_
            refine o_step rfl (s_add rfl rfl (by omega)) ?_
            refine o_step rfl (s_assign rfl) ?_
            refine o_nil ?_
            exact x_then (x_inv (p + 1) (by omega) (by first | omega | (dsimp only; omega)) sbA hzB)
           ·
            refine o_step rfl (step_cast (v' := .bool false) (s_eql rfl rfl) (by rw [decide_eq_false hE])) ?_
            refine o_step rfl (s_move rfl) ?_
            refine o_no rfl rfl rfl rfl ?_
            refine o_no rfl rfl rfl rfl ?_
            refine o_no rfl rfl rfl rfl ?_
            refine o_no rfl rfl rfl rfl ?_
            refine o_no rfl rfl rfl rfl ?_
            refine o_no rfl rfl rfl rfl ?_
            refine o_no rfl rfl rfl rfl ?_
            refine o_no rfl rfl rfl rfl ?_
            refine o_no rfl rfl rfl rfl ?_
            refine o_step rfl (s_pick_f rfl rfl) ?_
            refine o_nil ?_
            refine x_then (hK32 _ _ ?_)
            refine c_false rfl ?_
            refine c_skip ?_
            refine x_block ?_
            refine x_then (hK26 _ _ ?_)
            refine c_region ?_
            refine o_step rfl (s_move rfl) ?_
            refine o_step rfl (s_add rfl rfl (by omega)) ?_
            refine o_step rfl (s_assign rfl) ?_
            refine o_nil ?_
            exact x_then (x_inv (p + 1) (by omega) (by first | omega | (dsimp only; omega)) sbA hzB)
         ·
          refine e_take 1 rfl (by kernel_rfl) (by kernel_rfl) (by kernel_rfl) (by kernel_rfl) (fun _ _ => rfl) rfl hzB (step_cast (v' := .bool false) (s_eql rfl rfl) (by rw [decide_eq_false hC])) ?_
          refine e_take 2 rfl (by kernel_rfl) (by kernel_rfl) (by kernel_rfl) (by kernel_rfl) (fun _ _ => rfl) rfl hzB (s_move rfl) ?_
          refine e_skip 3 rfl (by kernel_rfl) (by kernel_rfl) (by kernel_rfl) rfl rfl rfl rfl ?_
          refine e_skip 4 rfl (by kernel_rfl) (by kernel_rfl) (by kernel_rfl) rfl rfl rfl rfl ?_
          refine e_skip 5 rfl (by kernel_rfl) (by kernel_rfl) (by kernel_rfl) rfl rfl rfl rfl ?_
          refine e_skip 7 rfl (by kernel_rfl) (by kernel_rfl) (by kernel_rfl) rfl rfl rfl rfl ?_
          refine e_skip 8 rfl (by kernel_rfl) (by kernel_rfl) (by kernel_rfl) rfl rfl rfl rfl ?_
          refine e_skip 9 rfl (by kernel_rfl) (by kernel_rfl) (by kernel_rfl) rfl rfl rfl rfl ?_
          refine e_skip 10 rfl (by kernel_rfl) (by kernel_rfl) (by kernel_rfl) rfl rfl rfl rfl ?_
          refine e_skip 11 rfl (by kernel_rfl) (by kernel_rfl) (by kernel_rfl) rfl rfl rfl rfl ?_
          refine e_one 6 rfl (by kernel_rfl) ?_
          refine o_no rfl rfl rfl rfl ?_
          refine o_nil ?_
          refine x_oneS hzB ?_
          refine e_one 12 rfl (by kernel_rfl) ?_
          refine o_no rfl rfl rfl rfl ?_
          refine o_nil ?_
          refine x_oneS hzB ?_
          refine e_one 13 rfl (by kernel_rfl) ?_
          refine o_no rfl rfl rfl rfl ?_
          refine o_nil ?_
          refine x_oneS hzB ?_
          refine e_skip 14 rfl (by kernel_rfl) (by kernel_rfl) (by kernel_rfl) rfl rfl rfl rfl ?_
          refine e_take 15 rfl (by kernel_rfl) (by kernel_rfl) (by kernel_rfl) (by kernel_rfl) (fun _ _ => rfl) rfl hzB (s_pick_f rfl rfl) ?_
          refine e_done (by kernel_rfl) ?_
          refine x_then (hK28 _ _ ?_)
          refine c_false rfl ?_
          refine c_skip ?_
          refine x_then (hK27 _ _ ?_)
          refine c_seq fun _ hK33 => ?_
          refine c_seq fun _ hK34 => ?_
          refine c_drawE (S103 ++ (S100 ++ (S95 ++ (S86 ++ (S78 ++ (S55 ++ (S50 ++ S47))))))) (fun i => false) ?_
          refine e_take 0 rfl (by kernel_rfl) (by kernel_rfl) (by kernel_rfl) (by kernel_rfl) (fun _ _ => rfl) rfl hzB (s_move rfl) ?_
          by_cases hD : eD = 0
          ·
           obtain ⟨xc, kc, mD, _, _, hsD, hvD, hmD⟩ := hcD hD
           subst hvD
           obtain ⟨rfl, rfl⟩ := hsA.two alt_ok rfl hsB hsD
           have hkD := hsD.mok
           refine e_take 1 rfl (by kernel_rfl) (by kernel_rfl) (by kernel_rfl) (by kernel_rfl) (fun _ _ => rfl) rfl hzB (step_cast (v' := .bool true) (s_eql rfl rfl) (by rw [decide_eq_true hD])) ?_
           refine e_take 2 rfl (by kernel_rfl) (by kernel_rfl) (by kernel_rfl) (by kernel_rfl) (fun _ _ => rfl) rfl hzB (s_move rfl) ?_
           refine e_take 3 rfl (by kernel_rfl) (by kernel_rfl) (by kernel_rfl) (by kernel_rfl) (fun _ fr => by rw [wanted_of fr rfl rfl rfl]; rfl) rfl hzB (s_move rfl) ?_
           refine e_take 4 rfl (by kernel_rfl) (by kernel_rfl) (by kernel_rfl) (by kernel_rfl) (fun _ fr => by rw [wanted_of fr rfl rfl rfl]; rfl) rfl hzB (s_move rfl) ?_
           refine e_take 5 rfl (by kernel_rfl) (by kernel_rfl) (by kernel_rfl) (by kernel_rfl) (fun _ fr => by rw [wanted_of fr rfl rfl rfl]; rfl) rfl hzB (s_move rfl) ?_
           refine e_take 7 rfl (by kernel_rfl) (by kernel_rfl) (by kernel_rfl) (by kernel_rfl) (fun _ fr => by rw [wanted_of fr rfl rfl rfl]; rfl) rfl hzB (s_move rfl) ?_
           refine e_take 8 rfl (by kernel_rfl) (by kernel_rfl) (by kernel_rfl) (by kernel_rfl) (fun _ fr => by rw [wanted_of fr rfl rfl rfl]; rfl) rfl hzB (s_move rfl) ?_
           refine e_take 9 rfl (by kernel_rfl) (by kernel_rfl) (by kernel_rfl) (by kernel_rfl) (fun _ fr => by rw [wanted_of fr rfl rfl rfl]; rfl) rfl hzB (s_idx rfl rfl hrsl.1 (by omega)) ?_
           refine e_take 10 rfl (by kernel_rfl) (by kernel_rfl) (by kernel_rfl) (by kernel_rfl) (fun _ fr => by rw [wanted_of fr rfl rfl rfl]; rfl) rfl hzB (step_cast (v' := .slice sa.a sa.xs.length sa.c) (s_ld rfl ((hda.rdk hiA).ld p 0 hsa rfl (by decide) (by omega))) rfl) ?_
           refine e_take 11 rfl (by kernel_rfl) (by kernel_rfl) (by kernel_rfl) (by kernel_rfl) (fun _ fr => by rw [wanted_of fr rfl rfl rfl]; rfl) rfl hzB (s_move rfl) ?_
           refine e_take 12 rfl (by kernel_rfl) (by kernel_rfl) (by kernel_rfl) (by kernel_rfl) (fun _ fr => by rw [wanted_of fr rfl rfl rfl]; rfl) rfl hzB (s_move rfl) ?_
           refine e_take 13 rfl (by kernel_rfl) (by kernel_rfl) (by kernel_rfl) (by kernel_rfl) (fun _ fr => by rw [wanted_of fr rfl rfl rfl]; rfl) rfl hzB (s_idx rfl rfl hrsl.2 (by omega)) ?_
           refine e_take 14 rfl (by kernel_rfl) (by kernel_rfl) (by kernel_rfl) (by kernel_rfl) (fun _ fr => by rw [wanted_of fr rfl rfl rfl]; rfl) rfl hzB (step_cast (v' := .slice sb.a sb.xs.length sb.c) (s_ld rfl ((hdb.rdk hiA).ld p 0 hsb rfl (by decide) (by omega))) rfl) ?_
           refine e_one 6 rfl (by kernel_rfl) ?_
           refine o_yes rfl rfl ?_
           refine o_call (ends_fn mD _ (mach (.nd altN (.nd xa ka (.nd (mvN g85 xb) (kb.mv g85) .nil)) .nil)) hkD.rng a47 c47 w2 (by omega) p) rfl rfl rfl (by exact .nil) (fun w st => ⟨(hmD.rdk hiA).out w st, (hS47.rdk hiA).out w st⟩) (fun v132 S132 ⟨ae132, ce132, o132, hv132, hE132, hP132⟩ => ?_)
           have hi132 := ends_isS hsD.wf hkD hpw hP132
           rw [← hP132.1] at hv132
           subst hv132
           refine o_nil ?_
           refine x_oneS hzB ?_
           refine e_one 15 rfl (by kernel_rfl) ?_
           refine o_yes rfl rfl ?_
           refine o_call (either_fn sa.a sb.a sa.c sb.c sa.xs sb.xs (by rw [hia.len, hib.len]) (by rw [hia.len]; omega)) rfl rfl rfl (by exact .nil) (fun w st => ⟨(hda.row (List.mem_of_getElem? hsa) hiA).out w st, (hdb.row (List.mem_of_getElem? hsb) hiA).out w st⟩) (fun v141 S141 ⟨a141, c141, hv141, hO141⟩ => ?_)
           subst hv141
           refine o_nil ?_
           refine x_oneS hzB ?_
           refine e_one 16 rfl (by kernel_rfl) ?_
           refine o_yes rfl rfl ?_
           have heq142 := (hi132.iff fun q _ => der1_alt2).eq (hia.or hib)
           refine o_callP (eqBools_fn ae132 a141 ce132 c141 o132 (orL sa.xs sb.xs)) rfl rfl rfl (fun w st => ⟨(hE132.rdk hiA).out w st, (hO141.rdk hiA).out w st⟩) (fun v142 hv142 => ?_)
           rw [decide_eq_true heq142] at hv142
           subst hv142
           refine o_nil ?_
           refine x_oneS hzB ?_
           refine e_take 17 rfl (by kernel_rfl) (by kernel_rfl) (by kernel_rfl) (by kernel_rfl) (fun _ fr => by rw [wanted_of fr rfl rfl rfl]; rfl) rfl hzB (s_not rfl) ?_
           refine e_take 18 rfl (by kernel_rfl) (by kernel_rfl) (by kernel_rfl) (by kernel_rfl) (fun _ _ => rfl) rfl hzB (s_pick_t rfl rfl) ?_
           refine e_done (by kernel_rfl) ?_
           refine x_then (hK34 _ _ ?_)
           refine c_false rfl ?_
           refine c_skip ?_
           refine x_then (hK33 _ _ ?_)
           refine c_seq fun _ hK35 => ?_
           refine c_region ?_
           refine o_step rfl (s_move rfl) ?_
           by_cases hE : eE = 0
           ·
            obtain ⟨xc, kc, mE, _, _, hsE, hvE, hmE⟩ := hcE hE
            subst hvE
            obtain ⟨rfl, rfl⟩ := hsA.rep1 hsE
            have hkE := hsE.mok
            refine o_step rfl (step_cast (v' := .bool true) (s_eql rfl rfl) (by rw [decide_eq_true hE])) ?_
            refine o_step rfl (s_move rfl) ?_
            refine o_yes rfl rfl ?_
            refine o_step rfl (s_move rfl) ?_
            refine o_yes rfl rfl ?_
            refine o_step rfl (s_move rfl) ?_
            refine o_yes rfl rfl ?_
            refine o_step rfl (s_move rfl) ?_
            refine o_yes rfl rfl ?_
            refine o_call (ends_fn mE _ (mach (.nd starN (.nd xa ka .nil) .nil)) hkE.rng a47 c47 w2 (by omega) p) rfl rfl rfl (by exact .nil) (fun w st => ⟨(hmE.rdk hiA).out w st, (hS47.rdk hiA).out w st⟩) (fun v151 S151 ⟨ae151, ce151, o151, hv151, hE151, hP151⟩ => ?_)
            have hi151 := ends_isS hsE.wf hkE hpw hP151
            rw [← hP151.1] at hv151
            subst hv151
            refine o_yes rfl rfl ?_
            refine o_step rfl (s_move rfl) ?_
            refine o_yes rfl rfl ?_
            refine o_step rfl (s_move rfl) ?_
            refine o_yes rfl rfl ?_
            refine o_call (again_fn ra rc rsa w2.length (der1 w2 xa ka) hRa (by omega) der1_inn p hpw) rfl rfl rfl (by exact .nil) (fun w st => hda.at hiA st) (fun v154 S154 ⟨a154, c154, o154, hv154, hO154, hi154⟩ => ?_)
            subst hv154
            refine o_yes rfl rfl ?_
            have heq155 := (hi151.iff fun q _ => der1_star).eq hi154
            refine o_callP (eqBools_fn ae151 a154 ce151 c154 o151 o154) rfl rfl rfl (fun w st => ⟨(hE151.rdk hiA).out w st, (hO154.rdk hiA).out w st⟩) (fun v155 hv155 => ?_)
            rw [decide_eq_true heq155] at hv155
            subst hv155
            refine o_yes rfl rfl ?_
            refine o_step rfl (s_not rfl) ?_
            refine o_step rfl (s_pick_t rfl rfl) ?_
            refine o_nil ?_
            refine x_then (hK35 _ _ ?_)
            refine c_false rfl ?_
            refine c_skip ?_
            refine x_block ?_
            refine x_then (hK26 _ _ ?_)
            refine c_region ?_
            refine o_step rfl (s_move rfl) ?_
            refine o_step rfl (s_add rfl rfl (by omega)) ?_
            refine o_step rfl (s_assign rfl) ?_
            refine o_nil ?_
            exact x_then (x_inv (p + 1) (by omega) (by first | omega | (dsimp only; omega)) sbA hzB)
           ·
            refine o_step rfl (step_cast (v' := .bool false) (s_eql rfl rfl) (by rw [decide_eq_false hE])) ?_
            refine o_step rfl (s_move rfl) ?_
            refine o_no rfl rfl rfl rfl ?_
            refine o_no rfl rfl rfl rfl ?_
            refine o_no rfl rfl rfl rfl ?_
            refine o_no rfl rfl rfl rfl ?_
            refine o_no rfl rfl rfl rfl ?_
            refine o_no rfl rfl rfl rfl ?_
            refine o_no rfl rfl rfl rfl ?_
            refine o_no rfl rfl rfl rfl ?_
            refine o_no rfl rfl rfl rfl ?_
            refine o_step rfl (s_pick_f rfl rfl) ?_
            refine o_nil ?_
            refine x_then (hK35 _ _ ?_)
            refine c_false rfl ?_
            refine c_skip ?_
            refine x_block ?_
            refine x_then (hK26 _ _ ?_)
            refine c_region ?_
            refine o_step rfl (s_move rfl) ?_
            refine o_step rfl (s_add rfl rfl (by omega)) ?_
            refine o_step rfl (s_assign rfl) ?_
            refine o_nil ?_
            exact x_then (x_inv (p + 1) (by omega) (by first | omega | (dsimp only; omega)) sbA hzB)
          ·
           refine e_take 1 rfl (by kernel_rfl) (by kernel_rfl) (by kernel_rfl) (by kernel_rfl) (fun _ _ => rfl) rfl hzB (step_cast (v' := .bool false) (s_eql rfl rfl) (by rw [decide_eq_false hD])) ?_
           refine e_take 2 rfl (by kernel_rfl) (by kernel_rfl) (by kernel_rfl) (by kernel_rfl) (fun _ _ => rfl) rfl hzB (s_move rfl) ?_
           refine e_skip 3 rfl (by kernel_rfl) (by kernel_rfl) (by kernel_rfl) rfl rfl rfl rfl ?_
           refine e_skip 4 rfl (by kernel_rfl) (by kernel_rfl) (by kernel_rfl) rfl rfl rfl rfl ?_
           refine e_skip 5 rfl (by kernel_rfl) (by kernel_rfl) (by kernel_rfl) rfl rfl rfl rfl ?_
           refine e_skip 7 rfl (by kernel_rfl) (by kernel_rfl) (by kernel_rfl) rfl rfl rfl rfl ?_
           refine e_skip 8 rfl (by kernel_rfl) (by kernel_rfl) (by kernel_rfl) rfl rfl rfl rfl ?_
           refine e_skip 9 rfl (by kernel_rfl) (by kernel_rfl) (by kernel_rfl) rfl rfl rfl rfl ?_
           refine e_skip 10 rfl (by kernel_rfl) (by kernel_rfl) (by kernel_rfl) rfl rfl rfl rfl ?_
           refine e_skip 11 rfl (by kernel_rfl) (by kernel_rfl) (by kernel_rfl) rfl rfl rfl rfl ?_
           refine e_skip 12 rfl (by kernel_rfl) (by kernel_rfl) (by kernel_rfl) rfl rfl rfl rfl ?_
           refine e_skip 13 rfl (by kernel_rfl) (by kernel_rfl) (by kernel_rfl) rfl rfl rfl rfl ?_
           refine e_skip 14 rfl (by kernel_rfl) (by kernel_rfl) (by kernel_rfl) rfl rfl rfl rfl ?_
           refine e_one 6 rfl (by kernel_rfl) ?_
           refine o_no rfl rfl rfl rfl ?_
           refine o_nil ?_
           refine x_oneS hzB ?_
           refine e_one 15 rfl (by kernel_rfl) ?_
           refine o_no rfl rfl rfl rfl ?_
           refine o_nil ?_
           refine x_oneS hzB ?_
           refine e_one 16 rfl (by kernel_rfl) ?_
           refine o_no rfl rfl rfl rfl ?_
           refine o_nil ?_
           refine x_oneS hzB ?_
           refine e_skip 17 rfl (by kernel_rfl) (by kernel_rfl) (by kernel_rfl) rfl rfl rfl rfl ?_
           refine e_take 18 rfl (by kernel_rfl) (by kernel_rfl) (by kernel_rfl) (by kernel_rfl) (fun _ _ => rfl) rfl hzB (s_pick_f rfl rfl) ?_
           refine e_done (by kernel_rfl) ?_
           refine x_then (hK34 _ _ ?_)
           refine c_false rfl ?_
           refine c_skip ?_
           refine x_then (hK33 _ _ ?_)
           refine c_seq fun _ hK36 => ?_
           refine c_region ?_
           refine o_step rfl (s_move rfl) ?_
           by_cases hE : eE = 0
           ·
            obtain ⟨xc, kc, mE, _, _, hsE, hvE, hmE⟩ := hcE hE
            subst hvE
            obtain ⟨rfl, rfl⟩ := hsA.rep1 hsE
            have hkE := hsE.mok
            refine o_step rfl (step_cast (v' := .bool true) (s_eql rfl rfl) (by rw [decide_eq_true hE])) ?_
            refine o_step rfl (s_move rfl) ?_
            refine o_yes rfl rfl ?_
            refine o_step rfl (s_move rfl) ?_
            refine o_yes rfl rfl ?_
            refine o_step rfl (s_move rfl) ?_
            refine o_yes rfl rfl ?_
            refine o_step rfl (s_move rfl) ?_
            refine o_yes rfl rfl ?_
            refine o_call (ends_fn mE _ (mach (.nd starN (.nd xa ka .nil) .nil)) hkE.rng a47 c47 w2 (by omega) p) rfl rfl rfl (by exact .nil) (fun w st => ⟨(hmE.rdk hiA).out w st, (hS47.rdk hiA).out w st⟩) (fun v151 S151 ⟨ae151, ce151, o151, hv151, hE151, hP151⟩ => ?_)
            have hi151 := ends_isS hsE.wf hkE hpw hP151
            rw [← hP151.1] at hv151
            subst hv151
            refine o_yes rfl rfl ?_
            refine o_step rfl (s_move rfl) ?_
            refine o_yes rfl rfl ?_
            refine o_step rfl (s_move rfl) ?_
            refine o_yes rfl rfl ?_
            refine o_call (again_fn ra rc rsa w2.length (der1 w2 xa ka) hRa (by omega) der1_inn p hpw) rfl rfl rfl (by exact .nil) (fun w st => hda.at hiA st) (fun v154 S154 ⟨a154, c154, o154, hv154, hO154, hi154⟩ => ?_)
            subst hv154
            refine o_yes rfl rfl ?_
            have heq155 := (hi151.iff fun q _ => der1_star).eq hi154
            refine o_callP (eqBools_fn ae151 a154 ce151 c154 o151 o154) rfl rfl rfl (fun w st => ⟨(hE151.rdk hiA).out w st, (hO154.rdk hiA).out w st⟩) (fun v155 hv155 => ?_)
            rw [decide_eq_true heq155] at hv155
            subst hv155
            refine o_yes rfl rfl ?_
            refine o_step rfl (s_not rfl) ?_
            refine o_step rfl (s_pick_t rfl rfl) ?_
            refine o_nil ?_
            refine x_then (hK36 _ _ ?_)
            refine c_false rfl ?_
            refine c_skip ?_
            refine x_block ?_
            refine x_then (hK26 _ _ ?_)
            refine c_region ?_
            refine o_step rfl (s_move rfl) ?_
            refine o_step rfl (s_add rfl rfl (by omega)) ?_
            refine o_step rfl (s_assign rfl) ?_
            refine o_nil ?_
            exact x_then (x_inv (p + 1) (by omega) (by first | omega | (dsimp only; omega)) sbA hzB)
           ·
            refine o_step rfl (step_cast (v' := .bool false) (s_eql rfl rfl) (by rw [decide_eq_false hE])) ?_
            refine o_step rfl (s_move rfl) ?_
            refine o_no rfl rfl rfl rfl ?_
            refine o_no rfl rfl rfl rfl ?_
            refine o_no rfl rfl rfl rfl ?_
            refine o_no rfl rfl rfl rfl ?_
            refine o_no rfl rfl rfl rfl ?_
            refine o_no rfl rfl rfl rfl ?_
            refine o_no rfl rfl rfl rfl ?_
            refine o_no rfl rfl rfl rfl ?_
            refine o_no rfl rfl rfl rfl ?_
            refine o_step rfl (s_pick_f rfl rfl) ?_
            refine o_nil ?_
            refine x_then (hK36 _ _ ?_)
            refine c_false rfl ?_
            refine c_skip ?_
            refine x_block ?_
            refine x_then (hK26 _ _ ?_)
            refine c_region ?_
            refine o_step rfl (s_move rfl) ?_
            refine o_step rfl (s_add rfl rfl (by omega)) ?_
            refine o_step rfl (s_assign rfl) ?_
            refine o_nil ?_
            exact x_then (x_inv (p + 1) (by omega) (by first | omega | (dsimp only; omega)) sbA hzB)
        ·
         refine o_step rfl (step_cast (v' := .bool false) (s_leq rfl rfl) (by rw [decide_eq_false (by omega)])) ?_
         refine o_nil ?_
         refine x_then (hK25 _ _ ?_)
         refine c_false rfl ?_
         refine c_exit ?_
         refine x_then_exit ?_
         refine x_then_exit ?_
         refine x_block_exit ?_
         refine x_then (hK22 _ _ ?_)
         refine c_seq fun _ hK37 => ?_
         refine c_region ?_
         refine o_step rfl (s_move rfl) ?_
         refine o_step rfl (s_assign rfl) ?_
         refine o_nil ?_
         refine x_then (hK37 _ _ ?_)
         refine c_ret ?_
         refine ?_
         exact x_ret rfl (.tmp rfl (.nil)) (rfl)
   ·
    refine o_step rfl (s_pick_f rfl rfl) ?_
    refine o_step rfl (s_move rfl) ?_
    refine o_no rfl rfl rfl rfl ?_
    refine o_no rfl rfl rfl rfl ?_
    refine o_no rfl rfl rfl rfl ?_
    refine o_no rfl rfl rfl rfl ?_
    refine o_no rfl rfl rfl rfl ?_
    refine o_no rfl rfl rfl rfl ?_
    refine o_step rfl (s_pick_t rfl rfl) ?_
    refine o_step rfl (s_move rfl) ?_
    refine o_no rfl rfl rfl rfl ?_
    refine o_no rfl rfl rfl rfl ?_
    refine o_no rfl rfl rfl rfl ?_
    refine o_step rfl (s_pick_t rfl rfl) ?_
    refine o_nil ?_
    refine x_then (hK4 _ _ ?_)
    refine c_true rfl ?_
    refine c_seq fun _ hK38 => ?_
    refine c_region ?_
    refine o_step rfl (s_move rfl) ?_
    refine o_step rfl (s_assign rfl) ?_
    refine o_nil ?_
    refine x_then (hK38 _ _ ?_)
    refine c_ret ?_
    refine x_then_ret (?_)
    exact x_ret rfl (.tmp rfl (.nil)) (rfl)
  ·
   refine o_step rfl (s_move rfl) ?_
   refine o_no rfl rfl rfl rfl ?_
   refine o_no rfl rfl rfl rfl ?_
   refine o_step rfl (s_pick_t rfl rfl) ?_
   refine o_step rfl (s_move rfl) ?_
   refine o_no rfl rfl rfl rfl ?_
   refine o_no rfl rfl rfl rfl ?_
   refine o_no rfl rfl rfl rfl ?_
   refine o_no rfl rfl rfl rfl ?_
   refine o_no rfl rfl rfl rfl ?_
   refine o_no rfl rfl rfl rfl ?_
   refine o_step rfl (s_pick_t rfl rfl) ?_
   refine o_step rfl (s_move rfl) ?_
   refine o_no rfl rfl rfl rfl ?_
   refine o_no rfl rfl rfl rfl ?_
   refine o_no rfl rfl rfl rfl ?_
   refine o_step rfl (s_pick_t rfl rfl) ?_
   refine o_nil ?_
   refine x_then (hK4 _ _ ?_)
   refine c_true rfl ?_
   refine c_seq fun _ hK39 => ?_
   refine c_region ?_
   refine o_step rfl (s_move rfl) ?_
   refine o_step rfl (s_assign rfl) ?_
   refine o_nil ?_
   refine x_then (hK39 _ _ ?_)
   refine c_ret ?_
   refine x_then_ret (?_)
   exact x_ret rfl (.tmp rfl (.nil)) (rfl)
end Go.Proofs.Ytihbhlgognpmmaa

/- Nodes, instructions and their lists as they come in. Conditions: none. -/
namespace Go.HL.Kl.Mc
open Go Go.HL Go.HL.Kl Go.RowKit Go.ChangeShapes Go.WideShapes Go.ChangeAt
def Ew1 (w : BitVec 64) : List Value := [Ew w]
instance : Enc Ew1 1 := ⟨fun _ => rfl, fun _ v hv => by simp [Ew1, Ew] at hv; subst hv; rfl⟩
theorem open_u64 {P : Program} {t : TypeId} (ht : P.underlying t = some (.int .u64)) : Opens P t Ew1 (fun _ _ => True) := by
  refine ⟨fun enc w fuel cs x h _ => ?_⟩
  obtain ⟨n, rfl, _, hw⟩ := DataW.trod_int ht h
  have hb : 0 ≤ n ∧ n ≤ 18446744073709551615 := by
    simp only [Lit.wf] at hw
    simpa [IntKind.min, IntKind.max, IntKind.signed, IntKind.bits] using hw
  refine ⟨BitVec.ofNat 64 n.toNat, ?_, trivial⟩
  have e : (BitVec.ofNat 64 n.toNat).toNat = n.toNat := by
    rw [BitVec.toNat_ofNat]
    exact Nat.mod_eq_of_lt (by rw [show (2 : Nat) ^ 64 = 18446744073709551616 from by decide]; omega)
  simp only [Ew1, Ew, e, List.cons.injEq, Value.int.injEq, true_and, and_true]
  omega
def mk4 (a b c d : BitVec 64) : Cl := setw (setw (setw (setw 0 0 a) 1 b) 2 c) 3 d
theorem mk4_wd (a b c d : BitVec 64) : Ec (mk4 a b c d) = [Ew a, Ew b, Ew c, Ew d] := by
  simp [Ec, mk4, wd_setw]
theorem open_cl {P : Program} {t e : TypeId} (ht : P.underlying t = some (.array 4 e)) (he : P.underlying e = some (.int .u64)) (hk : P.cellsOf e = 1) (hc : P.cellsOf t = 4) : Opens P t Ec (fun _ _ => True) := by
  refine ⟨fun enc w fuel cs x h hw => ?_⟩
  obtain ⟨xs, rfl, hl, _⟩ := (open_array ht hk (by rw [hc]) (open_u64 he)).out enc w fuel cs x h hw
  match xs, hl with
  | [a, b, c, d], _ => exact ⟨mk4 a b c d, by rw [mk4_wd]; rfl, trivial⟩
def Ei8 (n : Int) : List Value := [.int .i8 n]
instance : Enc Ei8 1 := ⟨fun _ => rfl, fun _ _ h => by simp [Ei8] at h; subst h; rfl⟩
theorem open_i8 {P : Program} {t : TypeId} (ht : P.underlying t = some (.int .i8)) : Opens P t Ei8 (fun _ n => -128 ≤ n ∧ n < 128) := by
  refine ⟨fun enc w fuel cs x h _ => ?_⟩
  obtain ⟨n, rfl, _, hw⟩ := DataW.trod_int ht h
  refine ⟨n, rfl, ?_⟩
  simp only [Lit.wf] at hw
  have : -128 ≤ n ∧ n ≤ 127 := by simpa [IntKind.min, IntKind.max, IntKind.signed, IntKind.bits] using hw
  omega
theorem open_struct6 {P : Program} {t : TypeId} {f0 f1 f2 f3 f4 f5 : Field} {α0 α1 α2 α3 α4 α5 γ : Type} {E0 : α0 → List Value} {E1 : α1 → List Value} {E2 : α2 → List Value} {E3 : α3 → List Value} {E4 : α4 → List Value} {E5 : α5 → List Value} {E : γ → List Value} {M0 : World → α0 → Prop} {M1 : World → α1 → Prop} {M2 : World → α2 → Prop} {M3 : World → α3 → Prop} {M4 : World → α4 → Prop} {M5 : World → α5 → Prop} {Mem : World → γ → Prop}
    (ht : P.underlying t = some (.struct #[f0, f1, f2, f3, f4, f5])) (h0 : f0.offset = 0) (h1 : f1.offset = P.cellsOf f0.type) (h2 : f2.offset = P.cellsOf f0.type + P.cellsOf f1.type) (h3 : f3.offset = P.cellsOf f0.type + P.cellsOf f1.type + P.cellsOf f2.type)
    (h4 : f4.offset = P.cellsOf f0.type + P.cellsOf f1.type + P.cellsOf f2.type + P.cellsOf f3.type) (h5 : f5.offset = P.cellsOf f0.type + P.cellsOf f1.type + P.cellsOf f2.type + P.cellsOf f3.type + P.cellsOf f4.type) (hc : P.cellsOf t = P.cellsOf f0.type + P.cellsOf f1.type + P.cellsOf f2.type + P.cellsOf f3.type + P.cellsOf f4.type + P.cellsOf f5.type)
    (o0 : Opens P f0.type E0 M0) (o1 : Opens P f1.type E1 M1) (o2 : Opens P f2.type E2 M2) (o3 : Opens P f3.type E3 M3) (o4 : Opens P f4.type E4 M4) (o5 : Opens P f5.type E5 M5) (mk : ∀ w a b c d e f, M0 w a → M1 w b → M2 w c → M3 w d → M4 w e → M5 w f → ∃ z, E z = E0 a ++ (E1 b ++ (E2 c ++ (E3 d ++ (E4 e ++ E5 f)))) ∧ Mem w z) : Opens P t E Mem := by
  refine ⟨fun enc w fuel cs x h hw => ?_⟩
  obtain ⟨hl, n, hf⟩ := trod_fields ht h hw
  obtain ⟨y0, e0, w0⟩ := hf 0 f0 rfl
  obtain ⟨y1, e1, w1⟩ := hf 1 f1 rfl
  obtain ⟨y2, e2, w2⟩ := hf 2 f2 rfl
  obtain ⟨y3, e3, w3⟩ := hf 3 f3 rfl
  obtain ⟨y4, e4, w4⟩ := hf 4 f4 rfl
  obtain ⟨y5, e5, w5⟩ := hf 5 f5 rfl
  obtain ⟨a, ha, ma⟩ := o0.out enc w _ _ _ e0 w0
  obtain ⟨b, hb, mb⟩ := o1.out enc w _ _ _ e1 w1
  obtain ⟨c, hcc, mc⟩ := o2.out enc w _ _ _ e2 w2
  obtain ⟨d, hd, md⟩ := o3.out enc w _ _ _ e3 w3
  obtain ⟨e, he, me⟩ := o4.out enc w _ _ _ e4 w4
  obtain ⟨f, hff, mf⟩ := o5.out enc w _ _ _ e5 w5
  obtain ⟨z, hz, hm⟩ := mk w a b c d e f ma mb mc md me mf
  refine ⟨z, ?_, hm⟩
  rw [hz, ← ha, ← hb, ← hcc, ← hd, ← he, ← hff, h0, h1, h2, h3, h4, h5, List.drop_zero, List.take_of_length_le (l := cs.drop (P.cellsOf f0.type + _ + _ + _ + _)) (by rw [List.length_drop]; omega), ← cells_split, ← cells_split, ← cells_split, ← cells_split, List.take_append_drop]
end Go.HL.Kl.Mc
